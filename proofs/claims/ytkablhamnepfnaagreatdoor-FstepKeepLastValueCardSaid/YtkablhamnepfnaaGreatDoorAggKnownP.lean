/-
  The walk of the program's values that are not none.
-/
import Derived.Test.YtkablhamnepfnaaGreatDoorAggKnown
namespace Go.Proofs.YtkablhamnepfnaaGreatDoor
open Go.RowKit
end Go.Proofs.YtkablhamnepfnaaGreatDoor
