/-
  The walk of the program's values that are not none.
-/
import Derived.Test.YtkablhamnepfnaaDoorAggKnown
namespace Go.Proofs.YtkablhamnepfnaaDoor
open Go.RowKit
end Go.Proofs.YtkablhamnepfnaaDoor
