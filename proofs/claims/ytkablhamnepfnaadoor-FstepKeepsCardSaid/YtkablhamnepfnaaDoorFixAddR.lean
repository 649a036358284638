/-
  The walk of the reference's sum of a row of values.
-/
import Derived.Test.YtkablhamnepfnaaDoorFixAdd
namespace Go.Proofs.YtkablhamnepfnaaDoor
open Go.RowKit
end Go.Proofs.YtkablhamnepfnaaDoor
