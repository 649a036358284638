/-
  Closed facts on the program that each row asks.
-/
import Derived.Test.YtkablhamnepfnaaDoorShelf
import Derived.Test.YtkablhamnepfnaaDoorLawPost
import Derived.Test.YtkablhamnepfnaaDoorPow
import Derived.Test.YtkablhamnepfnaaDoorRows
import Derived.ProofKit
namespace Go.Proofs.YtkablhamnepfnaaDoor
open Go.RowKit
theorem own : ownKnob Tryd.prog.godebug = none := by kernel_rfl
theorem laidOut : laidOutB Tryd.prog = true := by kernel_rfl
theorem mapsFine : mapsRowed Tryd.prog = true := by kernel_rfl
theorem slicesFull : fullB Tryd.prog = true := by kernel_rfl
end Go.Proofs.YtkablhamnepfnaaDoor
