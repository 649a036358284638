/-
  Closed facts on the program that each row asks.
-/
import Derived.Test.YtjfonckmfafdgaaDoorShelf
import Derived.Test.YtjfonckmfafdgaaDoorLawPost
import Derived.Test.YtjfonckmfafdgaaDoorPow
import Derived.Test.YtjfonckmfafdgaaDoorRows
import Derived.ProofKit
namespace Go.Proofs.YtjfonckmfafdgaaDoor
open Go.RowKit
theorem own : ownKnob Tryd.prog.godebug = none := by kernel_rfl
theorem laidOut : laidOutB Tryd.prog = true := by kernel_rfl
theorem mapsFine : mapsRowed Tryd.prog = true := by kernel_rfl
theorem slicesFull : fullB Tryd.prog = true := by kernel_rfl
end Go.Proofs.YtjfonckmfafdgaaDoor
