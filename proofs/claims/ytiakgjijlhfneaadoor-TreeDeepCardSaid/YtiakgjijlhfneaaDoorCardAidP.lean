/-
  Closed facts on the program that each row asks.
-/
import Derived.Test.YtiakgjijlhfneaaDoorShelf
import Derived.Test.YtiakgjijlhfneaaDoorLawPost
import Derived.Test.YtiakgjijlhfneaaDoorPow
import Derived.Test.YtiakgjijlhfneaaDoorRows
import Derived.ProofKit
namespace Go.Proofs.YtiakgjijlhfneaaDoor
open Go.RowKit
theorem own : ownKnob Tryd.prog.godebug = none := by kernel_rfl
theorem laidOut : laidOutB Tryd.prog = true := by kernel_rfl
theorem mapsFine : mapsRowed Tryd.prog = true := by kernel_rfl
theorem slicesFull : fullB Tryd.prog = true := by kernel_rfl
end Go.Proofs.YtiakgjijlhfneaaDoor
