/-
  Closed facts on the program that each row asks.
-/
import Derived.Test.YtiakgjijlhfneaaGreatDoorShelf
import Derived.Test.YtiakgjijlhfneaaGreatDoorLawPost
import Derived.Test.YtiakgjijlhfneaaGreatDoorPow
import Derived.Test.YtiakgjijlhfneaaGreatDoorRows
import Derived.ProofKit
namespace Go.Proofs.YtiakgjijlhfneaaGreatDoor
open Go.RowKit
theorem own : ownKnob Tryz.prog.godebug = none := by kernel_rfl
theorem laidOut : laidOutB Tryz.prog = true := by kernel_rfl
theorem mapsFine : mapsRowed Tryz.prog = true := by kernel_rfl
theorem slicesFull : fullB Tryz.prog = true := by kernel_rfl
end Go.Proofs.YtiakgjijlhfneaaGreatDoor
