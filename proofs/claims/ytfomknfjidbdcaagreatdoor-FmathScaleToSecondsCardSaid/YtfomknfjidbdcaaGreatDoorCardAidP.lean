/-
  Closed facts on the program that each row asks.
-/
import Derived.Test.YtfomknfjidbdcaaGreatDoorShelf
import Derived.Test.YtfomknfjidbdcaaGreatDoorLawPost
import Derived.Test.YtfomknfjidbdcaaGreatDoorPow
import Derived.Test.YtfomknfjidbdcaaGreatDoorRows
import Derived.ProofKit
namespace Go.Proofs.YtfomknfjidbdcaaGreatDoor
open Go.RowKit
theorem own : ownKnob Tryz.prog.godebug = none := by kernel_rfl
theorem laidOut : laidOutB Tryz.prog = true := by kernel_rfl
theorem mapsFine : mapsRowed Tryz.prog = true := by kernel_rfl
theorem slicesFull : fullB Tryz.prog = true := by kernel_rfl
end Go.Proofs.YtfomknfjidbdcaaGreatDoor
