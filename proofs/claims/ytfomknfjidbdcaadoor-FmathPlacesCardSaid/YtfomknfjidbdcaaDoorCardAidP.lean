/-
  Closed facts on the program that each row asks.
-/
import Derived.Test.YtfomknfjidbdcaaDoorShelf
import Derived.Test.YtfomknfjidbdcaaDoorLawPost
import Derived.Test.YtfomknfjidbdcaaDoorPow
import Derived.Test.YtfomknfjidbdcaaDoorRows
import Derived.ProofKit
namespace Go.Proofs.YtfomknfjidbdcaaDoor
open Go.RowKit
theorem own : ownKnob Tryd.prog.godebug = none := by kernel_rfl
theorem laidOut : laidOutB Tryd.prog = true := by kernel_rfl
theorem mapsFine : mapsRowed Tryd.prog = true := by kernel_rfl
theorem slicesFull : fullB Tryd.prog = true := by kernel_rfl
end Go.Proofs.YtfomknfjidbdcaaDoor
