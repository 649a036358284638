/-
  Closed facts on the program that each row asks.
-/
import Derived.Test.YtkablhamnepfnaaGreatDoorShelf
import Derived.Test.YtkablhamnepfnaaGreatDoorLawPost
import Derived.Test.YtkablhamnepfnaaGreatDoorPow
import Derived.Test.YtkablhamnepfnaaGreatDoorRows
import Derived.ProofKit
namespace Go.Proofs.YtkablhamnepfnaaGreatDoor
open Go.RowKit
theorem own : ownKnob Tryz.prog.godebug = none := by kernel_rfl
theorem laidOut : laidOutB Tryz.prog = true := by kernel_rfl
theorem mapsFine : mapsRowed Tryz.prog = true := by kernel_rfl
theorem slicesFull : fullB Tryz.prog = true := by kernel_rfl
end Go.Proofs.YtkablhamnepfnaaGreatDoor
