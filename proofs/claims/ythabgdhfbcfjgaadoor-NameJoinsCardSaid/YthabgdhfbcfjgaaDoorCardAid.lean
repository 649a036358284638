/-
  Closed facts on the program that each row asks.
-/
import Derived.Test.YthabgdhfbcfjgaaDoorShelf
import Derived.Test.YthabgdhfbcfjgaaDoorNamParts
import Derived.Test.YthabgdhfbcfjgaaDoorRows
import Derived.ProofKit
namespace Go.Proofs.YthabgdhfbcfjgaaDoor
open Go.RowKit
theorem own : ownKnob Tryd.prog.godebug = none := by kernel_rfl
theorem laidOut : laidOutB Tryd.prog = true := by kernel_rfl
theorem mapsFine : mapsRowed Tryd.prog = true := by kernel_rfl
theorem slicesFull : ((List.range Tryd.prog.types.size).all fun t => match Tryd.prog.underlying t with | some (.slice e) => decide (0 < Tryd.prog.cellsOf e) | _ => true) = true := by kernel_rfl
theorem maxLen_of {W : World} (h : W.ShapedOpen Tryd.prog) : MaxLen W := Tryd.laysM219.s1_3 W h
end Go.Proofs.YthabgdhfbcfjgaaDoor
