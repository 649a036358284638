/-
  Closed facts on the program that each row asks.
-/
import Derived.Test.YtjfdaoedpdiaeaaDoorShelf
import Derived.Test.YtjfdaoedpdiaeaaDoorPow
import Derived.Test.YtjfdaoedpdiaeaaDoorRows
import Derived.ProofKit
namespace Go.Proofs.YtjfdaoedpdiaeaaDoor
open Go.RowKit
theorem own : ownKnob Tryd.prog.godebug = none := by kernel_rfl
theorem laidOut : laidOutB Tryd.prog = true := by kernel_rfl
theorem mapsFine : mapsRowed Tryd.prog = true := by kernel_rfl
theorem slicesFull : ((List.range Tryd.prog.types.size).all fun t => match Tryd.prog.underlying t with | some (.slice e) => decide (0 < Tryd.prog.cellsOf e) | _ => true) = true := by kernel_rfl
end Go.Proofs.YtjfdaoedpdiaeaaDoor
