/-
  The walks of the reference's least and greatest of a row of values. Printed by genaggofr.py.
-/
import Derived.Test.YtfomknfjidbdcaaDoorAggOf
namespace Go.Proofs.YtfomknfjidbdcaaDoor
open Go.RowKit
theorem bestL_first (lo : Bool) (a : Int) (b : Bool) (r : List (Bool × Int)) : bestL lo a (((b, a) :: r : List (Bool × Int)).drop 0) = bestL lo a (((b, a) :: r : List (Bool × Int)).drop 1) := by
  show bestL lo (bestF lo a a) r = bestL lo a r
  have : bestF lo a a = a := by unfold bestF; cases lo <;> simp
  rw [this]
end Go.Proofs.YtfomknfjidbdcaaDoor
