/-
  The walks of the other functions on single values. Printed by genfmdoesb.py.
-/
import Derived.Test.YtkablhamnepfnaaDoorFmDoesA
import Derived.Test.YtkablhamnepfnaaDoorGrowBase
import Derived.Test.YtkablhamnepfnaaDoorFixSqrt
namespace Go.Proofs.YtkablhamnepfnaaDoor
open Go.RowKit
def wholeT (k : Option Int) : Int := (vN k).tdiv 1000000
def wholeB (k : Option Int) : Bool := vB k && decide ((vN k).tmod 1000000 = 0)
theorem wholeO_eq (k : Option Int) : wholeO k = if wholeB k then some (wholeT k) else none := by
  cases k with
  | none => rfl
  | some z =>
    show (if z.tmod 1000000 = 0 then some (z.tdiv 1000000) else none) = if (true && decide (z.tmod 1000000 = 0)) then some (z.tdiv 1000000) else none
    simp
theorem wholeT_le {k : Option Int} (h : Fits k) : -4611686018427387904 ≤ wholeT k ∧ wholeT k ≤ 4611686018427387904 := by
  unfold wholeT
  cases k with
  | none => simp [vN]
  | some z =>
    have := h z rfl
    simp only [vN, Option.getD_some]
    rcases Int.le_total 0 z with g | g
    · have h1 := Int.tdiv_nonneg g (show (0 : Int) ≤ 1000000 by omega)
      have h2 := Int.tdiv_le_self 1000000 g
      omega
    · have h1 := Int.tdiv_nonneg (show 0 ≤ -z by omega) (show (0 : Int) ≤ 1000000 by omega)
      have h2 := Int.tdiv_le_self 1000000 (show 0 ≤ -z by omega)
      rw [Int.neg_tdiv] at h1 h2
      omega
theorem sumO_zero {x : Option Int} (h : Fits x) : sumO (some 0) x = x := by
  cases x with
  | none => rfl
  | some x => show ofR (0 + x) = some x; rw [Int.zero_add]; exact ofR_small (h x rfl)
theorem addO_two {x k : Option Int} (h : Fits x) (hk : Fits k) : addO [(vB x, vN x), (vB k, vN k)] = sumO x k := by
  unfold addO addFrom
  simp only [List.map_cons, List.map_nil, List.foldl_cons, List.foldl_nil, vK_form h, vK_form hk, sumO_zero h]

end Go.Proofs.YtkablhamnepfnaaDoor
