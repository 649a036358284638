/-
  The walks of the reference's small functions on single values. Printed by genfmref.py.
  The walks of the reference's pow, round, minMax. Printed by genfmrefb.py.
  The walk of the reference's round. Printed by genfmrefc.py.
-/
import Derived.Test.YtfomknfjidbdcaaDoorFmDoesG
import Derived.Laws.StructEq
namespace Go.Proofs.YtfomknfjidbdcaaDoor
open Go.RowKit
theorem isR_of {z : Int} (h : -4611686018427387904 ≤ z ∧ z ≤ 4611686018427387904) : isR true z = true := by simp [isR, h.1, h.2]
theorem wholeB_z (z : Int) : wholeB (some z) = decide (z.tmod 1000000 = 0) := by
  show (true && decide (z.tmod 1000000 = 0)) = _
  exact Bool.true_and _
theorem wholeT_z (z : Int) : wholeT (some z) = z.tdiv 1000000 := rfl
end Go.Proofs.YtfomknfjidbdcaaDoor
namespace Go.Proofs.YtfomknfjidbdcaaDoor
open Go.RowKit
/-- a product with a whole number is that many times as much -/
theorem mulO_unit {y u : Int} (hu : 1 ≤ u ∧ u ≤ 1000000) : mulO (some y) (some (u * 1000000)) = ofR (y * u) := by
  show mulDivO y (u * 1000000) 1000000 = ofR (y * u)
  have hq : quoR (y.natAbs * (u * 1000000).natAbs) (1000000 : Int).natAbs = (y * u).natAbs := by
    have e : y.natAbs * (u * 1000000).natAbs = (y * u).natAbs * 1000000 := by rw [Int.natAbs_mul, Int.natAbs_mul, ← Nat.mul_assoc]; rfl
    rw [e]
    show quoR ((y * u).natAbs * 1000000) 1000000 = _
    unfold quoR
    rw [Nat.mul_mod_left, Nat.mul_div_cancel _ (by omega), if_neg (by omega), Nat.add_zero]
  unfold mulDivO
  rw [if_neg (by omega), hq]
  have hs : ((decide (y < 0) != decide (u * 1000000 < 0)) != decide ((1000000 : Int) < 0)) = decide (y < 0) := by
    rw [decide_eq_false (show ¬ u * 1000000 < 0 by omega), decide_eq_false (show ¬ (1000000 : Int) < 0 by omega)]
    cases decide (y < 0) <;> rfl
  have hsg : (y < 0 → y * u < 0) ∧ (0 ≤ y → 0 ≤ y * u) := ⟨fun h => Int.mul_neg_of_neg_of_pos h (by omega), fun h => Int.mul_nonneg h (by omega)⟩
  rw [hs]
  unfold ofR
  by_cases hb : -4611686018427387904 ≤ y * u ∧ y * u ≤ 4611686018427387904
  · rw [if_neg (by omega), if_pos hb]
    by_cases hy : y < 0
    · have := hsg.1 hy
      rw [if_pos (decide_eq_true hy)]
      congr 1; omega
    · have := hsg.2 (by omega)
      rw [if_neg (by simp; omega)]
      congr 1; omega
  · rw [if_pos (by omega), if_neg hb]
end Go.Proofs.YtfomknfjidbdcaaDoor
namespace Go.Proofs.YtfomknfjidbdcaaDoor
open Go.RowKit
end Go.Proofs.YtfomknfjidbdcaaDoor
