/-
  What a text of digits with a dot says, and that the program's way to it (digits laid behind one another) and the reference's are one. No program is named here.
-/
import Derived.Test.YtjfdaoedpdiaeaaDoorDecNumber
import Derived.Test.YtjfdaoedpdiaeaaDoorCutDot
namespace Go.Proofs.YtjfdaoedpdiaeaaDoor
/-- the first k digits behind the dot, filled up with noughts -/
def padL (b : List UInt8) (k : Nat) : List UInt8 := b.take k ++ List.replicate (k - b.length) 48
theorem padL_succ (b : List UInt8) (k : Nat) : padL b (k + 1) = padL b k ++ [if h : k < b.length then b[k] else 48] := by
  unfold padL
  by_cases h : k < b.length
  · rw [dif_pos h, show k + 1 - b.length = 0 from by omega, show k - b.length = 0 from by omega, List.take_succ_eq_append_getElem h]
    simp
  · rw [dif_neg h, List.take_of_length_le (by omega), List.take_of_length_le (by omega), show k + 1 - b.length = (k - b.length) + 1 from by omega, List.replicate_succ', List.append_assoc]
theorem valF_snoc (l : List UInt8) (n : Nat) (c : UInt8) : valF n (l ++ [c]) = valF n l * 10 + dg c := by rw [valF_append, valF_cons, valF_nil]
theorem valF_pad (b : List UInt8) : ∀ k, valF 0 (padL b k) = fracV b k := by
  intro k
  induction k with
  | zero => simp [padL, valF_nil, fracV]
  | succ k ih =>
    rw [padL_succ, valF_snoc, ih]
    show _ = fracV b k * 10 + dAt b k
    unfold dAt
    by_cases h : k < b.length
    · rw [dif_pos h, dif_pos h]
    · rw [dif_neg h, dif_neg h]; rfl
theorem padL_length (b : List UInt8) (k : Nat) : (padL b k).length = k := by
  unfold padL; rw [List.length_append, List.length_take, List.length_replicate]; omega
theorem num_pad (a b : List UInt8) : numR 0 (a ++ padL b 6) = if valF 0 a * 1000000 + fracV b 6 ≤ topN then some (valF 0 a * 1000000 + fracV b 6) else none := by
  unfold numR
  rw [valF_append, valF_base, padL_length, valF_pad]
theorem fracV_lt (b : List UInt8) (hb : b.all isD = true) : ∀ k, fracV b k < 10 ^ k := by
  intro k
  induction k with
  | zero => show 0 < 1; omega
  | succ k ih =>
    have hd : dAt b k ≤ 9 := by
      unfold dAt
      by_cases h : k < b.length
      · rw [dif_pos h]; exact dg_le (List.all_eq_true.1 hb _ (List.getElem_mem h))
      · rw [dif_neg h]; omega
    rw [Nat.pow_succ]
    show fracV b k * 10 + dAt b k < _
    omega
theorem upV_le (b : List UInt8) : upV b ≤ 1 := by unfold upV; split <;> (try split) <;> omega

/-- the reference's capped number, without the noughts ahead: it fails beyond its cap alone -/
theorem wholeR_spec : ∀ (l : List UInt8) (n : Nat), l.all isD = true → (wholeR n l = some (valF n l)) ∨ (wholeR n l = none ∧ 461168601842738789 < valF n l) := by
  intro l
  induction l with
  | nil => intro n _; exact Or.inl (by rw [wholeR_nil, valF_nil])
  | cons c r ih =>
    intro n h
    rw [List.all_cons, Bool.and_eq_true] at h
    rw [wholeR_cons, valF_cons]
    by_cases hn : 461168601842738789 < n
    · rw [if_pos (Or.inr hn)]
      have := valF_ge r (n * 10 + dg c)
      exact Or.inr ⟨rfl, by omega⟩
    · rw [if_neg (by rw [h.1]; simp; omega)]
      exact ih _ h.2
theorem stripL_val : ∀ l : List UInt8, valF 0 (stripL l) = valF 0 l ∧ (l.all isD = true → (stripL l).all isD = true) ∧ (l ≠ [] → stripL l ≠ []) := by
  intro l
  induction l with
  | nil => exact ⟨rfl, fun h => h, fun h => h⟩
  | cons c r ih =>
    cases r with
    | nil => exact ⟨rfl, fun h => h, fun h => h⟩
    | cons d r =>
      unfold stripL
      by_cases h : c = 48
      · rw [if_pos h]
        subst h
        refine ⟨by rw [ih.1]; rfl, fun h => ih.2.1 (by rw [List.all_cons, Bool.and_eq_true] at h; exact h.2), fun _ => ih.2.2 (by simp)⟩
      · rw [if_neg h]; exact ⟨rfl, fun h => h, fun h => h⟩
/-- a text without its sign, read as millionths -/
def readR (a b : List UInt8) (dot : Bool) : Option Nat :=
  if (a.all isD && !a.isEmpty) && (!dot || (b.all isD && !b.isEmpty)) then (if valF 0 a * 1000000 + fracR b ≤ topN then some (valF 0 a * 1000000 + fracR b) else none) else none
end Go.Proofs.YtjfdaoedpdiaeaaDoor
