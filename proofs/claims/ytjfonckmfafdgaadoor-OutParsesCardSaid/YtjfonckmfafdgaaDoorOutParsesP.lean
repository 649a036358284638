/-
  The values of a plain line, from the front: what stands ahead of the first comma is the first one's text. No program is named here.
-/
import Derived.Test.YtjfonckmfafdgaaDoorOutSpec
namespace Go.Proofs.YtjfonckmfafdgaaDoor
open Go.RowKit
theorem u8_all {p : UInt8 → Bool} (h : (List.range 256).all (fun n => p (UInt8.ofNat n)) = true) (c : UInt8) : p c = true := by
  have := List.all_eq_true.1 h c.toNat (by simp; exact c.toNat_lt)
  simpa using this
theorem isD_no (c : UInt8) (h : (isD c || (c == 45 || c == 46)) = true) : c ≠ 44 ∧ c ≠ 124 := by
  have := u8_all (p := fun c => !(isD c || (c == 45 || c == 46)) || (c != 44 && c != 124)) (by decide +kernel) c
  rw [h] at this
  simpa using this
theorem printL_chars {n : Int} : ∀ c ∈ printL n, (isD c || (c == 45 || c == 46)) = true := by
  intro c hc
  unfold printL printA at hc
  rw [List.mem_append, List.mem_append] at hc
  rcases hc with hc | hc | hc
  · split at hc
    · simp at hc; subst hc; decide
    · cases hc
  · rw [List.all_eq_true.1 (decDigits_isD _) c hc]; rfl
  · split at hc
    · cases hc
    · rcases List.mem_cons.1 hc with rfl | hc
      · decide
      · rw [List.all_eq_true.1 (fracD_isD (by omega)) c hc]; rfl
theorem prL_no (p : Bool × Int) : ∀ c ∈ prL p, c ≠ 44 ∧ c ≠ 124 := by
  intro c hc
  unfold prL at hc
  cases hk : (p.1 && isR p.1 p.2)
  · rw [printV_none hk] at hc
    have : c ∈ [78, 111, 110, 101] := hc
    simp only [List.mem_cons, List.not_mem_nil, or_false] at this
    rcases this with rfl | rfl | rfl | rfl <;> decide
  · rw [printV_some hk] at hc
    exact isD_no c (printL_chars c hc)
theorem itoa_no {n : Int} (h : 0 ≤ n) : ∀ c ∈ Lib.itoa n, c ≠ 44 ∧ c ≠ 124 := by
  intro c hc
  unfold Lib.itoa at hc
  rw [if_neg (by omega)] at hc
  exact isD_no c (by rw [List.all_eq_true.1 (decDigits_isD _) c hc]; rfl)
/-- the values' texts, commas between -/
def valsL : List (Bool × Int) → List UInt8
  | [] => []
  | [a] => prL a
  | a :: b :: r => prL a ++ 44 :: valsL (b :: r)
theorem valsL_drop {X : List (Bool × Int)} {k : Nat} (h : k < X.length) : valsL (X.drop k) = prL X[k] ++ (if k + 1 = X.length then [] else 44 :: valsL (X.drop (k + 1))) := by
  rw [List.drop_eq_getElem_cons h]
  by_cases hk : k + 1 = X.length
  · rw [if_pos hk, List.drop_of_length_le (by omega)]
    show prL X[k] = prL X[k] ++ []
    rw [List.append_nil]
  · rw [if_neg hk]
    have h2 : k + 1 < X.length := by omega
    rw [List.drop_eq_getElem_cons h2]
    rfl
theorem joinP_vals (X : List (Bool × Int)) : ∀ k, k ≤ X.length → joinP [44] (fun k => prL (atV X k)) k ++ ((if k = 0 ∨ k = X.length then [] else [44]) ++ valsL (X.drop k)) = valsL X := by
  intro k
  induction k with
  | zero => intro _; simp [joinP]
  | succ k ih =>
    intro hk
    have h := ih (by omega)
    rw [valsL_drop (show k < X.length by omega)] at h
    rw [← h]
    show (joinP [44] _ k ++ ((if k = 0 then [] else [44]) ++ prL (atV X k))) ++ _ = _
    rw [atV_lt (by omega)]
    have e1 : (if k = 0 ∨ k = X.length then ([] : List UInt8) else [44]) = if k = 0 then [] else [44] := by
      by_cases h0 : k = 0
      · rw [if_pos (Or.inl h0), if_pos h0]
      · rw [if_neg (by omega), if_neg h0]
    rw [e1]
    by_cases hl : k + 1 = X.length
    · rw [if_pos (Or.inr hl), if_pos hl, List.drop_of_length_le (by omega)]
      simp [valsL]
    · rw [if_neg (show ¬ (k + 1 = 0 ∨ k + 1 = X.length) by omega), if_neg hl]
      simp
/-- the values of a plain line -/
theorem rawV_vals (S : Ser) : rawV S S.vals.length = valsL S.vals := by
  have h := joinP_vals S.vals S.vals.length (Nat.le_refl _)
  rw [if_pos (Or.inr rfl), List.drop_of_length_le (Nat.le_refl _)] at h
  simp only [valsL, List.append_nil] at h
  exact h
/-- where the first comma stands, or the end -/
theorem vals_comma {t : ByteArray} {X : List (Bool × Int)} {i : Nat} (ht : t.data.toList = valsL (X.drop i)) (hi : i < X.length) :
    (prL X[i]).length ≤ t.size ∧ (∀ j (hj : j < t.size), j < (prL X[i]).length → t[j] ≠ 44) ∧ (∀ hj : (prL X[i]).length < t.size, t[(prL X[i]).length] = 44) ∧ t.extract 0 (prL X[i]).length = printV X[i].1 X[i].2 ∧
    (i + 1 = X.length → t.size = (prL X[i]).length) ∧ (i + 1 < X.length → (prL X[i]).length < t.size) ∧ ∀ n, n = min ((prL X[i]).length + 1) t.size → (t.extract n t.size).data.toList = valsL (X.drop (i + 1)) := by
  rw [valsL_drop hi] at ht
  have hsz : t.data.toList.length = t.size := by simp
  have hlen := congrArg List.length ht
  rw [List.length_append, hsz] at hlen
  have hat : ∀ j (hj : j < t.size), t.data.toList[j]? = some t[j] := fun j hj => by rw [List.getElem?_eq_getElem (by omega)]; rfl
  refine ⟨by omega, fun j hj hjl => ?_, fun hj => ?_, ?_, fun h => ?_, fun h => ?_, fun n hn => ?_⟩
  · have := hat j hj
    rw [ht, List.getElem?_append_left hjl, List.getElem?_eq_getElem hjl] at this
    rw [← Option.some.inj this]
    exact (prL_no X[i] _ (List.getElem_mem hjl)).1
  · have hne : ¬ i + 1 = X.length := fun h => by rw [if_pos h] at hlen; simp at hlen; omega
    have := hat _ hj
    rw [ht, if_neg hne, List.getElem?_append_right (Nat.le_refl _), Nat.sub_self] at this
    exact (Option.some.inj this).symm
  · refine ByteArray.ext (Array.toList_inj.1 ?_)
    rw [Lib.extract_from_zero, ht, List.take_left]
    rfl
  · rw [if_pos h] at hlen; simpa using hlen
  · rw [if_neg (by omega), List.length_cons] at hlen; omega
  · rw [Lib.extract_to_end, ht]
    by_cases h : i + 1 = X.length
    · rw [if_pos h] at hlen
      rw [if_pos h, List.append_nil, List.drop_of_length_le (by simp at hlen; omega), List.drop_of_length_le (show X.length ≤ i + 1 by omega)]
      rfl
    · rw [if_neg h, List.length_cons] at hlen
      rw [if_neg h, show n = (prL X[i]).length + 1 from by omega, ← List.drop_drop, List.drop_left]
      rfl
/-- a value's text, read -/
theorem parse_val {b : Bool} {n : Int} (h : isR b n = true) : parseO (printV b n) = if b then some n else none := by
  cases b
  · rw [printV_none rfl, parse_none]; rfl
  · rw [parse_print h]; rfl
theorem print_none {b : Bool} {n : Int} (h : b = false) : printV b n = noneB := by subst h; exact printV_none rfl
end Go.Proofs.YtjfonckmfafdgaaDoor
