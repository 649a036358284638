/-
  The walk of the reference's Print.
-/
import Derived.Test.YtjfdaoedpdiaeaaDoorRefDigits
namespace Go.Proofs.YtjfdaoedpdiaeaaDoor
open Go.RowKit
theorem refDigits_nat {x : Int} (k : Nat) (hx : x = k) (hk : k < 10 ^ 18) (w : World) :
    Calls Tryd.prog 16 #[.int .i64 x] w fun e w' => ∃ Z : ByteArray, e = .returned (.string Z) ∧ Z.data.toList = Lib.decDigits k ∧ Z.size ≤ 21 ∧ w.grownBy w' none := by
  subst hx
  have := refDigits_any (k : Int) w (by omega) (by omega)
  rw [itoa_nat] at this
  exact this
theorem trim_snoc (l : List UInt8) (c : UInt8) : Lib.trimRightB (l ++ [c]) 48 = if c = 48 then Lib.trimRightB l 48 else l ++ [c] := by
  unfold Lib.trimRightB
  rw [List.reverse_append]
  show ((c :: l.reverse).dropWhile (· == 48)).reverse = _
  by_cases h : c = 48
  · subst h; simp
  · rw [if_neg h, List.dropWhile_cons_of_neg (by simpa using h)]; simp
theorem last_data {t : ByteArray} (h : 0 < t.size) : t.data.toList = t.data.toList.take (t.size - 1) ++ [t[t.size - 1]] := by
  have hl : t.data.toList.length = t.size := by simp
  have h1 := (List.take_append_drop (t.size - 1) t.data.toList).symm
  rw [drop_cons t (t.size - 1) (by omega), drop_end t (t.size - 1 + 1) (by omega)] at h1
  exact h1
theorem trim_pos {t : ByteArray} (h : Lib.trimRightB t.data.toList 48 ≠ []) : 0 < t.size := by
  rcases Nat.eq_zero_or_pos t.size with g | g
  · have : t.data.toList = [] := List.eq_nil_of_length_eq_zero (by simpa using g)
    rw [this] at h
    exact absurd rfl h
  · exact g
theorem trim_step {t : ByteArray} (h : 0 < t.size) (hc : t[t.size - 1] = 48) : Lib.trimRightB (t.extract 0 (t.size - 1)).data.toList 48 = Lib.trimRightB t.data.toList 48 := by
  conv => rhs; rw [last_data h]
  rw [trim_snoc, if_pos hc, Lib.extract_upto]
theorem trim_stop {t : ByteArray} (h : 0 < t.size) (hc : ¬ t[t.size - 1] = 48) : Lib.trimRightB t.data.toList 48 = t.data.toList := by
  conv => lhs; rw [last_data h]
  rw [trim_snoc, if_neg hc]
  exact (last_data h).symm
theorem trim_nil : ∀ (l : List UInt8), Lib.trimRightB l 48 = [] → ∀ c ∈ l, c = 48 := by
  intro l h c hc
  unfold Lib.trimRightB at h
  rw [List.reverse_eq_nil_iff] at h
  have key : ∀ r : List UInt8, r.dropWhile (fun x => x == 48) = [] → ∀ c ∈ r, c = 48 := by
    intro r
    induction r with
    | nil => intro _ c hc; simp at hc
    | cons d r ih =>
      intro h c hc
      by_cases hd : d = 48
      · rw [List.dropWhile_cons_of_pos (by simpa using hd)] at h
        rcases List.mem_cons.1 hc with rfl | hc
        · exact hd
        · exact ih h c hc
      · rw [List.dropWhile_cons_of_neg (by simpa using hd)] at h; cases h
  exact key _ h c (by simpa using hc)
end Go.Proofs.YtjfdaoedpdiaeaaDoor
