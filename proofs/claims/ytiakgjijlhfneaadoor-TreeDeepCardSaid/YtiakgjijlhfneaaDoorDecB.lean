/-
  The walks of the reference's numbers in digits, and of its values in digits.
  The walk of the reference's Print.
  A value in digits, read again, is that value; noughts ahead and behind change nothing; a seventh digit rounds.
  The walk of the reference's Print.
-/
import Derived.Test.YtiakgjijlhfneaaDoorDecPrint
import Derived.Test.YtiakgjijlhfneaaDoorDecA
namespace Go.Proofs.YtiakgjijlhfneaaDoor
open Go.RowKit
theorem decDigits_small {u : Nat} (h : u / 10 = 0) : Lib.decDigits u = [UInt8.ofNat (48 + u % 10)] := by
  rw [Lib.decDigits, dif_pos (by omega), Nat.mod_eq_of_lt (by omega)]
theorem decDigits_big {u : Nat} (h : ¬ u / 10 = 0) : Lib.decDigits u = Lib.decDigits (u / 10) ++ [UInt8.ofNat (48 + u % 10)] := by
  rw [Lib.decDigits, dif_neg (by omega)]
end Go.Proofs.YtiakgjijlhfneaaDoor
namespace Go.Proofs.YtiakgjijlhfneaaDoor
open Go.RowKit
theorem trim_snoc (l : List UInt8) (c : UInt8) : Lib.trimRightB (l ++ [c]) 48 = if c = 48 then Lib.trimRightB l 48 else l ++ [c] := by
  unfold Lib.trimRightB
  rw [List.reverse_append]
  show ((c :: l.reverse).dropWhile (· == 48)).reverse = _
  by_cases h : c = 48
  · subst h; simp
  · rw [if_neg h, List.dropWhile_cons_of_neg (by simpa using h)]; simp
theorem last_data {t : ByteArray} (h : 0 < t.size) : t.data.toList = t.data.toList.take (t.size - 1) ++ [t[t.size - 1]] := by
  have hl : t.data.toList.length = t.size := by simp
  have h1 := (List.take_append_drop (t.size - 1) t.data.toList).symm
  rw [drop_cons t (t.size - 1) (by omega), drop_end t (t.size - 1 + 1) (by omega)] at h1
  exact h1
theorem trim_pos {t : ByteArray} (h : Lib.trimRightB t.data.toList 48 ≠ []) : 0 < t.size := by
  rcases Nat.eq_zero_or_pos t.size with g | g
  · have : t.data.toList = [] := List.eq_nil_of_length_eq_zero (by simpa using g)
    rw [this] at h
    exact absurd rfl h
  · exact g
theorem trim_step {t : ByteArray} (h : 0 < t.size) (hc : t[t.size - 1] = 48) : Lib.trimRightB (t.extract 0 (t.size - 1)).data.toList 48 = Lib.trimRightB t.data.toList 48 := by
  conv => rhs; rw [last_data h]
  rw [trim_snoc, if_pos hc, Lib.extract_upto]
theorem trim_stop {t : ByteArray} (h : 0 < t.size) (hc : ¬ t[t.size - 1] = 48) : Lib.trimRightB t.data.toList 48 = t.data.toList := by
  conv => lhs; rw [last_data h]
  rw [trim_snoc, if_neg hc]
  exact (last_data h).symm
theorem trim_nil : ∀ (l : List UInt8), Lib.trimRightB l 48 = [] → ∀ c ∈ l, c = 48 := by
  intro l h c hc
  unfold Lib.trimRightB at h
  rw [List.reverse_eq_nil_iff] at h
  have key : ∀ r : List UInt8, r.dropWhile (fun x => x == 48) = [] → ∀ c ∈ r, c = 48 := by
    intro r
    induction r with
    | nil => intro _ c hc; simp at hc
    | cons d r ih =>
      intro h c hc
      by_cases hd : d = 48
      · rw [List.dropWhile_cons_of_pos (by simpa using hd)] at h
        rcases List.mem_cons.1 hc with rfl | hc
        · exact hd
        · exact ih h c hc
      · rw [List.dropWhile_cons_of_neg (by simpa using hd)] at h; cases h
  exact key _ h c (by simpa using hc)
end Go.Proofs.YtiakgjijlhfneaaDoor
namespace Go.Proofs.YtiakgjijlhfneaaDoor
open Go.RowKit
theorem dg_ofNat {k : Nat} (h : k < 10) : dg (UInt8.ofNat (48 + k)) = k := by
  unfold dg
  rcases k with _ | _ | _ | _ | _ | _ | _ | _ | _ | _ | k <;> first | rfl | omega
theorem isD_ofNat {k : Nat} (h : k < 10) : isD (UInt8.ofNat (48 + k)) = true := by
  unfold isD
  rcases k with _ | _ | _ | _ | _ | _ | _ | _ | _ | _ | k <;> first | rfl | omega
theorem decDigits_rec (u : Nat) : (u < 10 ∧ Lib.decDigits u = [UInt8.ofNat (48 + u)]) ∨ (¬ u < 10 ∧ Lib.decDigits u = Lib.decDigits (u / 10) ++ [UInt8.ofNat (48 + u % 10)]) := by
  by_cases h : u < 10
  · exact Or.inl ⟨h, by rw [Lib.decDigits, dif_pos h]⟩
  · exact Or.inr ⟨h, by rw [Lib.decDigits, dif_neg h]⟩
theorem decDigits_isD (u : Nat) : (Lib.decDigits u).all isD = true := by
  induction u using Nat.strongRecOn with
  | _ u ih =>
    rcases decDigits_rec u with ⟨h, e⟩ | ⟨h, e⟩
    · rw [e, List.all_cons, isD_ofNat h]; rfl
    · rw [e, List.all_append, ih (u / 10) (by omega), List.all_cons, isD_ofNat (show u % 10 < 10 by omega)]; rfl
theorem decDigits_val (u : Nat) : valF 0 (Lib.decDigits u) = u := by
  induction u using Nat.strongRecOn with
  | _ u ih =>
    rcases decDigits_rec u with ⟨h, e⟩ | ⟨h, e⟩
    · rw [e, valF_cons, valF_nil, dg_ofNat h]; omega
    · rw [e, valF_append, ih (u / 10) (by omega), valF_cons, valF_nil, dg_ofNat (by omega)]; omega
theorem decDigits_ne (u : Nat) : Lib.decDigits u ≠ [] := by
  have := decDigits_pos u
  intro h; rw [h] at this; simp at this
theorem decDigits_sev {f : Nat} (h : f < 1000000) : ∃ D, Lib.decDigits (1000000 + f) = 49 :: D ∧ D.length = 6 ∧ valF 0 D = f ∧ D.all isD = true := by
  have hl : (Lib.decDigits (1000000 + f)).length = 7 := by
    rw [Lib.decDigits_length]
    exact Lib.nDigits_unique 6 _ (by omega) (by omega)
  have hv := decDigits_val (1000000 + f)
  have hd := decDigits_isD (1000000 + f)
  rcases hD : Lib.decDigits (1000000 + f) with _ | ⟨c, D⟩
  · exact absurd hD (decDigits_ne _)
  · rw [hD] at hl hv hd
    have h6 : D.length = 6 := by simpa using hl
    rw [valF_cons, Nat.zero_mul, Nat.zero_add, valF_base, h6] at hv
    rw [List.all_cons, Bool.and_eq_true] at hd
    have hlt : valF 0 D < 1000000 := by
      have key : ∀ (l : List UInt8), l.all isD = true → valF 0 l < 10 ^ l.length := by
        intro l
        induction l with
        | nil => intro _; rw [valF_nil]; simp
        | cons x r ih =>
          intro hx
          rw [List.all_cons, Bool.and_eq_true] at hx
          have := ih hx.2
          have h9 := dg_le hx.1
          rw [valF_cons, valF_base, List.length_cons, Nat.pow_succ]
          have : (0 * 10 + dg x) * 10 ^ r.length ≤ 9 * 10 ^ r.length := Nat.mul_le_mul_right _ (by omega)
          omega
      have := key D hd.2
      rw [h6] at this
      exact this
    have hdc : dg c = 1 := by
      have e6 : (10 : Nat) ^ 6 = 1000000 := by decide
      rw [e6] at hv
      omega
    have hc : c = 49 := by
      have h1 := dg_eq hd.1
      rw [hdc] at h1
      apply UInt8.toNat_inj.mp
      show c.toNat = 49
      omega
    subst hc
    refine ⟨D, rfl, h6, ?_, hd.2⟩
    have e6 : (10 : Nat) ^ 6 = 1000000 := by decide
    rw [hdc, e6] at hv
    omega
theorem trim_fill (D : List UInt8) : Lib.trimRightB D 48 ++ List.replicate (D.length - (Lib.trimRightB D 48).length) 48 = D := by
  have key : ∀ (n : Nat) (D : List UInt8), D.length = n → Lib.trimRightB D 48 ++ List.replicate (D.length - (Lib.trimRightB D 48).length) 48 = D := by
    intro n
    induction n with
    | zero => intro D h; obtain rfl := List.eq_nil_of_length_eq_zero h; rfl
    | succ n ih =>
      intro D h
      obtain ⟨l, c, rfl⟩ : ∃ l c, D = l ++ [c] := ⟨D.dropLast, D.getLast (by intro e; rw [e] at h; simp at h), (List.dropLast_concat_getLast _).symm⟩
      have hl : l.length = n := by simpa using h
      rw [trim_snoc]
      by_cases hc : c = 48
      · subst hc
        rw [if_pos rfl]
        have hle := trimRightB_len l 48
        have e : (l ++ [(48 : UInt8)]).length - (Lib.trimRightB l 48).length = (l.length - (Lib.trimRightB l 48).length) + 1 := by simp; omega
        rw [e, List.replicate_succ', ← List.append_assoc, ih l hl]
      · rw [if_neg hc]; simp
  exact key _ D rfl
theorem fracD_of {f : Nat} (h : f < 1000000) : ∃ D, fracD f = Lib.trimRightB D 48 ∧ D.length = 6 ∧ valF 0 D = f ∧ D.all isD = true := by
  obtain ⟨D, h1, h2, h3, h4⟩ := decDigits_sev h
  exact ⟨D, by unfold fracD; rw [h1]; rfl, h2, h3, h4⟩
theorem fracD_ne {m : Nat} (h : ¬ m % 1000000 = 0) : fracD (m % 1000000) ≠ [] := by
  obtain ⟨D, h1, h2, h3, h4⟩ := fracD_of (f := m % 1000000) (by omega)
  rw [h1]
  intro e
  have := trim_fill D
  rw [e, List.nil_append] at this
  have hz : ∀ n k, valF k (List.replicate n 48) = k * 10 ^ n := by
    intro n
    induction n with
    | zero => intro k; rw [List.replicate_zero, valF_nil, Nat.pow_zero, Nat.mul_one]
    | succ n ih =>
      intro k
      rw [List.replicate_succ, valF_cons, ih, show dg 48 = 0 from rfl, Nat.add_zero, Nat.pow_succ, Nat.mul_assoc, Nat.mul_comm (10 ^ n)]
  rw [← this, hz] at h3
  omega
theorem fracD_len {f : Nat} (h : f < 1000000) : (fracD f).length ≤ 6 := by
  obtain ⟨D, h1, h2, _, _⟩ := fracD_of h
  rw [h1, ← h2]
  exact trimRightB_len D 48
theorem fracD_pad {f : Nat} (h : f < 1000000) : valF 0 (padL (fracD f) 6) = f := by
  obtain ⟨D, h1, h2, h3, _⟩ := fracD_of h
  have hl := fracD_len h
  unfold padL
  rw [List.take_of_length_le hl]
  have e : fracD f ++ List.replicate (6 - (fracD f).length) 48 = D := by
    rw [h1, ← h2]; exact trim_fill D
  rw [e, h3]
theorem fracD_isD {f : Nat} (h : f < 1000000) : (fracD f).all isD = true := by
  obtain ⟨D, h1, h2, h3, h4⟩ := fracD_of h
  rw [h1]
  have := trim_fill D
  rw [← this, List.all_append, Bool.and_eq_true] at h4
  exact h4.1
theorem fracR_D {f : Nat} (h : f < 1000000) : fracR (fracD f) = f := by
  unfold fracR
  have hl := fracD_len h
  rw [← valF_pad, fracD_pad h]
  unfold upV
  rw [dif_neg (by omega)]; rfl
theorem fracR_nil : fracR [] = 0 := by decide
end Go.Proofs.YtiakgjijlhfneaaDoor
namespace Go.Proofs.YtiakgjijlhfneaaDoor
open Go.RowKit
end Go.Proofs.YtiakgjijlhfneaaDoor
