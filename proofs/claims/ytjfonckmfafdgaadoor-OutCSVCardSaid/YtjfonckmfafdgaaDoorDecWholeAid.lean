/-
  A whole number in digits: what a text says; the walks of the two functions that read it.
-/
import Derived.Test.YtjfonckmfafdgaaDoorDecBack
import Derived.Test.YtjfonckmfafdgaaDoorDecA
import Derived.Test.YtjfonckmfafdgaaDoorDecB
namespace Go.Proofs.YtjfonckmfafdgaaDoor
open Go.RowKit
def bareW (s : ByteArray) : ByteArray := if minusS s then s.extract 1 s.size else s
def okD (t : ByteArray) : Bool := t.data.toList.all isD && !t.data.toList.isEmpty
/-- the whole number that a text says -/
def wholeO (s : ByteArray) : Option Int := if okD (bareW s) then Option.map (fun (m : Nat) => if minusS s then -(m : Int) else (m : Int)) (numR 0 (bareW s).data.toList) else none
def wholeT (o : Option Int) : Value := match o with
  | some n => .tuple #[.int .i64 n, .bool true]
  | none => .tuple #[.int .i64 0, .bool false]
theorem bareW_size (s : ByteArray) : (bareW s).size ≤ s.size := by
  unfold bareW
  split
  · rw [ByteArray.size_extract]; omega
  · exact Nat.le_refl _
theorem minus_pos {s : ByteArray} (h : minusS s = true) : 0 < s.size := by
  unfold minusS at h
  split at h
  · assumption
  · cases h
theorem minus_of {s : ByteArray} {r : List UInt8} (h : s.data.toList = 45 :: r) : minusS s = true ∧ (bareW s).data.toList = r := by
  obtain ⟨h0, h1, h2⟩ := first_data h
  have e : minusS s = true := by unfold minusS; rw [dif_pos h0, h1 h0]; rfl
  refine ⟨e, ?_⟩
  unfold bareW
  rw [e, if_pos rfl, h2]
theorem minus_not {s : ByteArray} (h : ∀ r, s.data.toList ≠ 45 :: r) : minusS s = false := by
  unfold minusS
  split
  · rename_i h0
    rw [beq_eq_false_iff_ne]
    intro e
    have := drop_cons s 0 h0
    rw [List.drop_zero] at this
    have e2 : s[0] = 45 := UInt8.toNat_inj.mp (by show s[0].toNat = 45; omega)
    rw [e2] at this
    exact h _ this
  · rfl
theorem trim_bare (s : ByteArray) : (⟨(Lib.trimPrefix s.data.toList [45]).toArray⟩ : ByteArray) = bareW s := by
  unfold Lib.trimPrefix Lib.hasPrefix
  rcases h : s.data.toList with _ | ⟨c, r⟩
  · have e := minus_not (s := s) (fun r => by rw [h]; simp)
    have : s = ⟨#[]⟩ := ext_data h
    unfold bareW
    rw [e]
    simp [this]
  · by_cases hc : c = 45
    · subst hc
      obtain ⟨_, e⟩ := minus_of h
      rw [if_pos (by simp [List.isPrefixOf])]
      exact (ext_data e).symm
    · have e := minus_not (s := s) (fun r' => by rw [h]; intro q; exact hc (List.cons.inj q).1)
      unfold bareW
      rw [e, if_neg (by simp [List.isPrefixOf]; exact fun q => hc q.symm)]
      simp only [Bool.false_eq_true, if_false]
      exact (ext_data h).symm
theorem allD_any (d : ByteArray) (w : World) (hs : d.size ≤ 4611686018427387904) :
    Calls Tryd.prog 32 #[.string d] w fun e w' => e = .returned (.bool (okD d)) ∧ w = w' := by
  have := all_any d w hs
  rw [allAt_zero, pos_list] at this
  exact this
/-- a text of more than nineteen digits, no nought ahead, is above the top -/
theorem strip_head : ∀ (l : List UInt8), 2 ≤ (stripL l).length → ∃ c r, stripL l = c :: r ∧ c ≠ 48 := by
  intro l
  induction l with
  | nil => intro h; simp [stripL] at h
  | cons c r ih =>
    intro h
    cases r with
    | nil => simp [stripL] at h
    | cons d r =>
      unfold stripL at h ⊢
      by_cases hc : c = 48
      · rw [if_pos hc] at h ⊢; exact ih h
      · rw [if_neg hc]; exact ⟨c, d :: r, rfl, hc⟩
theorem strip_long {l : List UInt8} (hd : (stripL l).all isD = true) (h : 19 < (stripL l).length) : numR 0 (stripL l) = none := by
  obtain ⟨c, r, e, hc⟩ := strip_head l (by omega)
  rw [e] at h hd ⊢
  rw [List.all_cons, Bool.and_eq_true] at hd
  have h1 := dg_eq hd.1
  have h2 : 1 ≤ dg c := by
    have := isD_lo hd.1
    have : c.toNat ≠ 48 := fun q => hc (UInt8.toNat_inj.mp q)
    omega
  unfold numR
  rw [if_neg]
  rw [valF_cons, valF_base]
  have h3 : 10 ^ 19 ≤ 10 ^ r.length := Nat.pow_le_pow_right (by omega) (by simp at h; omega)
  have h4 : 1 * 10 ^ r.length ≤ (0 * 10 + dg c) * 10 ^ r.length := Nat.mul_le_mul_right _ (by omega)
  unfold topN
  have e19 : (10 : Nat) ^ 19 = 10000000000000000000 := by decide
  omega
theorem strip_num (l : List UInt8) : numR 0 (stripL l) = numR 0 l := by unfold numR; rw [(stripL_val l).1]
end Go.Proofs.YtjfonckmfafdgaaDoor
