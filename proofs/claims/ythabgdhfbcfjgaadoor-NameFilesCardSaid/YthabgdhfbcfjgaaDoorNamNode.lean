/-
  The walks of a name's node at a place.
-/
import Derived.Test.YthabgdhfbcfjgaaDoorNamParts
namespace Go.Proofs.YthabgdhfbcfjgaaDoor
open Go.RowKit
def nodeX (X : List ByteArray) (i : Int) : ByteArray :=
  if i < 0 then (if i + X.length < 0 then ⟨#[]⟩ else X.getD (i + X.length).toNat ⟨#[]⟩) else X.getD i.toNat ⟨#[]⟩
theorem nodeX_out {X : List ByteArray} {i : Int} (h : (X.length : Int) ≤ i) : nodeX X i = ⟨#[]⟩ := by
  unfold nodeX
  rw [if_neg (by omega), List.getD_eq_getElem?_getD, List.getElem?_eq_none (by omega)]; rfl
theorem nodeX_neg {X : List ByteArray} {i : Int} (h : i < 0) (h2 : i + X.length < 0) : nodeX X i = ⟨#[]⟩ := by
  unfold nodeX
  rw [if_pos h, if_pos h2]
theorem nodeX_back {X : List ByteArray} {i : Int} (h : i < 0) {k : Nat} (hk : i + X.length = k) (hl : k < X.length) : nodeX X i = X[k] := by
  unfold nodeX
  rw [if_pos h, if_neg (by omega), hk, Int.toNat_natCast, List.getD_eq_getElem?_getD, List.getElem?_eq_getElem hl]; rfl
theorem nodeX_at {X : List ByteArray} {k : Nat} (hl : k < X.length) : nodeX X k = X[k] := by
  unfold nodeX
  rw [if_neg (by omega), Int.toNat_natCast, List.getD_eq_getElem?_getD, List.getElem?_eq_getElem hl]; rfl

set_option maxHeartbeats 4000000 in
theorem node_any (s : ByteArray) (i : Int) (w : World) (hs : s.size ≤ 1000000) (hi : -9223372036854775808 ≤ i) (hi2 : i ≤ 9223372036854775807) (hm : MaxLen w) :
    Calls Tryd.prog 8 #[.string s, .int .i64 i] w fun e w' => e = .returned (.string (nodeX ((ptsL s.data.toList).map bs) i)) ∧ w.grownBy w' none := by
  have HP := Lib.hid (parts_any s w hs hm); clear hm
  have hl : (ptsL s.data.toList).length ≤ 1000001 := by
    rw [← countB_46]
    have : Lib.countB s ⟨#[46]⟩ ≤ s.size := Lib.countB_le ⟨#[46]⟩ (by decide) s.size s (Nat.le_refl _)
    omega
  have hx : ((ptsL s.data.toList).map bs).length ≤ 1000001 := by rw [List.length_map]; exact hl
  clear hl
  generalize (ptsL s.data.toList).map bs = X at *
  by_cases h0 : i < 0
  · by_cases h1 : i + X.length < 0
    · have HR := Lib.hid (nodeX_neg h0 h1)
      go_enter Tryd.func8, Tryd.ntmps8
      go_wp2_with (go_at_call 13; refine HP.out.mono ?_; rintro e w1 ⟨v, rfl, hrow, hg⟩; obtain ⟨A, c, rfl, q1, q2, q3⟩ := hrow; have Q3 := Lib.hid q3; clear q3)
      go_ret
      exact ⟨ret_string HR.out.symm, hg⟩
    · obtain ⟨k, hk⟩ := Int.eq_ofNat_of_zero_le (Int.not_lt.1 h1)
      have hkl : k < X.length := by omega
      have HR := Lib.hid (nodeX_back h0 hk hkl)
      obtain rfl : i = (k : Int) - X.length := by omega
      clear hk h1
      have e : (k : Int) - X.length + X.length = k := by omega
      go_enter Tryd.func8, Tryd.ntmps8
      go_wp2_with (go_at_call 13; refine HP.out.mono ?_; rintro e w1 ⟨v, rfl, hrow, hg⟩; obtain ⟨A, c, rfl, q1, q2, q3⟩ := hrow; obtain ⟨b, o, rfl, hb, hc⟩ := q3 (by omega); have a3 : w1.cell? ⟨b, o + k, none⟩ = some (.string X[k]) := (by have := hc k hkl 0 _ rfl; simpa [strE] using this); clear hc)
      go_ret
      exact ⟨ret_string HR.out.symm, hg⟩
  · obtain ⟨k, rfl⟩ := Int.eq_ofNat_of_zero_le (Int.not_lt.1 h0)
    by_cases hkl : k < X.length
    · have HR := Lib.hid (nodeX_at hkl)
      go_enter Tryd.func8, Tryd.ntmps8
      go_wp2_with (go_at_call 13; refine HP.out.mono ?_; rintro e w1 ⟨v, rfl, hrow, hg⟩; obtain ⟨A, c, rfl, q1, q2, q3⟩ := hrow; obtain ⟨b, o, rfl, hb, hc⟩ := q3 (by omega); have a3 : w1.cell? ⟨b, o + k, none⟩ = some (.string X[k]) := (by have := hc k hkl 0 _ rfl; simpa [strE] using this); clear hc)
      go_ret
      exact ⟨ret_string HR.out.symm, hg⟩
    · have HR := Lib.hid (nodeX_out (X := X) (i := k) (by omega))
      go_enter Tryd.func8, Tryd.ntmps8
      go_wp2_with (go_at_call 13; refine HP.out.mono ?_; rintro e w1 ⟨v, rfl, hrow, hg⟩; obtain ⟨A, c, rfl, q1, q2, q3⟩ := hrow; have Q3 := Lib.hid q3; clear q3)
      go_ret
      exact ⟨ret_string HR.out.symm, hg⟩
set_option maxHeartbeats 4000000 in
theorem refNode_any (s : ByteArray) (i : Int) (w : World) (hs : s.size ≤ 1000000) (hi : -9223372036854775808 ≤ i) (hi2 : i ≤ 9223372036854775807) :
    Calls Tryd.prog 20 #[.string s, .int .i64 i] w fun e w' => e = .returned (.string (nodeX ((ptsL s.data.toList).map bs) i)) ∧ w.grownBy w' none := by
  have HP := Lib.hid (refParts_any s w hs)
  have hl : (ptsL s.data.toList).length ≤ 1000001 := by
    rw [← countB_46]
    have : Lib.countB s ⟨#[46]⟩ ≤ s.size := Lib.countB_le ⟨#[46]⟩ (by decide) s.size s (Nat.le_refl _)
    omega
  have hx : ((ptsL s.data.toList).map bs).length ≤ 1000001 := by rw [List.length_map]; exact hl
  clear hl
  generalize (ptsL s.data.toList).map bs = X at *
  by_cases h0 : i < 0
  · by_cases h1 : i + X.length < 0
    · have HR := Lib.hid (nodeX_neg h0 h1)
      go_enter Tryd.func20, Tryd.ntmps20
      go_wp2_with (go_at_call 7; refine HP.out.mono ?_; rintro e w1 ⟨v, rfl, hrow, hg⟩; obtain ⟨A, c, rfl, q1, q2, q3⟩ := hrow; have Q3 := Lib.hid q3; clear q3)
      go_ret
      exact ⟨ret_string HR.out.symm, hg⟩
    · obtain ⟨k, hk⟩ := Int.eq_ofNat_of_zero_le (Int.not_lt.1 h1)
      have hkl : k < X.length := by omega
      have HR := Lib.hid (nodeX_back h0 hk hkl)
      obtain rfl : i = (k : Int) - X.length := by omega
      clear hk h1
      have e : (k : Int) - X.length + X.length = k := by omega
      go_enter Tryd.func20, Tryd.ntmps20
      go_wp2_with (go_at_call 7; refine HP.out.mono ?_; rintro e w1 ⟨v, rfl, hrow, hg⟩; obtain ⟨A, c, rfl, q1, q2, q3⟩ := hrow; obtain ⟨b, o, rfl, hb, hc⟩ := q3 (by omega); have a3 : w1.cell? ⟨b, o + k, none⟩ = some (.string X[k]) := (by have := hc k hkl 0 _ rfl; simpa [strE] using this); clear hc)
      go_ret
      exact ⟨ret_string HR.out.symm, hg⟩
  · obtain ⟨k, rfl⟩ := Int.eq_ofNat_of_zero_le (Int.not_lt.1 h0)
    by_cases hkl : k < X.length
    · have HR := Lib.hid (nodeX_at hkl)
      go_enter Tryd.func20, Tryd.ntmps20
      go_wp2_with (go_at_call 7; refine HP.out.mono ?_; rintro e w1 ⟨v, rfl, hrow, hg⟩; obtain ⟨A, c, rfl, q1, q2, q3⟩ := hrow; obtain ⟨b, o, rfl, hb, hc⟩ := q3 (by omega); have a3 : w1.cell? ⟨b, o + k, none⟩ = some (.string X[k]) := (by have := hc k hkl 0 _ rfl; simpa [strE] using this); clear hc)
      go_ret
      exact ⟨ret_string HR.out.symm, hg⟩
    · have HR := Lib.hid (nodeX_out (X := X) (i := k) (by omega))
      go_enter Tryd.func20, Tryd.ntmps20
      go_wp2_with (go_at_call 7; refine HP.out.mono ?_; rintro e w1 ⟨v, rfl, hrow, hg⟩; obtain ⟨A, c, rfl, q1, q2, q3⟩ := hrow; have Q3 := Lib.hid q3; clear q3)
      go_ret
      exact ⟨ret_string HR.out.symm, hg⟩
end Go.Proofs.YthabgdhfbcfjgaaDoor
