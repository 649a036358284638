/-
  The walks of lex and name: what one byte is.
-/
import Derived.Test.YtiakgjijlhfneaaGreatDoorProg
import Derived.Test.YtiakgjijlhfneaaGreatDoorShelf
import Derived.Test.YtiakgjijlhfneaaGreatDoorAid
import Derived.Test.YtiakgjijlhfneaaGreatDoorLexSpec
import Derived.Deep.QuietTactic
import Derived.BigQuiet
import Derived.Lib.IndexBytes
namespace Go.Proofs.YtiakgjijlhfneaaGreatDoor
open Go.RowKit

theorem idxB (l : List UInt8) (c : UInt8) : decide (0 ≤ Lib.indexByte l c) = l.contains c := by
  induction l with
  | nil => rfl
  | cons b l ih =>
    have hge := Lib.indexByte_ge l c
    rw [List.contains_cons, ← ih, Lib.indexByte]
    by_cases hb : b = c
    · subst hb; simp
    · have hb' : (c == b) = false := by simp; exact fun e => hb e.symm
      have hb2 : (b == c) = false := by simp [hb]
      simp only [hb2, hb', Bool.false_or, if_neg Bool.false_ne_true]
      by_cases h1 : Lib.indexByte l c = -1
      · simp [h1]
      · have : (Lib.indexByte l c == -1) = false := by simp [h1]
        simp only [this, if_neg Bool.false_ne_true]
        rw [decide_eq_decide]; omega

theorem extract_drop (s : ByteArray) (k : Nat) : (s.extract k s.size).data.toList = s.data.toList.drop k :=
  Lib.extract_to_end s k
theorem indexByte_at (s : ByteArray) (k : Nat) (c : UInt8) (w : World) :
    Calls Tryz.prog 69 #[.string (s.extract k s.size), .int .u8 c.toNat] w fun e w' => e = .returned (.int .i64 (Lib.indexByte (s.data.toList.drop k) c)) ∧ w' = w :=
  (Tryz.strings_IndexByte (s.extract k s.size) c.toNat w).mono fun e w' ⟨he, hw⟩ => by
    refine ⟨?_, hw⟩
    rw [he, extract_drop]; simp

set_option maxHeartbeats 400000 in
theorem lexDigit_any (c : UInt8) (w : World) :
    Calls Tryz.prog 53 #[.int .u8 c.toNat] w fun e w' => e = .returned (.bool (isDigitB c)) ∧ w = w' := by
  go_enter Tryz.func53, Tryz.ntmps53
  go_wp2
  all_goals (go_ret; refine ⟨ret_bool ?_, rfl⟩; simp only [isDigitB, u8le]; rw [Bool.eq_iff_iff]; simp; try omega)

set_option maxHeartbeats 400000 in
theorem isLetter_any (c : UInt8) (w : World) :
    Calls Tryz.prog 52 #[.int .u8 c.toNat] w fun e w' => e = .returned (.bool (isLetterB c)) ∧ w = w' := by
  go_enter Tryz.func52, Tryz.ntmps52
  go_wp2
  all_goals (go_ret; refine ⟨ret_bool ?_, rfl⟩; simp only [isLetterB, u8le]; rw [Bool.eq_iff_iff]; simp; try omega)

set_option maxHeartbeats 400000 in
theorem isWord_any (c : UInt8) (w : World) :
    Calls Tryz.prog 70 #[.int .u8 c.toNat] w fun e w' => e = .returned (.bool (isWordB c)) ∧ w = w' := by
  go_enter Tryz.func70, Tryz.ntmps70
  go_wp2_with (first | (go_at_call 52; refine (isLetter_any _ _).mono ?_; rintro e w' ⟨rfl, rfl⟩) | (go_at_call 53; refine (lexDigit_any _ _).mono ?_; rintro e w' ⟨rfl, rfl⟩) | (go_at_call 69; refine (Tryz.strings_IndexByte _ _ _).mono ?_; rintro e w' ⟨rfl, rfl⟩))
  all_goals (go_ret; refine ⟨ret_bool ?_, rfl⟩)
  · simp [isWordB, *]
  · simp [isWordB, *]
  · rw [idxB]; simp [isWordB, *]

set_option maxHeartbeats 1000000 in
theorem nameB_any (c : UInt8) (w : World) :
    Calls Tryz.prog 75 #[.int .u8 c.toNat] w fun e w' => e = .returned (.bool (nameB c)) ∧ w = w' := by
  go_enter Tryz.func75, Tryz.ntmps75
  go_wp2
  all_goals (go_ret; refine ⟨ret_bool ?_, rfl⟩; rw [Bool.eq_iff_iff]; simp [nameB, isLetterB, isDigitB, UInt8.le_iff_toNat_le, ← UInt8.toNat_inj]; try omega)
def inRest : ByteArray := ⟨#[46, 42, 63, 91, 93, 123, 125, 43]⟩
set_option maxHeartbeats 1000000 in
theorem in_any (c : UInt8) (w : World) :
    Calls Tryz.prog 56 #[.int .u8 c.toNat] w fun e w' => e = .returned (.bool (isWordB c)) ∧ w = w' := by
  rcases hN : nameB c with _ | _
  · have H0 := Lib.hid (show (inRest.data.toList.drop 0).contains c = isWordB c from by rw [← isWordB_eq, hN]; rfl)
    go_enter Tryz.func56, Tryz.ntmps56
    go_wp2_with (first | (go_at_call 75; refine (nameB_any _ _).mono ?_; rintro e w' ⟨rfl, rfl⟩))
    go_loop [4] (fun i => ∃ k : Nat, k ≤ 8 ∧ i = .int .i64 k ∧ Hid ((inRest.data.toList.drop k).contains c = isWordB c)) (fun i => 8 - (intOf i).toNat)
    case atStart => exact ⟨0, by omega, rfl, H0⟩
    case round =>
      obtain ⟨k, hk, rfl, H⟩ := hrel
      clear H0
      by_cases hlt : k < 8
      · have HD := Lib.hid (drop_cons inRest k hlt)
        go_wp2
        · have h : _ = _ := ‹(_ == _) = true›
          go_ret
          rw [u8beq] at h
          exact ⟨ret_bool (by have e := H.out; rw [HD.out] at e; rw [← e, List.contains_cons]; simp at h ⊢; exact Or.inl h.symm), rfl⟩
        · have h : _ = _ := ‹(_ == _) = false›
          rw [u8beq] at h
          go_round
          case rel => exact ⟨k + 1, by omega, by go_num, by show _ = _; have e := H.out; rw [HD.out] at e; rw [← e, List.contains_cons]; simp at h ⊢; exact fun g => (h g.symm).elim⟩
          case measure => simp [intOf]; omega
      · have HE := Lib.hid (drop_end inRest k hlt)
        go_wp2
        go_ret
        exact ⟨ret_bool (by have e := H.out; rw [HE.out] at e; rw [← e]; rfl), rfl⟩
  · go_enter Tryz.func56, Tryz.ntmps56
    go_wp2_with (first | (go_at_call 75; refine (nameB_any _ _).mono ?_; rintro e w' ⟨rfl, rfl⟩))
    go_ret; exact ⟨ret_bool (by rw [← isWordB_eq]; simp [*]), rfl⟩
end Go.Proofs.YtiakgjijlhfneaaGreatDoor
