/-
  The walks of lex and name: what one byte is.
-/
import Derived.Test.YtiakgjijlhfneaaDoorProg
import Derived.Test.YtiakgjijlhfneaaDoorShelf
import Derived.Test.YtiakgjijlhfneaaDoorAid
import Derived.Test.YtiakgjijlhfneaaDoorLexSpec
import Derived.Deep.QuietTactic
import Derived.BigQuiet
import Derived.Lib.IndexBytes
namespace Go.Proofs.YtiakgjijlhfneaaDoor
open Go.RowKit

theorem idxB (l : List UInt8) (c : UInt8) : decide (0 ≤ Lib.indexByte l c) = l.contains c := by
  induction l with
  | nil => rfl
  | cons b l ih =>
    have hge := Lib.indexByte_ge l c
    rw [List.contains_cons, ← ih, Lib.indexByte]
    by_cases hb : b = c
    · subst hb; simp
    · have hb' : (c == b) = false := by simp; exact fun e => hb e.symm
      have hb2 : (b == c) = false := by simp [hb]
      simp only [hb2, hb', Bool.false_or, if_neg Bool.false_ne_true]
      by_cases h1 : Lib.indexByte l c = -1
      · simp [h1]
      · have : (Lib.indexByte l c == -1) = false := by simp [h1]
        simp only [this, if_neg Bool.false_ne_true]
        rw [decide_eq_decide]; omega

theorem extract_drop (s : ByteArray) (k : Nat) : (s.extract k s.size).data.toList = s.data.toList.drop k :=
  Lib.extract_to_end s k
theorem indexByte_at (s : ByteArray) (k : Nat) (c : UInt8) (w : World) :
    Calls Tryd.prog 38 #[.string (s.extract k s.size), .int .u8 c.toNat] w fun e w' => e = .returned (.int .i64 (Lib.indexByte (s.data.toList.drop k) c)) ∧ w' = w :=
  (Tryd.strings_IndexByte (s.extract k s.size) c.toNat w).mono fun e w' ⟨he, hw⟩ => by
    refine ⟨?_, hw⟩
    rw [he, extract_drop]; simp

set_option maxHeartbeats 400000 in
theorem lexDigit_any (c : UInt8) (w : World) :
    Calls Tryd.prog 29 #[.int .u8 c.toNat] w fun e w' => e = .returned (.bool (isDigitB c)) ∧ w = w' := by
  go_enter Tryd.func29, Tryd.ntmps29
  go_wp2
  all_goals (go_ret; refine ⟨ret_bool ?_, rfl⟩; simp only [isDigitB, u8le]; rw [Bool.eq_iff_iff]; simp; try omega)

set_option maxHeartbeats 400000 in
theorem isLetter_any (c : UInt8) (w : World) :
    Calls Tryd.prog 28 #[.int .u8 c.toNat] w fun e w' => e = .returned (.bool (isLetterB c)) ∧ w = w' := by
  go_enter Tryd.func28, Tryd.ntmps28
  go_wp2
  all_goals (go_ret; refine ⟨ret_bool ?_, rfl⟩; simp only [isLetterB, u8le]; rw [Bool.eq_iff_iff]; simp; try omega)

set_option maxHeartbeats 400000 in
theorem isWord_any (c : UInt8) (w : World) :
    Calls Tryd.prog 39 #[.int .u8 c.toNat] w fun e w' => e = .returned (.bool (isWordB c)) ∧ w = w' := by
  go_enter Tryd.func39, Tryd.ntmps39
  go_wp2_with (first | (go_at_call 28; refine (isLetter_any _ _).mono ?_; rintro e w' ⟨rfl, rfl⟩) | (go_at_call 29; refine (lexDigit_any _ _).mono ?_; rintro e w' ⟨rfl, rfl⟩) | (go_at_call 38; refine (Tryd.strings_IndexByte _ _ _).mono ?_; rintro e w' ⟨rfl, rfl⟩))
  all_goals (go_ret; refine ⟨ret_bool ?_, rfl⟩)
  · simp [isWordB, *]
  · simp [isWordB, *]
  · rw [idxB]; simp [isWordB, *]

end Go.Proofs.YtiakgjijlhfneaaDoor
