/-
  The walks of lex's Ident and the reference's: whether a text is a function's name.
-/
import Derived.Test.YtiakgjijlhfneaaGreatDoorLexBytes
import Derived.Deep.Light
namespace Go.Proofs.YtiakgjijlhfneaaGreatDoor
open Go.RowKit

def restB (l : List UInt8) : Bool := l.all fun c => isLetterB c || isDigitB c || c == 95
/-- what is left to be looked at from place k on -/
def identAt (s : ByteArray) (k : Nat) : Bool := if k = 0 then isLetters s.data.toList || s.data.toList.isEmpty else restB (s.data.toList.drop k)
theorem identAt_step {s : ByteArray} {k : Nat} (hk : k < s.size) : identAt s k = ((isLetterB s[k] || (k != 0 && (isDigitB s[k] || s[k] == 95))) && identAt s (k + 1)) := by
  unfold identAt
  cases k with
  | zero =>
    have := drop_cons s 0 hk
    rw [List.drop_zero] at this
    rw [if_pos rfl, if_neg (by omega), this, isLetters]
    simp [restB]
  | succ k =>
    rw [if_neg (by omega), if_neg (by omega), drop_cons s (k + 1) hk, restB, List.all_cons]
    simp [restB, Bool.or_assoc]
theorem identAt_end {s : ByteArray} {k : Nat} (h0 : k ≠ 0 ∨ s.size = 0) (hk : ¬ k < s.size) : identAt s k = true := by
  unfold identAt
  split
  · have h : s.size = 0 := by omega
    have : s.data.toList = [] := List.eq_nil_of_length_eq_zero (by simpa using h)
    simp [this]
  · rw [drop_end s k hk]; rfl

set_option maxHeartbeats 4000000 in
theorem ident_any (s : ByteArray) (w : World) (hs : s.size ≤ 4611686018427387904) :
    Calls Tryz.prog 32 #[.string s] w fun e w' => e = .returned (.bool (identAt s 0 && decide (0 < s.size))) ∧ w = w' := by
  obtain ⟨R, HR⟩ : ∃ R, Hid (identAt s 0 = R) := ⟨_, Lib.hid rfl⟩
  rw [HR.out]
  go_enter Tryz.func32, Tryz.ntmps32
  go_wp2_with fail
  go_loop [6] (fun iv => ∃ (k : Nat), iv = .int .i64 k ∧ k ≤ s.size ∧ Hid (identAt s k = R)) (fun iv => s.size - (intOf iv).toNat)
  case atStart => exact ⟨0, rfl, by omega, HR⟩
  case round =>
    obtain ⟨k, rfl, h1, H⟩ := hrel
    clear HR
    by_cases hk : k < s.size
    · have HS := Lib.hid (identAt_step hk)
      go_wp2_with (first | (go_at_call 52; refine (isLetter_any _ _).mono ?_; rintro e w' ⟨rfl, rfl⟩) | (go_at_call 53; refine (lexDigit_any _ _).mono ?_; rintro e w' ⟨rfl, rfl⟩))
      all_goals first
        | (go_round
           case rel =>
             refine ⟨k + 1, by go_num, by omega, ?_⟩
             show _ = _
             have hc : (isLetterB s[k] || (k != 0 && (isDigitB s[k] || s[k] == 95))) = true := by
               clear H HS
               go_light
               rw [u8bI]
               simp_all
             rw [← H.out, HS.out, hc, Bool.true_and]
           case measure => simp [intOf]; omega)
        | (go_ret
           have hc : (isLetterB s[k] || (k != 0 && (isDigitB s[k] || s[k] == 95))) = false := by
             clear H HS
             go_light
             rw [u8bI]
             simp_all
           have e := H.out
           rw [HS.out, hc, Bool.false_and] at e
           subst e
           exact ⟨ret_bool rfl, rfl⟩)
    · have HE : Hid (identAt s k = true) := Lib.hid (identAt_end (by omega) hk)
      have hs0 : s.toList.isEmpty = !decide (0 < s.size) := by
        have hl : s.data.toList.length = s.size := by simp
        rw [Lib.toList_data]
        rcases h0 : s.data.toList with _ | ⟨x, l⟩
        · rw [h0] at hl
          simp at hl
          simp [← hl]
        · rw [h0] at hl
          simp at hl
          simp [← hl]
      go_wp2
      go_ret
      refine ⟨ret_bool ?_, rfl⟩
      rw [← H.out, HE.out]
      simp

set_option maxHeartbeats 4000000 in
theorem refIdent_any (s : ByteArray) (w : World) (hs : s.size ≤ 4611686018427387904) :
    Calls Tryz.prog 38 #[.string s] w fun e w' => e = .returned (.bool (identAt s 0 && decide (0 < s.size))) ∧ w = w' := by
  obtain ⟨R, HR⟩ : ∃ R, Hid (identAt s 0 = R) := ⟨_, Lib.hid rfl⟩
  rw [HR.out]
  go_enter Tryz.func38, Tryz.ntmps38
  go_wp2_with fail
  go_loop [3] (fun iv => ∃ (k : Nat), iv = .int .i64 k ∧ k ≤ s.size ∧ Hid (identAt s k = R)) (fun iv => s.size - (intOf iv).toNat)
  case atStart => exact ⟨0, rfl, by omega, HR⟩
  case round =>
    obtain ⟨k, rfl, h1, H⟩ := hrel
    clear HR
    by_cases hk : k < s.size
    · have HS := Lib.hid (identAt_step hk)
      rcases hk0 : ((k : Int) == 0) with _ | _
      all_goals
        go_wp2
        all_goals first
          | (go_round
             case rel =>
               refine ⟨k + 1, by go_num, by omega, ?_⟩
               show _ = _
               have hc : (isLetterB s[k] || (k != 0 && (isDigitB s[k] || s[k] == 95))) = true := by
                 clear H HS
                 go_light
                 rw [u8bI]
                 simp only [isLetterB, isDigitB, u8le]
                 simp at *
                 omega
               rw [← H.out, HS.out, hc, Bool.true_and]
             case measure => simp [intOf]; omega)
          | (go_ret
             have hc : (isLetterB s[k] || (k != 0 && (isDigitB s[k] || s[k] == 95))) = false := by
               clear H HS
               go_light
               rw [u8bI]
               simp only [isLetterB, isDigitB, u8le]
               simp at *
               omega
             have e := H.out
             rw [HS.out, hc, Bool.false_and] at e
             subst e
             exact ⟨ret_bool rfl, rfl⟩)
    · have HE : Hid (identAt s k = true) := Lib.hid (identAt_end (by omega) hk)
      go_wp2
      go_ret
      refine ⟨ret_bool ?_, rfl⟩
      rw [← H.out, HE.out]
      simp
end Go.Proofs.YtiakgjijlhfneaaGreatDoor
