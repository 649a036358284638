/-
  The walks of the small functions on digits: what each returns; nothing is changed.
-/
import Derived.Test.YtjfdaoedpdiaeaaDoorDecSpec
import Derived.Test.YtjfdaoedpdiaeaaDoorShelf
namespace Go.Proofs.YtjfdaoedpdiaeaaDoor
open Go.RowKit
theorem isDigit_any (c : UInt8) (w : World) : Calls Tryd.prog 47 #[.int .u8 c.toNat] w fun e w' => e = .returned (.bool (isD c)) ∧ w = w' := by
  by_cases h1 : (48 : Int) ≤ (c.toNat : Int) <;> by_cases h2 : (c.toNat : Int) ≤ 57 <;>
  · go_enter Tryd.func47, Tryd.ntmps47
    go_wp2
    go_ret
    exact ⟨ret_bool (by simp [isD, h1, h2]), rfl⟩
theorem digit_any (c : UInt8) (w : World) : Calls Tryd.prog 48 #[.int .u8 c.toNat] w fun e w' => e = .returned (.bool (isD c)) ∧ w = w' := by
  by_cases h1 : (48 : Int) ≤ (c.toNat : Int) <;> by_cases h2 : (c.toNat : Int) ≤ 57 <;>
  · go_enter Tryd.func48, Tryd.ntmps48
    go_wp2
    go_ret
    exact ⟨ret_bool (by simp [isD, h1, h2]), rfl⟩

def allAt (s : ByteArray) (k : Nat) : Bool := (s.data.toList.drop k).all isD
theorem allAt_step {s : ByteArray} {k : Nat} (hk : k < s.size) : allAt s k = (isD s[k] && allAt s (k + 1)) := by
  unfold allAt; rw [drop_cons s k hk, List.all_cons]
theorem allAt_end {s : ByteArray} {k : Nat} (hk : ¬ k < s.size) : allAt s k = true := by
  unfold allAt; rw [drop_end s k hk]; rfl
theorem text_ne (s : ByteArray) : (!s.toList.isEmpty) = decide (0 < s.size) := by
  have h : s.toList.length = s.size := by rw [ByteArray.toList_eq]; simp
  rcases hl : s.toList with _ | ⟨c, r⟩
  · rw [hl, List.length_nil] at h; rw [← h]; rfl
  · rw [hl, List.length_cons] at h; rw [← h]; simp

set_option maxHeartbeats 4000000 in
theorem areDigits_any (s : ByteArray) (w : World) (hs : s.size ≤ 4611686018427387904) :
    Calls Tryd.prog 38 #[.string s] w fun e w' => e = .returned (.bool (allAt s 0 && decide (0 < s.size))) ∧ w = w' := by
  obtain ⟨R, HR⟩ : ∃ R, Hid (allAt s 0 = R) := ⟨_, Lib.hid rfl⟩
  rw [HR.out]
  go_enter Tryd.func38, Tryd.ntmps38
  go_wp2_with fail
  go_loop [6] (fun iv => ∃ (k : Nat), iv = .int .i64 k ∧ k ≤ s.size ∧ Hid (allAt s k = R)) (fun iv => s.size - (intOf iv).toNat)
  case atStart => exact ⟨0, rfl, by omega, HR⟩
  case round =>
    obtain ⟨k, rfl, h1, H⟩ := hrel
    clear HR
    by_cases hk : k < s.size
    · have HS := Lib.hid (allAt_step hk)
      by_cases hc : isD s[k] = true
      · go_wp2_with (go_at_call 47; refine (isDigit_any _ _).mono ?_; rintro e w' ⟨rfl, rfl⟩)
        go_round
        case rel => exact ⟨k + 1, by go_num, by omega, Lib.hid (by rw [← H.out, HS.out, hc, Bool.true_and])⟩
        case measure => simp [intOf]; omega
      · have hc' : isD s[k] = false := by simpa using hc
        clear hc
        go_wp2_with (go_at_call 47; refine (isDigit_any _ _).mono ?_; rintro e w' ⟨rfl, rfl⟩)
        go_ret
        refine ⟨ret_bool ?_, rfl⟩
        rw [← H.out, HS.out, hc']; rfl
    · have HE := Lib.hid (allAt_end hk)
      go_wp2_with fail
      go_ret
      refine ⟨ret_bool ?_, rfl⟩
      rw [← H.out, HE.out]
      rw [text_ne, Bool.true_and]

set_option maxHeartbeats 4000000 in
theorem all_any (s : ByteArray) (w : World) (hs : s.size ≤ 4611686018427387904) :
    Calls Tryd.prog 41 #[.string s] w fun e w' => e = .returned (.bool (allAt s 0 && decide (0 < s.size))) ∧ w = w' := by
  obtain ⟨R, HR⟩ : ∃ R, Hid (allAt s 0 = R) := ⟨_, Lib.hid rfl⟩
  rw [HR.out]
  go_enter Tryd.func41, Tryd.ntmps41
  go_wp2_with fail
  go_loop [3, 4] (fun iv _ => ∃ (k : Nat), iv = .int .i64 k ∧ k ≤ s.size ∧ Hid (allAt s k = R)) (fun iv _ => s.size - (intOf iv).toNat)
  case atStart => exact ⟨0, rfl, by omega, HR⟩
  case round =>
    obtain ⟨k, rfl, h1, H⟩ := hrel
    clear HR
    by_cases hk : k < s.size
    · have HS := Lib.hid (allAt_step hk)
      by_cases hc : isD s[k] = true
      · go_wp2_with (go_at_call 48; refine (digit_any _ _).mono ?_; rintro e w' ⟨rfl, rfl⟩)
        go_round
        case rel => exact ⟨k + 1, by go_num, by omega, Lib.hid (by rw [← H.out, HS.out, hc, Bool.true_and])⟩
        case measure => simp [intOf]; omega
      · have hc' : isD s[k] = false := by simpa using hc
        clear hc
        go_wp2_with (go_at_call 48; refine (digit_any _ _).mono ?_; rintro e w' ⟨rfl, rfl⟩)
        go_ret
        refine ⟨ret_bool ?_, rfl⟩
        rw [← H.out, HS.out, hc']; rfl
    · have HE := Lib.hid (allAt_end hk)
      go_wp2_with fail
      go_ret
      refine ⟨ret_bool ?_, rfl⟩
      rw [← H.out, HE.out]
      simp
end Go.Proofs.YtjfdaoedpdiaeaaDoor
