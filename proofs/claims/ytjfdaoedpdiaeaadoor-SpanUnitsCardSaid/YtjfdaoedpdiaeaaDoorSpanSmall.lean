/-
  The walks of the small functions on times in words.
-/
import Derived.Test.YtjfdaoedpdiaeaaDoorDecWholeAid
import Derived.Test.YtjfdaoedpdiaeaaDoorElRow
namespace Go.Proofs.YtjfdaoedpdiaeaaDoor
open Go.RowKit
theorem isDigit16_any (c : UInt8) (w : World) : Calls Tryd.prog 37 #[.int .u8 c.toNat] w fun e w' => e = .returned (.bool (isD c)) ∧ w = w' := by
  by_cases h1 : (48 : Int) ≤ (c.toNat : Int) <;> by_cases h2 : (c.toNat : Int) ≤ 57 <;>
  · go_enter Tryd.func37, Tryd.ntmps37
    go_wp2
    go_ret
    exact ⟨ret_bool (by simp [isD, h1, h2]), rfl⟩
theorem digit16_any (c : UInt8) (w : World) : Calls Tryd.prog 21 #[.int .u8 c.toNat] w fun e w' => e = .returned (.bool (isD c)) ∧ w = w' := by
  by_cases h1 : (48 : Int) ≤ (c.toNat : Int) <;> by_cases h2 : (c.toNat : Int) ≤ 57 <;>
  · go_enter Tryd.func21, Tryd.ntmps21
    go_wp2
    go_ret
    exact ⟨ret_bool (by simp [isD, h1, h2]), rfl⟩
/-- how many digits stand from a place on -/
def runD (s : ByteArray) (k : Nat) : Nat := ((s.data.toList.drop k).takeWhile isD).length
theorem runD_step {s : ByteArray} {k : Nat} (hk : k < s.size) (h : isD s[k] = true) : runD s k = runD s (k + 1) + 1 := by
  unfold runD; rw [drop_cons s k hk, List.takeWhile_cons_of_pos h, List.length_cons]
theorem runD_stop {s : ByteArray} {k : Nat} (hk : k < s.size) (h : isD s[k] = false) : runD s k = 0 := by
  unfold runD; rw [drop_cons s k hk, List.takeWhile_cons_of_neg (by rw [h]; simp)]; rfl
theorem runD_end {s : ByteArray} {k : Nat} (hk : ¬ k < s.size) : runD s k = 0 := by unfold runD; rw [drop_end s k hk]; rfl
set_option maxHeartbeats 4000000 in
theorem digits16_any (s : ByteArray) (w : World) (hs : s.size ≤ 4611686018427387904) :
    Calls Tryd.prog 18 #[.string s] w fun e w' => e = .returned (.int .i64 (runD s 0 : Nat)) ∧ w = w' := by
  obtain ⟨R, HR⟩ : ∃ R, Hid (runD s 0 = R) := ⟨_, Lib.hid rfl⟩
  rw [HR.out]
  go_enter Tryd.func18, Tryd.ntmps18
  go_wp2_with fail
  go_loop [3] (fun nv => ∃ k : Nat, nv = .int .i64 k ∧ k ≤ s.size ∧ Hid (k + runD s k = R)) (fun nv => s.size - (intOf nv).toNat)
  case atStart => exact ⟨0, rfl, by omega, Lib.hid (by rw [HR.out]; omega)⟩
  case round =>
    obtain ⟨k, rfl, hk, H⟩ := hrel
    clear HR
    by_cases hlt : k < s.size
    · by_cases hc : isD s[k] = true
      · have HS := Lib.hid (runD_step hlt hc)
        go_wp2_with (go_at_call 37; refine (isDigit16_any _ _).mono ?_; rintro e w' ⟨rfl, rfl⟩)
        exact ⟨⟨k + 1, by go_num, by omega, Lib.hid (by have := H.out; have := HS.out; omega)⟩, by simp [intOf]; omega⟩
      · have hc' : isD s[k] = false := by simpa using hc
        clear hc
        have HS := Lib.hid (runD_stop hlt hc')
        go_wp2_with (go_at_call 37; refine (isDigit16_any _ _).mono ?_; rintro e w' ⟨rfl, rfl⟩)
        go_ret
        exact ⟨ret_int (by have := H.out; have := HS.out; omega), rfl⟩
    · have HE := Lib.hid (runD_end hlt)
      go_wp2_with fail
      go_ret
      exact ⟨ret_int (by have := H.out; have := HE.out; omega), rfl⟩
set_option maxHeartbeats 4000000 in
theorem all16_any (s : ByteArray) (w : World) (hs : s.size ≤ 4611686018427387904) :
    Calls Tryd.prog 26 #[.string s] w fun e w' => e = .returned (.bool (allAt s 0)) ∧ w = w' := by
  obtain ⟨R, HR⟩ : ∃ R, Hid (allAt s 0 = R) := ⟨_, Lib.hid rfl⟩
  rw [HR.out]
  go_enter Tryd.func26, Tryd.ntmps26
  go_wp2_with fail
  go_loop [3, 4] (fun iv _ => ∃ (k : Nat), iv = .int .i64 k ∧ k ≤ s.size ∧ Hid (allAt s k = R)) (fun iv _ => s.size - (intOf iv).toNat)
  case atStart => exact ⟨0, rfl, by omega, HR⟩
  case round =>
    obtain ⟨k, rfl, h1, H⟩ := hrel
    clear HR
    by_cases hk : k < s.size
    · have HS := Lib.hid (allAt_step hk)
      by_cases hc : isD s[k] = true
      · go_wp2_with (go_at_call 21; refine (digit16_any _ _).mono ?_; rintro e w' ⟨rfl, rfl⟩)
        go_round
        case rel => exact ⟨k + 1, by go_num, by omega, Lib.hid (by rw [← H.out, HS.out, hc, Bool.true_and])⟩
        case measure => simp [intOf]; omega
      · have hc' : isD s[k] = false := by simpa using hc
        clear hc
        go_wp2_with (go_at_call 21; refine (digit16_any _ _).mono ?_; rintro e w' ⟨rfl, rfl⟩)
        go_ret
        refine ⟨ret_bool ?_, rfl⟩
        rw [← H.out, HS.out, hc']; rfl
    · have HE := Lib.hid (allAt_end hk)
      go_wp2_with fail
      go_ret
      refine ⟨ret_bool ?_, rfl⟩
      rw [← H.out, HE.out]
theorem signed16_any (s : ByteArray) (w : World) : Calls Tryd.prog 17 #[.string s] w fun e w' => e = .returned (.bool (signedS s)) ∧ w = w' := by
  obtain ⟨R, HR⟩ : ∃ R, Hid (signedS s = R) := ⟨_, Lib.hid rfl⟩
  have hsg : Hid (signedS s = if h : 0 < s.size then ((s[0].toNat : Int) == 45) || ((s[0].toNat : Int) == 43) else false) := Lib.hid rfl
  rw [HR.out] at hsg ⊢
  by_cases h0 : 0 < s.size
  · have he := toList_full h0
    have hq : Hid (R = (((s[0].toNat : Int) == 45) || ((s[0].toNat : Int) == 43))) := Lib.hid (by rw [hsg.out, dif_pos h0])
    cases h1 : ((s[0].toNat : Int) == 45)
    · cases h2 : ((s[0].toNat : Int) == 43) <;>
      · go_enter Tryd.func17, Tryd.ntmps17
        go_wp2_with fail
        go_ret
        exact ⟨ret_bool (by rw [hq.out, h1, h2]; rfl), rfl⟩
    · go_enter Tryd.func17, Tryd.ntmps17
      go_wp2_with fail
      go_ret
      exact ⟨ret_bool (by rw [hq.out, h1]; rfl), rfl⟩
  · have he := toList_empty h0
    have hq : Hid (R = false) := Lib.hid (by rw [hsg.out, dif_neg h0])
    go_enter Tryd.func17, Tryd.ntmps17
    go_wp2_with fail
    go_ret
    exact ⟨ret_bool (by rw [hq.out]), rfl⟩
end Go.Proofs.YtjfdaoedpdiaeaaDoor
