/-
  The walks of the calendar's small functions, of both packages. Printed by gencal.py.
-/
import Derived.Test.YtjfdaoedpdiaeaaDoorCal
import Derived.Test.YtjfdaoedpdiaeaaDoorSpanSmall
namespace Go.Proofs.YtjfdaoedpdiaeaaDoor
open Go.RowKit
theorem leapY_int (y : Nat) : leapY y = ((((y : Int) % 4) == 0) && ((((y : Int) % 100) != 0) || (((y : Int) % 400) == 0))) := by
  unfold leapY
  rw [Bool.eq_iff_iff]
  simp only [Bool.and_eq_true, Bool.or_eq_true, beq_iff_eq, bne_iff_ne, ne_eq]
  omega
theorem leap_prog (y : Nat) (w : World) (hy : y ≤ 1000000) : Calls Tryd.prog 43 #[.int .i64 y] w fun e w' => e = .returned (.bool (leapY y)) ∧ w = w' := by
  have h0 : (0 : Int) ≤ (y : Int) := by omega
  have hL := Lib.hid (leapY_int y)
  cases h1 : (((y : Int) % 4) == 0)
  · go_enter Tryd.func43, Tryd.ntmps43
    go_wp2
    go_ret
    exact ⟨ret_bool (by rw [hL.out, h1]; rfl), rfl⟩
  · cases h2 : (((y : Int) % 100) != 0) <;> cases h3 : (((y : Int) % 400) == 0) <;>
    · go_enter Tryd.func43, Tryd.ntmps43
      go_wp2
      go_ret
      exact ⟨ret_bool (by rw [hL.out, h1, h2, h3]; rfl), rfl⟩
theorem leap_ref (y : Nat) (w : World) (hy : y ≤ 1000000) : Calls Tryd.prog 33 #[.int .i64 y] w fun e w' => e = .returned (.bool (leapY y)) ∧ w = w' := by
  have h0 : (0 : Int) ≤ (y : Int) := by omega
  have hL := Lib.hid (leapY_int y)
  cases h1 : (((y : Int) % 4) == 0)
  · go_enter Tryd.func33, Tryd.ntmps33
    go_wp2
    go_ret
    exact ⟨ret_bool (by rw [hL.out, h1]; rfl), rfl⟩
  · cases h2 : (((y : Int) % 100) != 0) <;> cases h3 : (((y : Int) % 400) == 0) <;>
    · go_enter Tryd.func33, Tryd.ntmps33
      go_wp2
      go_ret
      exact ⟨ret_bool (by rw [hL.out, h1, h2, h3]; rfl), rfl⟩
theorem month_prog (y m : Nat) (w : World) (hy : y ≤ 1000000) (hm : m ≤ 1000000) : Calls Tryd.prog 24 #[.int .i64 y, .int .i64 m] w fun e w' => e = .returned (.int .i64 (mlen y m : Nat)) ∧ w = w' := by
  obtain ⟨x, hx⟩ : ∃ x : Int, (m : Int) = x := ⟨_, rfl⟩
  obtain ⟨L, hL⟩ : ∃ L, Hid (mlen y m = L) := ⟨_, Lib.hid rfl⟩
  rw [hx, hL.out]
  by_cases h2 : m = 2
  · obtain rfl : x = 2 := by omega
    cases hl : leapY y <;>
    · go_enter Tryd.func24, Tryd.ntmps24
      go_wp2_with (go_at_call 43; refine (leap_prog y _ hy).mono ?_; rw [hl]; rintro e wn ⟨rfl, rfl⟩)
      go_ret
      exact ⟨ret_int (by rw [← hL.out]; unfold mlen; rw [if_pos h2, hl]; rfl), rfl⟩
  by_cases h4 : m = 4 ∨ m = 6 ∨ m = 9 ∨ m = 11
  · have HL : L = 30 := by rw [← hL.out]; unfold mlen; rw [if_neg h2, if_pos h4]
    have h5 : x = 4 ∨ x = 6 ∨ x = 9 ∨ x = 11 := by omega
    have HL := Lib.hid HL
    clear h2 h4 hx
    rcases h5 with rfl | rfl | rfl | rfl <;>
    · go_enter Tryd.func24, Tryd.ntmps24
      go_wp2_with fail
      go_ret
      exact ⟨ret_int (by rw [HL.out]; rfl), rfl⟩
  have HL : L = 31 := by rw [← hL.out]; unfold mlen; rw [if_neg h2, if_neg h4]
  have HL := Lib.hid HL
  have q2 : (x == 2) = false := by simp; omega
  have q4 : (x == 4) = false := by simp; omega
  have q6 : (x == 6) = false := by simp; omega
  have q9 : (x == 9) = false := by simp; omega
  have q11 : (x == 11) = false := by simp; omega
  clear h2 h4 hx
  go_enter Tryd.func24, Tryd.ntmps24
  go_wp2_with fail
  go_ret
  exact ⟨ret_int (by rw [HL.out]; rfl), rfl⟩
theorem days_ref (y m : Nat) (w : World) (hy : y ≤ 1000000) (hm : m ≤ 1000000) : Calls Tryd.prog 34 #[.int .i64 y, .int .i64 m] w fun e w' => e = .returned (.int .i64 (mlen y m : Nat)) ∧ w = w' := by
  obtain ⟨x, hx⟩ : ∃ x : Int, (m : Int) = x := ⟨_, rfl⟩
  obtain ⟨L, hL⟩ : ∃ L, Hid (mlen y m = L) := ⟨_, Lib.hid rfl⟩
  rw [hx, hL.out]
  by_cases h2 : m = 2
  · obtain rfl : x = 2 := by omega
    cases hl : leapY y <;>
    · go_enter Tryd.func34, Tryd.ntmps34
      go_wp2_with (go_at_call 33; refine (leap_ref y _ hy).mono ?_; rw [hl]; rintro e wn ⟨rfl, rfl⟩)
      go_ret
      exact ⟨ret_int (by rw [← hL.out]; unfold mlen; rw [if_pos h2, hl]; rfl), rfl⟩
  by_cases h4 : m = 4 ∨ m = 6 ∨ m = 9 ∨ m = 11
  · have HL : L = 30 := by rw [← hL.out]; unfold mlen; rw [if_neg h2, if_pos h4]
    have h5 : x = 4 ∨ x = 6 ∨ x = 9 ∨ x = 11 := by omega
    have HL := Lib.hid HL
    clear h2 h4 hx
    rcases h5 with rfl | rfl | rfl | rfl <;>
    · go_enter Tryd.func34, Tryd.ntmps34
      go_wp2_with fail
      go_ret
      exact ⟨ret_int (by rw [HL.out]; rfl), rfl⟩
  have HL : L = 31 := by rw [← hL.out]; unfold mlen; rw [if_neg h2, if_neg h4]
  have HL := Lib.hid HL
  have q2 : (x == 2) = false := by simp; omega
  have q4 : (x == 4) = false := by simp; omega
  have q6 : (x == 6) = false := by simp; omega
  have q9 : (x == 9) = false := by simp; omega
  have q11 : (x == 11) = false := by simp; omega
  clear h2 h4 hx
  go_enter Tryd.func34, Tryd.ntmps34
  go_wp2_with fail
  go_ret
  exact ⟨ret_int (by rw [HL.out]; rfl), rfl⟩
theorem year_prog (y : Nat) (w : World) (hy : y ≤ 1000000) : Calls Tryd.prog 25 #[.int .i64 y] w fun e w' => e = .returned (.int .i64 (ylen y : Nat)) ∧ w = w' := by
  obtain ⟨L, hL⟩ : ∃ L, Hid (ylen y = L) := ⟨_, Lib.hid rfl⟩
  rw [hL.out]
  cases hl : leapY y <;>
  · go_enter Tryd.func25, Tryd.ntmps25
    go_wp2_with (go_at_call 43; refine (leap_prog y _ hy).mono ?_; rw [hl]; rintro e wn ⟨rfl, rfl⟩)
    go_ret
    exact ⟨ret_int (by rw [← hL.out]; unfold ylen; rw [hl]; rfl), rfl⟩
end Go.Proofs.YtjfdaoedpdiaeaaDoor
