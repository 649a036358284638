/-
  The walk of the reference's word: where it ends, or -1.
-/
import Derived.Test.YtiakgjijlhfneaaGreatDoorLexBytes
import Derived.Deep.Light
namespace Go.Proofs.YtiakgjijlhfneaaGreatDoor
open Go.RowKit

def wordRes (at0 : Nat) : Option (Nat × Nat) → Int
  | some (k, d) => if d = 0 ∧ at0 < k then k else -1
  | none => -1

set_option maxHeartbeats 4000000 in
theorem refWord_any (s : ByteArray) (at0 : Nat) (w : World) (hs : s.size ≤ 4611686018427387904) (ha : at0 ≤ s.size) :
    Calls Tryz.prog 36 #[.string s, .int .i64 at0] w fun e w' => e = .returned (.int .i64 (wordRes at0 (wEnd (s.data.toList.drop at0) 0 at0))) ∧ w = w' := by
  obtain ⟨R, HR⟩ : ∃ R, Hid (wEnd (s.data.toList.drop at0) 0 at0 = R) := ⟨_, rfl⟩
  rw [HR.out]
  go_enter Tryz.func36, Tryz.ntmps36
  go_wp2_with fail
  go_loop [5, 6] (fun dv iv => ∃ (d k : Nat), dv = .int .i64 d ∧ iv = .int .i64 k ∧ at0 ≤ k ∧ k ≤ s.size ∧ d ≤ k ∧ Hid (wEnd (s.data.toList.drop k) d k = R)) (fun _ iv => s.size - (intOf iv).toNat)
  case atStart => exact ⟨0, at0, rfl, rfl, by omega, by omega, by omega, HR⟩
  case round =>
    obtain ⟨d, k, rfl, rfl, h1, h2, h3, H⟩ := hrel
    clear HR
    by_cases hk : k < s.size
    · have HD := Lib.hid (drop_cons s k hk)
      go_wp2_with (go_at_call 56; refine (in_any _ _).mono ?_; rintro e w' ⟨rfl, rfl⟩)
      all_goals
        have hdd : d = 0 ∨ ¬ d = 0 := by omega
        first
        | (have hd0 : d = 0 := by omega)
        | (have hd0 : ¬ d = 0 := by omega)
        | skip
        first
        | (go_round
           case rel =>
             first
             | (refine ⟨d + 1, k + 1, by go_num, by go_num, by omega, by omega, by omega, ?_⟩; show _ = _; rw [← H.out, HD.out]; simp [wEnd, u8bI, u8eI, *]; done)
             | (refine ⟨d, k + 1, by go_num, by go_num, by omega, by omega, by omega, ?_⟩; show _ = _; rw [← H.out, HD.out]; simp [wEnd, u8bI, u8eI, *]; done)
             | (refine ⟨d - 1, k + 1, by congr 1; omega, by go_num, by omega, by omega, by omega, ?_⟩; show _ = _; rw [← H.out, HD.out]; simp [wEnd, u8bI, u8eI, *]; done)
           case measure => simp [intOf]; omega)
        | (go_ret
           have e := H.out
           rw [HD.out] at e
           simp [wEnd, u8bI, u8eI, *] at e
           subst e
           refine ⟨ret_int ?_, rfl⟩
           simp [wordRes, *]
           (try (go_light; simp only [beq_iff_eq, beq_eq_false_iff_ne, ne_eq] at *; omega)))
    · have e := H.out
      rw [drop_end s k hk, wEnd] at e
      subst e
      go_wp2_with fail
      all_goals
        go_ret
        refine ⟨ret_int ?_, rfl⟩
        simp [wordRes, *]
        (try (go_light; simp only [beq_iff_eq, beq_eq_false_iff_ne, ne_eq] at *; omega))
end Go.Proofs.YtiakgjijlhfneaaGreatDoor
