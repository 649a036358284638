/-
  The walks of lex's Path and the reference's: whether a text is a path.
-/
import Derived.Test.YtiakgjijlhfneaaGreatDoorLexWord
import Derived.Test.YtiakgjijlhfneaaGreatDoorLexIdx
import Derived.Test.YtiakgjijlhfneaaGreatDoorLexRefWord
namespace Go.Proofs.YtiakgjijlhfneaaGreatDoor
open Go.RowKit

/-- a text is a path: one word, and no plus -/
def pathB (s : ByteArray) : Bool := (match wEnd s.data.toList 0 0 with | some (k, d) => d == 0 && decide (0 < k) && k == s.size | none => false) && !(s.data.toList.contains 43)

theorem pathB_eq {s : ByteArray} (hc : s.data.toList.contains 43 = false) : pathB s = decide (wordRes 0 (wEnd s.data.toList 0 0) = s.size ∧ 0 < s.size) := by
  unfold pathB
  rw [hc, Bool.eq_iff_iff]
  rcases wEnd s.data.toList 0 0 with _ | ⟨m, d⟩
  · simp [wordRes]
  · by_cases hd : d = 0 ∧ 0 < m
    · obtain ⟨rfl, hm⟩ := hd
      simp [wordRes, hm]; omega
    · have : wordRes 0 (some (m, d)) = -1 := by simp only [wordRes]; rw [if_neg hd]
      rw [this]
      simp
      omega

set_option maxHeartbeats 4000000 in
theorem refPath_any (s : ByteArray) (w : World) (hs : s.size ≤ 4096) :
    Calls Tryz.prog 41 #[.string s] w fun e w' => e = .returned (.bool (pathB s)) ∧ w = w' := by
  have HI : Hid (((s.data.toList.drop 0).contains 43) = s.data.toList.contains 43) := Lib.hid (by rw [List.drop_zero])
  go_enter Tryz.func41, Tryz.ntmps41
  go_wp2_with fail
  go_loop [3] (fun iv => ∃ k : Nat, iv = .int .i64 k ∧ k ≤ s.size ∧ Hid (((s.data.toList.drop k).contains 43) = s.data.toList.contains 43)) (fun iv => s.size - (intOf iv).toNat)
  case atStart => exact ⟨0, rfl, by omega, HI⟩
  case round =>
    obtain ⟨k, rfl, hk1, H⟩ := hrel
    clear HI
    by_cases hk : k < s.size
    · have HD := Lib.hid (drop_cons s k hk)
      go_wp2
      · have h : _ = _ := ‹(_ == _) = true›
        go_ret
        have h2 : (s[k] == (43 : UInt8)) = true := by rw [u8bI]; exact h
        refine ⟨ret_bool ?_, rfl⟩
        have e := H.out
        rw [HD.out, List.contains_cons] at e
        have h3 : ((43 : UInt8) == s[k]) = true := by simp at h2 ⊢; exact h2.symm
        rw [h3, Bool.true_or] at e
        unfold pathB
        rw [← e]; simp
      · have h : _ = _ := ‹(_ == _) = false›
        go_round
        case rel =>
          refine ⟨k + 1, by go_num, by omega, ?_⟩
          show _ = _
          have h2 : (s[k] == (43 : UInt8)) = false := by rw [u8bI]; exact h
          have h3 : ((43 : UInt8) == s[k]) = false := by simp at h2 ⊢; exact fun e => h2 e.symm
          rw [← H.out, HD.out, List.contains_cons, h3, Bool.false_or]
        case measure => simp [intOf]; omega
    · have hc : Hid (s.data.toList.contains 43 = false) := Lib.hid (by rw [← H.out, drop_end s k hk]; rfl)
      have HC := fun w => refWord_any s 0 w (by omega) (by omega)
      have HC' := Lib.hid HC; clear HC
      go_wp2_with (go_at_call 36; refine (HC'.out _).mono ?_; rintro e w' ⟨rfl, rfl⟩)
      all_goals
        go_ret
        refine ⟨ret_bool ?_, rfl⟩
        rw [pathB_eq hc.out, Bool.eq_iff_iff]
        go_light
        simp [*]

set_option maxHeartbeats 4000000 in
theorem path_any (s : ByteArray) (w : World) (hs : s.size ≤ 4096) :
    Calls Tryz.prog 55 #[.string s] w fun e w' => e = .returned (.bool (pathB s)) ∧ Below w.heap.size w w' := by
  have HC := fun (w1 : World) (h : Hx w1 w.heap.size [.string s, .int .i64 0] 62) => word_any s w.heap.size 0 [] 62 w1 (by omega) (by omega) h
  rw [List.drop_zero] at HC
  have HC' := Lib.hid HC; clear HC
  obtain ⟨W, HW⟩ : ∃ W, Hid (wEnd s.data.toList 0 0 = W) := ⟨_, Lib.hid rfl⟩
  rw [HW.out] at HC'
  go_enter Tryz.func55, Tryz.ntmps55
  go_wp2_with fail
  refine (HC'.out _ (by have hb0 := (Hx.new w #[.string s, .int .i64 0] 62); apply Hx.conv; (case h => (repeat first | with_reducible exact hb0 | with_reducible apply Hx.drewN | with_reducible apply Hx.drew | with_reducible apply Hx.set | with_reducible exact Hx.new _ _ _ | (with_reducible apply Hx.new'; (case hl => rfl); (case hb => (first | omega | (simp; done) | (simp; omega)))) | with_reducible apply Hx.alloc | (with_reducible apply Hx.other; (case hne => (first | omega | (simp; done) | (simp; omega)))))); (case e => (first | rfl | (simp; done) | (simp; omega))))).mono ?_
  rcases W with _ | ⟨m, d⟩
  · rintro e w1 ⟨k', hg, hb1, hle, rfl⟩
    have hlt := hb1.lt
    go_wp2_with fail
    go_ret
    refine ⟨ret_bool ?_, ?_⟩
    · unfold pathB; rw [HW.out]; rfl
    · have HB := Below.grown (Below.alloc (Below.refl w.heap.size w) (Nat.le_refl _) (.cells #[.string s, .int .i64 0] 62)) hg (by simp) (fun c e => by cases e; exact Nat.le_refl _)
      exact (by have hb0 := (HB); (repeat first | with_reducible exact hb0 | with_reducible refine BelowN ?_ _ | with_reducible refine Below.drew ?_ | (with_reducible refine Below.alloc ?_ ?_ _; rotate_left; focus (first | omega | (simp; done) | (simp; omega))) | (with_reducible refine Below.setCell ?_ ?_ _; rotate_left; focus (first | omega | (simp; done) | (simp; omega)))))
  · rintro e w1 ⟨k', hg, hb1, rfl, rfl⟩
    have HB := Below.grown (Below.alloc (Below.refl w.heap.size w) (Nat.le_refl _) (.cells #[.string s, .int .i64 0] 62)) hg (by simp) (fun c e => by cases e; exact Nat.le_refl _)
    have hlt := hb1.lt
    have c1 : w1.cell? ⟨w.heap.size, 1, none⟩ = some (.int .i64 k') := hb1.cell 1
    rcases hk : (d == 0 && decide (0 < k')) with _ | _
    · have HF : Hid (pathB s = false) := Lib.hid (by unfold pathB; rw [HW.out]; simp only [hk, Bool.false_and])
      have hk' := Lib.hid hk; clear hk
      go_wp2_with fail
      go_ret
      exact ⟨ret_bool HF.out.symm, (by have hb0 := (HB); (repeat first | with_reducible exact hb0 | with_reducible refine BelowN ?_ _ | with_reducible refine Below.drew ?_ | (with_reducible refine Below.alloc ?_ ?_ _; rotate_left; focus (first | omega | (simp; done) | (simp; omega))) | (with_reducible refine Below.setCell ?_ ?_ _; rotate_left; focus (first | omega | (simp; done) | (simp; omega)))))⟩
    · rcases hz : ((k' : Int) == (s.size : Int)) with _ | _
      · have HF : Hid (pathB s = false) := Lib.hid (by unfold pathB; rw [HW.out]; simp only [hk]; simp at hz; simp; intro; omega)
        go_wp2_with fail
        go_ret
        exact ⟨ret_bool HF.out.symm, (by have hb0 := (HB); (repeat first | with_reducible exact hb0 | with_reducible refine BelowN ?_ _ | with_reducible refine Below.drew ?_ | (with_reducible refine Below.alloc ?_ ?_ _; rotate_left; focus (first | omega | (simp; done) | (simp; omega))) | (with_reducible refine Below.setCell ?_ ?_ _; rotate_left; focus (first | omega | (simp; done) | (simp; omega)))))⟩
      · have hz2 : k' = s.size := by simp only [beq_iff_eq] at hz; exact Int.ofNat_inj.1 hz
        have HF : Hid (pathB s = !(decide (0 ≤ Lib.indexByte s.data.toList 43))) := Lib.hid (by unfold pathB; rw [HW.out, idxB]; simp only [hk]; simp [hz2])
        clear hz2
        go_wp2_with (go_at_call 47; refine (Tryz.strings_Contains_one s 43 _).mono ?_; rintro e w' ⟨rfl, rfl⟩)
        go_ret
        exact ⟨ret_bool HF.out.symm, (by have hb0 := (HB); (repeat first | with_reducible exact hb0 | with_reducible refine BelowN ?_ _ | with_reducible refine Below.drew ?_ | (with_reducible refine Below.alloc ?_ ?_ _; rotate_left; focus (first | omega | (simp; done) | (simp; omega))) | (with_reducible refine Below.setCell ?_ ?_ _; rotate_left; focus (first | omega | (simp; done) | (simp; omega)))))⟩
end Go.Proofs.YtiakgjijlhfneaaGreatDoor
