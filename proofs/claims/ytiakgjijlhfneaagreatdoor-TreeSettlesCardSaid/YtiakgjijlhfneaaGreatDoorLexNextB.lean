/-
  The walk of lex's reader: a blank; what stands between two marks; a word.
-/
import Derived.Test.YtiakgjijlhfneaaGreatDoorLexNext
namespace Go.Proofs.YtiakgjijlhfneaaGreatDoor
open Go.RowKit

set_option maxHeartbeats 4000000 in
theorem next_blank (s : ByteArray) (b k : Nat) (lv : Value) (ts : List Tok) (w : World) (hs : s.size ≤ 4611686018427387904) (hk : k < s.size)
    (hb : Hx w b [.string s, .int .i64 k, lv] 64) (hrow : TokRow 66 w (b + 1) lv ts) (hc : s[k] = 32 ∨ s[k] = 9) :
    Calls Tryz.prog 30 #[.pointer (some ⟨b, 0, none⟩)] w (NextPost s b ts w (some (k + 1, []))) := by
  obtain ⟨hc0, hc1, hc2, hf1, hf2⟩ := rd hb
  have hlt := hb.lt
  have hne : b ≠ w.heap.size := by omega
  have hlb : some b ≠ lv.ownBlock := fun e => by have := hrow.lt b e.symm; omega
  have I0 : ∀ w : World, (Instr.index 90 (.agg #[.int .u8 0, .int .u8 0, .int .u8 0, .int .u8 40, .int .u8 41, .int .u8 44]) (.int .i64 0)).run Tryz.prog w = .ok (.int .u8 0) w := fun _ => by kernel_rfl
  have I1 : ∀ w : World, (Instr.index 90 (.agg #[.int .u8 0, .int .u8 0, .int .u8 0, .int .u8 40, .int .u8 41, .int .u8 44]) (.int .i64 1)).run Tryz.prog w = .ok (.int .u8 0) w := fun _ => by kernel_rfl
  have I2 : ∀ w : World, (Instr.index 90 (.agg #[.int .u8 0, .int .u8 0, .int .u8 0, .int .u8 40, .int .u8 41, .int .u8 44]) (.int .i64 2)).run Tryz.prog w = .ok (.int .u8 0) w := fun _ => by kernel_rfl
  have I3 : ∀ w : World, (Instr.index 90 (.agg #[.int .u8 0, .int .u8 0, .int .u8 0, .int .u8 40, .int .u8 41, .int .u8 44]) (.int .i64 3)).run Tryz.prog w = .ok (.int .u8 40) w := fun _ => by kernel_rfl
  have I4 : ∀ w : World, (Instr.index 90 (.agg #[.int .u8 0, .int .u8 0, .int .u8 0, .int .u8 40, .int .u8 41, .int .u8 44]) (.int .i64 4)).run Tryz.prog w = .ok (.int .u8 41) w := fun _ => by kernel_rfl
  have I5 : ∀ w : World, (Instr.index 90 (.agg #[.int .u8 0, .int .u8 0, .int .u8 0, .int .u8 40, .int .u8 41, .int .u8 44]) (.int .i64 5)).run Tryz.prog w = .ok (.int .u8 44) w := fun _ => by kernel_rfl
  have hlb' : lv.ownBlock ≠ some b := fun e => hlb e.symm
  rcases hc with hc | hc
  · have hcc : (s[k].toNat : Int) = 32 := by rw [hc]; rfl
    go_enter Tryz.func30, Tryz.ntmps30
    go_wp2_with fail
    go_quiet (fail)
    go_wp2_with fail
    refine wp_loop_rounds 7 ?_
    iterate 7 (rw [rounds_succ]; go_wp2_with fail)
    go_ret
    exact ⟨rfl, (by have hb0 := (Below.refl b w); (repeat first | with_reducible exact hb0 | with_reducible refine BelowN ?_ _ | with_reducible refine Below.drew ?_ | (with_reducible refine Below.alloc ?_ ?_ _; rotate_left; focus (first | omega | (simp; done) | (simp; omega))) | (with_reducible refine Below.setCell ?_ ?_ _; rotate_left; focus (first | omega | (simp; done) | (simp; omega))))), lv, (by first | exact Hx.go hb | exact Hx.go2), by rw [List.append_nil]; exact (by have hb0 := (hrow); (repeat first | with_reducible exact hb0 | with_reducible apply TokRow.drewN | with_reducible apply TokRow.drew | with_reducible apply TokRow.alloc | (with_reducible apply TokRow.set; (case hne => (first | assumption | omega | (simp; done) | (simp; omega))))))⟩
  · have hcc : (s[k].toNat : Int) = 9 := by rw [hc]; rfl
    go_enter Tryz.func30, Tryz.ntmps30
    go_wp2_with fail
    go_quiet (fail)
    go_wp2_with fail
    refine wp_loop_rounds 7 ?_
    iterate 7 (rw [rounds_succ]; go_wp2_with fail)
    go_ret
    exact ⟨rfl, (by have hb0 := (Below.refl b w); (repeat first | with_reducible exact hb0 | with_reducible refine BelowN ?_ _ | with_reducible refine Below.drew ?_ | (with_reducible refine Below.alloc ?_ ?_ _; rotate_left; focus (first | omega | (simp; done) | (simp; omega))) | (with_reducible refine Below.setCell ?_ ?_ _; rotate_left; focus (first | omega | (simp; done) | (simp; omega))))), lv, (by first | exact Hx.go hb | exact Hx.go2), by rw [List.append_nil]; exact (by have hb0 := (hrow); (repeat first | with_reducible exact hb0 | with_reducible apply TokRow.drewN | with_reducible apply TokRow.drew | with_reducible apply TokRow.alloc | (with_reducible apply TokRow.set; (case hne => (first | assumption | omega | (simp; done) | (simp; omega))))))⟩
end Go.Proofs.YtiakgjijlhfneaaGreatDoor
