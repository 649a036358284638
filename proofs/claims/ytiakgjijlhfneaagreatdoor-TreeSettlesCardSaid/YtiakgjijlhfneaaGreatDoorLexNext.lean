/-
  The walk of lex's reader: the next word.
-/
import Derived.Test.YtiakgjijlhfneaaGreatDoorLexStr
import Derived.Test.YtiakgjijlhfneaaGreatDoorTokRow
import Derived.Deep.RegionLawGrows
namespace Go.Proofs.YtiakgjijlhfneaaGreatDoor
open Go.RowKit

/-- what the call of next leaves -/
def NextPost (s : ByteArray) (b : Nat) (ts : List Tok) (w : World) : Option (Nat × List Tok) → Ending → World → Prop
  | some (k', us), e, w' => e = .returned (.bool true) ∧ Below b w w' ∧ ∃ lv' : Value, Hx w' b [.string s, .int .i64 k', lv'] 64 ∧ TokRow 66 w' (b + 1) lv' (ts ++ us)
  | none, e, w' => e = .returned (.bool false) ∧ Below b w w'

theorem info_tok : (Tryz.prog.info? 66).map (fun i => (i.zero, i.size, i.bytes)) = some (some (.agg #[.int .i64 0, .string ⟨#[]⟩]), 2, 24) := by kernel_rfl

theorem rd {w : World} {b : Nat} {s : ByteArray} {n : Int} {lv : Value} {T : TypeId} (h : Hx w b [.string s, .int .i64 n, lv] T) :
    w.cell? ⟨b, 0, none⟩ = some (.string s) ∧ w.cell? ⟨b, 1, none⟩ = some (.int .i64 n) ∧ w.cell? ⟨b, 2, none⟩ = some lv ∧ w.frozen? ⟨b, 1, none⟩ = false ∧ w.frozen? ⟨b, 2, none⟩ = false :=
  ⟨h.cell 0, h.cell 1, h.cell 2, h.free 1, h.free 2⟩

set_option maxHeartbeats 4000000 in
theorem next_sign (s : ByteArray) (b k : Nat) (lv : Value) (ts : List Tok) (w : World) (hs : s.size ≤ 4611686018427387904) (hk : k < s.size) (hn : ts.length ≤ 100000)
    (hb : Hx w b [.string s, .int .i64 k, lv] 64) (hrow : TokRow 66 w (b + 1) lv ts) (kd : Nat) (hc : (kd = 3 ∧ s[k] = 40) ∨ (kd = 4 ∧ s[k] = 41) ∨ (kd = 5 ∧ s[k] = 44)) :
    Calls Tryz.prog 30 #[.pointer (some ⟨b, 0, none⟩)] w (NextPost s b ts w (some (k + 1, [(kd, noText)]))) := by
  obtain ⟨hc0, hc1, hc2, hf1, hf2⟩ := rd hb
  have hlt := hb.lt
  have hne : b ≠ w.heap.size := by omega
  have hlb : some b ≠ lv.ownBlock := fun e => by have := hrow.lt b e.symm; omega
  have I0 : ∀ w : World, (Instr.index 90 (.agg #[.int .u8 0, .int .u8 0, .int .u8 0, .int .u8 40, .int .u8 41, .int .u8 44]) (.int .i64 0)).run Tryz.prog w = .ok (.int .u8 0) w := fun _ => by kernel_rfl
  have I1 : ∀ w : World, (Instr.index 90 (.agg #[.int .u8 0, .int .u8 0, .int .u8 0, .int .u8 40, .int .u8 41, .int .u8 44]) (.int .i64 1)).run Tryz.prog w = .ok (.int .u8 0) w := fun _ => by kernel_rfl
  have I2 : ∀ w : World, (Instr.index 90 (.agg #[.int .u8 0, .int .u8 0, .int .u8 0, .int .u8 40, .int .u8 41, .int .u8 44]) (.int .i64 2)).run Tryz.prog w = .ok (.int .u8 0) w := fun _ => by kernel_rfl
  have I3 : ∀ w : World, (Instr.index 90 (.agg #[.int .u8 0, .int .u8 0, .int .u8 0, .int .u8 40, .int .u8 41, .int .u8 44]) (.int .i64 3)).run Tryz.prog w = .ok (.int .u8 40) w := fun _ => by kernel_rfl
  have I4 : ∀ w : World, (Instr.index 90 (.agg #[.int .u8 0, .int .u8 0, .int .u8 0, .int .u8 40, .int .u8 41, .int .u8 44]) (.int .i64 4)).run Tryz.prog w = .ok (.int .u8 41) w := fun _ => by kernel_rfl
  have I5 : ∀ w : World, (Instr.index 90 (.agg #[.int .u8 0, .int .u8 0, .int .u8 0, .int .u8 40, .int .u8 41, .int .u8 44]) (.int .i64 5)).run Tryz.prog w = .ok (.int .u8 44) w := fun _ => by kernel_rfl
  have hlow : ∀ c, lv.ownBlock = some c → b ≤ c := fun c e => by have := hrow.lt c e; omega
  rcases hc with ⟨rfl, hc⟩ | ⟨rfl, hc⟩ | ⟨rfl, hc⟩
  · have hcc : (s[k].toNat : Int) = 40 := by rw [hc]; rfl
    go_enter Tryz.func30, Tryz.ntmps30
    go_wp2_with fail
    go_quiet (fail)
    go_wp2_with fail
    refine wp_loop_rounds 7 ?_
    iterate 3 (rw [rounds_succ]; go_wp2_with fail)
    rw [rounds_succ]
    go_wp2_with (at_builtin; refine wpList_append_tok rfl _ _ 37 66 rfl Tryz.underlying37 info_tok (b + 1) lv ts rfl _ (3, noText) rfl ?_ ?_; rotate_left; exact ⟨(by have hb0 := (hrow); (repeat first | with_reducible exact hb0 | with_reducible apply TokRow.drewN | with_reducible apply TokRow.drew | with_reducible apply TokRow.alloc | (with_reducible apply TokRow.set; (case hne => (first | assumption | omega | (simp; done) | (simp; omega)))))), (by first | exact Hx.go hb | exact Hx.go2), by simp; omega, hn⟩; intro g' cap' w1 hown' hgrow; have hb1 : Hx w1 b [.string s, .int .i64 k, lv] 64 := Hx.kept (by first | exact Hx.go hb | exact Hx.go2) hgrow hlb; have HB1 : Below b w w1 := Below.grown (by have hb0 := (Below.refl b w); (repeat first | with_reducible exact hb0 | with_reducible refine BelowN ?_ _ | with_reducible refine Below.drew ?_ | (with_reducible refine Below.alloc ?_ ?_ _; rotate_left; focus (first | omega | (simp; done) | (simp; omega))) | (with_reducible refine Below.setCell ?_ ?_ _; rotate_left; focus (first | omega | (simp; done) | (simp; omega))))) hgrow (by simp; omega) hlow; obtain ⟨gc0, gc1, gc2, gf1, gf2⟩ := rd hb1)
    go_ret
    have hgb : Value.ownBlock (.slice (some ⟨g', 0, none⟩) (ts.length + 1) cap') ≠ some b := fun e => by have := hown'.lt b e; omega
    exact ⟨rfl, (by have hb0 := (HB1); (repeat first | with_reducible exact hb0 | with_reducible refine BelowN ?_ _ | with_reducible refine Below.drew ?_ | (with_reducible refine Below.alloc ?_ ?_ _; rotate_left; focus (first | omega | (simp; done) | (simp; omega))) | (with_reducible refine Below.setCell ?_ ?_ _; rotate_left; focus (first | omega | (simp; done) | (simp; omega))))), _, (by first | exact Hx.go hb1 | exact Hx.go2), (by have hb0 := (hown'); (repeat first | with_reducible exact hb0 | with_reducible apply TokRow.drewN | with_reducible apply TokRow.drew | with_reducible apply TokRow.alloc | (with_reducible apply TokRow.set; (case hne => (first | assumption | omega | (simp; done) | (simp; omega))))))⟩
  · have hcc : (s[k].toNat : Int) = 41 := by rw [hc]; rfl
    go_enter Tryz.func30, Tryz.ntmps30
    go_wp2_with fail
    go_quiet (fail)
    go_wp2_with fail
    refine wp_loop_rounds 7 ?_
    iterate 4 (rw [rounds_succ]; go_wp2_with fail)
    rw [rounds_succ]
    go_wp2_with (at_builtin; refine wpList_append_tok rfl _ _ 37 66 rfl Tryz.underlying37 info_tok (b + 1) lv ts rfl _ (4, noText) rfl ?_ ?_; rotate_left; exact ⟨(by have hb0 := (hrow); (repeat first | with_reducible exact hb0 | with_reducible apply TokRow.drewN | with_reducible apply TokRow.drew | with_reducible apply TokRow.alloc | (with_reducible apply TokRow.set; (case hne => (first | assumption | omega | (simp; done) | (simp; omega)))))), (by first | exact Hx.go hb | exact Hx.go2), by simp; omega, hn⟩; intro g' cap' w1 hown' hgrow; have hb1 : Hx w1 b [.string s, .int .i64 k, lv] 64 := Hx.kept (by first | exact Hx.go hb | exact Hx.go2) hgrow hlb; have HB1 : Below b w w1 := Below.grown (by have hb0 := (Below.refl b w); (repeat first | with_reducible exact hb0 | with_reducible refine BelowN ?_ _ | with_reducible refine Below.drew ?_ | (with_reducible refine Below.alloc ?_ ?_ _; rotate_left; focus (first | omega | (simp; done) | (simp; omega))) | (with_reducible refine Below.setCell ?_ ?_ _; rotate_left; focus (first | omega | (simp; done) | (simp; omega))))) hgrow (by simp; omega) hlow; obtain ⟨gc0, gc1, gc2, gf1, gf2⟩ := rd hb1)
    go_ret
    have hgb : Value.ownBlock (.slice (some ⟨g', 0, none⟩) (ts.length + 1) cap') ≠ some b := fun e => by have := hown'.lt b e; omega
    exact ⟨rfl, (by have hb0 := (HB1); (repeat first | with_reducible exact hb0 | with_reducible refine BelowN ?_ _ | with_reducible refine Below.drew ?_ | (with_reducible refine Below.alloc ?_ ?_ _; rotate_left; focus (first | omega | (simp; done) | (simp; omega))) | (with_reducible refine Below.setCell ?_ ?_ _; rotate_left; focus (first | omega | (simp; done) | (simp; omega))))), _, (by first | exact Hx.go hb1 | exact Hx.go2), (by have hb0 := (hown'); (repeat first | with_reducible exact hb0 | with_reducible apply TokRow.drewN | with_reducible apply TokRow.drew | with_reducible apply TokRow.alloc | (with_reducible apply TokRow.set; (case hne => (first | assumption | omega | (simp; done) | (simp; omega))))))⟩
  · have hcc : (s[k].toNat : Int) = 44 := by rw [hc]; rfl
    go_enter Tryz.func30, Tryz.ntmps30
    go_wp2_with fail
    go_quiet (fail)
    go_wp2_with fail
    refine wp_loop_rounds 7 ?_
    iterate 5 (rw [rounds_succ]; go_wp2_with fail)
    rw [rounds_succ]
    go_wp2_with (at_builtin; refine wpList_append_tok rfl _ _ 37 66 rfl Tryz.underlying37 info_tok (b + 1) lv ts rfl _ (5, noText) rfl ?_ ?_; rotate_left; exact ⟨(by have hb0 := (hrow); (repeat first | with_reducible exact hb0 | with_reducible apply TokRow.drewN | with_reducible apply TokRow.drew | with_reducible apply TokRow.alloc | (with_reducible apply TokRow.set; (case hne => (first | assumption | omega | (simp; done) | (simp; omega)))))), (by first | exact Hx.go hb | exact Hx.go2), by simp; omega, hn⟩; intro g' cap' w1 hown' hgrow; have hb1 : Hx w1 b [.string s, .int .i64 k, lv] 64 := Hx.kept (by first | exact Hx.go hb | exact Hx.go2) hgrow hlb; have HB1 : Below b w w1 := Below.grown (by have hb0 := (Below.refl b w); (repeat first | with_reducible exact hb0 | with_reducible refine BelowN ?_ _ | with_reducible refine Below.drew ?_ | (with_reducible refine Below.alloc ?_ ?_ _; rotate_left; focus (first | omega | (simp; done) | (simp; omega))) | (with_reducible refine Below.setCell ?_ ?_ _; rotate_left; focus (first | omega | (simp; done) | (simp; omega))))) hgrow (by simp; omega) hlow; obtain ⟨gc0, gc1, gc2, gf1, gf2⟩ := rd hb1)
    go_ret
    have hgb : Value.ownBlock (.slice (some ⟨g', 0, none⟩) (ts.length + 1) cap') ≠ some b := fun e => by have := hown'.lt b e; omega
    exact ⟨rfl, (by have hb0 := (HB1); (repeat first | with_reducible exact hb0 | with_reducible refine BelowN ?_ _ | with_reducible refine Below.drew ?_ | (with_reducible refine Below.alloc ?_ ?_ _; rotate_left; focus (first | omega | (simp; done) | (simp; omega))) | (with_reducible refine Below.setCell ?_ ?_ _; rotate_left; focus (first | omega | (simp; done) | (simp; omega))))), _, (by first | exact Hx.go hb1 | exact Hx.go2), (by have hb0 := (hown'); (repeat first | with_reducible exact hb0 | with_reducible apply TokRow.drewN | with_reducible apply TokRow.drew | with_reducible apply TokRow.alloc | (with_reducible apply TokRow.set; (case hne => (first | assumption | omega | (simp; done) | (simp; omega))))))⟩
end Go.Proofs.YtiakgjijlhfneaaGreatDoor
