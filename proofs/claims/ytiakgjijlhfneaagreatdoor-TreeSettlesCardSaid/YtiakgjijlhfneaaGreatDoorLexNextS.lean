/-
  The walk of lex's reader: a blank; what stands between two marks; a word.
-/
import Derived.Test.YtiakgjijlhfneaaGreatDoorLexNext
import Derived.Deep.RegionLaw
namespace Go.Proofs.YtiakgjijlhfneaaGreatDoor
open Go.RowKit

set_option maxHeartbeats 4000000 in
theorem next_str (s : ByteArray) (b k : Nat) (lv : Value) (ts : List Tok) (w : World) (hs : s.size ≤ 4611686018427387904) (hk : k < s.size) (hn : ts.length ≤ 100000)
    (hb : Hx w b [.string s, .int .i64 k, lv] 64) (hrow : TokRow 66 w (b + 1) lv ts) (hc : s[k] = 34 ∨ s[k] = 39) :
    Calls Tryz.prog 30 #[.pointer (some ⟨b, 0, none⟩)] w (NextPost s b ts w (lexStep s k s[k])) := by
  obtain ⟨hc0, hc1, hc2, hf1, hf2⟩ := rd hb
  have hlt := hb.lt
  have hne : b ≠ w.heap.size := by omega
  have hlb : some b ≠ lv.ownBlock := fun e => by have := hrow.lt b e.symm; omega
  have I0 : ∀ w : World, (Instr.index 90 (.agg #[.int .u8 0, .int .u8 0, .int .u8 0, .int .u8 40, .int .u8 41, .int .u8 44]) (.int .i64 0)).run Tryz.prog w = .ok (.int .u8 0) w := fun _ => by kernel_rfl
  have I1 : ∀ w : World, (Instr.index 90 (.agg #[.int .u8 0, .int .u8 0, .int .u8 0, .int .u8 40, .int .u8 41, .int .u8 44]) (.int .i64 1)).run Tryz.prog w = .ok (.int .u8 0) w := fun _ => by kernel_rfl
  have I2 : ∀ w : World, (Instr.index 90 (.agg #[.int .u8 0, .int .u8 0, .int .u8 0, .int .u8 40, .int .u8 41, .int .u8 44]) (.int .i64 2)).run Tryz.prog w = .ok (.int .u8 0) w := fun _ => by kernel_rfl
  have I3 : ∀ w : World, (Instr.index 90 (.agg #[.int .u8 0, .int .u8 0, .int .u8 0, .int .u8 40, .int .u8 41, .int .u8 44]) (.int .i64 3)).run Tryz.prog w = .ok (.int .u8 40) w := fun _ => by kernel_rfl
  have I4 : ∀ w : World, (Instr.index 90 (.agg #[.int .u8 0, .int .u8 0, .int .u8 0, .int .u8 40, .int .u8 41, .int .u8 44]) (.int .i64 4)).run Tryz.prog w = .ok (.int .u8 41) w := fun _ => by kernel_rfl
  have I5 : ∀ w : World, (Instr.index 90 (.agg #[.int .u8 0, .int .u8 0, .int .u8 0, .int .u8 40, .int .u8 41, .int .u8 44]) (.int .i64 5)).run Tryz.prog w = .ok (.int .u8 44) w := fun _ => by kernel_rfl
  have hlow : ∀ c, lv.ownBlock = some c → b ≤ c := fun c e => by have := hrow.lt c e; omega
  have hlx : lv.ownBlock ≠ some (w.heap.size + 1) := fun e => by have := hrow.lt _ e; omega
  have hlb' : lv.ownBlock ≠ some b := fun e => hlb e.symm
  have hc' := hc
  obtain ⟨n, HN⟩ : ∃ n, Hid (Lib.indexByte (s.data.toList.drop (k + 1)) s[k] = n) := ⟨_, Lib.hid rfl⟩
  have HS := fun (w : World) (h : Hx w b [.string s, .int .i64 k, lv] 64) => HN.out ▸ str_any s b k [lv] 64 w hs hk h
  rcases hc with hc | hc
  · have hcc : (s[k].toNat : Int) = 34 := by rw [hc]; rfl
    go_enter Tryz.func30, Tryz.ntmps30
    go_wp2_with fail
    go_quiet (fail)
    go_wp2_with fail
    refine wp_loop_rounds 7 ?_
    iterate 6 (rw [rounds_succ]; go_wp2_with fail)
    rw [rounds_succ]
    go_wp2_with (go_at_call 50; refine (HS _ (by first | exact Hx.go hb | exact Hx.go2)).mono ?_; rintro e w1 ⟨hg, hres⟩; have hx1 : Hx w1 (w.heap.size + 1) [.int .i64 0, .string ⟨#[]⟩] 66 := Hx.kept (by first | exact Hx.go hb | exact Hx.go2) hg (by simp; omega); have hrow1 : TokRow 66 w1 (b + 1) lv ts := TokRow.kept (by have hb0 := (hrow); (repeat first | with_reducible exact hb0 | with_reducible apply TokRow.drewN | with_reducible apply TokRow.drew | with_reducible apply TokRow.alloc | (with_reducible apply TokRow.set; (case hne => (first | assumption | omega | (simp; done) | (simp; omega)))))) hg (Or.inr (fun e => hlb e.symm)); have HB1 : Below b w w1 := Below.grown (by have hb0 := (Below.refl b w); (repeat first | with_reducible exact hb0 | with_reducible refine BelowN ?_ _ | with_reducible refine Below.drew ?_ | (with_reducible refine Below.alloc ?_ ?_ _; rotate_left; focus (first | omega | (simp; done) | (simp; omega))) | (with_reducible refine Below.setCell ?_ ?_ _; rotate_left; focus (first | omega | (simp; done) | (simp; omega))))) hg (by simp; omega) (fun c e => by cases e; omega); have hsz1 := hx1.lt; have x0 := hx1.cell 0; have x1 := hx1.cell 1; have x2 := hx1.free 0; have x3 := hx1.free 1; simp only [List.getElem?_cons_zero, List.getElem?_cons_succ] at x0 x1; rcases hres with ⟨hneg, rfl, hb1⟩ | ⟨hpos, rfl, hb1⟩)
    · have hb3 : Hx ((w1.setCell ⟨w.heap.size + 1, 0, none⟩ (.int .i64 0)).setCell ⟨w.heap.size + 1, 1, none⟩ (.string ⟨#[]⟩)) b [.string s, .int .i64 k, lv] 64 := (by first | exact Hx.go hb1 | exact Hx.go2)
      have hx3 : Hx ((w1.setCell ⟨w.heap.size + 1, 0, none⟩ (.int .i64 0)).setCell ⟨w.heap.size + 1, 1, none⟩ (.string ⟨#[]⟩)) (w.heap.size + 1) [.int .i64 0, .string ⟨#[]⟩] 66 := (by first | exact Hx.go hx1 | exact Hx.go2)
      have hr3 : TokRow 66 ((w1.setCell ⟨w.heap.size + 1, 0, none⟩ (.int .i64 0)).setCell ⟨w.heap.size + 1, 1, none⟩ (.string ⟨#[]⟩)) (b + 1) lv ts := (by have hb0 := (hrow1); (repeat first | with_reducible exact hb0 | with_reducible apply TokRow.drewN | with_reducible apply TokRow.drew | with_reducible apply TokRow.alloc | (with_reducible apply TokRow.set; (case hne => (first | assumption | omega | (simp; done) | (simp; omega))))))
      have HB3 : Below b w ((w1.setCell ⟨w.heap.size + 1, 0, none⟩ (.int .i64 0)).setCell ⟨w.heap.size + 1, 1, none⟩ (.string ⟨#[]⟩)) := (by have hb0 := (HB1); (repeat first | with_reducible exact hb0 | with_reducible refine BelowN ?_ _ | with_reducible refine Below.drew ?_ | (with_reducible refine Below.alloc ?_ ?_ _; rotate_left; focus (first | omega | (simp; done) | (simp; omega))) | (with_reducible refine Below.setCell ?_ ?_ _; rotate_left; focus (first | omega | (simp; done) | (simp; omega)))))
      generalize ((w1.setCell ⟨w.heap.size + 1, 0, none⟩ (.int .i64 0)).setCell ⟨w.heap.size + 1, 1, none⟩ (.string ⟨#[]⟩)) = w3 at hb3 hx3 hr3 HB3 ⊢
      clear hb1 hx1 hrow1 HB1 x0 x1 x2 x3 hsz1
      obtain ⟨gb0, gb1, gb2, gg1, gg2⟩ := rd hb3
      have hsz3 := hx3.lt
      have hbz3 := hb3.lt
      have x0 : w3.cell? ⟨w.heap.size + 1, 0, none⟩ = some (.int .i64 0) := hx3.cell 0
      have x1 : w3.cell? ⟨w.heap.size + 1, 1, none⟩ = some (.string ⟨#[]⟩) := hx3.cell 1
      go_region_law ((refine step_append_tok rfl _ _ 37 66 rfl Tryz.underlying37 info_tok (b + 1) lv ts rfl _ (0, ⟨#[]⟩) rfl ?_ ?_; rotate_left; exact ⟨(by have hb0 := (hr3); (repeat first | with_reducible exact hb0 | with_reducible apply TokRow.drewN | with_reducible apply TokRow.drew | with_reducible apply TokRow.alloc | (with_reducible apply TokRow.set; (case hne => (first | assumption | omega | (simp; done) | (simp; omega)))))), (by first | exact Hx.go hb3 | exact Hx.go2), by simp; omega, hn⟩; intro g' cap' w2 hown' hgrow; have hb2 : Hx w2 b [.string s, .int .i64 k, lv] 64 := Hx.kept (by first | exact Hx.go hb3 | exact Hx.go2) hgrow hlb; have HB2 : Below b w w2 := Below.grown (by have hb0 := (HB3); (repeat first | with_reducible exact hb0 | with_reducible refine BelowN ?_ _ | with_reducible refine Below.drew ?_ | (with_reducible refine Below.alloc ?_ ?_ _; rotate_left; focus (first | omega | (simp; done) | (simp; omega))) | (with_reducible refine Below.setCell ?_ ?_ _; rotate_left; focus (first | omega | (simp; done) | (simp; omega))))) hgrow (by simp; omega) hlow; obtain ⟨gc0, gc1, gc2, gf1, gf2⟩ := rd hb2))
      all_goals
        go_wp2
        go_ret
        rw [lexStep_quote hc', HN.out, if_pos hneg]
        exact ⟨rfl, (by have hb0 := (HB2); (repeat first | with_reducible exact hb0 | with_reducible refine BelowN ?_ _ | with_reducible refine Below.drew ?_ | (with_reducible refine Below.alloc ?_ ?_ _; rotate_left; focus (first | omega | (simp; done) | (simp; omega))) | (with_reducible refine Below.setCell ?_ ?_ _; rotate_left; focus (first | omega | (simp; done) | (simp; omega)))))⟩
    · have hb3 : Hx ((w1.setCell ⟨w.heap.size + 1, 0, none⟩ (.int .i64 2)).setCell ⟨w.heap.size + 1, 1, none⟩ (.string (s.extract (k + 1) (k + 1 + n.toNat)))) b [.string s, .int .i64 ((k + 1 + n.toNat + 1 : Nat) : Int), lv] 64 := (by first | exact Hx.go hb1 | exact Hx.go2)
      have hx3 : Hx ((w1.setCell ⟨w.heap.size + 1, 0, none⟩ (.int .i64 2)).setCell ⟨w.heap.size + 1, 1, none⟩ (.string (s.extract (k + 1) (k + 1 + n.toNat)))) (w.heap.size + 1) [.int .i64 2, .string (s.extract (k + 1) (k + 1 + n.toNat))] 66 := (by first | exact Hx.go hx1 | exact Hx.go2)
      have hr3 : TokRow 66 ((w1.setCell ⟨w.heap.size + 1, 0, none⟩ (.int .i64 2)).setCell ⟨w.heap.size + 1, 1, none⟩ (.string (s.extract (k + 1) (k + 1 + n.toNat)))) (b + 1) lv ts := (by have hb0 := (hrow1); (repeat first | with_reducible exact hb0 | with_reducible apply TokRow.drewN | with_reducible apply TokRow.drew | with_reducible apply TokRow.alloc | (with_reducible apply TokRow.set; (case hne => (first | assumption | omega | (simp; done) | (simp; omega))))))
      have HB3 : Below b w ((w1.setCell ⟨w.heap.size + 1, 0, none⟩ (.int .i64 2)).setCell ⟨w.heap.size + 1, 1, none⟩ (.string (s.extract (k + 1) (k + 1 + n.toNat)))) := (by have hb0 := (HB1); (repeat first | with_reducible exact hb0 | with_reducible refine BelowN ?_ _ | with_reducible refine Below.drew ?_ | (with_reducible refine Below.alloc ?_ ?_ _; rotate_left; focus (first | omega | (simp; done) | (simp; omega))) | (with_reducible refine Below.setCell ?_ ?_ _; rotate_left; focus (first | omega | (simp; done) | (simp; omega)))))
      generalize ((w1.setCell ⟨w.heap.size + 1, 0, none⟩ (.int .i64 2)).setCell ⟨w.heap.size + 1, 1, none⟩ (.string (s.extract (k + 1) (k + 1 + n.toNat)))) = w3 at hb3 hx3 hr3 HB3 ⊢
      clear hb1 hx1 hrow1 HB1 x0 x1 x2 x3 hsz1
      obtain ⟨gb0, gb1, gb2, gg1, gg2⟩ := rd hb3
      have hsz3 := hx3.lt
      have hbz3 := hb3.lt
      have x0 : w3.cell? ⟨w.heap.size + 1, 0, none⟩ = some (.int .i64 2) := hx3.cell 0
      have x1 : w3.cell? ⟨w.heap.size + 1, 1, none⟩ = some (.string (s.extract (k + 1) (k + 1 + n.toNat))) := hx3.cell 1
      go_region_law ((refine step_append_tok rfl _ _ 37 66 rfl Tryz.underlying37 info_tok (b + 1) lv ts rfl _ (2, (s.extract (k + 1) (k + 1 + n.toNat))) rfl ?_ ?_; rotate_left; exact ⟨(by have hb0 := (hr3); (repeat first | with_reducible exact hb0 | with_reducible apply TokRow.drewN | with_reducible apply TokRow.drew | with_reducible apply TokRow.alloc | (with_reducible apply TokRow.set; (case hne => (first | assumption | omega | (simp; done) | (simp; omega)))))), (by first | exact Hx.go hb3 | exact Hx.go2), by simp; omega, hn⟩; intro g' cap' w2 hown' hgrow; have hb2 : Hx w2 b [.string s, .int .i64 ((k + 1 + n.toNat + 1 : Nat) : Int), lv] 64 := Hx.kept (by first | exact Hx.go hb3 | exact Hx.go2) hgrow hlb; have HB2 : Below b w w2 := Below.grown (by have hb0 := (HB3); (repeat first | with_reducible exact hb0 | with_reducible refine BelowN ?_ _ | with_reducible refine Below.drew ?_ | (with_reducible refine Below.alloc ?_ ?_ _; rotate_left; focus (first | omega | (simp; done) | (simp; omega))) | (with_reducible refine Below.setCell ?_ ?_ _; rotate_left; focus (first | omega | (simp; done) | (simp; omega))))) hgrow (by simp; omega) hlow; obtain ⟨gc0, gc1, gc2, gf1, gf2⟩ := rd hb2))
      all_goals
        go_wp2
        go_ret
        rw [lexStep_quote hc', HN.out, if_neg (by omega)]
        have hgb : Value.ownBlock (.slice (some ⟨g', 0, none⟩) (ts.length + 1) cap') ≠ some b := fun e => by have := hown'.lt b e; omega
        exact ⟨rfl, (by have hb0 := (HB2); (repeat first | with_reducible exact hb0 | with_reducible refine BelowN ?_ _ | with_reducible refine Below.drew ?_ | (with_reducible refine Below.alloc ?_ ?_ _; rotate_left; focus (first | omega | (simp; done) | (simp; omega))) | (with_reducible refine Below.setCell ?_ ?_ _; rotate_left; focus (first | omega | (simp; done) | (simp; omega))))), _, (by first | exact Hx.go hb2 | exact Hx.go2), (by have hb0 := (hown'); (repeat first | with_reducible exact hb0 | with_reducible apply TokRow.drewN | with_reducible apply TokRow.drew | with_reducible apply TokRow.alloc | (with_reducible apply TokRow.set; (case hne => (first | assumption | omega | (simp; done) | (simp; omega))))))⟩
  · have hcc : (s[k].toNat : Int) = 39 := by rw [hc]; rfl
    go_enter Tryz.func30, Tryz.ntmps30
    go_wp2_with fail
    go_quiet (fail)
    go_wp2_with fail
    refine wp_loop_rounds 7 ?_
    iterate 6 (rw [rounds_succ]; go_wp2_with fail)
    rw [rounds_succ]
    go_wp2_with (go_at_call 50; refine (HS _ (by first | exact Hx.go hb | exact Hx.go2)).mono ?_; rintro e w1 ⟨hg, hres⟩; have hx1 : Hx w1 (w.heap.size + 1) [.int .i64 0, .string ⟨#[]⟩] 66 := Hx.kept (by first | exact Hx.go hb | exact Hx.go2) hg (by simp; omega); have hrow1 : TokRow 66 w1 (b + 1) lv ts := TokRow.kept (by have hb0 := (hrow); (repeat first | with_reducible exact hb0 | with_reducible apply TokRow.drewN | with_reducible apply TokRow.drew | with_reducible apply TokRow.alloc | (with_reducible apply TokRow.set; (case hne => (first | assumption | omega | (simp; done) | (simp; omega)))))) hg (Or.inr (fun e => hlb e.symm)); have HB1 : Below b w w1 := Below.grown (by have hb0 := (Below.refl b w); (repeat first | with_reducible exact hb0 | with_reducible refine BelowN ?_ _ | with_reducible refine Below.drew ?_ | (with_reducible refine Below.alloc ?_ ?_ _; rotate_left; focus (first | omega | (simp; done) | (simp; omega))) | (with_reducible refine Below.setCell ?_ ?_ _; rotate_left; focus (first | omega | (simp; done) | (simp; omega))))) hg (by simp; omega) (fun c e => by cases e; omega); have hsz1 := hx1.lt; have x0 := hx1.cell 0; have x1 := hx1.cell 1; have x2 := hx1.free 0; have x3 := hx1.free 1; simp only [List.getElem?_cons_zero, List.getElem?_cons_succ] at x0 x1; rcases hres with ⟨hneg, rfl, hb1⟩ | ⟨hpos, rfl, hb1⟩)
    · have hb3 : Hx ((w1.setCell ⟨w.heap.size + 1, 0, none⟩ (.int .i64 0)).setCell ⟨w.heap.size + 1, 1, none⟩ (.string ⟨#[]⟩)) b [.string s, .int .i64 k, lv] 64 := (by first | exact Hx.go hb1 | exact Hx.go2)
      have hx3 : Hx ((w1.setCell ⟨w.heap.size + 1, 0, none⟩ (.int .i64 0)).setCell ⟨w.heap.size + 1, 1, none⟩ (.string ⟨#[]⟩)) (w.heap.size + 1) [.int .i64 0, .string ⟨#[]⟩] 66 := (by first | exact Hx.go hx1 | exact Hx.go2)
      have hr3 : TokRow 66 ((w1.setCell ⟨w.heap.size + 1, 0, none⟩ (.int .i64 0)).setCell ⟨w.heap.size + 1, 1, none⟩ (.string ⟨#[]⟩)) (b + 1) lv ts := (by have hb0 := (hrow1); (repeat first | with_reducible exact hb0 | with_reducible apply TokRow.drewN | with_reducible apply TokRow.drew | with_reducible apply TokRow.alloc | (with_reducible apply TokRow.set; (case hne => (first | assumption | omega | (simp; done) | (simp; omega))))))
      have HB3 : Below b w ((w1.setCell ⟨w.heap.size + 1, 0, none⟩ (.int .i64 0)).setCell ⟨w.heap.size + 1, 1, none⟩ (.string ⟨#[]⟩)) := (by have hb0 := (HB1); (repeat first | with_reducible exact hb0 | with_reducible refine BelowN ?_ _ | with_reducible refine Below.drew ?_ | (with_reducible refine Below.alloc ?_ ?_ _; rotate_left; focus (first | omega | (simp; done) | (simp; omega))) | (with_reducible refine Below.setCell ?_ ?_ _; rotate_left; focus (first | omega | (simp; done) | (simp; omega)))))
      generalize ((w1.setCell ⟨w.heap.size + 1, 0, none⟩ (.int .i64 0)).setCell ⟨w.heap.size + 1, 1, none⟩ (.string ⟨#[]⟩)) = w3 at hb3 hx3 hr3 HB3 ⊢
      clear hb1 hx1 hrow1 HB1 x0 x1 x2 x3 hsz1
      obtain ⟨gb0, gb1, gb2, gg1, gg2⟩ := rd hb3
      have hsz3 := hx3.lt
      have hbz3 := hb3.lt
      have x0 : w3.cell? ⟨w.heap.size + 1, 0, none⟩ = some (.int .i64 0) := hx3.cell 0
      have x1 : w3.cell? ⟨w.heap.size + 1, 1, none⟩ = some (.string ⟨#[]⟩) := hx3.cell 1
      go_region_law ((refine step_append_tok rfl _ _ 37 66 rfl Tryz.underlying37 info_tok (b + 1) lv ts rfl _ (0, ⟨#[]⟩) rfl ?_ ?_; rotate_left; exact ⟨(by have hb0 := (hr3); (repeat first | with_reducible exact hb0 | with_reducible apply TokRow.drewN | with_reducible apply TokRow.drew | with_reducible apply TokRow.alloc | (with_reducible apply TokRow.set; (case hne => (first | assumption | omega | (simp; done) | (simp; omega)))))), (by first | exact Hx.go hb3 | exact Hx.go2), by simp; omega, hn⟩; intro g' cap' w2 hown' hgrow; have hb2 : Hx w2 b [.string s, .int .i64 k, lv] 64 := Hx.kept (by first | exact Hx.go hb3 | exact Hx.go2) hgrow hlb; have HB2 : Below b w w2 := Below.grown (by have hb0 := (HB3); (repeat first | with_reducible exact hb0 | with_reducible refine BelowN ?_ _ | with_reducible refine Below.drew ?_ | (with_reducible refine Below.alloc ?_ ?_ _; rotate_left; focus (first | omega | (simp; done) | (simp; omega))) | (with_reducible refine Below.setCell ?_ ?_ _; rotate_left; focus (first | omega | (simp; done) | (simp; omega))))) hgrow (by simp; omega) hlow; obtain ⟨gc0, gc1, gc2, gf1, gf2⟩ := rd hb2))
      all_goals
        go_wp2
        go_ret
        rw [lexStep_quote hc', HN.out, if_pos hneg]
        exact ⟨rfl, (by have hb0 := (HB2); (repeat first | with_reducible exact hb0 | with_reducible refine BelowN ?_ _ | with_reducible refine Below.drew ?_ | (with_reducible refine Below.alloc ?_ ?_ _; rotate_left; focus (first | omega | (simp; done) | (simp; omega))) | (with_reducible refine Below.setCell ?_ ?_ _; rotate_left; focus (first | omega | (simp; done) | (simp; omega)))))⟩
    · have hb3 : Hx ((w1.setCell ⟨w.heap.size + 1, 0, none⟩ (.int .i64 2)).setCell ⟨w.heap.size + 1, 1, none⟩ (.string (s.extract (k + 1) (k + 1 + n.toNat)))) b [.string s, .int .i64 ((k + 1 + n.toNat + 1 : Nat) : Int), lv] 64 := (by first | exact Hx.go hb1 | exact Hx.go2)
      have hx3 : Hx ((w1.setCell ⟨w.heap.size + 1, 0, none⟩ (.int .i64 2)).setCell ⟨w.heap.size + 1, 1, none⟩ (.string (s.extract (k + 1) (k + 1 + n.toNat)))) (w.heap.size + 1) [.int .i64 2, .string (s.extract (k + 1) (k + 1 + n.toNat))] 66 := (by first | exact Hx.go hx1 | exact Hx.go2)
      have hr3 : TokRow 66 ((w1.setCell ⟨w.heap.size + 1, 0, none⟩ (.int .i64 2)).setCell ⟨w.heap.size + 1, 1, none⟩ (.string (s.extract (k + 1) (k + 1 + n.toNat)))) (b + 1) lv ts := (by have hb0 := (hrow1); (repeat first | with_reducible exact hb0 | with_reducible apply TokRow.drewN | with_reducible apply TokRow.drew | with_reducible apply TokRow.alloc | (with_reducible apply TokRow.set; (case hne => (first | assumption | omega | (simp; done) | (simp; omega))))))
      have HB3 : Below b w ((w1.setCell ⟨w.heap.size + 1, 0, none⟩ (.int .i64 2)).setCell ⟨w.heap.size + 1, 1, none⟩ (.string (s.extract (k + 1) (k + 1 + n.toNat)))) := (by have hb0 := (HB1); (repeat first | with_reducible exact hb0 | with_reducible refine BelowN ?_ _ | with_reducible refine Below.drew ?_ | (with_reducible refine Below.alloc ?_ ?_ _; rotate_left; focus (first | omega | (simp; done) | (simp; omega))) | (with_reducible refine Below.setCell ?_ ?_ _; rotate_left; focus (first | omega | (simp; done) | (simp; omega)))))
      generalize ((w1.setCell ⟨w.heap.size + 1, 0, none⟩ (.int .i64 2)).setCell ⟨w.heap.size + 1, 1, none⟩ (.string (s.extract (k + 1) (k + 1 + n.toNat)))) = w3 at hb3 hx3 hr3 HB3 ⊢
      clear hb1 hx1 hrow1 HB1 x0 x1 x2 x3 hsz1
      obtain ⟨gb0, gb1, gb2, gg1, gg2⟩ := rd hb3
      have hsz3 := hx3.lt
      have hbz3 := hb3.lt
      have x0 : w3.cell? ⟨w.heap.size + 1, 0, none⟩ = some (.int .i64 2) := hx3.cell 0
      have x1 : w3.cell? ⟨w.heap.size + 1, 1, none⟩ = some (.string (s.extract (k + 1) (k + 1 + n.toNat))) := hx3.cell 1
      go_region_law ((refine step_append_tok rfl _ _ 37 66 rfl Tryz.underlying37 info_tok (b + 1) lv ts rfl _ (2, (s.extract (k + 1) (k + 1 + n.toNat))) rfl ?_ ?_; rotate_left; exact ⟨(by have hb0 := (hr3); (repeat first | with_reducible exact hb0 | with_reducible apply TokRow.drewN | with_reducible apply TokRow.drew | with_reducible apply TokRow.alloc | (with_reducible apply TokRow.set; (case hne => (first | assumption | omega | (simp; done) | (simp; omega)))))), (by first | exact Hx.go hb3 | exact Hx.go2), by simp; omega, hn⟩; intro g' cap' w2 hown' hgrow; have hb2 : Hx w2 b [.string s, .int .i64 ((k + 1 + n.toNat + 1 : Nat) : Int), lv] 64 := Hx.kept (by first | exact Hx.go hb3 | exact Hx.go2) hgrow hlb; have HB2 : Below b w w2 := Below.grown (by have hb0 := (HB3); (repeat first | with_reducible exact hb0 | with_reducible refine BelowN ?_ _ | with_reducible refine Below.drew ?_ | (with_reducible refine Below.alloc ?_ ?_ _; rotate_left; focus (first | omega | (simp; done) | (simp; omega))) | (with_reducible refine Below.setCell ?_ ?_ _; rotate_left; focus (first | omega | (simp; done) | (simp; omega))))) hgrow (by simp; omega) hlow; obtain ⟨gc0, gc1, gc2, gf1, gf2⟩ := rd hb2))
      all_goals
        go_wp2
        go_ret
        rw [lexStep_quote hc', HN.out, if_neg (by omega)]
        have hgb : Value.ownBlock (.slice (some ⟨g', 0, none⟩) (ts.length + 1) cap') ≠ some b := fun e => by have := hown'.lt b e; omega
        exact ⟨rfl, (by have hb0 := (HB2); (repeat first | with_reducible exact hb0 | with_reducible refine BelowN ?_ _ | with_reducible refine Below.drew ?_ | (with_reducible refine Below.alloc ?_ ?_ _; rotate_left; focus (first | omega | (simp; done) | (simp; omega))) | (with_reducible refine Below.setCell ?_ ?_ _; rotate_left; focus (first | omega | (simp; done) | (simp; omega))))), _, (by first | exact Hx.go hb2 | exact Hx.go2), (by have hb0 := (hown'); (repeat first | with_reducible exact hb0 | with_reducible apply TokRow.drewN | with_reducible apply TokRow.drew | with_reducible apply TokRow.alloc | (with_reducible apply TokRow.set; (case hne => (first | assumption | omega | (simp; done) | (simp; omega))))))⟩
end Go.Proofs.YtiakgjijlhfneaaGreatDoor
