/-
  The walk of lex's reader: a blank; what stands between two marks; a word.
-/
import Derived.Test.YtiakgjijlhfneaaGreatDoorLexNext
import Derived.Deep.RegionLaw
namespace Go.Proofs.YtiakgjijlhfneaaGreatDoor
open Go.RowKit


set_option maxHeartbeats 4000000 in
theorem next_word (s : ByteArray) (b k : Nat) (lv : Value) (ts : List Tok) (w : World) (hs : s.size ≤ 4611686018427387904) (hk : k < s.size) (hn : ts.length ≤ 100000)
    (hb : Hx w b [.string s, .int .i64 k, lv] 64) (hrow : TokRow 66 w (b + 1) lv ts) (n1 : s[k] ≠ 40) (n2 : s[k] ≠ 41) (n3 : s[k] ≠ 44) (n4 : s[k] ≠ 32) (n5 : s[k] ≠ 9) (n6 : s[k] ≠ 34) (n7 : s[k] ≠ 39) :
    Calls Tryz.prog 30 #[.pointer (some ⟨b, 0, none⟩)] w (NextPost s b ts w (lexStep s k s[k])) := by
  obtain ⟨hc0, hc1, hc2, hf1, hf2⟩ := rd hb
  have hlt := hb.lt
  have hne : b ≠ w.heap.size := by omega
  have hlb : some b ≠ lv.ownBlock := fun e => by have := hrow.lt b e.symm; omega
  have I0 : ∀ w : World, (Instr.index 90 (.agg #[.int .u8 0, .int .u8 0, .int .u8 0, .int .u8 40, .int .u8 41, .int .u8 44]) (.int .i64 0)).run Tryz.prog w = .ok (.int .u8 0) w := fun _ => by kernel_rfl
  have I1 : ∀ w : World, (Instr.index 90 (.agg #[.int .u8 0, .int .u8 0, .int .u8 0, .int .u8 40, .int .u8 41, .int .u8 44]) (.int .i64 1)).run Tryz.prog w = .ok (.int .u8 0) w := fun _ => by kernel_rfl
  have I2 : ∀ w : World, (Instr.index 90 (.agg #[.int .u8 0, .int .u8 0, .int .u8 0, .int .u8 40, .int .u8 41, .int .u8 44]) (.int .i64 2)).run Tryz.prog w = .ok (.int .u8 0) w := fun _ => by kernel_rfl
  have I3 : ∀ w : World, (Instr.index 90 (.agg #[.int .u8 0, .int .u8 0, .int .u8 0, .int .u8 40, .int .u8 41, .int .u8 44]) (.int .i64 3)).run Tryz.prog w = .ok (.int .u8 40) w := fun _ => by kernel_rfl
  have I4 : ∀ w : World, (Instr.index 90 (.agg #[.int .u8 0, .int .u8 0, .int .u8 0, .int .u8 40, .int .u8 41, .int .u8 44]) (.int .i64 4)).run Tryz.prog w = .ok (.int .u8 41) w := fun _ => by kernel_rfl
  have I5 : ∀ w : World, (Instr.index 90 (.agg #[.int .u8 0, .int .u8 0, .int .u8 0, .int .u8 40, .int .u8 41, .int .u8 44]) (.int .i64 5)).run Tryz.prog w = .ok (.int .u8 44) w := fun _ => by kernel_rfl
  have hlow : ∀ c, lv.ownBlock = some c → b ≤ c := fun c e => by have := hrow.lt c e; omega
  have hlx : lv.ownBlock ≠ some (w.heap.size + 1) := fun e => by have := hrow.lt _ e; omega
  have hlb' : lv.ownBlock ≠ some b := fun e => hlb e.symm
  have HL := Lib.hid (lexStep_word (s := s) (k := k) n1 n2 n3 n4 n5 n6 n7)
  have lit : ∀ (a b : UInt8), a ≠ b → ((a.toNat : Int) == (b.toNat : Int)) = false := fun a b h => by rw [u8beq]; simpa using h
  have e40 : ((40 : Int) == (s[k].toNat : Int)) = false := lit 40 _ n1.symm
  have e41 : ((41 : Int) == (s[k].toNat : Int)) = false := lit 41 _ n2.symm
  have e44 : ((44 : Int) == (s[k].toNat : Int)) = false := lit 44 _ n3.symm
  have e32 : ((s[k].toNat : Int) == 32) = false := lit _ 32 n4
  have e09 : ((s[k].toNat : Int) == 9) = false := lit _ 9 n5
  have e34 : ((s[k].toNat : Int) == 34) = false := lit _ 34 n6
  have e39 : ((s[k].toNat : Int) == 39) = false := lit _ 39 n7
  clear n1 n2 n3 n4 n5 n6 n7 lit
  have HS := fun (w : World) (h : Hx w b [.string s, .int .i64 k, lv] 64) => word_any s b k [lv] 64 w hs (Nat.le_of_lt hk) h
  obtain ⟨R, HR⟩ : ∃ R, Hid (wEnd (s.data.toList.drop k) 0 k = R) := ⟨_, Lib.hid rfl⟩
  rw [HR.out] at HS
  rcases R with _ | ⟨m, d⟩
  · have HF : Hid (lexStep s k s[k] = none) := HL.out.trans (by rw [HR.out])
    clear HL HR
    go_enter Tryz.func30, Tryz.ntmps30
    go_wp2_with fail
    go_quiet (fail)
    go_wp2_with fail
    refine wp_loop_rounds 7 ?_
    iterate 6 (rw [rounds_succ]; go_wp2_with fail)
    rw [rounds_succ]
    go_wp2_with (go_at_call 51; refine (HS _ (by first | exact Hx.go hb | exact Hx.go2)).mono ?_; rintro e w1 ⟨k', hg, hb1, hat, rfl⟩;  have hx1 : Hx w1 (w.heap.size + 1) [.int .i64 0, .string ⟨#[]⟩] 66 := Hx.kept (by first | exact Hx.go hb | exact Hx.go2) hg (by simp; omega); have hrow1 : TokRow 66 w1 (b + 1) lv ts := TokRow.kept (by have hb0 := (hrow); (repeat first | with_reducible exact hb0 | with_reducible apply TokRow.drewN | with_reducible apply TokRow.drew | with_reducible apply TokRow.alloc | (with_reducible apply TokRow.set; (case hne => (first | assumption | omega | (simp; done) | (simp; omega)))))) hg (Or.inr (fun e => hlb e.symm)); have HB1 : Below b w w1 := Below.grown (by have hb0 := (Below.refl b w); (repeat first | with_reducible exact hb0 | with_reducible refine BelowN ?_ _ | with_reducible refine Below.drew ?_ | (with_reducible refine Below.alloc ?_ ?_ _; rotate_left; focus (first | omega | (simp; done) | (simp; omega))) | (with_reducible refine Below.setCell ?_ ?_ _; rotate_left; focus (first | omega | (simp; done) | (simp; omega))))) hg (by simp; omega) (fun c e => by cases e; omega); have hsz1 := hx1.lt; have x0 := hx1.cell 0; have x1 := hx1.cell 1; have x2 := hx1.free 0; have x3 := hx1.free 1; simp only [List.getElem?_cons_zero, List.getElem?_cons_succ] at x0 x1)
    · have hb3 : Hx ((w1.setCell ⟨w.heap.size + 1, 0, none⟩ (.int .i64 0)).setCell ⟨w.heap.size + 1, 1, none⟩ (.string ⟨#[]⟩)) b [.string s, .int .i64 k', lv] 64 := (by first | exact Hx.go hb1 | exact Hx.go2)
      have hx3 : Hx ((w1.setCell ⟨w.heap.size + 1, 0, none⟩ (.int .i64 0)).setCell ⟨w.heap.size + 1, 1, none⟩ (.string ⟨#[]⟩)) (w.heap.size + 1) [.int .i64 0, .string ⟨#[]⟩] 66 := (by first | exact Hx.go hx1 | exact Hx.go2)
      have hr3 : TokRow 66 ((w1.setCell ⟨w.heap.size + 1, 0, none⟩ (.int .i64 0)).setCell ⟨w.heap.size + 1, 1, none⟩ (.string ⟨#[]⟩)) (b + 1) lv ts := (by have hb0 := (hrow1); (repeat first | with_reducible exact hb0 | with_reducible apply TokRow.drewN | with_reducible apply TokRow.drew | with_reducible apply TokRow.alloc | (with_reducible apply TokRow.set; (case hne => (first | assumption | omega | (simp; done) | (simp; omega))))))
      have HB3 : Below b w ((w1.setCell ⟨w.heap.size + 1, 0, none⟩ (.int .i64 0)).setCell ⟨w.heap.size + 1, 1, none⟩ (.string ⟨#[]⟩)) := (by have hb0 := (HB1); (repeat first | with_reducible exact hb0 | with_reducible refine BelowN ?_ _ | with_reducible refine Below.drew ?_ | (with_reducible refine Below.alloc ?_ ?_ _; rotate_left; focus (first | omega | (simp; done) | (simp; omega))) | (with_reducible refine Below.setCell ?_ ?_ _; rotate_left; focus (first | omega | (simp; done) | (simp; omega)))))
      generalize ((w1.setCell ⟨w.heap.size + 1, 0, none⟩ (.int .i64 0)).setCell ⟨w.heap.size + 1, 1, none⟩ (.string ⟨#[]⟩)) = w3 at hb3 hx3 hr3 HB3 ⊢
      clear hb1 hx1 hrow1 HB1 x0 x1 x2 x3 hsz1
      obtain ⟨gb0, gb1, gb2, gg1, gg2⟩ := rd hb3
      have hsz3 := hx3.lt
      have hbz3 := hb3.lt
      have x0 : w3.cell? ⟨w.heap.size + 1, 0, none⟩ = some (.int .i64 0) := hx3.cell 0
      have x1 : w3.cell? ⟨w.heap.size + 1, 1, none⟩ = some (.string ⟨#[]⟩) := hx3.cell 1
      go_region_law ((refine step_append_tok rfl _ _ 37 66 rfl Tryz.underlying37 info_tok (b + 1) lv ts rfl _ (0, ⟨#[]⟩) rfl ?_ ?_; rotate_left; exact ⟨(by have hb0 := (hr3); (repeat first | with_reducible exact hb0 | with_reducible apply TokRow.drewN | with_reducible apply TokRow.drew | with_reducible apply TokRow.alloc | (with_reducible apply TokRow.set; (case hne => (first | assumption | omega | (simp; done) | (simp; omega)))))), (by first | exact Hx.go hb3 | exact Hx.go2), by simp; omega, hn⟩; intro g' cap' w2 hown' hgrow; have hb2 : Hx w2 b [.string s, .int .i64 k', lv] 64 := Hx.kept (by first | exact Hx.go hb3 | exact Hx.go2) hgrow hlb; have HB2 : Below b w w2 := Below.grown (by have hb0 := (HB3); (repeat first | with_reducible exact hb0 | with_reducible refine BelowN ?_ _ | with_reducible refine Below.drew ?_ | (with_reducible refine Below.alloc ?_ ?_ _; rotate_left; focus (first | omega | (simp; done) | (simp; omega))) | (with_reducible refine Below.setCell ?_ ?_ _; rotate_left; focus (first | omega | (simp; done) | (simp; omega))))) hgrow (by simp; omega) hlow; obtain ⟨gc0, gc1, gc2, gf1, gf2⟩ := rd hb2))
      all_goals
        go_wp2
        go_ret
        rw [HF.out]
        exact ⟨rfl, (by have hb0 := (HB2); (repeat first | with_reducible exact hb0 | with_reducible refine BelowN ?_ _ | with_reducible refine Below.drew ?_ | (with_reducible refine Below.alloc ?_ ?_ _; rotate_left; focus (first | omega | (simp; done) | (simp; omega))) | (with_reducible refine Below.setCell ?_ ?_ _; rotate_left; focus (first | omega | (simp; done) | (simp; omega)))))⟩
  · rcases hd : (d == 0 && decide (k < m)) with _ | _
    · have HF : Hid (lexStep s k s[k] = none) := HL.out.trans (by
        rw [HR.out]
        cases d with
        | zero => simp at hd; simp; omega
        | succ d => rfl)
      clear HL HR
      go_enter Tryz.func30, Tryz.ntmps30
      go_wp2_with fail
      go_quiet (fail)
      go_wp2_with fail
      refine wp_loop_rounds 7 ?_
      iterate 6 (rw [rounds_succ]; go_wp2_with fail)
      rw [rounds_succ]
      go_wp2_with (go_at_call 51; refine (HS _ (by first | exact Hx.go hb | exact Hx.go2)).mono ?_; rintro e w1 ⟨k', hg, hb1, hat, rfl⟩; subst hat; have hx1 : Hx w1 (w.heap.size + 1) [.int .i64 0, .string ⟨#[]⟩] 66 := Hx.kept (by first | exact Hx.go hb | exact Hx.go2) hg (by simp; omega); have hrow1 : TokRow 66 w1 (b + 1) lv ts := TokRow.kept (by have hb0 := (hrow); (repeat first | with_reducible exact hb0 | with_reducible apply TokRow.drewN | with_reducible apply TokRow.drew | with_reducible apply TokRow.alloc | (with_reducible apply TokRow.set; (case hne => (first | assumption | omega | (simp; done) | (simp; omega)))))) hg (Or.inr (fun e => hlb e.symm)); have HB1 : Below b w w1 := Below.grown (by have hb0 := (Below.refl b w); (repeat first | with_reducible exact hb0 | with_reducible refine BelowN ?_ _ | with_reducible refine Below.drew ?_ | (with_reducible refine Below.alloc ?_ ?_ _; rotate_left; focus (first | omega | (simp; done) | (simp; omega))) | (with_reducible refine Below.setCell ?_ ?_ _; rotate_left; focus (first | omega | (simp; done) | (simp; omega))))) hg (by simp; omega) (fun c e => by cases e; omega); have hsz1 := hx1.lt; have x0 := hx1.cell 0; have x1 := hx1.cell 1; have x2 := hx1.free 0; have x3 := hx1.free 1; simp only [List.getElem?_cons_zero, List.getElem?_cons_succ] at x0 x1)
      · have hb3 : Hx ((w1.setCell ⟨w.heap.size + 1, 0, none⟩ (.int .i64 1)).setCell ⟨w.heap.size + 1, 1, none⟩ (.string (s.extract k k'))) b [.string s, .int .i64 k', lv] 64 := (by first | exact Hx.go hb1 | exact Hx.go2)
        have hx3 : Hx ((w1.setCell ⟨w.heap.size + 1, 0, none⟩ (.int .i64 1)).setCell ⟨w.heap.size + 1, 1, none⟩ (.string (s.extract k k'))) (w.heap.size + 1) [.int .i64 1, .string (s.extract k k')] 66 := (by first | exact Hx.go hx1 | exact Hx.go2)
        have hr3 : TokRow 66 ((w1.setCell ⟨w.heap.size + 1, 0, none⟩ (.int .i64 1)).setCell ⟨w.heap.size + 1, 1, none⟩ (.string (s.extract k k'))) (b + 1) lv ts := (by have hb0 := (hrow1); (repeat first | with_reducible exact hb0 | with_reducible apply TokRow.drewN | with_reducible apply TokRow.drew | with_reducible apply TokRow.alloc | (with_reducible apply TokRow.set; (case hne => (first | assumption | omega | (simp; done) | (simp; omega))))))
        have HB3 : Below b w ((w1.setCell ⟨w.heap.size + 1, 0, none⟩ (.int .i64 1)).setCell ⟨w.heap.size + 1, 1, none⟩ (.string (s.extract k k'))) := (by have hb0 := (HB1); (repeat first | with_reducible exact hb0 | with_reducible refine BelowN ?_ _ | with_reducible refine Below.drew ?_ | (with_reducible refine Below.alloc ?_ ?_ _; rotate_left; focus (first | omega | (simp; done) | (simp; omega))) | (with_reducible refine Below.setCell ?_ ?_ _; rotate_left; focus (first | omega | (simp; done) | (simp; omega)))))
        generalize ((w1.setCell ⟨w.heap.size + 1, 0, none⟩ (.int .i64 1)).setCell ⟨w.heap.size + 1, 1, none⟩ (.string (s.extract k k'))) = w3 at hb3 hx3 hr3 HB3 ⊢
        clear hb1 hx1 hrow1 HB1 x0 x1 x2 x3 hsz1
        obtain ⟨gb0, gb1, gb2, gg1, gg2⟩ := rd hb3
        have hsz3 := hx3.lt
        have hbz3 := hb3.lt
        have x0 : w3.cell? ⟨w.heap.size + 1, 0, none⟩ = some (.int .i64 1) := hx3.cell 0
        have x1 : w3.cell? ⟨w.heap.size + 1, 1, none⟩ = some (.string (s.extract k k')) := hx3.cell 1
        go_region_law ((refine step_append_tok rfl _ _ 37 66 rfl Tryz.underlying37 info_tok (b + 1) lv ts rfl _ (1, (s.extract k k')) rfl ?_ ?_; rotate_left; exact ⟨(by have hb0 := (hr3); (repeat first | with_reducible exact hb0 | with_reducible apply TokRow.drewN | with_reducible apply TokRow.drew | with_reducible apply TokRow.alloc | (with_reducible apply TokRow.set; (case hne => (first | assumption | omega | (simp; done) | (simp; omega)))))), (by first | exact Hx.go hb3 | exact Hx.go2), by simp; omega, hn⟩; intro g' cap' w2 hown' hgrow; have hb2 : Hx w2 b [.string s, .int .i64 k', lv] 64 := Hx.kept (by first | exact Hx.go hb3 | exact Hx.go2) hgrow hlb; have HB2 : Below b w w2 := Below.grown (by have hb0 := (HB3); (repeat first | with_reducible exact hb0 | with_reducible refine BelowN ?_ _ | with_reducible refine Below.drew ?_ | (with_reducible refine Below.alloc ?_ ?_ _; rotate_left; focus (first | omega | (simp; done) | (simp; omega))) | (with_reducible refine Below.setCell ?_ ?_ _; rotate_left; focus (first | omega | (simp; done) | (simp; omega))))) hgrow (by simp; omega) hlow; obtain ⟨gc0, gc1, gc2, gf1, gf2⟩ := rd hb2))
        all_goals
          go_wp2
          go_ret
          rw [HF.out]
          exact ⟨rfl, (by have hb0 := (HB2); (repeat first | with_reducible exact hb0 | with_reducible refine BelowN ?_ _ | with_reducible refine Below.drew ?_ | (with_reducible refine Below.alloc ?_ ?_ _; rotate_left; focus (first | omega | (simp; done) | (simp; omega))) | (with_reducible refine Below.setCell ?_ ?_ _; rotate_left; focus (first | omega | (simp; done) | (simp; omega)))))⟩
    · have HF : Hid (lexStep s k s[k] = some (m, [(1, s.extract k m)])) := HL.out.trans (by
        rw [HR.out]
        simp at hd
        obtain ⟨rfl, hd⟩ := hd
        simp [hd])
      clear HL HR
      go_enter Tryz.func30, Tryz.ntmps30
      go_wp2_with fail
      go_quiet (fail)
      go_wp2_with fail
      refine wp_loop_rounds 7 ?_
      iterate 6 (rw [rounds_succ]; go_wp2_with fail)
      rw [rounds_succ]
      go_wp2_with (go_at_call 51; refine (HS _ (by first | exact Hx.go hb | exact Hx.go2)).mono ?_; rintro e w1 ⟨k', hg, hb1, hat, rfl⟩; subst hat; have hx1 : Hx w1 (w.heap.size + 1) [.int .i64 0, .string ⟨#[]⟩] 66 := Hx.kept (by first | exact Hx.go hb | exact Hx.go2) hg (by simp; omega); have hrow1 : TokRow 66 w1 (b + 1) lv ts := TokRow.kept (by have hb0 := (hrow); (repeat first | with_reducible exact hb0 | with_reducible apply TokRow.drewN | with_reducible apply TokRow.drew | with_reducible apply TokRow.alloc | (with_reducible apply TokRow.set; (case hne => (first | assumption | omega | (simp; done) | (simp; omega)))))) hg (Or.inr (fun e => hlb e.symm)); have HB1 : Below b w w1 := Below.grown (by have hb0 := (Below.refl b w); (repeat first | with_reducible exact hb0 | with_reducible refine BelowN ?_ _ | with_reducible refine Below.drew ?_ | (with_reducible refine Below.alloc ?_ ?_ _; rotate_left; focus (first | omega | (simp; done) | (simp; omega))) | (with_reducible refine Below.setCell ?_ ?_ _; rotate_left; focus (first | omega | (simp; done) | (simp; omega))))) hg (by simp; omega) (fun c e => by cases e; omega); have hsz1 := hx1.lt; have x0 := hx1.cell 0; have x1 := hx1.cell 1; have x2 := hx1.free 0; have x3 := hx1.free 1; simp only [List.getElem?_cons_zero, List.getElem?_cons_succ] at x0 x1)
      · have hb3 : Hx ((w1.setCell ⟨w.heap.size + 1, 0, none⟩ (.int .i64 1)).setCell ⟨w.heap.size + 1, 1, none⟩ (.string (s.extract k k'))) b [.string s, .int .i64 k', lv] 64 := (by first | exact Hx.go hb1 | exact Hx.go2)
        have hx3 : Hx ((w1.setCell ⟨w.heap.size + 1, 0, none⟩ (.int .i64 1)).setCell ⟨w.heap.size + 1, 1, none⟩ (.string (s.extract k k'))) (w.heap.size + 1) [.int .i64 1, .string (s.extract k k')] 66 := (by first | exact Hx.go hx1 | exact Hx.go2)
        have hr3 : TokRow 66 ((w1.setCell ⟨w.heap.size + 1, 0, none⟩ (.int .i64 1)).setCell ⟨w.heap.size + 1, 1, none⟩ (.string (s.extract k k'))) (b + 1) lv ts := (by have hb0 := (hrow1); (repeat first | with_reducible exact hb0 | with_reducible apply TokRow.drewN | with_reducible apply TokRow.drew | with_reducible apply TokRow.alloc | (with_reducible apply TokRow.set; (case hne => (first | assumption | omega | (simp; done) | (simp; omega))))))
        have HB3 : Below b w ((w1.setCell ⟨w.heap.size + 1, 0, none⟩ (.int .i64 1)).setCell ⟨w.heap.size + 1, 1, none⟩ (.string (s.extract k k'))) := (by have hb0 := (HB1); (repeat first | with_reducible exact hb0 | with_reducible refine BelowN ?_ _ | with_reducible refine Below.drew ?_ | (with_reducible refine Below.alloc ?_ ?_ _; rotate_left; focus (first | omega | (simp; done) | (simp; omega))) | (with_reducible refine Below.setCell ?_ ?_ _; rotate_left; focus (first | omega | (simp; done) | (simp; omega)))))
        generalize ((w1.setCell ⟨w.heap.size + 1, 0, none⟩ (.int .i64 1)).setCell ⟨w.heap.size + 1, 1, none⟩ (.string (s.extract k k'))) = w3 at hb3 hx3 hr3 HB3 ⊢
        clear hb1 hx1 hrow1 HB1 x0 x1 x2 x3 hsz1
        obtain ⟨gb0, gb1, gb2, gg1, gg2⟩ := rd hb3
        have hsz3 := hx3.lt
        have hbz3 := hb3.lt
        have x0 : w3.cell? ⟨w.heap.size + 1, 0, none⟩ = some (.int .i64 1) := hx3.cell 0
        have x1 : w3.cell? ⟨w.heap.size + 1, 1, none⟩ = some (.string (s.extract k k')) := hx3.cell 1
        go_region_law ((refine step_append_tok rfl _ _ 37 66 rfl Tryz.underlying37 info_tok (b + 1) lv ts rfl _ (1, (s.extract k k')) rfl ?_ ?_; rotate_left; exact ⟨(by have hb0 := (hr3); (repeat first | with_reducible exact hb0 | with_reducible apply TokRow.drewN | with_reducible apply TokRow.drew | with_reducible apply TokRow.alloc | (with_reducible apply TokRow.set; (case hne => (first | assumption | omega | (simp; done) | (simp; omega)))))), (by first | exact Hx.go hb3 | exact Hx.go2), by simp; omega, hn⟩; intro g' cap' w2 hown' hgrow; have hb2 : Hx w2 b [.string s, .int .i64 k', lv] 64 := Hx.kept (by first | exact Hx.go hb3 | exact Hx.go2) hgrow hlb; have HB2 : Below b w w2 := Below.grown (by have hb0 := (HB3); (repeat first | with_reducible exact hb0 | with_reducible refine BelowN ?_ _ | with_reducible refine Below.drew ?_ | (with_reducible refine Below.alloc ?_ ?_ _; rotate_left; focus (first | omega | (simp; done) | (simp; omega))) | (with_reducible refine Below.setCell ?_ ?_ _; rotate_left; focus (first | omega | (simp; done) | (simp; omega))))) hgrow (by simp; omega) hlow; obtain ⟨gc0, gc1, gc2, gf1, gf2⟩ := rd hb2))
        all_goals
          go_wp2
          go_ret
          rw [HF.out]
          have hgb : Value.ownBlock (.slice (some ⟨g', 0, none⟩) (ts.length + 1) cap') ≠ some b := fun e => by have := hown'.lt b e; omega
          exact ⟨rfl, (by have hb0 := (HB2); (repeat first | with_reducible exact hb0 | with_reducible refine BelowN ?_ _ | with_reducible refine Below.drew ?_ | (with_reducible refine Below.alloc ?_ ?_ _; rotate_left; focus (first | omega | (simp; done) | (simp; omega))) | (with_reducible refine Below.setCell ?_ ?_ _; rotate_left; focus (first | omega | (simp; done) | (simp; omega))))), _, (by first | exact Hx.go hb2 | exact Hx.go2), (by have hb0 := (hown'); (repeat first | with_reducible exact hb0 | with_reducible apply TokRow.drewN | with_reducible apply TokRow.drew | with_reducible apply TokRow.alloc | (with_reducible apply TokRow.set; (case hne => (first | assumption | omega | (simp; done) | (simp; omega))))))⟩
end Go.Proofs.YtiakgjijlhfneaaGreatDoor
