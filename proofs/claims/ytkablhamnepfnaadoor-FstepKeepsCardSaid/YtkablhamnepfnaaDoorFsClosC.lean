/-
  The functions on places: integral, delay. Printed by genfsclosc.py.
-/
import Derived.Test.YtkablhamnepfnaaDoorFsBase
namespace Go.Proofs.YtkablhamnepfnaaDoor
open Go.RowKit
theorem ERow.block_lt {α : Type} {L : Elt α} {w : World} {v : Value} {ts : List α} (h : ERow L w v ts) (hp : 0 < ts.length) : ∀ A n c, v = .slice (some A) n c → A.block < w.heap.size := by
  intro A n c e
  obtain ⟨A2, c2, e2, -, -, q3⟩ := h
  obtain ⟨b, o, e3, hb, -⟩ := q3 hp
  rw [e3] at e2
  rw [e2] at e
  cases e
  exact hb
set_option maxHeartbeats 8000000 in
set_option maxRecDepth 100000 in
theorem fint1_any (w : World) (B : Nat) (W : FWork) (sv : Value) (hm : FAt w B W sv) (h : ERow valE w sv W.S.vals) (hall : W.S.vals.all (fun p => isR p.1 p.2) = true) (hl : W.S.vals.length ≤ 1000000) (_hf : Fits W.k) (q q2 : Nat) (hq : Hx w q [.pointer (some ⟨B, 0, none⟩)] 42) (hne : q ≠ q2) (_hneB : B ≠ q2) (j : Nat) (hj : j < W.S.vals.length) (hs : Hx w q2 [.bool (vB (sumTo W.S.opts j)), .int .i64 (vN (sumTo W.S.opts j))] 28) : Calls Tryd.prog 43 #[.int .i64 (j : Int), .pointer (some ⟨q, 0, none⟩), .pointer (some ⟨q2, 0, none⟩)] w fun e w' => e = .returned (valV (fsV 3 W.S.step W.has W.k W.S.opts j)) ∧ w.grownBy w' (some q2) ∧ Hx w' q2 [.bool (vB (sumTo W.S.opts (j + 1))), .int .i64 (vN (sumTo W.S.opts (j + 1)))] 28 := by
  have HG := G.refl w none
  have HA := Lib.hid (fun w2 (h1 : Hx w2 B [.string W.S.name, .int .i64 W.S.start, .int .i64 W.S.step, sv, .int .i64 W.S.cons, .bool (vB W.k), .int .i64 (vN W.k), .bool W.has] 44) h2 => fat_any w2 B W sv h1 h2 hall (j : Int) (by omega) (by omega))
  rw [atO_nat] at HA
  have hfs := sumTo_fits W.S.opts j
  have hfv := opts_fits W.S j
  have hv3 : fsV 3 W.S.step W.has W.k W.S.opts j = if (W.S.opts.getD j none).isSome then sumTo W.S.opts (j + 1) else none := rfl
  rw [hv3]
  rw [valV_form] at HA
  have HV := Lib.hid h
  obtain ⟨A, c, rfl, -, -, -⟩ := h
  replace hm := hm.hx
  clear hv3
  have hql := hq.lt
  have hsl := hs.lt
  have hn1 : ¬ q2 = w.heap.size := by omega
  have hn2 : ¬ w.heap.size = q2 := by omega
  have hneq : ¬ q2 = q := fun e => hne e.symm
  cases hv : W.S.opts.getD j none with
  | none =>
    have hfd : ∀ w3 : World, (Instr.field 28 (.agg #[.bool false, .int .i64 0]) 0).run Tryd.prog w3 = .ok (.bool false) w3 := fun _ => by kernel_rfl
    rw [hv] at HA
    rw [sumTo_none hv]
    generalize sumTo W.S.opts j = s at *
    have HA : Hid (∀ w2 (h1 : Hx w2 B [.string W.S.name, .int .i64 W.S.start, .int .i64 W.S.step, .slice A W.S.vals.length c, .int .i64 W.S.cons, .bool (vB W.k), .int .i64 (vN W.k), .bool W.has] 44) (h2 : ERow valE w2 (.slice A W.S.vals.length c) W.S.vals), Calls Tryd.prog 40 #[.pointer (some ⟨B, 0, none⟩), .int .i64 (j : Int)] w2 fun e w' => e = .returned (.agg #[.bool false, .int .i64 0]) ∧ w2.grownBy w' none) := HA
    go_enter Tryd.func43, Tryd.ntmps43
    go_upto_region 0 with (fail)
    go_cut [4] (fun p4 wc => p4 = .pointer (some ⟨w.heap.size, 0, none⟩) ∧ w.grownBy wc none ∧ Hx wc w.heap.size [.bool false, .int .i64 0] 28 ∧ Hx wc B [.string W.S.name, .int .i64 W.S.start, .int .i64 W.S.step, .slice A W.S.vals.length c, .int .i64 W.S.cons, .bool (vB W.k), .int .i64 (vN W.k), .bool W.has] 44 ∧ Hx wc q [.pointer (some ⟨B, 0, none⟩)] 42 ∧ Hx wc q2 [.bool (vB s), .int .i64 (vN s)] 28)
    case first =>
      go_wp2_with fail
      go_meet
      exact ⟨rfl, (by exact G.go HG), Hx.new _ _ _, Hx.alloc hm _, Hx.alloc hq _, Hx.alloc hs _⟩
    obtain ⟨rfl, HG, hr, hm, hq, hs⟩ := hcut
    rename World => wx
    go_upto_region 1 with (fail)
    go_cut [4, 9] (fun p4 p9 wd => p4 = .pointer (some ⟨w.heap.size, 0, none⟩) ∧ p9 = .bool true ∧ w.grownBy wd none ∧ Hx wd w.heap.size [.bool false, .int .i64 0] 28 ∧ Hx wd B [.string W.S.name, .int .i64 W.S.start, .int .i64 W.S.step, .slice A W.S.vals.length c, .int .i64 W.S.cons, .bool (vB W.k), .int .i64 (vN W.k), .bool W.has] 44 ∧ Hx wd q [.pointer (some ⟨B, 0, none⟩)] 42 ∧ Hx wd q2 [.bool (vB s), .int .i64 (vN s)] 28)
    case first =>
      have hq_0 := hq.cell 0; have hq_f0 := hq.free 0; have hq_l := hq.lt
      go_wp2_with (go_at_call 40; (with_reducible refine (HA.out _ hm (HV.out.kept0 (by exact G.go HG))).mono ?_); rintro e wn ⟨rfl, hgn⟩; replace HG := G.trans (w := w) (by exact G.go HG) hgn; replace hr := Hx.kept (by first | exact Hx.go hr | exact Hx.go2) hgn (by simp); have hr_0 := hr.cell 0; have hr_1 := hr.cell 1; have hr_f0 := hr.free 0; have hr_f1 := hr.free 1; have hr_l := hr.lt; replace hm := Hx.kept (by first | exact Hx.go hm | exact Hx.go2) hgn (by simp); have hm_0 := hm.cell 0; have hm_1 := hm.cell 1; have hm_2 := hm.cell 2; have hm_3 := hm.cell 3; have hm_4 := hm.cell 4; have hm_5 := hm.cell 5; have hm_6 := hm.cell 6; have hm_7 := hm.cell 7; have hm_f0 := hm.free 0; have hm_f1 := hm.free 1; have hm_f2 := hm.free 2; have hm_f3 := hm.free 3; have hm_f4 := hm.free 4; have hm_f5 := hm.free 5; have hm_f6 := hm.free 6; have hm_f7 := hm.free 7; have hm_l := hm.lt; replace hq := Hx.kept (by first | exact Hx.go hq | exact Hx.go2) hgn (by simp); have hq_0 := hq.cell 0; have hq_f0 := hq.free 0; have hq_l := hq.lt; replace hs := Hx.kept (by first | exact Hx.go hs | exact Hx.go2) hgn (by simp); have hs_0 := hs.cell 0; have hs_1 := hs.cell 1; have hs_f0 := hs.free 0; have hs_f1 := hs.free 1; have hs_l := hs.lt; clear hgn)
      go_meet
      exact ⟨rfl, by first | rfl | simp, HG, hr, hm, hq, hs⟩
    obtain ⟨rfl, rfl, HG, hr, hm, hq, hs⟩ := hcut
    rename World => wy
    have hr_0 := hr.cell 0; have hr_1 := hr.cell 1; have hr_f0 := hr.free 0; have hr_f1 := hr.free 1; have hr_l := hr.lt
    go_wp2_with fail
    refine ret_cell [.bool false, .int .i64 0] w.heap.size 28 rfl rfl (Tryd.isAgg28 _) (Tryd.sizeOf28 _) rfl ?_ ⟨by rfl, G.any (by exact G.go HG) _, (by first | exact Hx.go hs | exact Hx.go2)⟩
    exact (by first | exact Hx.go hr | exact Hx.go2)
  | some x =>
    have hfd : ∀ w3 : World, (Instr.field 28 (.agg #[.bool true, .int .i64 x]) 0).run Tryd.prog w3 = .ok (.bool true) w3 := fun _ => by kernel_rfl
    rw [hv] at HA hfv
    rw [sumTo_some hv]
    generalize sumTo W.S.opts j = s at *
    have HA : Hid (∀ w2 (h1 : Hx w2 B [.string W.S.name, .int .i64 W.S.start, .int .i64 W.S.step, .slice A W.S.vals.length c, .int .i64 W.S.cons, .bool (vB W.k), .int .i64 (vN W.k), .bool W.has] 44) (h2 : ERow valE w2 (.slice A W.S.vals.length c) W.S.vals), Calls Tryd.prog 40 #[.pointer (some ⟨B, 0, none⟩), .int .i64 (j : Int)] w2 fun e w' => e = .returned (.agg #[.bool true, .int .i64 x]) ∧ w2.grownBy w' none) := HA
    have HAd := Lib.hid (fun v w2 h => add_any [(vB s, vN s), (true, x)] v w2 h (by simp))
    rw [show addO [(vB s, vN s), (true, x)] = sumO (sumO (some 0) s) (some x) from add2_fit s (some x) hfs hfv] at HAd
    rw [show (if (some x : Option Int).isSome then sumO (sumO (some 0) s) (some x) else none) = sumO (sumO (some 0) s) (some x) from rfl]
    have hvv := Lib.hid (valV_form (sumO (sumO (some 0) s) (some x)))
    generalize sumO (sumO (some 0) s) (some x) = V at *
    rw [valV_form] at HAd
    go_enter Tryd.func43, Tryd.ntmps43
    go_upto_region 0 with (fail)
    go_cut [4] (fun p4 wc => p4 = .pointer (some ⟨w.heap.size, 0, none⟩) ∧ w.grownBy wc none ∧ Hx wc w.heap.size [.bool false, .int .i64 0] 28 ∧ Hx wc B [.string W.S.name, .int .i64 W.S.start, .int .i64 W.S.step, .slice A W.S.vals.length c, .int .i64 W.S.cons, .bool (vB W.k), .int .i64 (vN W.k), .bool W.has] 44 ∧ Hx wc q [.pointer (some ⟨B, 0, none⟩)] 42 ∧ Hx wc q2 [.bool (vB s), .int .i64 (vN s)] 28)
    case first =>
      go_wp2_with fail
      go_meet
      exact ⟨rfl, (by exact G.go HG), Hx.new _ _ _, Hx.alloc hm _, Hx.alloc hq _, Hx.alloc hs _⟩
    obtain ⟨rfl, HG, hr, hm, hq, hs⟩ := hcut
    rename World => wx
    go_upto_region 1 with (fail)
    go_cut [4, 9] (fun p4 p9 wd => p4 = .pointer (some ⟨w.heap.size, 0, none⟩) ∧ p9 = .bool false ∧ w.grownBy wd none ∧ Hx wd w.heap.size [.bool false, .int .i64 0] 28 ∧ Hx wd B [.string W.S.name, .int .i64 W.S.start, .int .i64 W.S.step, .slice A W.S.vals.length c, .int .i64 W.S.cons, .bool (vB W.k), .int .i64 (vN W.k), .bool W.has] 44 ∧ Hx wd q [.pointer (some ⟨B, 0, none⟩)] 42 ∧ Hx wd q2 [.bool (vB s), .int .i64 (vN s)] 28)
    case first =>
      have hq_0 := hq.cell 0; have hq_f0 := hq.free 0; have hq_l := hq.lt
      go_wp2_with (go_at_call 40; (with_reducible refine (HA.out _ hm (HV.out.kept0 (by exact G.go HG))).mono ?_); rintro e wn ⟨rfl, hgn⟩; replace HG := G.trans (w := w) (by exact G.go HG) hgn; replace hr := Hx.kept (by first | exact Hx.go hr | exact Hx.go2) hgn (by simp); have hr_0 := hr.cell 0; have hr_1 := hr.cell 1; have hr_f0 := hr.free 0; have hr_f1 := hr.free 1; have hr_l := hr.lt; replace hm := Hx.kept (by first | exact Hx.go hm | exact Hx.go2) hgn (by simp); have hm_0 := hm.cell 0; have hm_1 := hm.cell 1; have hm_2 := hm.cell 2; have hm_3 := hm.cell 3; have hm_4 := hm.cell 4; have hm_5 := hm.cell 5; have hm_6 := hm.cell 6; have hm_7 := hm.cell 7; have hm_f0 := hm.free 0; have hm_f1 := hm.free 1; have hm_f2 := hm.free 2; have hm_f3 := hm.free 3; have hm_f4 := hm.free 4; have hm_f5 := hm.free 5; have hm_f6 := hm.free 6; have hm_f7 := hm.free 7; have hm_l := hm.lt; replace hq := Hx.kept (by first | exact Hx.go hq | exact Hx.go2) hgn (by simp); have hq_0 := hq.cell 0; have hq_f0 := hq.free 0; have hq_l := hq.lt; replace hs := Hx.kept (by first | exact Hx.go hs | exact Hx.go2) hgn (by simp); have hs_0 := hs.cell 0; have hs_1 := hs.cell 1; have hs_f0 := hs.free 0; have hs_f1 := hs.free 1; have hs_l := hs.lt; clear hgn)
      go_meet
      exact ⟨rfl, by first | rfl | simp, HG, hr, hm, hq, hs⟩
    obtain ⟨rfl, rfl, HG, hr, hm, hq, hs⟩ := hcut
    rename World => wy
    go_upto_region 3 with (fail)
    refine wp_region_rel (n := 6) (S := [fun v _ => v = .agg #[.bool (vB s), .int .i64 (vN s)], fun v _ => v = .pointer (some ⟨B, 0, none⟩), fun v _ => v = .int .i64 (j : Int), fun v _ => v = .agg #[.bool true, .int .i64 x], fun v w => ∃ Q, v = .slice (some ⟨Q, 0, none⟩) 2 2 ∧ Hx w Q [.bool (vB s), .int .i64 (vN s), .bool true, .int .i64 x] 28, fun v _ => v = .agg #[.bool (vB V), .int .i64 (vN V)]]) (G.refl _ none) (by kernel_rfl) (by kernel_rfl) ?_ ?_ ?_
    · intro i v y1 y2 hg12 hS
      match i, hS with
      | 0, h => exact h
      | 1, h => exact h
      | 2, h => exact h
      | 3, h => exact h
      | 4, h => exact (let ⟨Q, e1, e2⟩ := h; ⟨Q, e1, e2.kept hg12 (by simp)⟩)
      | 5, h => exact h
      | k + 6, h => exact trivial
    · simp only [List.take_succ_cons, List.take_zero, relOps]
      refine ⟨fun VV y1 hg1 hV => ?_, fun VV y1 hg1 hV => ?_, fun VV y1 hg1 hV => ?_, fun VV y1 hg1 hV => ?_, fun VV y1 hg1 hV => ?_, fun VV y1 hg1 hV => ?_, trivial⟩
      · clear hV
        have hvy := HV.out.kept0 (G.trans HG hg1); replace hm := Hx.kept hm hg1 (by simp); replace hq := Hx.kept hq hg1 (by simp); replace hs := Hx.kept hs hg1 (by simp); replace hr := Hx.kept hr hg1 (by simp); have hm_0 := hm.cell 0; have hm_1 := hm.cell 1; have hm_2 := hm.cell 2; have hm_3 := hm.cell 3; have hm_4 := hm.cell 4; have hm_5 := hm.cell 5; have hm_6 := hm.cell 6; have hm_7 := hm.cell 7; have hm_f0 := hm.free 0; have hm_f1 := hm.free 1; have hm_f2 := hm.free 2; have hm_f3 := hm.free 3; have hm_f4 := hm.free 4; have hm_f5 := hm.free 5; have hm_f6 := hm.free 6; have hm_f7 := hm.free 7; have hm_l := hm.lt; have hq_0 := hq.cell 0; have hq_f0 := hq.free 0; have hq_l := hq.lt; have hs_0 := hs.cell 0; have hs_1 := hs.cell 1; have hs_f0 := hs.free 0; have hs_f1 := hs.free 1; have hs_l := hs.lt; have hr_0 := hr.cell 0; have hr_1 := hr.cell 1; have hr_f0 := hr.free 0; have hr_f1 := hr.free 1; have hr_l := hr.lt
        simp only [putAll]
        go_wp2_with fail
        exact ⟨rfl, rfl, G.refl _ none, rfl⟩
      · clear hV
        have hvy := HV.out.kept0 (G.trans HG hg1); replace hm := Hx.kept hm hg1 (by simp); replace hq := Hx.kept hq hg1 (by simp); replace hs := Hx.kept hs hg1 (by simp); replace hr := Hx.kept hr hg1 (by simp); have hm_0 := hm.cell 0; have hm_1 := hm.cell 1; have hm_2 := hm.cell 2; have hm_3 := hm.cell 3; have hm_4 := hm.cell 4; have hm_5 := hm.cell 5; have hm_6 := hm.cell 6; have hm_7 := hm.cell 7; have hm_f0 := hm.free 0; have hm_f1 := hm.free 1; have hm_f2 := hm.free 2; have hm_f3 := hm.free 3; have hm_f4 := hm.free 4; have hm_f5 := hm.free 5; have hm_f6 := hm.free 6; have hm_f7 := hm.free 7; have hm_l := hm.lt; have hq_0 := hq.cell 0; have hq_f0 := hq.free 0; have hq_l := hq.lt; have hs_0 := hs.cell 0; have hs_1 := hs.cell 1; have hs_f0 := hs.free 0; have hs_f1 := hs.free 1; have hs_l := hs.lt; have hr_0 := hr.cell 0; have hr_1 := hr.cell 1; have hr_f0 := hr.free 0; have hr_f1 := hr.free 1; have hr_l := hr.lt
        simp only [putAll]
        go_wp2_with fail
        exact ⟨rfl, rfl, G.refl _ none, rfl⟩
      · clear hV
        have hvy := HV.out.kept0 (G.trans HG hg1); replace hm := Hx.kept hm hg1 (by simp); replace hq := Hx.kept hq hg1 (by simp); replace hs := Hx.kept hs hg1 (by simp); replace hr := Hx.kept hr hg1 (by simp); have hm_0 := hm.cell 0; have hm_1 := hm.cell 1; have hm_2 := hm.cell 2; have hm_3 := hm.cell 3; have hm_4 := hm.cell 4; have hm_5 := hm.cell 5; have hm_6 := hm.cell 6; have hm_7 := hm.cell 7; have hm_f0 := hm.free 0; have hm_f1 := hm.free 1; have hm_f2 := hm.free 2; have hm_f3 := hm.free 3; have hm_f4 := hm.free 4; have hm_f5 := hm.free 5; have hm_f6 := hm.free 6; have hm_f7 := hm.free 7; have hm_l := hm.lt; have hq_0 := hq.cell 0; have hq_f0 := hq.free 0; have hq_l := hq.lt; have hs_0 := hs.cell 0; have hs_1 := hs.cell 1; have hs_f0 := hs.free 0; have hs_f1 := hs.free 1; have hs_l := hs.lt; have hr_0 := hr.cell 0; have hr_1 := hr.cell 1; have hr_f0 := hr.free 0; have hr_f1 := hr.free 1; have hr_l := hr.lt
        simp only [putAll]
        go_wp2_with fail
        exact ⟨rfl, rfl, G.refl _ none, rfl⟩
      · have e1 := hV 1 (by kernel_rfl); have e2 := hV 2 (by kernel_rfl); clear hV
        have hvy := HV.out.kept0 (G.trans HG hg1); replace hm := Hx.kept hm hg1 (by simp); replace hq := Hx.kept hq hg1 (by simp); replace hs := Hx.kept hs hg1 (by simp); replace hr := Hx.kept hr hg1 (by simp); have hm_0 := hm.cell 0; have hm_1 := hm.cell 1; have hm_2 := hm.cell 2; have hm_3 := hm.cell 3; have hm_4 := hm.cell 4; have hm_5 := hm.cell 5; have hm_6 := hm.cell 6; have hm_7 := hm.cell 7; have hm_f0 := hm.free 0; have hm_f1 := hm.free 1; have hm_f2 := hm.free 2; have hm_f3 := hm.free 3; have hm_f4 := hm.free 4; have hm_f5 := hm.free 5; have hm_f6 := hm.free 6; have hm_f7 := hm.free 7; have hm_l := hm.lt; have hq_0 := hq.cell 0; have hq_f0 := hq.free 0; have hq_l := hq.lt; have hs_0 := hs.cell 0; have hs_1 := hs.cell 1; have hs_f0 := hs.free 0; have hs_f1 := hs.free 1; have hs_l := hs.lt; have hr_0 := hr.cell 0; have hr_1 := hr.cell 1; have hr_f0 := hr.free 0; have hr_f1 := hr.free 1; have hr_l := hr.lt
        simp only [atS, List.getD_cons_succ, List.getD_cons_zero] at e1 e2
        simp only [putAll, e1, e2]
        go_wp2_with (go_at_call 40; (with_reducible refine (HA.out _ hm hvy).mono ?_); rintro e wn ⟨rfl, hgn⟩)
        exact ⟨rfl, rfl, hgn, rfl⟩
      · have e0 := hV 0 (by kernel_rfl); have e3 := hV 3 (by kernel_rfl); clear hV
        have hvy := HV.out.kept0 (G.trans HG hg1); replace hm := Hx.kept hm hg1 (by simp); replace hq := Hx.kept hq hg1 (by simp); replace hs := Hx.kept hs hg1 (by simp); replace hr := Hx.kept hr hg1 (by simp); have hm_0 := hm.cell 0; have hm_1 := hm.cell 1; have hm_2 := hm.cell 2; have hm_3 := hm.cell 3; have hm_4 := hm.cell 4; have hm_5 := hm.cell 5; have hm_6 := hm.cell 6; have hm_7 := hm.cell 7; have hm_f0 := hm.free 0; have hm_f1 := hm.free 1; have hm_f2 := hm.free 2; have hm_f3 := hm.free 3; have hm_f4 := hm.free 4; have hm_f5 := hm.free 5; have hm_f6 := hm.free 6; have hm_f7 := hm.free 7; have hm_l := hm.lt; have hq_0 := hq.cell 0; have hq_f0 := hq.free 0; have hq_l := hq.lt; have hs_0 := hs.cell 0; have hs_1 := hs.cell 1; have hs_f0 := hs.free 0; have hs_f1 := hs.free 1; have hs_l := hs.lt; have hr_0 := hr.cell 0; have hr_1 := hr.cell 1; have hr_f0 := hr.free 0; have hr_f1 := hr.free 1; have hr_l := hr.lt
        simp only [atS, List.getD_cons_succ, List.getD_cons_zero] at e0 e3
        simp only [putAll, e0, e3]
        go_wp2_with fail
        exact ⟨rfl, rfl, G.alloc (G.refl _ _) _, _, rfl, Hx.new _ _ _⟩
      · have e4 := hV 4 (by kernel_rfl); clear hV
        have hvy := HV.out.kept0 (G.trans HG hg1); replace hm := Hx.kept hm hg1 (by simp); replace hq := Hx.kept hq hg1 (by simp); replace hs := Hx.kept hs hg1 (by simp); replace hr := Hx.kept hr hg1 (by simp); have hm_0 := hm.cell 0; have hm_1 := hm.cell 1; have hm_2 := hm.cell 2; have hm_3 := hm.cell 3; have hm_4 := hm.cell 4; have hm_5 := hm.cell 5; have hm_6 := hm.cell 6; have hm_7 := hm.cell 7; have hm_f0 := hm.free 0; have hm_f1 := hm.free 1; have hm_f2 := hm.free 2; have hm_f3 := hm.free 3; have hm_f4 := hm.free 4; have hm_f5 := hm.free 5; have hm_f6 := hm.free 6; have hm_f7 := hm.free 7; have hm_l := hm.lt; have hq_0 := hq.cell 0; have hq_f0 := hq.free 0; have hq_l := hq.lt; have hs_0 := hs.cell 0; have hs_1 := hs.cell 1; have hs_f0 := hs.free 0; have hs_f1 := hs.free 1; have hs_l := hs.lt; have hr_0 := hr.cell 0; have hr_1 := hr.cell 1; have hr_f0 := hr.free 0; have hr_f1 := hr.free 1; have hr_l := hr.lt
        simp only [atS, List.getD_cons_succ, List.getD_cons_zero] at e4
        obtain ⟨Q, e4, hQ⟩ := e4
        simp only [putAll, e4]
        go_wp2_with (go_at_call 44; (with_reducible refine (HAd.out _ _ ?_).mono ?_); (exact ERow.of_hx (ts := [(vB s, vN s), (true, x)]) (by simp) (by decide) hQ); rintro e wn ⟨rfl, hgn⟩)
        exact ⟨rfl, rfl, hgn, rfl⟩
    · intro VV y1 hg1 hV
      have e0 := hV 0 (by omega); have e1 := hV 1 (by omega); have e2 := hV 2 (by omega); have e3 := hV 3 (by omega); have e4 := hV 4 (by omega); have e5 := hV 5 (by omega); clear hV
      simp only [atS, List.getD_cons_succ, List.getD_cons_zero] at e0 e1 e2 e3 e4 e5
      simp only [List.take_succ_cons, List.take_zero, List.drop_succ_cons, List.drop_zero, putAll, e0, e1, e2, e3, e5]
      replace hm := Hx.kept hm hg1 (by simp); replace hq := Hx.kept hq hg1 (by simp); replace hs := Hx.kept hs hg1 (by simp); replace hr := Hx.kept hr hg1 (by simp); have hm_0 := hm.cell 0; have hm_1 := hm.cell 1; have hm_2 := hm.cell 2; have hm_3 := hm.cell 3; have hm_4 := hm.cell 4; have hm_5 := hm.cell 5; have hm_6 := hm.cell 6; have hm_7 := hm.cell 7; have hm_f0 := hm.free 0; have hm_f1 := hm.free 1; have hm_f2 := hm.free 2; have hm_f3 := hm.free 3; have hm_f4 := hm.free 4; have hm_f5 := hm.free 5; have hm_f6 := hm.free 6; have hm_f7 := hm.free 7; have hm_l := hm.lt; have hq_0 := hq.cell 0; have hq_f0 := hq.free 0; have hq_l := hq.lt; have hs_0 := hs.cell 0; have hs_1 := hs.cell 1; have hs_f0 := hs.free 0; have hs_f1 := hs.free 1; have hs_l := hs.lt; have hr_0 := hr.cell 0; have hr_1 := hr.cell 1; have hr_f0 := hr.free 0; have hr_f1 := hr.free 1; have hr_l := hr.lt
      have hg2 := hg1
      replace HG := G.trans (w := w) HG hg1; clear hg1
      obtain ⟨Q, e4, hQ⟩ := e4
      simp only [e4]
      go_wp2_with fail
      refine ret_cell [.bool (vB V), .int .i64 (vN V)] w.heap.size 28 rfl rfl (Tryd.isAgg28 _) (Tryd.sizeOf28 _) rfl ?_ ⟨by rw [hvv.out], by have HGq := G.any HG (some q2); exact (by exact G.go HGq), (by first | exact Hx.go hs | exact Hx.go2)⟩
      exact (by first | exact Hx.go hr | exact Hx.go2)
theorem push_two (x y z : Value) : ((#[] : Array Value).push x ++ #[y, z]) = #[x, y, z] := by simp
set_option maxHeartbeats 8000000 in
set_option maxRecDepth 100000 in
theorem fint_any (w : World) (B : Nat) (W : FWork) (sv : Value) (hm : FAt w B W sv) (h : ERow valE w sv W.S.vals) (hall : W.S.vals.all (fun p => isR p.1 p.2) = true) (hl : W.S.vals.length ≤ 1000000) (hf : Fits W.k) : Calls Tryd.prog 22 #[.pointer (some ⟨B, 0, none⟩)] w fun e w' => FsRow 3 W w e w' := by
  have HG := G.refl w none
  have HV := Lib.hid h
  have HO := Lib.hid (fun w2 : World => fixedOf_any (w := w2) 0)
  rw [ofR_small (by omega)] at HO
  simp only [valV, valC] at HO
  have HE := Lib.hid (fun w2 q q2 (h1 : Hx w2 B [.string W.S.name, .int .i64 W.S.start, .int .i64 W.S.step, sv, .int .i64 W.S.cons, .bool (vB W.k), .int .i64 (vN W.k), .bool W.has] 44) h2 (hq : Hx w2 q [.pointer (some ⟨B, 0, none⟩)] 42) (hs : Hx w2 q2 [.bool true, .int .i64 0] 28) (hne : q ≠ q2) (hneB : B ≠ q2) (hno : 0 < W.S.vals.length → ∀ A n c, sv = .slice (some A) n c → some A.block ≠ some q2) => each_any 43 #[] #[.pointer (some ⟨q, 0, none⟩), .pointer (some ⟨q2, 0, none⟩)] (enters_of Tryd.func43 (by kernel_rfl) rfl) w2 B W sv h1 h2 hl (fun j => fsV 3 W.S.step W.has W.k W.S.opts j) (some q2) (fun c e => by obtain rfl := Option.some.inj e; exact ⟨hs.lt, fun e2 => hneB e2.symm⟩) (fun j w3 => Hx w3 q2 [.bool (vB (sumTo W.S.opts j)), .int .i64 (vN (sumTo W.S.opts j))] 28) hs (fun j w3 w4 r hI hg hg2 hr => Hx.kept hI hg2 (fun e => by have := hr q2 e.symm; have := hs.lt; omega)) (fun j wj hj hg hI => by rw [push_two]; exact fint1_any wj B W sv (FAt.kept h1 hg (fun e => hneB (Option.some.inj e))) (h2.kept hg (hno (by omega))) hall hl hf q q2 (Hx.kept hq hg (fun e => hne (Option.some.inj e))) hne hneB j hj hI))
  have hBl := (hm.hx).lt
  have hVl := fun hp => ERow.block_lt h hp
  obtain ⟨A, c, rfl, -, -, -⟩ := h
  replace hm := hm.hx
  go_enter Tryd.func22, Tryd.ntmps22
  go_upto_region 0 with (fail)
  go_cut [1, 2] (fun p r wc => p = .pointer (some ⟨w.heap.size, 0, none⟩) ∧ r = .slice none 0 0 ∧ w.grownBy wc none ∧ Hx wc B [.string W.S.name, .int .i64 W.S.start, .int .i64 W.S.step, .slice A W.S.vals.length c, .int .i64 W.S.cons, .bool (vB W.k), .int .i64 (vN W.k), .bool W.has] 44 ∧ Hx wc w.heap.size [.pointer (some ⟨B, 0, none⟩)] 42)
  case first =>
    go_wp2_with fail
    go_meet
    exact ⟨rfl, rfl, (by exact G.go HG), Hx.alloc hm _, Hx.new _ _ _⟩
  obtain ⟨rfl, rfl, HG, hm, hq⟩ := hcut
  rename World => wx
  go_upto_region 1 with (fail)
  go_cut [1, 2, 3] (fun p r s wc => ∃ q2, p = .pointer (some ⟨w.heap.size, 0, none⟩) ∧ r = .slice none 0 0 ∧ s = .pointer (some ⟨q2, 0, none⟩) ∧ w.heap.size < q2 ∧ w.grownBy wc none ∧ Hx wc B [.string W.S.name, .int .i64 W.S.start, .int .i64 W.S.step, .slice A W.S.vals.length c, .int .i64 W.S.cons, .bool (vB W.k), .int .i64 (vN W.k), .bool W.has] 44 ∧ Hx wc w.heap.size [.pointer (some ⟨B, 0, none⟩)] 42 ∧ Hx wc q2 [.bool true, .int .i64 0] 28)
  case first =>
    go_wp2_with (go_at_call 37; (with_reducible refine (HO.out _).mono ?_); rintro e wn ⟨rfl, hgn⟩; replace HG := G.trans (w := w) (by exact G.go HG) hgn; replace hm := Hx.kept hm hgn (by simp); replace hq := Hx.kept hq hgn (by simp); clear hgn)
    have hql := hq.lt
    go_meet
    exact ⟨_, rfl, rfl, rfl, hql, (by exact G.go HG), (by first | exact Hx.go hm | exact Hx.go2), (by first | exact Hx.go hq | exact Hx.go2), (by first | exact Hx.go hq | exact Hx.go2)⟩
  obtain ⟨q2, rfl, rfl, rfl, hlt, HG, hm, hq, hs⟩ := hcut
  rename World => wy
  have hno : 0 < W.S.vals.length → ∀ A2 n c2, Value.slice A W.S.vals.length c = .slice (some A2) n c2 → some A2.block ≠ some q2 := by
    intro hp A2 n c2 e e2
    cases e
    have h1 := hVl hp A2 _ _ rfl
    have := Option.some.inj e2
    omega
  have hq_0 := hq.cell 0; have hq_l := hq.lt
  have hsz0 := HG.size
  go_wp2_with (go_at_call 33; (with_reducible refine (HE.out _ _ _ hm (HV.out.kept0 HG) hq hs (by omega) (by omega) hno).mono ?_); rintro e wn ⟨u, rfl, hu, hgn, -⟩; replace HG := G.trans' (w := w) (by exact G.go HG) hgn (fun c e => Or.inl (by obtain rfl := Option.some.inj e; omega)); clear hgn)
  go_ret
  exact ⟨u, rfl, EOwn.mono hu hsz0, HG⟩
set_option maxHeartbeats 8000000 in
set_option maxRecDepth 100000 in
theorem fdelay1_any (w : World) (B : Nat) (W : FWork) (sv : Value) (hm : FAt w B W sv) (h : ERow valE w sv W.S.vals) (hall : W.S.vals.all (fun p => isR p.1 p.2) = true) (hl : W.S.vals.length ≤ 1000000) (_hf : Fits W.k) (q1 q2 q3 : Nat) (ok : Bool) (n : Int) (hn1 : -4611686018427387904 ≤ n) (hn2 : n ≤ 4611686018427387904) (g1 : Hx w q1 [.bool ok] 4) (g2 : Hx w q2 [.int .i64 n] 3) (hq : Hx w q3 [.pointer (some ⟨B, 0, none⟩)] 42) (j : Nat) (hj : j < W.S.vals.length) : Calls Tryd.prog 39 #[.int .i64 (j : Int), .pointer (some ⟨q1, 0, none⟩), .pointer (some ⟨q2, 0, none⟩), .pointer (some ⟨q3, 0, none⟩)] w fun e w' => e = .returned (valV (if ok = true ∧ -131072 ≤ n ∧ n ≤ 131072 then atO W.S.opts ((j : Int) - n) else none)) ∧ w.grownBy w' none := by
  have HG := G.refl w none
  obtain ⟨V, hV⟩ : ∃ V, Hid ((if ok = true ∧ -131072 ≤ n ∧ n ≤ 131072 then atO W.S.opts ((j : Int) - n) else none) = V) := ⟨_, Lib.hid rfl⟩
  rw [hV.out]
  have HV := Lib.hid h
  have HA := Lib.hid (fun w2 (h1 : Hx w2 B [.string W.S.name, .int .i64 W.S.start, .int .i64 W.S.step, sv, .int .i64 W.S.cons, .bool (vB W.k), .int .i64 (vN W.k), .bool W.has] 44) h2 (hb1 : -9223372036854775808 ≤ (j : Int) - n) hb2 => fat_any w2 B W sv h1 h2 hall ((j : Int) - n) hb1 hb2)
  obtain ⟨A, c, rfl, -, -, -⟩ := h
  replace hm := hm.hx
  by_cases c0 : ok = false
  · subst c0
    have hfin : Hid (V = none) := Lib.hid (by rw [← hV.out]; exact if_neg (by simp))
    clear hV
    go_enter Tryd.func39, Tryd.ntmps39
    go_upto_region 0 with (fail)
    go_cut [5] (fun r wc => r = .pointer (some ⟨w.heap.size, 0, none⟩) ∧ w.grownBy wc none ∧ Hx wc w.heap.size [.bool false, .int .i64 0] 28 ∧ Hx wc q1 [.bool false] 4 ∧ Hx wc q2 [.int .i64 n] 3 ∧ Hx wc q3 [.pointer (some ⟨B, 0, none⟩)] 42 ∧ Hx wc B [.string W.S.name, .int .i64 W.S.start, .int .i64 W.S.step, .slice A W.S.vals.length c, .int .i64 W.S.cons, .bool (vB W.k), .int .i64 (vN W.k), .bool W.has] 44)
    case first =>
      go_wp2_with fail
      go_meet
      exact ⟨rfl, (by exact G.go HG), Hx.new _ _ _, Hx.alloc g1 _, Hx.alloc g2 _, Hx.alloc hq _, Hx.alloc hm _⟩
    obtain ⟨rfl, HG, hr, g1, g2, hq, hm⟩ := hcut
    have hr_0 := hr.cell 0; have hr_1 := hr.cell 1; have hr_f0 := hr.free 0; have hr_f1 := hr.free 1; have hr_l := hr.lt; have g1_0 := g1.cell 0; have g1_f0 := g1.free 0; have g1_l := g1.lt; have g2_0 := g2.cell 0; have g2_f0 := g2.free 0; have g2_l := g2.lt; have hq_0 := hq.cell 0; have hq_f0 := hq.free 0; have hq_l := hq.lt
    go_upto_region 1 with (fail)
    go_wp2_with fail
    refine ret_cell [.bool false, .int .i64 0] w.heap.size 28 rfl rfl (Tryd.isAgg28 _) (Tryd.sizeOf28 _) rfl ?_ ⟨by rw [hfin.out]; rfl, (by exact G.go HG)⟩
    exact (by first | exact Hx.go hr | exact Hx.go2)
  obtain rfl : ok = true := by simpa using c0
  clear c0
  by_cases c1 : 131072 < n
  · have d1 : decide (131072 < n) = true := decide_eq_true c1
    have hfin : Hid (V = none) := Lib.hid (by rw [← hV.out]; exact if_neg (by omega))
    clear hV
    go_enter Tryd.func39, Tryd.ntmps39
    go_upto_region 0 with (fail)
    go_cut [5] (fun r wc => r = .pointer (some ⟨w.heap.size, 0, none⟩) ∧ w.grownBy wc none ∧ Hx wc w.heap.size [.bool false, .int .i64 0] 28 ∧ Hx wc q1 [.bool true] 4 ∧ Hx wc q2 [.int .i64 n] 3 ∧ Hx wc q3 [.pointer (some ⟨B, 0, none⟩)] 42 ∧ Hx wc B [.string W.S.name, .int .i64 W.S.start, .int .i64 W.S.step, .slice A W.S.vals.length c, .int .i64 W.S.cons, .bool (vB W.k), .int .i64 (vN W.k), .bool W.has] 44)
    case first =>
      go_wp2_with fail
      go_meet
      exact ⟨rfl, (by exact G.go HG), Hx.new _ _ _, Hx.alloc g1 _, Hx.alloc g2 _, Hx.alloc hq _, Hx.alloc hm _⟩
    obtain ⟨rfl, HG, hr, g1, g2, hq, hm⟩ := hcut
    have hr_0 := hr.cell 0; have hr_1 := hr.cell 1; have hr_f0 := hr.free 0; have hr_f1 := hr.free 1; have hr_l := hr.lt; have g1_0 := g1.cell 0; have g1_f0 := g1.free 0; have g1_l := g1.lt; have g2_0 := g2.cell 0; have g2_f0 := g2.free 0; have g2_l := g2.lt; have hq_0 := hq.cell 0; have hq_f0 := hq.free 0; have hq_l := hq.lt
    go_upto_region 1 with (fail)
    go_wp2_with fail
    refine ret_cell [.bool false, .int .i64 0] w.heap.size 28 rfl rfl (Tryd.isAgg28 _) (Tryd.sizeOf28 _) rfl ?_ ⟨by rw [hfin.out]; rfl, (by exact G.go HG)⟩
    exact (by first | exact Hx.go hr | exact Hx.go2)
  have d1 : decide (131072 < n) = false := decide_eq_false c1
  by_cases c2 : n < -131072
  · have d2 : decide (n < -131072) = true := decide_eq_true c2
    have hfin : Hid (V = none) := Lib.hid (by rw [← hV.out]; exact if_neg (by omega))
    clear hV
    go_enter Tryd.func39, Tryd.ntmps39
    go_upto_region 0 with (fail)
    go_cut [5] (fun r wc => r = .pointer (some ⟨w.heap.size, 0, none⟩) ∧ w.grownBy wc none ∧ Hx wc w.heap.size [.bool false, .int .i64 0] 28 ∧ Hx wc q1 [.bool true] 4 ∧ Hx wc q2 [.int .i64 n] 3 ∧ Hx wc q3 [.pointer (some ⟨B, 0, none⟩)] 42 ∧ Hx wc B [.string W.S.name, .int .i64 W.S.start, .int .i64 W.S.step, .slice A W.S.vals.length c, .int .i64 W.S.cons, .bool (vB W.k), .int .i64 (vN W.k), .bool W.has] 44)
    case first =>
      go_wp2_with fail
      go_meet
      exact ⟨rfl, (by exact G.go HG), Hx.new _ _ _, Hx.alloc g1 _, Hx.alloc g2 _, Hx.alloc hq _, Hx.alloc hm _⟩
    obtain ⟨rfl, HG, hr, g1, g2, hq, hm⟩ := hcut
    have hr_0 := hr.cell 0; have hr_1 := hr.cell 1; have hr_f0 := hr.free 0; have hr_f1 := hr.free 1; have hr_l := hr.lt; have g1_0 := g1.cell 0; have g1_f0 := g1.free 0; have g1_l := g1.lt; have g2_0 := g2.cell 0; have g2_f0 := g2.free 0; have g2_l := g2.lt; have hq_0 := hq.cell 0; have hq_f0 := hq.free 0; have hq_l := hq.lt
    go_upto_region 1 with (fail)
    go_wp2_with fail
    refine ret_cell [.bool false, .int .i64 0] w.heap.size 28 rfl rfl (Tryd.isAgg28 _) (Tryd.sizeOf28 _) rfl ?_ ⟨by rw [hfin.out]; rfl, (by exact G.go HG)⟩
    exact (by first | exact Hx.go hr | exact Hx.go2)
  have d2 : decide (n < -131072) = false := decide_eq_false c2
  have hfin : V = atO W.S.opts ((j : Int) - n) := by rw [← hV.out]; exact if_pos ⟨rfl, by omega, by omega⟩
  clear hV
  subst hfin
  have hwr : IntKind.i64.wrap ((j : Int) - n) = (j : Int) - n := by rw [IntKind.wrap_i64]; omega
  have HA3 := Lib.hid (fun w2 h1 h2 => HA.out w2 h1 h2 (by omega) (by omega))
  have hvv := Lib.hid (valV_form (atO W.S.opts ((j : Int) - n)))
  generalize atO W.S.opts ((j : Int) - n) = R at *
  rw [valV_form] at HA3
  clear HA
  go_enter Tryd.func39, Tryd.ntmps39
  go_upto_region 0 with (fail)
  go_cut [5] (fun r wc => r = .pointer (some ⟨w.heap.size, 0, none⟩) ∧ w.grownBy wc none ∧ Hx wc w.heap.size [.bool false, .int .i64 0] 28 ∧ Hx wc q1 [.bool true] 4 ∧ Hx wc q2 [.int .i64 n] 3 ∧ Hx wc q3 [.pointer (some ⟨B, 0, none⟩)] 42 ∧ Hx wc B [.string W.S.name, .int .i64 W.S.start, .int .i64 W.S.step, .slice A W.S.vals.length c, .int .i64 W.S.cons, .bool (vB W.k), .int .i64 (vN W.k), .bool W.has] 44)
  case first =>
    go_wp2_with fail
    go_meet
    exact ⟨rfl, (by exact G.go HG), Hx.new _ _ _, Hx.alloc g1 _, Hx.alloc g2 _, Hx.alloc hq _, Hx.alloc hm _⟩
  obtain ⟨rfl, HG, hr, g1, g2, hq, hm⟩ := hcut
  have hr_0 := hr.cell 0; have hr_1 := hr.cell 1; have hr_f0 := hr.free 0; have hr_f1 := hr.free 1; have hr_l := hr.lt; have g1_0 := g1.cell 0; have g1_f0 := g1.free 0; have g1_l := g1.lt; have g2_0 := g2.cell 0; have g2_f0 := g2.free 0; have g2_l := g2.lt; have hq_0 := hq.cell 0; have hq_f0 := hq.free 0; have hq_l := hq.lt
  go_upto_region 1 with (fail)
  go_wp2_with (go_at_call 40; (with_reducible refine (HA3.out _ hm (HV.out.kept0 (by exact G.go HG))).mono ?_); rintro e wn ⟨rfl, hgn⟩; replace HG := G.trans (w := w) (by exact G.go HG) hgn; replace hr := Hx.kept (by first | exact Hx.go hr | exact Hx.go2) hgn (by simp); have hr_0 := hr.cell 0; have hr_1 := hr.cell 1; have hr_f0 := hr.free 0; have hr_f1 := hr.free 1; have hr_l := hr.lt; clear hgn)
  refine ret_cell [.bool (vB R), .int .i64 (vN R)] w.heap.size 28 rfl rfl (Tryd.isAgg28 _) (Tryd.sizeOf28 _) rfl ?_ ⟨by rw [hvv.out], (by exact G.go HG)⟩
  exact (by first | exact Hx.go hr | exact Hx.go2)
theorem push_three (x y z u : Value) : ((#[] : Array Value).push x ++ #[y, z, u]) = #[x, y, z, u] := by simp
theorem fsV_delay (step : Int) (has : Bool) (k : Option Int) (X : List (Option Int)) (j : Nat) : fsV 1 step has k X j = if wholeB k = true ∧ -131072 ≤ wholeT k ∧ wholeT k ≤ 131072 then atO X ((j : Int) - wholeT k) else none := by
  show (match wholeO k with | none => none | some n => if -131072 ≤ n ∧ n ≤ 131072 then atO X ((j : Int) - n) else none) = _
  rw [wholeO_eq]
  cases wholeB k with
  | false => simp
  | true => simp
set_option maxHeartbeats 8000000 in
set_option maxRecDepth 100000 in
theorem fdelay_any (w : World) (B : Nat) (W : FWork) (sv : Value) (hm : FAt w B W sv) (h : ERow valE w sv W.S.vals) (hall : W.S.vals.all (fun p => isR p.1 p.2) = true) (hl : W.S.vals.length ≤ 1000000) (hf : Fits W.k) : Calls Tryd.prog 20 #[.pointer (some ⟨B, 0, none⟩)] w fun e w' => FsRow 1 W w e w' := by
  have HG := G.refl w none
  have HV := Lib.hid h
  have hrg := wholeT_range hf
  have HW := Lib.hid (fun w2 (h1 : Hx w2 B [.string W.S.name, .int .i64 W.S.start, .int .i64 W.S.step, sv, .int .i64 W.S.cons, .bool (vB W.k), .int .i64 (vN W.k), .bool W.has] 44) => fwhole_any w2 B W sv h1 hf)
  have HE := Lib.hid (fun w2 q1 q2 q3 (h1 : Hx w2 B [.string W.S.name, .int .i64 W.S.start, .int .i64 W.S.step, sv, .int .i64 W.S.cons, .bool (vB W.k), .int .i64 (vN W.k), .bool W.has] 44) h2 (g1 : Hx w2 q1 [.bool (wholeB W.k)] 4) (g2 : Hx w2 q2 [.int .i64 (wholeT W.k)] 3) (hq : Hx w2 q3 [.pointer (some ⟨B, 0, none⟩)] 42) => each_any 39 #[] #[.pointer (some ⟨q1, 0, none⟩), .pointer (some ⟨q2, 0, none⟩), .pointer (some ⟨q3, 0, none⟩)] (enters_of Tryd.func39 (by kernel_rfl) rfl) w2 B W sv h1 h2 hl (fun j => fsV 1 W.S.step W.has W.k W.S.opts j) none (fun c e => by cases e) (fun _ _ => True) trivial (fun _ _ _ _ _ _ _ _ => trivial) (fun j wj hj hg _ => by rw [push_three, fsV_delay]; exact (fdelay1_any wj B W sv (FAt.kept h1 hg (by simp)) (h2.kept0 hg) hall hl hf q1 q2 q3 _ _ hrg.1 hrg.2 (Hx.kept g1 hg (by simp)) (Hx.kept g2 hg (by simp)) (Hx.kept hq hg (by simp)) j hj).mono fun e w3 hh => ⟨hh.1, hh.2, trivial⟩))
  obtain ⟨A, c, rfl, -, -, -⟩ := h
  replace hm := hm.hx
  generalize hok : wholeB W.k = ok at *
  generalize hnn : wholeT W.k = n at *
  go_enter Tryd.func20, Tryd.ntmps20
  go_upto_region 0 with (fail)
  go_cut [1, 2] (fun p r wc => p = .pointer (some ⟨w.heap.size, 0, none⟩) ∧ r = .slice none 0 0 ∧ w.grownBy wc none ∧ Hx wc B [.string W.S.name, .int .i64 W.S.start, .int .i64 W.S.step, .slice A W.S.vals.length c, .int .i64 W.S.cons, .bool (vB W.k), .int .i64 (vN W.k), .bool W.has] 44 ∧ Hx wc w.heap.size [.pointer (some ⟨B, 0, none⟩)] 42)
  case first =>
    go_wp2_with fail
    go_meet
    exact ⟨rfl, rfl, (by exact G.go HG), Hx.alloc hm _, Hx.new _ _ _⟩
  obtain ⟨rfl, rfl, HG, hm, hq⟩ := hcut
  rename World => wx
  have hq_0 := hq.cell 0; have hq_l := hq.lt
  go_upto_region 1 with (fail)
  go_cut [1, 2, 3, 4] (fun p r s t wc => ∃ q2 q1, p = .pointer (some ⟨w.heap.size, 0, none⟩) ∧ r = .slice none 0 0 ∧ s = .pointer (some ⟨q2, 0, none⟩) ∧ t = .pointer (some ⟨q1, 0, none⟩) ∧ w.grownBy wc none ∧ Hx wc B [.string W.S.name, .int .i64 W.S.start, .int .i64 W.S.step, .slice A W.S.vals.length c, .int .i64 W.S.cons, .bool (vB W.k), .int .i64 (vN W.k), .bool W.has] 44 ∧ Hx wc w.heap.size [.pointer (some ⟨B, 0, none⟩)] 42 ∧ Hx wc q2 [.int .i64 n] 3 ∧ Hx wc q1 [.bool ok] 4)
  case first =>
    go_wp2_with (go_at_call 38; (with_reducible refine (HW.out _ hm).mono ?_); rintro e wn ⟨rfl, hgn⟩; replace HG := G.trans (w := w) (by exact G.go HG) hgn; replace hm := Hx.kept hm hgn (by simp); replace hq := Hx.kept hq hgn (by simp); clear hgn)
    have hql := hq.lt
    go_meet
    exact ⟨_, _, rfl, rfl, rfl, rfl, (by exact G.go HG), (by first | exact Hx.go hm | exact Hx.go2), (by first | exact Hx.go hq | exact Hx.go2), (by first | exact Hx.go hq | exact Hx.go2), (by first | exact Hx.go hq | exact Hx.go2)⟩
  obtain ⟨q2, q1, rfl, rfl, rfl, rfl, HG, hm, hq, g2, g1⟩ := hcut
  rename World => wy
  have hq_0 := hq.cell 0; have hq_l := hq.lt
  have hsz0 := HG.size
  go_wp2_with (go_at_call 33; (with_reducible refine (HE.out _ _ _ _ hm (HV.out.kept0 HG) g1 g2 hq).mono ?_); rintro e wn ⟨u, rfl, hu, hgn, -⟩; replace HG := G.trans (w := w) (by exact G.go HG) hgn; clear hgn)
  go_ret
  exact ⟨u, rfl, EOwn.mono hu hsz0, HG⟩
end Go.Proofs.YtkablhamnepfnaaDoor
