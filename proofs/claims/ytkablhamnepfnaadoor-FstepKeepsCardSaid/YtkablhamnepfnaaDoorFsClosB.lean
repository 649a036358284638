/-
  The functions on places: rises, and what is made of it. Printed by genfsclosb.py.
-/
import Derived.Test.YtkablhamnepfnaaDoorFsBase
namespace Go.Proofs.YtkablhamnepfnaaDoor
open Go.RowKit
set_option maxHeartbeats 16000000 in
set_option maxRecDepth 100000 in
theorem frises_any (w : World) (B : Nat) (W : FWork) (sv : Value) (hm : FAt w B W sv) (h : ERow valE w sv W.S.vals) (hall : W.S.vals.all (fun p => isR p.1 p.2) = true) (hl : W.S.vals.length ≤ 1000000) (hf : Fits W.k) (j : Nat) (hj : j < W.S.vals.length) : Calls Tryd.prog 50 #[.pointer (some ⟨B, 0, none⟩), .int .i64 (j : Int)] w fun e w' => e = .returned (valV (riseO (W.S.opts.getD j none) (atO W.S.opts ((j : Int) - 1)) W.k)) ∧ w.grownBy w' none := by
  have HG := G.refl w none
  have HA1 := Lib.hid (fun w2 (h1 : Hx w2 B [.string W.S.name, .int .i64 W.S.start, .int .i64 W.S.step, sv, .int .i64 W.S.cons, .bool (vB W.k), .int .i64 (vN W.k), .bool W.has] 44) h2 => fat_any w2 B W sv h1 h2 hall (j : Int) (by omega) (by omega))
  have HA2 := Lib.hid (fun w2 (h1 : Hx w2 B [.string W.S.name, .int .i64 W.S.start, .int .i64 W.S.step, sv, .int .i64 W.S.cons, .bool (vB W.k), .int .i64 (vN W.k), .bool W.has] 44) h2 => fat_any w2 B W sv h1 h2 hall ((j : Int) - 1) (by omega) (by omega))
  rw [atO_nat] at HA1
  have hfa := opts_fits W.S j
  have hfb := atO_fits W.S ((j : Int) - 1)
  generalize W.S.opts.getD j none = va at *
  generalize atO W.S.opts ((j : Int) - 1) = vb at *
  obtain ⟨V, hV⟩ : ∃ V, Hid (riseO va vb W.k = V) := ⟨_, Lib.hid rfl⟩
  rw [hV.out]
  have hvv := Lib.hid (valV_form V)
  rw [valV_form] at HA1 HA2
  have hwr : IntKind.i64.wrap ((j : Int) - 1) = (j : Int) - 1 := by rw [IntKind.wrap_i64]; omega
  have HV := Lib.hid h
  obtain ⟨A, c, rfl, -, -, -⟩ := h
  replace hm := hm.hx
  go_enter Tryd.func50, Tryd.ntmps50
  go_upto_region 0 with (fail)
  go_cut [4] (fun p4 wc => p4 = .pointer (some ⟨w.heap.size, 0, none⟩) ∧ w.grownBy wc none ∧ Hx wc w.heap.size [.bool false, .int .i64 0] 28 ∧ Hx wc B [.string W.S.name, .int .i64 W.S.start, .int .i64 W.S.step, .slice A W.S.vals.length c, .int .i64 W.S.cons, .bool (vB W.k), .int .i64 (vN W.k), .bool W.has] 44)
  case first =>
    go_wp2_with fail
    go_meet
    exact ⟨rfl, (by exact G.go HG), Hx.new _ _ _, Hx.alloc hm _⟩
  obtain ⟨rfl, HG, hr, hm⟩ := hcut
  rename World => wx
  have hrl := hr.lt
  go_upto_region 1 with (fail)
  go_cut [4, 5, 6] (fun p4 p5 p6 wd => ∃ O1 O2, p4 = .pointer (some ⟨w.heap.size, 0, none⟩) ∧ p5 = .pointer (some ⟨O1, 0, none⟩) ∧ p6 = .pointer (some ⟨O2, 0, none⟩) ∧ w.grownBy wd none ∧ w.heap.size < O1 ∧ O1 < O2 ∧ Hx wd w.heap.size [.bool false, .int .i64 0] 28 ∧ Hx wd B [.string W.S.name, .int .i64 W.S.start, .int .i64 W.S.step, .slice A W.S.vals.length c, .int .i64 W.S.cons, .bool (vB W.k), .int .i64 (vN W.k), .bool W.has] 44 ∧ Hx wd O1 [.bool (vB va), .int .i64 (vN va)] 28 ∧ Hx wd O2 [.bool (vB vb), .int .i64 (vN vb)] 28)
  case first =>
    go_wp2_with (go_at_call 40; (first | (with_reducible refine (HA1.out _ hm (HV.out.kept0 (by exact G.go HG))).mono ?_) | (with_reducible refine (HA2.out _ hm (HV.out.kept0 (by exact G.go HG))).mono ?_)); rintro e wn ⟨rfl, hgn⟩; have hsz := hgn.size; replace HG := G.trans (w := w) (by exact G.go HG) hgn; replace hr := Hx.kept hr hgn (by simp); replace hm := Hx.kept hm hgn (by simp); clear hgn)
    have hrl2 := hr.lt
    go_meet
    exact ⟨_, _, rfl, rfl, rfl, (by exact G.go HG), hrl2, by simp, (by first | exact Hx.go hr | exact Hx.go2), (by first | exact Hx.go hm | exact Hx.go2), (by first | exact Hx.go hr | exact Hx.go2), (by first | exact Hx.go hr | exact Hx.go2)⟩
  obtain ⟨O1, O2, rfl, rfl, rfl, HG, ho1, ho2, hr, hm, ha, hb⟩ := hcut
  clear HA1 HA2 hwr hrl
  rename World => wy
  have hn1 : ¬ w.heap.size = O1 := by omega
  have hn2 : ¬ w.heap.size = O2 := by omega
  cases va with
  | none =>
    have hfin : Hid (V = none) := Lib.hid (by rw [← hV.out]; rfl)
    have ha : Hx wy O1 [.bool false, .int .i64 0] 28 := ha
    have hr_0 := hr.cell 0; have hr_1 := hr.cell 1; have hr_f0 := hr.free 0; have hr_f1 := hr.free 1; have hr_l := hr.lt; have ha_0 := ha.cell 0; have ha_1 := ha.cell 1; have ha_f0 := ha.free 0; have ha_f1 := ha.free 1; have ha_l := ha.lt
    go_wp2_with fail
    refine ret_cell [.bool false, .int .i64 0] w.heap.size 28 rfl rfl (Tryd.isAgg28 _) (Tryd.sizeOf28 _) rfl ?_ ⟨by rw [hfin.out]; rfl, (by exact G.go HG)⟩
    exact (by first | exact Hx.go hr | exact Hx.go2)
  | some x =>
    cases vb with
    | none =>
      have hfin : Hid (V = none) := Lib.hid (by rw [← hV.out]; rfl)
      have ha : Hx wy O1 [.bool true, .int .i64 x] 28 := ha
      have hb : Hx wy O2 [.bool false, .int .i64 0] 28 := hb
      have hr_0 := hr.cell 0; have hr_1 := hr.cell 1; have hr_f0 := hr.free 0; have hr_f1 := hr.free 1; have hr_l := hr.lt; have ha_0 := ha.cell 0; have ha_1 := ha.cell 1; have ha_f0 := ha.free 0; have ha_f1 := ha.free 1; have ha_l := ha.lt; have hb_0 := hb.cell 0; have hb_1 := hb.cell 1; have hb_f0 := hb.free 0; have hb_f1 := hb.free 1; have hb_l := hb.lt
      go_wp2_with fail
      refine ret_cell [.bool false, .int .i64 0] w.heap.size 28 rfl rfl (Tryd.isAgg28 _) (Tryd.sizeOf28 _) rfl ?_ ⟨by rw [hfin.out]; rfl, (by exact G.go HG)⟩
      exact (by first | exact Hx.go hr | exact Hx.go2)
    | some y =>
      have ha : Hx wy O1 [.bool true, .int .i64 x] 28 := ha
      have hb : Hx wy O2 [.bool true, .int .i64 y] 28 := hb
      have HS := Lib.hid (fun w2 => sub_any w2 true true x y)
      rw [show vK true x = some x from vK_form hfa, show vK true y = some y from vK_form hfb] at HS
      obtain ⟨D, hD⟩ : ∃ D, Hid (subO (some x) (some y) = D) := ⟨_, Lib.hid rfl⟩
      rw [hD.out, valV_form] at HS
      have ha_0 := ha.cell 0; have ha_1 := ha.cell 1; have ha_f0 := ha.free 0; have ha_f1 := ha.free 1; have ha_l := ha.lt; have hb_0 := hb.cell 0; have hb_1 := hb.cell 1; have hb_f0 := hb.free 0; have hb_f1 := hb.free 1; have hb_l := hb.lt
      go_upto_region 4 with (fail)
      go_cut [4, 5, 6, 7] (fun p4 p5 p6 p7 wd => ∃ O3, p4 = .pointer (some ⟨w.heap.size, 0, none⟩) ∧ p5 = .pointer (some ⟨O1, 0, none⟩) ∧ p6 = .pointer (some ⟨O2, 0, none⟩) ∧ p7 = .pointer (some ⟨O3, 0, none⟩) ∧ w.grownBy wd none ∧ O2 < O3 ∧ Hx wd w.heap.size [.bool false, .int .i64 0] 28 ∧ Hx wd B [.string W.S.name, .int .i64 W.S.start, .int .i64 W.S.step, .slice A W.S.vals.length c, .int .i64 W.S.cons, .bool (vB W.k), .int .i64 (vN W.k), .bool W.has] 44 ∧ Hx wd O1 [.bool true, .int .i64 x] 28 ∧ Hx wd O2 [.bool true, .int .i64 y] 28 ∧ Hx wd O3 [.bool (vB D), .int .i64 (vN D)] 28)
      case first =>
        go_wp2_with (go_at_call 42; (with_reducible refine (HS.out _).mono ?_); rintro e wn ⟨rfl, hgn⟩; replace HG := G.trans (w := w) (by exact G.go HG) hgn; replace hr := Hx.kept hr hgn (by simp); replace hm := Hx.kept hm hgn (by simp); replace ha := Hx.kept ha hgn (by simp); replace hb := Hx.kept hb hgn (by simp); clear hgn)
        have hbl2 := hb.lt
        go_meet
        exact ⟨_, rfl, rfl, rfl, rfl, (by exact G.go HG), hbl2, (by first | exact Hx.go hr | exact Hx.go2), (by first | exact Hx.go hm | exact Hx.go2), (by first | exact Hx.go ha | exact Hx.go2), (by first | exact Hx.go hb | exact Hx.go2), (by first | exact Hx.go hr | exact Hx.go2)⟩
      clear ha_0 ha_1 ha_f0 ha_f1 ha_l hb_0 hb_1 hb_f0 hb_f1 hb_l
      obtain ⟨O3, rfl, rfl, rfl, rfl, HG, ho3, hr, hm, ha, hb, hd⟩ := hcut
      clear HS
      rename World => wz
      have hn3 : ¬ w.heap.size = O3 := by omega
      obtain ⟨bd, hbd⟩ : ∃ bd, Hid ((vB D && decide (0 ≤ vN D)) = bd) := ⟨_, Lib.hid rfl⟩
      go_upto_region 5 with (fail)
      go_cut [4, 5, 6, 7, 33] (fun p4 p5 p6 p7 p33 wd => p4 = .pointer (some ⟨w.heap.size, 0, none⟩) ∧ p5 = .pointer (some ⟨O1, 0, none⟩) ∧ p6 = .pointer (some ⟨O2, 0, none⟩) ∧ p7 = .pointer (some ⟨O3, 0, none⟩) ∧ p33 = .bool bd ∧ wz.grownBy wd none)
      case first =>
        have HGz := G.refl wz none
        cases D with
        | none =>
          obtain rfl : bd = false := hbd.out.symm
          have hd : Hx wz O3 [.bool false, .int .i64 0] 28 := hd
          have hd_0 := hd.cell 0; have hd_1 := hd.cell 1; have hd_f0 := hd.free 0; have hd_f1 := hd.free 1; have hd_l := hd.lt
          go_wp2_with fail
          go_meet
          exact ⟨rfl, rfl, rfl, rfl, rfl, (by exact G.go HGz)⟩
        | some d =>
          have hd : Hx wz O3 [.bool true, .int .i64 d] 28 := hd
          have hd_0 := hd.cell 0; have hd_1 := hd.cell 1; have hd_f0 := hd.free 0; have hd_f1 := hd.free 1; have hd_l := hd.lt
          have hbe : decide (0 ≤ d) = bd := by rw [← hbd.out]; exact (Bool.true_and _).symm
          clear hbd
          go_wp2_with fail
          go_meet
          exact ⟨rfl, rfl, rfl, rfl, by first | rfl | (simp [hbe]; done) | (rw [← hbe]; simp), (by exact G.go HGz)⟩
      obtain ⟨rfl, rfl, rfl, rfl, rfl, hgz⟩ := hcut
      replace HG := G.trans HG hgz
      replace hr := Hx.kept hr hgz (by simp)
      replace hm := Hx.kept hm hgz (by simp)
      replace ha := Hx.kept ha hgz (by simp)
      replace hb := Hx.kept hb hgz (by simp)
      replace hd := Hx.kept hd hgz (by simp)
      clear hgz
      rename World => wq
      cases bd
      rotate_left
      · obtain ⟨d, rfl⟩ : ∃ d, D = some d := by
          cases D with
          | none => exact absurd hbd.out (by simp [vB])
          | some d => exact ⟨d, rfl⟩
        have hd0 : 0 ≤ d := of_decide_eq_true (show decide (0 ≤ d) = true from hbd.out)
        have hfin : Hid (V = some d) := Lib.hid (by rw [← hV.out]; exact rise_hit hD.out hd0)
        have hd : Hx wq O3 [.bool true, .int .i64 d] 28 := hd
        have hr_0 := hr.cell 0; have hr_1 := hr.cell 1; have hr_f0 := hr.free 0; have hr_f1 := hr.free 1; have hr_l := hr.lt; have hd_0 := hd.cell 0; have hd_1 := hd.cell 1; have hd_f0 := hd.free 0; have hd_f1 := hd.free 1; have hd_l := hd.lt
        go_wp2_with fail
        refine ret_cell [.bool true, .int .i64 d] w.heap.size 28 rfl rfl (Tryd.isAgg28 _) (Tryd.sizeOf28 _) rfl ?_ ⟨by rw [hfin.out]; rfl, (by exact G.go HG)⟩
        exact (by first | exact Hx.go hr | exact Hx.go2)
      have hno : ∀ d, subO (some x) (some y) = some d → ¬ 0 ≤ d := by
        intro d e h0
        rw [hD.out] at e
        subst e
        have h1 : decide (0 ≤ d) = false := hbd.out
        exact of_decide_eq_false h1 h0
      clear hbd hd
      by_cases hxy : y ≤ x
      · have hfin : Hid (V = none) := Lib.hid (by rw [← hV.out]; exact rise_none hxy hno)
        have hge : decide (y ≤ x) = true := decide_eq_true hxy
        have hr_0 := hr.cell 0; have hr_1 := hr.cell 1; have hr_f0 := hr.free 0; have hr_f1 := hr.free 1; have hr_l := hr.lt; have hm_0 := hm.cell 0; have hm_1 := hm.cell 1; have hm_2 := hm.cell 2; have hm_3 := hm.cell 3; have hm_4 := hm.cell 4; have hm_5 := hm.cell 5; have hm_6 := hm.cell 6; have hm_7 := hm.cell 7; have hm_f0 := hm.free 0; have hm_f1 := hm.free 1; have hm_f2 := hm.free 2; have hm_f3 := hm.free 3; have hm_f4 := hm.free 4; have hm_f5 := hm.free 5; have hm_f6 := hm.free 6; have hm_f7 := hm.free 7; have hm_l := hm.lt; have ha_0 := ha.cell 0; have ha_1 := ha.cell 1; have ha_f0 := ha.free 0; have ha_f1 := ha.free 1; have ha_l := ha.lt; have hb_0 := hb.cell 0; have hb_1 := hb.cell 1; have hb_f0 := hb.free 0; have hb_f1 := hb.free 1; have hb_l := hb.lt
        go_upto_region 7 with (fail)
        go_quiet (fail)
        go_wp2_with fail
        refine ret_cell [.bool false, .int .i64 0] w.heap.size 28 rfl rfl (Tryd.isAgg28 _) (Tryd.sizeOf28 _) rfl ?_ ⟨by rw [hfin.out]; rfl, (by exact G.go HG)⟩
        exact (by first | exact Hx.go hr | exact Hx.go2)
      have hlt : x < y := by omega
      have hge : decide (y ≤ x) = false := decide_eq_false hxy
      have hV2 := hV.out
      rw [rise_up hlt] at hV2
      clear hno hD hV
      cases hk : W.k with
      | none =>
        rw [hk] at hV2 hm
        have hfin : Hid (V = none) := Lib.hid hV2.symm
        have hm : Hx wq B [.string W.S.name, .int .i64 W.S.start, .int .i64 W.S.step, .slice A W.S.vals.length c, .int .i64 W.S.cons, .bool false, .int .i64 0, .bool W.has] 44 := hm
        have hr_0 := hr.cell 0; have hr_1 := hr.cell 1; have hr_f0 := hr.free 0; have hr_f1 := hr.free 1; have hr_l := hr.lt; have hm_0 := hm.cell 0; have hm_1 := hm.cell 1; have hm_2 := hm.cell 2; have hm_3 := hm.cell 3; have hm_4 := hm.cell 4; have hm_5 := hm.cell 5; have hm_6 := hm.cell 6; have hm_7 := hm.cell 7; have hm_f0 := hm.free 0; have hm_f1 := hm.free 1; have hm_f2 := hm.free 2; have hm_f3 := hm.free 3; have hm_f4 := hm.free 4; have hm_f5 := hm.free 5; have hm_f6 := hm.free 6; have hm_f7 := hm.free 7; have hm_l := hm.lt; have ha_0 := ha.cell 0; have ha_1 := ha.cell 1; have ha_f0 := ha.free 0; have ha_f1 := ha.free 1; have ha_l := ha.lt; have hb_0 := hb.cell 0; have hb_1 := hb.cell 1; have hb_f0 := hb.free 0; have hb_f1 := hb.free 1; have hb_l := hb.lt
        go_upto_region 7 with (fail)
        go_quiet (fail)
        go_wp2_with fail
        refine ret_cell [.bool false, .int .i64 0] w.heap.size 28 rfl rfl (Tryd.isAgg28 _) (Tryd.sizeOf28 _) rfl ?_ ⟨by rw [hfin.out]; rfl, (by exact G.go HG)⟩
        exact (by first | exact Hx.go hr | exact Hx.go2)
      | some m =>
        rw [hk] at hV2 hm hf
        have hm : Hx wq B [.string W.S.name, .int .i64 W.S.start, .int .i64 W.S.step, .slice A W.S.vals.length c, .int .i64 W.S.cons, .bool true, .int .i64 m, .bool W.has] 44 := hm
        have hV3 : (if x ≤ m then sum3 (subO (some m) (some y)) (some x) (some 1000000) else none) = V := hV2
        clear hV2 hk
        by_cases hxm : x ≤ m
        rotate_left
        · have hfin : Hid (V = none) := Lib.hid (by rw [← hV3, if_neg hxm])
          have hlm : decide (m < x) = true := decide_eq_true (by omega)
          have hr_0 := hr.cell 0; have hr_1 := hr.cell 1; have hr_f0 := hr.free 0; have hr_f1 := hr.free 1; have hr_l := hr.lt; have hm_0 := hm.cell 0; have hm_1 := hm.cell 1; have hm_2 := hm.cell 2; have hm_3 := hm.cell 3; have hm_4 := hm.cell 4; have hm_5 := hm.cell 5; have hm_6 := hm.cell 6; have hm_7 := hm.cell 7; have hm_f0 := hm.free 0; have hm_f1 := hm.free 1; have hm_f2 := hm.free 2; have hm_f3 := hm.free 3; have hm_f4 := hm.free 4; have hm_f5 := hm.free 5; have hm_f6 := hm.free 6; have hm_f7 := hm.free 7; have hm_l := hm.lt; have ha_0 := ha.cell 0; have ha_1 := ha.cell 1; have ha_f0 := ha.free 0; have ha_f1 := ha.free 1; have ha_l := ha.lt; have hb_0 := hb.cell 0; have hb_1 := hb.cell 1; have hb_f0 := hb.free 0; have hb_f1 := hb.free 1; have hb_l := hb.lt
          go_upto_region 7 with (fail)
          go_quiet (fail)
          go_wp2_with fail
          refine ret_cell [.bool false, .int .i64 0] w.heap.size 28 rfl rfl (Tryd.isAgg28 _) (Tryd.sizeOf28 _) rfl ?_ ⟨by rw [hfin.out]; rfl, (by exact G.go HG)⟩
          exact (by first | exact Hx.go hr | exact Hx.go2)
        rw [if_pos hxm] at hV3
        have hlm : decide (m < x) = false := decide_eq_false (by omega)
        have hr_0 := hr.cell 0; have hr_1 := hr.cell 1; have hr_f0 := hr.free 0; have hr_f1 := hr.free 1; have hr_l := hr.lt; have hm_0 := hm.cell 0; have hm_1 := hm.cell 1; have hm_2 := hm.cell 2; have hm_3 := hm.cell 3; have hm_4 := hm.cell 4; have hm_5 := hm.cell 5; have hm_6 := hm.cell 6; have hm_7 := hm.cell 7; have hm_f0 := hm.free 0; have hm_f1 := hm.free 1; have hm_f2 := hm.free 2; have hm_f3 := hm.free 3; have hm_f4 := hm.free 4; have hm_f5 := hm.free 5; have hm_f6 := hm.free 6; have hm_f7 := hm.free 7; have hm_l := hm.lt; have ha_0 := ha.cell 0; have ha_1 := ha.cell 1; have ha_f0 := ha.free 0; have ha_f1 := ha.free 1; have ha_l := ha.lt; have hb_0 := hb.cell 0; have hb_1 := hb.cell 1; have hb_f0 := hb.free 0; have hb_f1 := hb.free 1; have hb_l := hb.lt
        go_upto_region 7 with (fail)
        go_cut [4, 5, 6, 7, 57] (fun p4 p5 p6 p7 p57 wd => p4 = .pointer (some ⟨w.heap.size, 0, none⟩) ∧ p5 = .pointer (some ⟨O1, 0, none⟩) ∧ p6 = .pointer (some ⟨O2, 0, none⟩) ∧ p7 = .pointer (some ⟨O3, 0, none⟩) ∧ p57 = .bool false ∧ wq.grownBy wd none)
        case first =>
          have HGq := G.refl wq none
          go_quiet (fail)
          go_wp2_with fail
          go_meet
          exact ⟨rfl, rfl, rfl, rfl, rfl, (by exact G.go HGq)⟩
        obtain ⟨rfl, rfl, rfl, rfl, rfl, hgq⟩ := hcut
        replace HG := G.trans HG hgq
        replace hr := Hx.kept hr hgq (by simp)
        replace hm := Hx.kept hm hgq (by simp)
        replace ha := Hx.kept ha hgq (by simp)
        replace hb := Hx.kept hb hgq (by simp)
        clear hgq
        have HS := Lib.hid (fun w2 => sub_any w2 true true m y)
        rw [show vK true m = some m from vK_form hf, show vK true y = some y from vK_form hfb] at HS
        have hsf := subO_fits (some m) (some y)
        obtain ⟨R, hR⟩ : ∃ R, Hid (subO (some m) (some y) = R) := ⟨_, Lib.hid rfl⟩
        rw [hR.out] at HS hV3 hsf
        rw [valV_form] at HS
        have HI := Lib.hid (fun w2 => int_any w2 1)
        rw [intO_small (by omega)] at HI
        simp only [valV, valC, Int.one_mul] at HI
        have HAd := Lib.hid (fun v w2 h => add_any [(vB R, vN R), (true, x), (true, 1000000)] v w2 h (by simp))
        rw [show addO [(vB R, vN R), (true, x), (true, 1000000)] = V from (add3_fit R (some x) (some 1000000) hsf hfa (fits_some (by omega))).trans hV3, valV_form] at HAd
        clear hV3 hR hsf
        clear hr_0 hr_1 hr_f0 hr_f1 hr_l hm_0 hm_1 hm_2 hm_3 hm_4 hm_5 hm_6 hm_7 hm_f0 hm_f1 hm_f2 hm_f3 hm_f4 hm_f5 hm_f6 hm_f7 hm_l ha_0 ha_1 ha_f0 ha_f1 ha_l hb_0 hb_1 hb_f0 hb_f1 hb_l
        go_upto_region 9 with (fail)
        refine wp_region_rel (n := 10) (S := [fun v _ => v = .pointer (some ⟨B, 0, none⟩), fun v _ => v = .pointer (some ⟨B, 0, none⟩), fun v _ => v = .pointer (some ⟨B, 5, none⟩), fun v _ => v = .agg #[.bool true, .int .i64 m], fun v _ => v = .agg #[.bool true, .int .i64 y], fun v _ => v = .agg #[.bool (vB R), .int .i64 (vN R)], fun v _ => v = .agg #[.bool true, .int .i64 x], fun v _ => v = .agg #[.bool true, .int .i64 1000000], fun v w => ∃ Q, v = .slice (some ⟨Q, 0, none⟩) 3 3 ∧ Hx w Q [.bool (vB R), .int .i64 (vN R), .bool true, .int .i64 x, .bool true, .int .i64 1000000] 28, fun v _ => v = .agg #[.bool (vB V), .int .i64 (vN V)]]) (G.refl _ none) (by kernel_rfl) (by kernel_rfl) ?_ ?_ ?_
        · intro i v y1 y2 hg12 hS
          match i, hS with
          | 0, h => exact h
          | 1, h => exact h
          | 2, h => exact h
          | 3, h => exact h
          | 4, h => exact h
          | 5, h => exact h
          | 6, h => exact h
          | 7, h => exact h
          | 8, h => exact (let ⟨Q, e1, e2⟩ := h; ⟨Q, e1, e2.kept hg12 (by simp)⟩)
          | 9, h => exact h
          | k + 10, h => exact trivial
        · simp only [List.take_succ_cons, List.take_zero, relOps]
          refine ⟨fun VV y1 hg1 hV => ?_, fun VV y1 hg1 hV => ?_, fun VV y1 hg1 hV => ?_, fun VV y1 hg1 hV => ?_, fun VV y1 hg1 hV => ?_, fun VV y1 hg1 hV => ?_, fun VV y1 hg1 hV => ?_, fun VV y1 hg1 hV => ?_, fun VV y1 hg1 hV => ?_, fun VV y1 hg1 hV => ?_, trivial⟩
          · clear hV
            replace hm := Hx.kept hm hg1 (by simp); replace ha := Hx.kept ha hg1 (by simp); replace hb := Hx.kept hb hg1 (by simp); replace hr := Hx.kept hr hg1 (by simp); have hm_0 := hm.cell 0; have hm_1 := hm.cell 1; have hm_2 := hm.cell 2; have hm_3 := hm.cell 3; have hm_4 := hm.cell 4; have hm_5 := hm.cell 5; have hm_6 := hm.cell 6; have hm_7 := hm.cell 7; have hm_f0 := hm.free 0; have hm_f1 := hm.free 1; have hm_f2 := hm.free 2; have hm_f3 := hm.free 3; have hm_f4 := hm.free 4; have hm_f5 := hm.free 5; have hm_f6 := hm.free 6; have hm_f7 := hm.free 7; have hm_l := hm.lt; have ha_0 := ha.cell 0; have ha_1 := ha.cell 1; have ha_f0 := ha.free 0; have ha_f1 := ha.free 1; have ha_l := ha.lt; have hb_0 := hb.cell 0; have hb_1 := hb.cell 1; have hb_f0 := hb.free 0; have hb_f1 := hb.free 1; have hb_l := hb.lt; have hr_0 := hr.cell 0; have hr_1 := hr.cell 1; have hr_f0 := hr.free 0; have hr_f1 := hr.free 1; have hr_l := hr.lt
            simp only [putAll]
            go_wp2_with fail
            exact ⟨rfl, rfl, G.refl _ none, rfl⟩
          · have e0 := hV 0 (by kernel_rfl); clear hV
            replace hm := Hx.kept hm hg1 (by simp); replace ha := Hx.kept ha hg1 (by simp); replace hb := Hx.kept hb hg1 (by simp); replace hr := Hx.kept hr hg1 (by simp); have hm_0 := hm.cell 0; have hm_1 := hm.cell 1; have hm_2 := hm.cell 2; have hm_3 := hm.cell 3; have hm_4 := hm.cell 4; have hm_5 := hm.cell 5; have hm_6 := hm.cell 6; have hm_7 := hm.cell 7; have hm_f0 := hm.free 0; have hm_f1 := hm.free 1; have hm_f2 := hm.free 2; have hm_f3 := hm.free 3; have hm_f4 := hm.free 4; have hm_f5 := hm.free 5; have hm_f6 := hm.free 6; have hm_f7 := hm.free 7; have hm_l := hm.lt; have ha_0 := ha.cell 0; have ha_1 := ha.cell 1; have ha_f0 := ha.free 0; have ha_f1 := ha.free 1; have ha_l := ha.lt; have hb_0 := hb.cell 0; have hb_1 := hb.cell 1; have hb_f0 := hb.free 0; have hb_f1 := hb.free 1; have hb_l := hb.lt; have hr_0 := hr.cell 0; have hr_1 := hr.cell 1; have hr_f0 := hr.free 0; have hr_f1 := hr.free 1; have hr_l := hr.lt
            simp only [atS, List.getD_cons_zero] at e0
            simp only [putAll, e0]
            go_wp2_with fail
            exact ⟨rfl, rfl, G.refl _ none, rfl⟩
          · have e1 := hV 1 (by kernel_rfl); clear hV
            replace hm := Hx.kept hm hg1 (by simp); replace ha := Hx.kept ha hg1 (by simp); replace hb := Hx.kept hb hg1 (by simp); replace hr := Hx.kept hr hg1 (by simp); have hm_0 := hm.cell 0; have hm_1 := hm.cell 1; have hm_2 := hm.cell 2; have hm_3 := hm.cell 3; have hm_4 := hm.cell 4; have hm_5 := hm.cell 5; have hm_6 := hm.cell 6; have hm_7 := hm.cell 7; have hm_f0 := hm.free 0; have hm_f1 := hm.free 1; have hm_f2 := hm.free 2; have hm_f3 := hm.free 3; have hm_f4 := hm.free 4; have hm_f5 := hm.free 5; have hm_f6 := hm.free 6; have hm_f7 := hm.free 7; have hm_l := hm.lt; have ha_0 := ha.cell 0; have ha_1 := ha.cell 1; have ha_f0 := ha.free 0; have ha_f1 := ha.free 1; have ha_l := ha.lt; have hb_0 := hb.cell 0; have hb_1 := hb.cell 1; have hb_f0 := hb.free 0; have hb_f1 := hb.free 1; have hb_l := hb.lt; have hr_0 := hr.cell 0; have hr_1 := hr.cell 1; have hr_f0 := hr.free 0; have hr_f1 := hr.free 1; have hr_l := hr.lt
            simp only [atS, List.getD_cons_succ, List.getD_cons_zero] at e1
            simp only [putAll, e1]
            go_wp2_with fail
            exact ⟨rfl, rfl, G.refl _ none, rfl⟩
          · have e2 := hV 2 (by kernel_rfl); clear hV
            replace hm := Hx.kept hm hg1 (by simp); replace ha := Hx.kept ha hg1 (by simp); replace hb := Hx.kept hb hg1 (by simp); replace hr := Hx.kept hr hg1 (by simp); have hm_0 := hm.cell 0; have hm_1 := hm.cell 1; have hm_2 := hm.cell 2; have hm_3 := hm.cell 3; have hm_4 := hm.cell 4; have hm_5 := hm.cell 5; have hm_6 := hm.cell 6; have hm_7 := hm.cell 7; have hm_f0 := hm.free 0; have hm_f1 := hm.free 1; have hm_f2 := hm.free 2; have hm_f3 := hm.free 3; have hm_f4 := hm.free 4; have hm_f5 := hm.free 5; have hm_f6 := hm.free 6; have hm_f7 := hm.free 7; have hm_l := hm.lt; have ha_0 := ha.cell 0; have ha_1 := ha.cell 1; have ha_f0 := ha.free 0; have ha_f1 := ha.free 1; have ha_l := ha.lt; have hb_0 := hb.cell 0; have hb_1 := hb.cell 1; have hb_f0 := hb.free 0; have hb_f1 := hb.free 1; have hb_l := hb.lt; have hr_0 := hr.cell 0; have hr_1 := hr.cell 1; have hr_f0 := hr.free 0; have hr_f1 := hr.free 1; have hr_l := hr.lt
            simp only [atS, List.getD_cons_succ, List.getD_cons_zero] at e2
            simp only [putAll, e2]
            go_wp2_with fail
            exact ⟨rfl, rfl, G.refl _ none, rfl⟩
          · clear hV
            replace hm := Hx.kept hm hg1 (by simp); replace ha := Hx.kept ha hg1 (by simp); replace hb := Hx.kept hb hg1 (by simp); replace hr := Hx.kept hr hg1 (by simp); have hm_0 := hm.cell 0; have hm_1 := hm.cell 1; have hm_2 := hm.cell 2; have hm_3 := hm.cell 3; have hm_4 := hm.cell 4; have hm_5 := hm.cell 5; have hm_6 := hm.cell 6; have hm_7 := hm.cell 7; have hm_f0 := hm.free 0; have hm_f1 := hm.free 1; have hm_f2 := hm.free 2; have hm_f3 := hm.free 3; have hm_f4 := hm.free 4; have hm_f5 := hm.free 5; have hm_f6 := hm.free 6; have hm_f7 := hm.free 7; have hm_l := hm.lt; have ha_0 := ha.cell 0; have ha_1 := ha.cell 1; have ha_f0 := ha.free 0; have ha_f1 := ha.free 1; have ha_l := ha.lt; have hb_0 := hb.cell 0; have hb_1 := hb.cell 1; have hb_f0 := hb.free 0; have hb_f1 := hb.free 1; have hb_l := hb.lt; have hr_0 := hr.cell 0; have hr_1 := hr.cell 1; have hr_f0 := hr.free 0; have hr_f1 := hr.free 1; have hr_l := hr.lt
            simp only [putAll]
            go_wp2_with fail
            exact ⟨rfl, rfl, G.refl _ none, rfl⟩
          · have e3 := hV 3 (by kernel_rfl); have e4 := hV 4 (by kernel_rfl); clear hV
            replace hm := Hx.kept hm hg1 (by simp); replace ha := Hx.kept ha hg1 (by simp); replace hb := Hx.kept hb hg1 (by simp); replace hr := Hx.kept hr hg1 (by simp); have hm_0 := hm.cell 0; have hm_1 := hm.cell 1; have hm_2 := hm.cell 2; have hm_3 := hm.cell 3; have hm_4 := hm.cell 4; have hm_5 := hm.cell 5; have hm_6 := hm.cell 6; have hm_7 := hm.cell 7; have hm_f0 := hm.free 0; have hm_f1 := hm.free 1; have hm_f2 := hm.free 2; have hm_f3 := hm.free 3; have hm_f4 := hm.free 4; have hm_f5 := hm.free 5; have hm_f6 := hm.free 6; have hm_f7 := hm.free 7; have hm_l := hm.lt; have ha_0 := ha.cell 0; have ha_1 := ha.cell 1; have ha_f0 := ha.free 0; have ha_f1 := ha.free 1; have ha_l := ha.lt; have hb_0 := hb.cell 0; have hb_1 := hb.cell 1; have hb_f0 := hb.free 0; have hb_f1 := hb.free 1; have hb_l := hb.lt; have hr_0 := hr.cell 0; have hr_1 := hr.cell 1; have hr_f0 := hr.free 0; have hr_f1 := hr.free 1; have hr_l := hr.lt
            simp only [atS, List.getD_cons_succ, List.getD_cons_zero] at e3 e4
            simp only [putAll, e3, e4]
            go_wp2_with (go_at_call 42; (with_reducible refine (HS.out _).mono ?_); rintro e wn ⟨rfl, hgn⟩)
            exact ⟨rfl, rfl, hgn, rfl⟩
          · clear hV
            replace hm := Hx.kept hm hg1 (by simp); replace ha := Hx.kept ha hg1 (by simp); replace hb := Hx.kept hb hg1 (by simp); replace hr := Hx.kept hr hg1 (by simp); have hm_0 := hm.cell 0; have hm_1 := hm.cell 1; have hm_2 := hm.cell 2; have hm_3 := hm.cell 3; have hm_4 := hm.cell 4; have hm_5 := hm.cell 5; have hm_6 := hm.cell 6; have hm_7 := hm.cell 7; have hm_f0 := hm.free 0; have hm_f1 := hm.free 1; have hm_f2 := hm.free 2; have hm_f3 := hm.free 3; have hm_f4 := hm.free 4; have hm_f5 := hm.free 5; have hm_f6 := hm.free 6; have hm_f7 := hm.free 7; have hm_l := hm.lt; have ha_0 := ha.cell 0; have ha_1 := ha.cell 1; have ha_f0 := ha.free 0; have ha_f1 := ha.free 1; have ha_l := ha.lt; have hb_0 := hb.cell 0; have hb_1 := hb.cell 1; have hb_f0 := hb.free 0; have hb_f1 := hb.free 1; have hb_l := hb.lt; have hr_0 := hr.cell 0; have hr_1 := hr.cell 1; have hr_f0 := hr.free 0; have hr_f1 := hr.free 1; have hr_l := hr.lt
            simp only [putAll]
            go_wp2_with fail
            exact ⟨rfl, rfl, G.refl _ none, rfl⟩
          · clear hV
            replace hm := Hx.kept hm hg1 (by simp); replace ha := Hx.kept ha hg1 (by simp); replace hb := Hx.kept hb hg1 (by simp); replace hr := Hx.kept hr hg1 (by simp); have hm_0 := hm.cell 0; have hm_1 := hm.cell 1; have hm_2 := hm.cell 2; have hm_3 := hm.cell 3; have hm_4 := hm.cell 4; have hm_5 := hm.cell 5; have hm_6 := hm.cell 6; have hm_7 := hm.cell 7; have hm_f0 := hm.free 0; have hm_f1 := hm.free 1; have hm_f2 := hm.free 2; have hm_f3 := hm.free 3; have hm_f4 := hm.free 4; have hm_f5 := hm.free 5; have hm_f6 := hm.free 6; have hm_f7 := hm.free 7; have hm_l := hm.lt; have ha_0 := ha.cell 0; have ha_1 := ha.cell 1; have ha_f0 := ha.free 0; have ha_f1 := ha.free 1; have ha_l := ha.lt; have hb_0 := hb.cell 0; have hb_1 := hb.cell 1; have hb_f0 := hb.free 0; have hb_f1 := hb.free 1; have hb_l := hb.lt; have hr_0 := hr.cell 0; have hr_1 := hr.cell 1; have hr_f0 := hr.free 0; have hr_f1 := hr.free 1; have hr_l := hr.lt
            simp only [putAll]
            go_wp2_with (go_at_call 36; (with_reducible refine (HI.out _).mono ?_); rintro e wn ⟨rfl, hgn⟩)
            exact ⟨rfl, rfl, hgn, rfl⟩
          · have e5 := hV 5 (by kernel_rfl); have e6 := hV 6 (by kernel_rfl); have e7 := hV 7 (by kernel_rfl); clear hV
            replace hm := Hx.kept hm hg1 (by simp); replace ha := Hx.kept ha hg1 (by simp); replace hb := Hx.kept hb hg1 (by simp); replace hr := Hx.kept hr hg1 (by simp); have hm_0 := hm.cell 0; have hm_1 := hm.cell 1; have hm_2 := hm.cell 2; have hm_3 := hm.cell 3; have hm_4 := hm.cell 4; have hm_5 := hm.cell 5; have hm_6 := hm.cell 6; have hm_7 := hm.cell 7; have hm_f0 := hm.free 0; have hm_f1 := hm.free 1; have hm_f2 := hm.free 2; have hm_f3 := hm.free 3; have hm_f4 := hm.free 4; have hm_f5 := hm.free 5; have hm_f6 := hm.free 6; have hm_f7 := hm.free 7; have hm_l := hm.lt; have ha_0 := ha.cell 0; have ha_1 := ha.cell 1; have ha_f0 := ha.free 0; have ha_f1 := ha.free 1; have ha_l := ha.lt; have hb_0 := hb.cell 0; have hb_1 := hb.cell 1; have hb_f0 := hb.free 0; have hb_f1 := hb.free 1; have hb_l := hb.lt; have hr_0 := hr.cell 0; have hr_1 := hr.cell 1; have hr_f0 := hr.free 0; have hr_f1 := hr.free 1; have hr_l := hr.lt
            simp only [atS, List.getD_cons_succ, List.getD_cons_zero] at e5 e6 e7
            simp only [putAll, e5, e6, e7]
            go_wp2_with fail
            exact ⟨rfl, rfl, G.alloc (G.refl _ _) _, _, rfl, Hx.new _ _ _⟩
          · have e8 := hV 8 (by kernel_rfl); clear hV
            replace hm := Hx.kept hm hg1 (by simp); replace ha := Hx.kept ha hg1 (by simp); replace hb := Hx.kept hb hg1 (by simp); replace hr := Hx.kept hr hg1 (by simp); have hm_0 := hm.cell 0; have hm_1 := hm.cell 1; have hm_2 := hm.cell 2; have hm_3 := hm.cell 3; have hm_4 := hm.cell 4; have hm_5 := hm.cell 5; have hm_6 := hm.cell 6; have hm_7 := hm.cell 7; have hm_f0 := hm.free 0; have hm_f1 := hm.free 1; have hm_f2 := hm.free 2; have hm_f3 := hm.free 3; have hm_f4 := hm.free 4; have hm_f5 := hm.free 5; have hm_f6 := hm.free 6; have hm_f7 := hm.free 7; have hm_l := hm.lt; have ha_0 := ha.cell 0; have ha_1 := ha.cell 1; have ha_f0 := ha.free 0; have ha_f1 := ha.free 1; have ha_l := ha.lt; have hb_0 := hb.cell 0; have hb_1 := hb.cell 1; have hb_f0 := hb.free 0; have hb_f1 := hb.free 1; have hb_l := hb.lt; have hr_0 := hr.cell 0; have hr_1 := hr.cell 1; have hr_f0 := hr.free 0; have hr_f1 := hr.free 1; have hr_l := hr.lt
            simp only [atS, List.getD_cons_succ, List.getD_cons_zero] at e8
            obtain ⟨Q, e8, hQ⟩ := e8
            simp only [putAll, e8]
            go_wp2_with (go_at_call 44; (with_reducible refine (HAd.out _ _ ?_).mono ?_); (exact ERow.of_hx (ts := [(vB R, vN R), (true, x), (true, 1000000)]) (by simp) (by decide) hQ); rintro e wn ⟨rfl, hgn⟩)
            exact ⟨rfl, rfl, hgn, rfl⟩
        · intro VV y1 hg1 hV
          have e0 := hV 0 (by omega); have e1 := hV 1 (by omega); have e2 := hV 2 (by omega); have e3 := hV 3 (by omega); have e4 := hV 4 (by omega); have e5 := hV 5 (by omega); have e6 := hV 6 (by omega); have e7 := hV 7 (by omega); have e8 := hV 8 (by omega); have e9 := hV 9 (by omega); clear hV
          simp only [atS, List.getD_cons_succ, List.getD_cons_zero] at e0 e1 e2 e3 e4 e5 e6 e7 e8 e9
          simp only [List.take_succ_cons, List.take_zero, List.drop_succ_cons, List.drop_zero, putAll, e0, e1, e2, e3, e4, e5, e6, e7, e9]
          replace hm := Hx.kept hm hg1 (by simp); replace ha := Hx.kept ha hg1 (by simp); replace hb := Hx.kept hb hg1 (by simp); replace hr := Hx.kept hr hg1 (by simp); have hm_0 := hm.cell 0; have hm_1 := hm.cell 1; have hm_2 := hm.cell 2; have hm_3 := hm.cell 3; have hm_4 := hm.cell 4; have hm_5 := hm.cell 5; have hm_6 := hm.cell 6; have hm_7 := hm.cell 7; have hm_f0 := hm.free 0; have hm_f1 := hm.free 1; have hm_f2 := hm.free 2; have hm_f3 := hm.free 3; have hm_f4 := hm.free 4; have hm_f5 := hm.free 5; have hm_f6 := hm.free 6; have hm_f7 := hm.free 7; have hm_l := hm.lt; have ha_0 := ha.cell 0; have ha_1 := ha.cell 1; have ha_f0 := ha.free 0; have ha_f1 := ha.free 1; have ha_l := ha.lt; have hb_0 := hb.cell 0; have hb_1 := hb.cell 1; have hb_f0 := hb.free 0; have hb_f1 := hb.free 1; have hb_l := hb.lt; have hr_0 := hr.cell 0; have hr_1 := hr.cell 1; have hr_f0 := hr.free 0; have hr_f1 := hr.free 1; have hr_l := hr.lt
          have hg2 := hg1
          replace HG := G.trans (w := w) HG hg1; clear hg1
          obtain ⟨Q, e8, hQ⟩ := e8
          simp only [e8]
          go_wp2_with fail
          refine ret_cell [.bool (vB V), .int .i64 (vN V)] w.heap.size 28 rfl rfl (Tryd.isAgg28 _) (Tryd.sizeOf28 _) rfl ?_ ⟨by rw [hvv.out], (by exact G.go HG)⟩
          exact (by first | exact Hx.go hr | exact Hx.go2)
theorem push_none (x y : Value) : ((#[x] : Array Value).push y ++ #[]) = #[x, y] := by simp
set_option maxHeartbeats 8000000 in
set_option maxRecDepth 100000 in
theorem fnonneg_any (w : World) (B : Nat) (W : FWork) (sv : Value) (hm : FAt w B W sv) (h : ERow valE w sv W.S.vals) (hall : W.S.vals.all (fun p => isR p.1 p.2) = true) (hl : W.S.vals.length ≤ 1000000) (hf : Fits W.k) : Calls Tryd.prog 25 #[.pointer (some ⟨B, 0, none⟩)] w fun e w' => FsRow 6 W w e w' := by
  have HG := G.refl w none
  have HV := Lib.hid h
  have HE := Lib.hid (fun w2 (h1 : Hx w2 B [.string W.S.name, .int .i64 W.S.start, .int .i64 W.S.step, sv, .int .i64 W.S.cons, .bool (vB W.k), .int .i64 (vN W.k), .bool W.has] 44) h2 => each_any 50 #[.pointer (some ⟨B, 0, none⟩)] #[] (enters_of Tryd.func50 (by kernel_rfl) rfl) w2 B W sv h1 h2 hl (fun j => fsV 6 W.S.step W.has W.k W.S.opts j) none (fun c e => by cases e) (fun _ _ => True) trivial (fun _ _ _ _ _ _ _ _ => trivial) (fun j wj hj hg _ => by rw [push_none]; exact (frises_any wj B W sv (FAt.kept h1 hg (by simp)) (h2.kept0 hg) hall hl hf j hj).mono fun e w3 hh => ⟨hh.1, hh.2, trivial⟩))
  obtain ⟨A, c, rfl, -, -, -⟩ := h
  replace hm := hm.hx
  go_enter Tryd.func25, Tryd.ntmps25
  go_wp2_with (go_at_call 33; (with_reducible refine (HE.out _ hm (HV.out.kept0 (by exact G.go HG))).mono ?_); rintro e wn ⟨u, rfl, hu, hgn, -⟩; replace HG := G.trans (w := w) (by exact G.go HG) hgn; clear hgn)
  go_ret
  exact ⟨u, rfl, EOwn.mono hu (Nat.le_refl _), HG⟩
theorem riseO_fits {a b : Option Int} (ha : Fits a) (hb : Fits b) (k : Option Int) : Fits (riseO a b k) := by
  unfold riseO
  split
  · split
    · rename_i d hs
      split
      · rw [← hs]; exact subO_fits _ _
      · split
        · split
          · exact sumO_fits _ _
          · exact none_fits
        · exact none_fits
    · split
      · split
        · exact sumO_fits _ _
        · exact none_fits
      · exact none_fits
  · exact none_fits
set_option maxHeartbeats 8000000 in
set_option maxRecDepth 100000 in
theorem fper1_any (w : World) (B : Nat) (W : FWork) (sv : Value) (hm : FAt w B W sv) (h : ERow valE w sv W.S.vals) (hall : W.S.vals.all (fun p => isR p.1 p.2) = true) (hl : W.S.vals.length ≤ 1000000) (hf : Fits W.k) (q : Nat) (hq : Hx w q [.pointer (some ⟨B, 0, none⟩)] 42) (j : Nat) (hj : j < W.S.vals.length) : Calls Tryd.prog 51 #[.int .i64 (j : Int), .pointer (some ⟨q, 0, none⟩)] w fun e w' => e = .returned (valV (fsV 7 W.S.step W.has W.k W.S.opts j)) ∧ w.grownBy w' none := by
  have HG := G.refl w none
  rw [show fsV 7 W.S.step W.has W.k W.S.opts j = divO (riseO (W.S.opts.getD j none) (atO W.S.opts ((j : Int) - 1)) W.k) (intO W.S.step) from rfl]
  have HR := Lib.hid (fun w2 (h1 : Hx w2 B [.string W.S.name, .int .i64 W.S.start, .int .i64 W.S.step, sv, .int .i64 W.S.cons, .bool (vB W.k), .int .i64 (vN W.k), .bool W.has] 44) h2 => frises_any w2 B W sv h1 h2 hall hl hf j hj)
  have hrf := riseO_fits (opts_fits W.S j) (atO_fits W.S ((j : Int) - 1)) W.k
  generalize riseO (W.S.opts.getD j none) (atO W.S.opts ((j : Int) - 1)) W.k = R at *
  have HI := Lib.hid (fun w2 => int_any w2 W.S.step)
  have hif := intO_fits W.S.step
  have HD := Lib.hid (fun w2 => div_any w2 (vB R) (vB (intO W.S.step)) (vN R) (vN (intO W.S.step)))
  rw [vK_form hrf, vK_form hif] at HD
  have hvv := Lib.hid (valV_form (divO R (intO W.S.step)))
  generalize divO R (intO W.S.step) = V at *
  generalize intO W.S.step = I at *
  rw [valV_form] at HR HI HD
  have HV := Lib.hid h
  obtain ⟨A, c, rfl, -, -, -⟩ := h
  replace hm := hm.hx
  go_enter Tryd.func51, Tryd.ntmps51
  go_upto_region 0 with (fail)
  go_cut [3] (fun r wc => r = .pointer (some ⟨w.heap.size, 0, none⟩) ∧ w.grownBy wc none ∧ Hx wc w.heap.size [.bool false, .int .i64 0] 28 ∧ Hx wc B [.string W.S.name, .int .i64 W.S.start, .int .i64 W.S.step, .slice A W.S.vals.length c, .int .i64 W.S.cons, .bool (vB W.k), .int .i64 (vN W.k), .bool W.has] 44 ∧ Hx wc q [.pointer (some ⟨B, 0, none⟩)] 42)
  case first =>
    go_wp2_with fail
    go_meet
    exact ⟨rfl, (by exact G.go HG), Hx.new _ _ _, Hx.alloc hm _, Hx.alloc hq _⟩
  obtain ⟨rfl, HG, hr, hm, hq⟩ := hcut
  have HVx := Lib.hid (HV.out.kept0 HG)
  go_upto_region 1 with (fail)
  (have hr_q0 := fun x => (Hx.inG hr x).cell 0; have hr_q1 := fun x => (Hx.inG hr x).cell 1; have hq_q0 := fun x => (Hx.inG hq x).cell 0; have hm_q0 := fun x => (Hx.inG hm x).cell 0; have hm_q1 := fun x => (Hx.inG hm x).cell 1; have hm_q2 := fun x => (Hx.inG hm x).cell 2; have hm_q3 := fun x => (Hx.inG hm x).cell 3; have hm_q4 := fun x => (Hx.inG hm x).cell 4; have hm_q5 := fun x => (Hx.inG hm x).cell 5; have hm_q6 := fun x => (Hx.inG hm x).cell 6; have hm_q7 := fun x => (Hx.inG hm x).cell 7; have xq_ := HG; refine wp_region_last (G.refl _ none) (by kernel_rfl) (by kernel_rfl) (by kernel_rfl) ?_; simp only [mapLast, lastOf, idle]; (repeat (refine wpQuiet_step (fun K hK => ?_); go_simp; first | (refine hK _ ?_; clear hK K) | (apply Exists.intro; refine ⟨fun xq => ?_, hK _ ?_⟩; (focus (first | (go_at_call 50; have h0 := HR.out xq.1 (Hx.inG hm xq) (HVx.out.kept0 xq.2); with_reducible exact grow_of h0) | (go_at_call 36; have h0 := HI.out xq.1; with_reducible exact grow_of h0) | (go_at_call 52; have h0 := HD.out xq.1; with_reducible exact grow_of h0))); clear hK K))); refine wpQuiet_nil ?_; intro wn hgn; replace HG := G.trans (w := w) HG hgn; clear hr_q0 hr_q1; replace hr := Hx.kept hr hgn (by simp); have hr_0 := hr.cell 0; have hr_1 := hr.cell 1; have hr_2 := hr.free 0; have hr_3 := hr.free 1; have hr_4 := hr.lt; clear hq_q0; replace hq := Hx.kept hq hgn (by simp); have hq_0 := hq.cell 0; have hq_f0 := hq.free 0; have hq_l := hq.lt; clear hm_q0 hm_q1 hm_q2 hm_q3 hm_q4 hm_q5 hm_q6 hm_q7; replace hm := Hx.kept hm hgn (by simp); have hm_0 := hm.cell 0; have hm_1 := hm.cell 1; have hm_2 := hm.cell 2; have hm_3 := hm.cell 3; have hm_4 := hm.cell 4; have hm_5 := hm.cell 5; have hm_6 := hm.cell 6; have hm_7 := hm.cell 7; have hm_f0 := hm.free 0; have hm_f1 := hm.free 1; have hm_f2 := hm.free 2; have hm_f3 := hm.free 3; have hm_f4 := hm.free 4; have hm_f5 := hm.free 5; have hm_f6 := hm.free 6; have hm_f7 := hm.free 7; have hm_l := hm.lt; clear hgn xq_)
  have hr_0 := hr.cell 0; have hr_1 := hr.cell 1; have hr_f0 := hr.free 0; have hr_f1 := hr.free 1; have hr_l := hr.lt
  go_wp2_with fail
  refine ret_cell [.bool (vB V), .int .i64 (vN V)] w.heap.size 28 rfl rfl (Tryd.isAgg28 _) (Tryd.sizeOf28 _) rfl ?_ ⟨by rw [hvv.out], (by exact G.go HG)⟩
  exact (by first | exact Hx.go hr | exact Hx.go2)
set_option maxHeartbeats 8000000 in
set_option maxRecDepth 100000 in
theorem fper_any (w : World) (B : Nat) (W : FWork) (sv : Value) (hm : FAt w B W sv) (h : ERow valE w sv W.S.vals) (hall : W.S.vals.all (fun p => isR p.1 p.2) = true) (hl : W.S.vals.length ≤ 1000000) (hf : Fits W.k) : Calls Tryd.prog 26 #[.pointer (some ⟨B, 0, none⟩)] w fun e w' => FsRow 7 W w e w' := by
  have HG := G.refl w none
  have HV := Lib.hid h
  have HE := Lib.hid (fun w2 q (h1 : Hx w2 B [.string W.S.name, .int .i64 W.S.start, .int .i64 W.S.step, sv, .int .i64 W.S.cons, .bool (vB W.k), .int .i64 (vN W.k), .bool W.has] 44) h2 (hq : Hx w2 q [.pointer (some ⟨B, 0, none⟩)] 42) => each_any 51 #[] #[.pointer (some ⟨q, 0, none⟩)] (enters_of Tryd.func51 (by kernel_rfl) rfl) w2 B W sv h1 h2 hl (fun j => fsV 7 W.S.step W.has W.k W.S.opts j) none (fun c e => by cases e) (fun _ _ => True) trivial (fun _ _ _ _ _ _ _ _ => trivial) (fun j wj hj hg _ => by rw [push_one]; exact (fper1_any wj B W sv (FAt.kept h1 hg (by simp)) (h2.kept0 hg) hall hl hf q (Hx.kept hq hg (by simp)) j hj).mono fun e w3 hh => ⟨hh.1, hh.2, trivial⟩))
  obtain ⟨A, c, rfl, -, -, -⟩ := h
  replace hm := hm.hx
  go_enter Tryd.func26, Tryd.ntmps26
  go_upto_region 0 with (fail)
  go_cut [1, 2] (fun p r wc => p = .pointer (some ⟨w.heap.size, 0, none⟩) ∧ r = .slice none 0 0 ∧ w.grownBy wc none ∧ Hx wc B [.string W.S.name, .int .i64 W.S.start, .int .i64 W.S.step, .slice A W.S.vals.length c, .int .i64 W.S.cons, .bool (vB W.k), .int .i64 (vN W.k), .bool W.has] 44 ∧ Hx wc w.heap.size [.pointer (some ⟨B, 0, none⟩)] 42)
  case first =>
    go_wp2_with fail
    go_meet
    exact ⟨rfl, rfl, (by exact G.go HG), Hx.alloc hm _, Hx.new _ _ _⟩
  obtain ⟨rfl, rfl, HG, hm, hq⟩ := hcut
  have hq_0 := hq.cell 0; have hq_l := hq.lt
  have hsz0 := HG.size
  go_wp2_with (go_at_call 33; (with_reducible refine (HE.out _ _ hm (HV.out.kept0 HG) hq).mono ?_); rintro e wn ⟨u, rfl, hu, hgn, -⟩; replace HG := G.trans (w := w) (by exact G.go HG) hgn; clear hgn)
  go_ret
  exact ⟨u, rfl, EOwn.mono hu hsz0, HG⟩
end Go.Proofs.YtkablhamnepfnaaDoor
