/-
  The walk of the reference's one. Printed by genfmreff.py.
-/
import Derived.Test.YtfomknfjidbdcaaGreatDoorFmRefE
import Derived.Test.YtfomknfjidbdcaaGreatDoorAggOfR
import Derived.Test.YtfomknfjidbdcaaGreatDoorGrowBase
import Derived.Test.YtfomknfjidbdcaaGreatDoorFixSqrtR
namespace Go.Proofs.YtfomknfjidbdcaaGreatDoor
open Go.RowKit
/-- what a number becomes by itself, or by another one -/
def oneO (nm : ByteArray) (low high k : Option Int) (x : Int) : Option Int :=
  if nm = fn0 then fm0 (some x) else
  if nm = fn11 then fm11 k (some x) else
  if nm = fn5 then fm5 k (some x) else
  if nm = fn1 then fm1 (some x) else
  if nm = fn14 then fm14 (some x) else
  if nm = fn6 then fm6 low (some x) else
  if nm = fn3 then fm3 low high (some x) else
  if nm = fn2 then fm2 (some x) else
  if nm = fn8 then fm8 k (some x) else
  if nm = fn9 then fm9 k (some x) else
  if nm = fn4 then fm4 (some x) else
  if nm = fn13 then fm13 (some x) else
  some x
theorem addO_raw {x : Int} (hx : -4611686018427387904 ≤ x ∧ x ≤ 4611686018427387904) {kb : Bool} {kn : Int} : addO [(true, x), (kb, kn)] = sumO (some x) (vK kb kn) := by
  unfold addO addFrom
  simp only [List.map_cons, List.map_nil, List.foldl_cons, List.foldl_nil, vK_of hx, sumO_zero (fits_some hx)]
set_option maxHeartbeats 16000000 in
set_option maxRecDepth 100000 in
theorem one1_any (nm : ByteArray) (S : Ser) (sv : Value) (w : World) (h : ERow valE w sv S.vals) (hl : S.vals.length ≤ 1000000) (x : Int) (hx : -4611686018427387904 ≤ x ∧ x ≤ 4611686018427387904) (kb : Bool) (kn : Int) :
    Calls Tryz.prog 42 #[.string nm, .agg #[.string S.name, .int .i64 S.start, .int .i64 S.step, sv, .int .i64 S.cons], .agg #[.bool true, .int .i64 x], .agg #[.bool kb, .int .i64 kn]] w fun e w' => e = .returned (valV (oneO nm (aggO true S.vals) (aggO false S.vals) (vK kb kn) x)) ∧ w.grownBy w' none := by
  obtain ⟨V, hV⟩ : ∃ V, Hid (oneO nm (aggO true S.vals) (aggO false S.vals) (vK kb kn) x = V) := ⟨_, Lib.hid rfl⟩
  rw [hV.out]
  have hvv := Lib.hid (valV_form V)
  have HV := Lib.hid h
  obtain ⟨sa, sc, rfl, _, _, _⟩ := h
  have HMin := Lib.hid (fun w h => refMin_any S.vals (.slice sa S.vals.length sc) w h hl)
  have HMax := Lib.hid (fun w h => refMax_any S.vals (.slice sa S.vals.length sc) w h hl)
  rw [valV_form] at HMin HMax
  generalize hlow : aggO true S.vals = low at *
  generalize hhigh : aggO false S.vals = high at *

  have HG := G.refl w none
  go_enter Tryz.func42, Tryz.ntmps42
  go_upto_region 0 with (fail)
  go_cut [5, 6, 7, 8] (fun p5 p6 p7 p8 wc => p5 = .pointer (some ⟨w.heap.size, 0, none⟩) ∧ p6 = .pointer (some ⟨(w.heap.size + 1), 0, none⟩) ∧ p7 = .pointer (some ⟨(w.heap.size + 1 + 1), 0, none⟩) ∧ p8 = .pointer (some ⟨(w.heap.size + 1 + 1 + 1), 0, none⟩) ∧ w.grownBy wc none ∧ Hx wc w.heap.size [.string S.name, .int .i64 S.start, .int .i64 S.step, .slice sa S.vals.length sc, .int .i64 S.cons] 24 ∧ Hx wc (w.heap.size + 1) [.bool true, .int .i64 x] 28 ∧ Hx wc (w.heap.size + 1 + 1) [.bool kb, .int .i64 kn] 28 ∧ Hx wc (w.heap.size + 1 + 1 + 1) [.bool false, .int .i64 0] 28)
  case first =>
    go_wp2_with fail
    go_meet
    exact ⟨rfl, rfl, rfl, rfl, (by exact G.go HG), Hx.alloc (Hx.alloc (Hx.alloc (Hx.new _ _ _) _) _) _, Hx.alloc (Hx.alloc (Hx.new' (by simp) rfl) _) _, Hx.alloc (Hx.new' (by simp) rfl) _, Hx.new' (by simp) rfl⟩
  obtain ⟨rfl, rfl, rfl, rfl, HG, hs1, ha, hb, hr⟩ := hcut
  rename World => wx
  go_upto_region 1 with (fail)
  go_cut [5, 6, 7, 8, 9, 10] (fun p5 p6 p7 p8 p9 p10 wd => ∃ O1 O2, p5 = .pointer (some ⟨w.heap.size, 0, none⟩) ∧ p6 = .pointer (some ⟨(w.heap.size + 1), 0, none⟩) ∧ p7 = .pointer (some ⟨(w.heap.size + 1 + 1), 0, none⟩) ∧ p8 = .pointer (some ⟨(w.heap.size + 1 + 1 + 1), 0, none⟩) ∧ p9 = .pointer (some ⟨O1, 0, none⟩) ∧ p10 = .pointer (some ⟨O2, 0, none⟩) ∧ wx.heap.size ≤ O1 ∧ wx.heap.size ≤ O2 ∧ wx.grownBy wd none ∧ Hx wd O1 [.bool (vB low), .int .i64 (vN low)] 28 ∧ Hx wd O2 [.bool (vB high), .int .i64 (vN high)] 28)
  case first =>
    refine wp_region_relF (n := 8) (fr := fun k => decide (6 ≤ k)) (S := [fun v _ => v = .pointer (some ⟨w.heap.size, 3, none⟩), fun v _ => v = .slice sa S.vals.length sc, fun v _ => v = .agg #[.bool (vB low), .int .i64 (vN low)], fun v _ => v = .pointer (some ⟨w.heap.size, 3, none⟩), fun v _ => v = .slice sa S.vals.length sc, fun v _ => v = .agg #[.bool (vB high), .int .i64 (vN high)], fun v w => ∃ O, v = .pointer (some ⟨O, 0, none⟩) ∧ wx.heap.size ≤ O ∧ Hx w O [.bool false, .int .i64 0] 28, fun v w => ∃ O, v = .pointer (some ⟨O, 0, none⟩) ∧ wx.heap.size ≤ O ∧ Hx w O [.bool false, .int .i64 0] 28]) (G.refl _ none) (by kernel_rfl) (by kernel_rfl) ?_ ?_ ?_
    · intro i v y1 y2 hg12 hS
      match i, hS with
      | 0, h => exact h
      | 1, h => exact h
      | 2, h => exact h
      | 3, h => exact h
      | 4, h => exact h
      | 5, h => exact h
      | 6, h => exact (let ⟨O, e1, e2, e3⟩ := h; ⟨O, e1, e2, e3.kept hg12 (by simp)⟩)
      | 7, h => exact (let ⟨O, e1, e2, e3⟩ := h; ⟨O, e1, e2, e3.kept hg12 (by simp)⟩)
      | k + 8, h => exact trivial
    · simp only [List.take_succ_cons, List.take_zero, relOpsF]
      refine ⟨fun VV y1 hg1 hV => ?_, fun VV y1 hg1 hV => ?_, fun VV y1 hg1 hV => ?_, fun VV y1 hg1 hV => ?_, fun VV y1 hg1 hV => ?_, fun VV y1 hg1 hV => ?_, fun VV y1 hg1 hV => ?_, fun VV y1 hg1 hV => ?_, trivial⟩
      · clear hV
        have hvy := HV.out.kept0 (G.trans HG hg1); replace hs1 := Hx.kept hs1 hg1 (by simp); have hs1_3 := hs1.cell 3; have hs1_l := hs1.lt
        simp only [putAll]
        go_wp2_with fail
        exact ⟨rfl, rfl, G.refl _ none, rfl, fun h => by cases h⟩
      · have e0 := hV 0 (by kernel_rfl); clear hV
        have hvy := HV.out.kept0 (G.trans HG hg1); replace hs1 := Hx.kept hs1 hg1 (by simp); have hs1_3 := hs1.cell 3; have hs1_l := hs1.lt
        simp only [atS, List.getD_cons_zero] at e0
        simp only [putAll, e0]
        go_wp2_with fail
        exact ⟨rfl, rfl, G.refl _ none, rfl, fun h => by cases h⟩
      · have e1 := hV 1 (by kernel_rfl); clear hV
        have hvy := HV.out.kept0 (G.trans HG hg1); replace hs1 := Hx.kept hs1 hg1 (by simp); have hs1_3 := hs1.cell 3; have hs1_l := hs1.lt
        simp only [atS, List.getD_cons_succ, List.getD_cons_zero] at e1
        simp only [putAll, e1]
        go_wp2_with (go_at_call 84; (with_reducible refine (HMin.out _ hvy).mono ?_); rintro e wn ⟨rfl, hgn⟩)
        exact ⟨rfl, rfl, hgn, rfl, fun h => by cases h⟩
      · clear hV
        have hvy := HV.out.kept0 (G.trans HG hg1); replace hs1 := Hx.kept hs1 hg1 (by simp); have hs1_3 := hs1.cell 3; have hs1_l := hs1.lt
        simp only [putAll]
        go_wp2_with fail
        exact ⟨rfl, rfl, G.refl _ none, rfl, fun h => by cases h⟩
      · have e3 := hV 3 (by kernel_rfl); clear hV
        have hvy := HV.out.kept0 (G.trans HG hg1); replace hs1 := Hx.kept hs1 hg1 (by simp); have hs1_3 := hs1.cell 3; have hs1_l := hs1.lt
        simp only [atS, List.getD_cons_succ, List.getD_cons_zero] at e3
        simp only [putAll, e3]
        go_wp2_with fail
        exact ⟨rfl, rfl, G.refl _ none, rfl, fun h => by cases h⟩
      · have e4 := hV 4 (by kernel_rfl); clear hV
        have hvy := HV.out.kept0 (G.trans HG hg1); replace hs1 := Hx.kept hs1 hg1 (by simp); have hs1_3 := hs1.cell 3; have hs1_l := hs1.lt
        simp only [atS, List.getD_cons_succ, List.getD_cons_zero] at e4
        simp only [putAll, e4]
        go_wp2_with (go_at_call 84; (with_reducible refine (HMax.out _ hvy).mono ?_); rintro e wn ⟨rfl, hgn⟩)
        exact ⟨rfl, rfl, hgn, rfl, fun h => by cases h⟩
      · clear hV
        have hvy := HV.out.kept0 (G.trans HG hg1); replace hs1 := Hx.kept hs1 hg1 (by simp); have hs1_3 := hs1.cell 3; have hs1_l := hs1.lt
        simp only [putAll]
        go_wp2_with fail
        exact ⟨rfl, rfl, G.alloc (G.refl _ _) _, ⟨_, rfl, hg1.size, Hx.new _ _ _⟩, fun _ => ⟨_, rfl, Nat.le_refl _, by simp⟩⟩
      · clear hV
        have hvy := HV.out.kept0 (G.trans HG hg1); replace hs1 := Hx.kept hs1 hg1 (by simp); have hs1_3 := hs1.cell 3; have hs1_l := hs1.lt
        simp only [putAll]
        go_wp2_with fail
        exact ⟨rfl, rfl, G.alloc (G.refl _ _) _, ⟨_, rfl, hg1.size, Hx.new _ _ _⟩, fun _ => ⟨_, rfl, Nat.le_refl _, by simp⟩⟩
    · intro VV y1 hg1 hV hDD
      have e0 := hV 0 (by omega); have e1 := hV 1 (by omega); have e2 := hV 2 (by omega); have e3 := hV 3 (by omega); have e4 := hV 4 (by omega); have e5 := hV 5 (by omega); have e6 := hV 6 (by omega); have e7 := hV 7 (by omega); clear hV
      simp only [atS, List.getD_cons_succ, List.getD_cons_zero] at e0 e1 e2 e3 e4 e5 e6 e7
      simp only [List.take_succ_cons, List.take_zero, List.drop_succ_cons, List.drop_zero, putAll, e0, e1, e2, e3, e4, e5]
      replace hs1 := Hx.kept hs1 hg1 (by simp); have hs1_3 := hs1.cell 3; have hs1_l := hs1.lt
      have hg2 := hg1
      clear hg1
      have hne := hDD 6 7 (by omega) (by omega) (by omega) (by decide) (by decide)
      obtain ⟨O1, e6, f1, g1⟩ := e6
      obtain ⟨O2, e7, f2, g2⟩ := e7
      rw [e6, e7] at hne
      have hno : ¬ O1 = O2 := fun e => hne (by rw [e])
      have hno2 : ¬ O2 = O1 := fun e => hno e.symm
      simp only [e6, e7]
      have g1_0 := g1.cell 0; have g1_1 := g1.cell 1; have g1_2 := g1.free 0; have g1_3 := g1.free 1; have g2_0 := g2.cell 0; have g2_1 := g2.cell 1; have g2_2 := g2.free 0; have g2_3 := g2.free 1
      go_wp2_with fail
      go_meet
      exact ⟨O1, O2, rfl, rfl, rfl, rfl, rfl, rfl, f1, f2, (by exact G.go hg2), (by first | exact Hx.go g1 | exact Hx.go2), (by first | exact Hx.go g2 | exact Hx.go2)⟩
  obtain ⟨O1, O2, rfl, rfl, rfl, rfl, rfl, rfl, f1, f2, hgx, hlo, hhi⟩ := hcut
  have hlf : Fits low := by rw [← hlow]; exact aggO_fits _ _
  have hhf : Fits high := by rw [← hhigh]; exact aggO_fits _ _
  replace HG := G.trans HG hgx
  replace ha := Hx.kept ha hgx (by simp); replace hb := Hx.kept hb hgx (by simp); replace hr := Hx.kept hr hgx (by simp)
  clear hgx f1 f2 HMin HMax HV hlow hhigh hs1
  have ha_0 := ha.cell 0; have ha_1 := ha.cell 1; have ha_2 := ha.free 0; have ha_3 := ha.free 1; have ha_4 := ha.lt; have hb_0 := hb.cell 0; have hb_1 := hb.cell 1; have hb_2 := hb.free 0; have hb_3 := hb.free 1; have hb_4 := hb.lt; have hr_0 := hr.cell 0; have hr_1 := hr.cell 1; have hr_2 := hr.free 0; have hr_3 := hr.free 1; have hr_4 := hr.lt; have hlo_0 := hlo.cell 0; have hlo_1 := hlo.cell 1; have hlo_2 := hlo.free 0; have hlo_3 := hlo.free 1; have hlo_4 := hlo.lt; have hhi_0 := hhi.cell 0; have hhi_1 := hhi.cell 1; have hhi_2 := hhi.free 0; have hhi_3 := hhi.free 1; have hhi_4 := hhi.lt
  by_cases g0 : nm = fn0
  · have e0 : (nm.toList == ([97, 98, 115, 111, 108, 117, 116, 101] : List UInt8)) = true := eqYes g0
    have hfin : Hid (V = absO (some x)) := Lib.hid (by rw [← hV.out]; unfold oneO; rw [if_pos g0]; try rfl)
    clear hV g0
    have HA := Lib.hid (fun w => abs1_any w true x)
    rw [vK_of hx, show absO (some x) = V from hfin.out.symm, valV_form] at HA
    go_wp2_with (go_at_call 85; (with_reducible refine (HA.out _).mono ?_); rintro e wn ⟨rfl, hgn⟩; replace HG := G.trans (w := w) (by exact G.go HG) hgn; replace ha := Hx.kept (by first | exact Hx.go ha | exact Hx.go2) hgn (by simp); have ha_0 := ha.cell 0; have ha_1 := ha.cell 1; have ha_2 := ha.free 0; have ha_3 := ha.free 1; have ha_4 := ha.lt; replace hb := Hx.kept (by first | exact Hx.go hb | exact Hx.go2) hgn (by simp); have hb_0 := hb.cell 0; have hb_1 := hb.cell 1; have hb_2 := hb.free 0; have hb_3 := hb.free 1; have hb_4 := hb.lt; replace hr := Hx.kept (by first | exact Hx.go hr | exact Hx.go2) hgn (by simp); have hr_0 := hr.cell 0; have hr_1 := hr.cell 1; have hr_2 := hr.free 0; have hr_3 := hr.free 1; have hr_4 := hr.lt; replace hlo := Hx.kept (by first | exact Hx.go hlo | exact Hx.go2) hgn (by simp); have hlo_0 := hlo.cell 0; have hlo_1 := hlo.cell 1; have hlo_2 := hlo.free 0; have hlo_3 := hlo.free 1; have hlo_4 := hlo.lt; replace hhi := Hx.kept (by first | exact Hx.go hhi | exact Hx.go2) hgn (by simp); have hhi_0 := hhi.cell 0; have hhi_1 := hhi.cell 1; have hhi_2 := hhi.free 0; have hhi_3 := hhi.free 1; have hhi_4 := hhi.lt; clear hgn)
    refine ret_cell [.bool (vB V), .int .i64 (vN V)] (w.heap.size + 1 + 1 + 1) 28 rfl rfl (Tryz.isAgg28 _) (Tryz.sizeOf28 _) rfl ?_ ⟨by rw [hvv.out], (by exact G.go HG)⟩
    exact (by first | exact Hx.go hr | exact Hx.go2)
  have e0 : (nm.toList == ([97, 98, 115, 111, 108, 117, 116, 101] : List UInt8)) = false := eqNo g0
  by_cases g11 : nm = fn11
  · have e11 : (nm.toList == ([115, 99, 97, 108, 101] : List UInt8)) = true := eqYes g11
    have hfin : Hid (V = mulO (some x) (vK kb kn)) := Lib.hid (by rw [← hV.out]; unfold oneO; rw [if_neg g0, if_pos g11]; try rfl)
    clear hV g0 g11
    have HA := Lib.hid (fun w => mul1_any w true kb x kn)
    rw [vK_of hx, show mulO (some x) (vK kb kn) = V from hfin.out.symm, valV_form] at HA
    go_wp2_with (go_at_call 86; (with_reducible refine (HA.out _).mono ?_); rintro e wn ⟨rfl, hgn⟩; replace HG := G.trans (w := w) (by exact G.go HG) hgn; replace ha := Hx.kept (by first | exact Hx.go ha | exact Hx.go2) hgn (by simp); have ha_0 := ha.cell 0; have ha_1 := ha.cell 1; have ha_2 := ha.free 0; have ha_3 := ha.free 1; have ha_4 := ha.lt; replace hb := Hx.kept (by first | exact Hx.go hb | exact Hx.go2) hgn (by simp); have hb_0 := hb.cell 0; have hb_1 := hb.cell 1; have hb_2 := hb.free 0; have hb_3 := hb.free 1; have hb_4 := hb.lt; replace hr := Hx.kept (by first | exact Hx.go hr | exact Hx.go2) hgn (by simp); have hr_0 := hr.cell 0; have hr_1 := hr.cell 1; have hr_2 := hr.free 0; have hr_3 := hr.free 1; have hr_4 := hr.lt; replace hlo := Hx.kept (by first | exact Hx.go hlo | exact Hx.go2) hgn (by simp); have hlo_0 := hlo.cell 0; have hlo_1 := hlo.cell 1; have hlo_2 := hlo.free 0; have hlo_3 := hlo.free 1; have hlo_4 := hlo.lt; replace hhi := Hx.kept (by first | exact Hx.go hhi | exact Hx.go2) hgn (by simp); have hhi_0 := hhi.cell 0; have hhi_1 := hhi.cell 1; have hhi_2 := hhi.free 0; have hhi_3 := hhi.free 1; have hhi_4 := hhi.lt; clear hgn)
    refine ret_cell [.bool (vB V), .int .i64 (vN V)] (w.heap.size + 1 + 1 + 1) 28 rfl rfl (Tryz.isAgg28 _) (Tryz.sizeOf28 _) rfl ?_ ⟨by rw [hvv.out], (by exact G.go HG)⟩
    exact (by first | exact Hx.go hr | exact Hx.go2)
  have e11 : (nm.toList == ([115, 99, 97, 108, 101] : List UInt8)) = false := eqNo g11
  by_cases g5 : nm = fn5
  · have e5 : (nm.toList == ([111, 102, 102, 115, 101, 116] : List UInt8)) = true := eqYes g5
    have hfin : Hid (V = sumO (some x) (vK kb kn)) := Lib.hid (by rw [← hV.out]; unfold oneO; rw [if_neg g0, if_neg g11, if_pos g5]; try rfl)
    clear hV g0 g11 g5
    have HA := Lib.hid (fun w v h => add1_any [(true, x), (kb, kn)] v w h (by simp))
    rw [addO_raw hx, show sumO (some x) (vK kb kn) = V from hfin.out.symm, valV_form] at HA
    go_wp2_with (go_at_call 87; (with_reducible refine (HA.out _ _ ?_).mono ?_); (exact ERow.of_hx (ts := [(true, x), (kb, kn)]) (by simp) (by decide) (Hx.new _ _ _)); rintro e wn ⟨rfl, hgn⟩; replace HG := G.trans (w := w) (by exact G.go HG) hgn; replace hr := Hx.via hr (by repeat (first | with_reducible exact G.refl _ _ | with_reducible refine G.drewN ?_ _ | with_reducible refine G.drew ?_ | with_reducible refine G.alloc ?_ _)) hgn; have hr_0 := hr.cell 0; have hr_1 := hr.cell 1; have hr_2 := hr.free 0; have hr_3 := hr.free 1; have hr_4 := hr.lt; clear hgn)
    refine ret_cell [.bool (vB V), .int .i64 (vN V)] (w.heap.size + 1 + 1 + 1) 28 rfl rfl (Tryz.isAgg28 _) (Tryz.sizeOf28 _) rfl ?_ ⟨by rw [hvv.out], (by exact G.go HG)⟩
    exact (by first | exact Hx.go hr | exact Hx.go2)
  have e5 : (nm.toList == ([111, 102, 102, 115, 101, 116] : List UInt8)) = false := eqNo g5
  by_cases g1 : nm = fn1
  · have e1 : (nm.toList == ([105, 110, 118, 101, 114, 116] : List UInt8)) = true := eqYes g1
    have hfin : Hid (V = divO (some 1000000) (some x)) := Lib.hid (by rw [← hV.out]; unfold oneO; rw [if_neg g0, if_neg g11, if_neg g5, if_pos g1]; try rfl)
    clear hV g0 g11 g5 g1
    have HI := Lib.hid (fun w => int1_any w 1)
    rw [intO_small (by omega)] at HI
    simp only [valV, valC, Int.one_mul] at HI
    have HA := Lib.hid (fun w => div1_any w true true 1000000 x)
    rw [vK_of hx, vK_of (by omega), show divO (some 1000000) (some x) = V from hfin.out.symm, valV_form] at HA
    go_upto_region 10 with (fail)
    (have ha_q0 := fun x => (Hx.inG ha x).cell 0; have ha_q1 := fun x => (Hx.inG ha x).cell 1; have hb_q0 := fun x => (Hx.inG hb x).cell 0; have hb_q1 := fun x => (Hx.inG hb x).cell 1; have hr_q0 := fun x => (Hx.inG hr x).cell 0; have hr_q1 := fun x => (Hx.inG hr x).cell 1; have hlo_q0 := fun x => (Hx.inG hlo x).cell 0; have hlo_q1 := fun x => (Hx.inG hlo x).cell 1; have hhi_q0 := fun x => (Hx.inG hhi x).cell 0; have hhi_q1 := fun x => (Hx.inG hhi x).cell 1; have xq_ := HG; refine wp_region_last (G.refl _ none) (by kernel_rfl) (by kernel_rfl) (by kernel_rfl) ?_; simp only [mapLast, lastOf, idle]; (repeat (refine wpQuiet_step (fun K hK => ?_); go_simp; first | (refine hK _ ?_; clear hK K) | (apply Exists.intro; refine ⟨fun xq => ?_, hK _ ?_⟩; (focus (first | (go_at_call 79; with_reducible exact grow_of (HI.out _)) | (go_at_call 88; with_reducible exact grow_of (HA.out _)))); clear hK K))); refine wpQuiet_nil ?_; intro wn hgn; replace HG := G.trans (w := w) HG hgn; clear ha_q0 ha_q1; replace ha := Hx.kept ha hgn (by simp); have ha_0 := ha.cell 0; have ha_1 := ha.cell 1; have ha_2 := ha.free 0; have ha_3 := ha.free 1; have ha_4 := ha.lt; clear hb_q0 hb_q1; replace hb := Hx.kept hb hgn (by simp); have hb_0 := hb.cell 0; have hb_1 := hb.cell 1; have hb_2 := hb.free 0; have hb_3 := hb.free 1; have hb_4 := hb.lt; clear hr_q0 hr_q1; replace hr := Hx.kept hr hgn (by simp); have hr_0 := hr.cell 0; have hr_1 := hr.cell 1; have hr_2 := hr.free 0; have hr_3 := hr.free 1; have hr_4 := hr.lt; clear hlo_q0 hlo_q1; replace hlo := Hx.kept hlo hgn (by simp); have hlo_0 := hlo.cell 0; have hlo_1 := hlo.cell 1; have hlo_2 := hlo.free 0; have hlo_3 := hlo.free 1; have hlo_4 := hlo.lt; clear hhi_q0 hhi_q1; replace hhi := Hx.kept hhi hgn (by simp); have hhi_0 := hhi.cell 0; have hhi_1 := hhi.cell 1; have hhi_2 := hhi.free 0; have hhi_3 := hhi.free 1; have hhi_4 := hhi.lt; clear hgn xq_)
    go_wp2_with fail
    refine ret_cell [.bool (vB V), .int .i64 (vN V)] (w.heap.size + 1 + 1 + 1) 28 rfl rfl (Tryz.isAgg28 _) (Tryz.sizeOf28 _) rfl ?_ ⟨by rw [hvv.out], (by exact G.go HG)⟩
    exact (by first | exact Hx.go hr | exact Hx.go2)
  have e1 : (nm.toList == ([105, 110, 118, 101, 114, 116] : List UInt8)) = false := eqNo g1
  by_cases g14 : nm = fn14
  · have e14 : (nm.toList == ([115, 113, 117, 97, 114, 101, 82, 111, 111, 116] : List UInt8)) = true := eqYes g14
    have hfin : Hid (V = sqrtO (some x)) := Lib.hid (by rw [← hV.out]; unfold oneO; rw [if_neg g0, if_neg g11, if_neg g5, if_neg g1, if_pos g14]; try rfl)
    clear hV g0 g11 g5 g1 g14
    have HA := Lib.hid (fun w => sqrt1_any w true x)
    rw [vK_of hx, show sqrtO (some x) = V from hfin.out.symm, valV_form] at HA
    go_wp2_with (go_at_call 89; (with_reducible refine (HA.out _).mono ?_); rintro e wn ⟨rfl, hgn⟩; replace HG := G.trans (w := w) (by exact G.go HG) hgn; replace ha := Hx.kept (by first | exact Hx.go ha | exact Hx.go2) hgn (by simp); have ha_0 := ha.cell 0; have ha_1 := ha.cell 1; have ha_2 := ha.free 0; have ha_3 := ha.free 1; have ha_4 := ha.lt; replace hb := Hx.kept (by first | exact Hx.go hb | exact Hx.go2) hgn (by simp); have hb_0 := hb.cell 0; have hb_1 := hb.cell 1; have hb_2 := hb.free 0; have hb_3 := hb.free 1; have hb_4 := hb.lt; replace hr := Hx.kept (by first | exact Hx.go hr | exact Hx.go2) hgn (by simp); have hr_0 := hr.cell 0; have hr_1 := hr.cell 1; have hr_2 := hr.free 0; have hr_3 := hr.free 1; have hr_4 := hr.lt; replace hlo := Hx.kept (by first | exact Hx.go hlo | exact Hx.go2) hgn (by simp); have hlo_0 := hlo.cell 0; have hlo_1 := hlo.cell 1; have hlo_2 := hlo.free 0; have hlo_3 := hlo.free 1; have hlo_4 := hlo.lt; replace hhi := Hx.kept (by first | exact Hx.go hhi | exact Hx.go2) hgn (by simp); have hhi_0 := hhi.cell 0; have hhi_1 := hhi.cell 1; have hhi_2 := hhi.free 0; have hhi_3 := hhi.free 1; have hhi_4 := hhi.lt; clear hgn)
    refine ret_cell [.bool (vB V), .int .i64 (vN V)] (w.heap.size + 1 + 1 + 1) 28 rfl rfl (Tryz.isAgg28 _) (Tryz.sizeOf28 _) rfl ?_ ⟨by rw [hvv.out], (by exact G.go HG)⟩
    exact (by first | exact Hx.go hr | exact Hx.go2)
  have e14 : (nm.toList == ([115, 113, 117, 97, 114, 101, 82, 111, 111, 116] : List UInt8)) = false := eqNo g14
  by_cases g6 : nm = fn6
  · have e6 : (nm.toList == ([111, 102, 102, 115, 101, 116, 84, 111, 90, 101, 114, 111] : List UInt8)) = true := eqYes g6
    have hfin : Hid (V = subO (some x) low) := Lib.hid (by rw [← hV.out]; unfold oneO; rw [if_neg g0, if_neg g11, if_neg g5, if_neg g1, if_neg g14, if_pos g6]; try rfl)
    clear hV g0 g11 g5 g1 g14 g6
    have HA := Lib.hid (fun w => sub1_any w true (vB low) x (vN low))
    rw [vK_of hx, vK_form hlf, show subO (some x) low = V from hfin.out.symm, valV_form] at HA
    go_wp2_with (go_at_call 90; (with_reducible refine (HA.out _).mono ?_); rintro e wn ⟨rfl, hgn⟩; replace HG := G.trans (w := w) (by exact G.go HG) hgn; replace ha := Hx.kept (by first | exact Hx.go ha | exact Hx.go2) hgn (by simp); have ha_0 := ha.cell 0; have ha_1 := ha.cell 1; have ha_2 := ha.free 0; have ha_3 := ha.free 1; have ha_4 := ha.lt; replace hb := Hx.kept (by first | exact Hx.go hb | exact Hx.go2) hgn (by simp); have hb_0 := hb.cell 0; have hb_1 := hb.cell 1; have hb_2 := hb.free 0; have hb_3 := hb.free 1; have hb_4 := hb.lt; replace hr := Hx.kept (by first | exact Hx.go hr | exact Hx.go2) hgn (by simp); have hr_0 := hr.cell 0; have hr_1 := hr.cell 1; have hr_2 := hr.free 0; have hr_3 := hr.free 1; have hr_4 := hr.lt; replace hlo := Hx.kept (by first | exact Hx.go hlo | exact Hx.go2) hgn (by simp); have hlo_0 := hlo.cell 0; have hlo_1 := hlo.cell 1; have hlo_2 := hlo.free 0; have hlo_3 := hlo.free 1; have hlo_4 := hlo.lt; replace hhi := Hx.kept (by first | exact Hx.go hhi | exact Hx.go2) hgn (by simp); have hhi_0 := hhi.cell 0; have hhi_1 := hhi.cell 1; have hhi_2 := hhi.free 0; have hhi_3 := hhi.free 1; have hhi_4 := hhi.lt; clear hgn)
    refine ret_cell [.bool (vB V), .int .i64 (vN V)] (w.heap.size + 1 + 1 + 1) 28 rfl rfl (Tryz.isAgg28 _) (Tryz.sizeOf28 _) rfl ?_ ⟨by rw [hvv.out], (by exact G.go HG)⟩
    exact (by first | exact Hx.go hr | exact Hx.go2)
  have e6 : (nm.toList == ([111, 102, 102, 115, 101, 116, 84, 111, 90, 101, 114, 111] : List UInt8)) = false := eqNo g6
  by_cases g3 : nm = fn3
  · have e3 : (nm.toList == ([109, 105, 110, 77, 97, 120] : List UInt8)) = true := eqYes g3
    have hfin : Hid (V = fm3 low high (some x)) := Lib.hid (by rw [← hV.out]; unfold oneO; rw [if_neg g0, if_neg g11, if_neg g5, if_neg g1, if_neg g14, if_neg g6, if_pos g3]; try rfl)
    clear hV g0 g11 g5 g1 g14 g6 g3
    have HA := Lib.hid (fun w => minMax1_any w x hx low high hlf hhf)
    rw [show fm3 low high (some x) = V from hfin.out.symm, valV_form] at HA
    go_wp2_with (go_at_call 91; (with_reducible refine (HA.out _).mono ?_); rintro e wn ⟨rfl, hgn⟩; replace HG := G.trans (w := w) (by exact G.go HG) hgn; replace ha := Hx.kept (by first | exact Hx.go ha | exact Hx.go2) hgn (by simp); have ha_0 := ha.cell 0; have ha_1 := ha.cell 1; have ha_2 := ha.free 0; have ha_3 := ha.free 1; have ha_4 := ha.lt; replace hb := Hx.kept (by first | exact Hx.go hb | exact Hx.go2) hgn (by simp); have hb_0 := hb.cell 0; have hb_1 := hb.cell 1; have hb_2 := hb.free 0; have hb_3 := hb.free 1; have hb_4 := hb.lt; replace hr := Hx.kept (by first | exact Hx.go hr | exact Hx.go2) hgn (by simp); have hr_0 := hr.cell 0; have hr_1 := hr.cell 1; have hr_2 := hr.free 0; have hr_3 := hr.free 1; have hr_4 := hr.lt; replace hlo := Hx.kept (by first | exact Hx.go hlo | exact Hx.go2) hgn (by simp); have hlo_0 := hlo.cell 0; have hlo_1 := hlo.cell 1; have hlo_2 := hlo.free 0; have hlo_3 := hlo.free 1; have hlo_4 := hlo.lt; replace hhi := Hx.kept (by first | exact Hx.go hhi | exact Hx.go2) hgn (by simp); have hhi_0 := hhi.cell 0; have hhi_1 := hhi.cell 1; have hhi_2 := hhi.free 0; have hhi_3 := hhi.free 1; have hhi_4 := hhi.lt; clear hgn)
    refine ret_cell [.bool (vB V), .int .i64 (vN V)] (w.heap.size + 1 + 1 + 1) 28 rfl rfl (Tryz.isAgg28 _) (Tryz.sizeOf28 _) rfl ?_ ⟨by rw [hvv.out], (by exact G.go HG)⟩
    exact (by first | exact Hx.go hr | exact Hx.go2)
  have e3 : (nm.toList == ([109, 105, 110, 77, 97, 120] : List UInt8)) = false := eqNo g3
  by_cases g2 : nm = fn2
  · have e2 : (nm.toList == ([105, 115, 78, 111, 110, 78, 117, 108, 108] : List UInt8)) = true := eqYes g2
    have hfin : Hid (V = some 1000000) := Lib.hid (by rw [← hV.out]; unfold oneO; rw [if_neg g0, if_neg g11, if_neg g5, if_neg g1, if_neg g14, if_neg g6, if_neg g3, if_pos g2]; try rfl)
    clear hV g0 g11 g5 g1 g14 g6 g3 g2
    have HI := Lib.hid (fun w => int1_any w 1)
    rw [intO_small (by omega)] at HI
    simp only [valV, valC, Int.one_mul] at HI
    go_wp2_with (go_at_call 79; (with_reducible refine (HI.out _).mono ?_); rintro e wn ⟨rfl, hgn⟩; replace HG := G.trans (w := w) (by exact G.go HG) hgn; replace ha := Hx.kept (by first | exact Hx.go ha | exact Hx.go2) hgn (by simp); have ha_0 := ha.cell 0; have ha_1 := ha.cell 1; have ha_2 := ha.free 0; have ha_3 := ha.free 1; have ha_4 := ha.lt; replace hb := Hx.kept (by first | exact Hx.go hb | exact Hx.go2) hgn (by simp); have hb_0 := hb.cell 0; have hb_1 := hb.cell 1; have hb_2 := hb.free 0; have hb_3 := hb.free 1; have hb_4 := hb.lt; replace hr := Hx.kept (by first | exact Hx.go hr | exact Hx.go2) hgn (by simp); have hr_0 := hr.cell 0; have hr_1 := hr.cell 1; have hr_2 := hr.free 0; have hr_3 := hr.free 1; have hr_4 := hr.lt; replace hlo := Hx.kept (by first | exact Hx.go hlo | exact Hx.go2) hgn (by simp); have hlo_0 := hlo.cell 0; have hlo_1 := hlo.cell 1; have hlo_2 := hlo.free 0; have hlo_3 := hlo.free 1; have hlo_4 := hlo.lt; replace hhi := Hx.kept (by first | exact Hx.go hhi | exact Hx.go2) hgn (by simp); have hhi_0 := hhi.cell 0; have hhi_1 := hhi.cell 1; have hhi_2 := hhi.free 0; have hhi_3 := hhi.free 1; have hhi_4 := hhi.lt; clear hgn)
    refine ret_cell [.bool true, .int .i64 1000000] (w.heap.size + 1 + 1 + 1) 28 rfl rfl (Tryz.isAgg28 _) (Tryz.sizeOf28 _) rfl ?_ ⟨by rw [hfin.out]; rfl, (by exact G.go HG)⟩
    exact (by first | exact Hx.go hr | exact Hx.go2)
  have e2 : (nm.toList == ([105, 115, 78, 111, 110, 78, 117, 108, 108] : List UInt8)) = false := eqNo g2
  by_cases g8 : nm = fn8
  · have e8 : (nm.toList == ([114, 101, 109, 111, 118, 101, 65, 98, 111, 118, 101, 86, 97, 108, 117, 101] : List UInt8)) = true := eqYes g8
    have hfin : Hid (V = if ltO (vK kb kn) (some x) then none else some x) := Lib.hid (by rw [← hV.out]; unfold oneO; rw [if_neg g0, if_neg g11, if_neg g5, if_neg g1, if_neg g14, if_neg g6, if_neg g3, if_neg g2, if_pos g8]; try rfl)
    clear hV g0 g11 g5 g1 g14 g6 g3 g2 g8
    have HA := Lib.hid (fun w => less1_any w kb true kn x)
    rw [vK_of hx] at HA
    generalize ltO (vK kb kn) (some x) = c at *
    cases c
    · have hf2 : Hid (V = some x) := hfin
      go_wp2_with (go_at_call 92; (with_reducible refine (HA.out _).mono ?_); rintro e wn ⟨rfl, hgn⟩; replace HG := G.trans (w := w) (by exact G.go HG) hgn; replace ha := Hx.kept (by first | exact Hx.go ha | exact Hx.go2) hgn (by simp); have ha_0 := ha.cell 0; have ha_1 := ha.cell 1; have ha_2 := ha.free 0; have ha_3 := ha.free 1; have ha_4 := ha.lt; replace hb := Hx.kept (by first | exact Hx.go hb | exact Hx.go2) hgn (by simp); have hb_0 := hb.cell 0; have hb_1 := hb.cell 1; have hb_2 := hb.free 0; have hb_3 := hb.free 1; have hb_4 := hb.lt; replace hr := Hx.kept (by first | exact Hx.go hr | exact Hx.go2) hgn (by simp); have hr_0 := hr.cell 0; have hr_1 := hr.cell 1; have hr_2 := hr.free 0; have hr_3 := hr.free 1; have hr_4 := hr.lt; replace hlo := Hx.kept (by first | exact Hx.go hlo | exact Hx.go2) hgn (by simp); have hlo_0 := hlo.cell 0; have hlo_1 := hlo.cell 1; have hlo_2 := hlo.free 0; have hlo_3 := hlo.free 1; have hlo_4 := hlo.lt; replace hhi := Hx.kept (by first | exact Hx.go hhi | exact Hx.go2) hgn (by simp); have hhi_0 := hhi.cell 0; have hhi_1 := hhi.cell 1; have hhi_2 := hhi.free 0; have hhi_3 := hhi.free 1; have hhi_4 := hhi.lt; clear hgn)
      refine ret_cell [.bool true, .int .i64 x] (w.heap.size + 1 + 1 + 1) 28 rfl rfl (Tryz.isAgg28 _) (Tryz.sizeOf28 _) rfl ?_ ⟨by rw [hf2.out]; rfl, (by exact G.go HG)⟩
      exact (by first | exact Hx.go hr | exact Hx.go2)
    · have hf2 : Hid (V = none) := hfin
      go_wp2_with (go_at_call 92; (with_reducible refine (HA.out _).mono ?_); rintro e wn ⟨rfl, hgn⟩; replace HG := G.trans (w := w) (by exact G.go HG) hgn; replace ha := Hx.kept (by first | exact Hx.go ha | exact Hx.go2) hgn (by simp); have ha_0 := ha.cell 0; have ha_1 := ha.cell 1; have ha_2 := ha.free 0; have ha_3 := ha.free 1; have ha_4 := ha.lt; replace hb := Hx.kept (by first | exact Hx.go hb | exact Hx.go2) hgn (by simp); have hb_0 := hb.cell 0; have hb_1 := hb.cell 1; have hb_2 := hb.free 0; have hb_3 := hb.free 1; have hb_4 := hb.lt; replace hr := Hx.kept (by first | exact Hx.go hr | exact Hx.go2) hgn (by simp); have hr_0 := hr.cell 0; have hr_1 := hr.cell 1; have hr_2 := hr.free 0; have hr_3 := hr.free 1; have hr_4 := hr.lt; replace hlo := Hx.kept (by first | exact Hx.go hlo | exact Hx.go2) hgn (by simp); have hlo_0 := hlo.cell 0; have hlo_1 := hlo.cell 1; have hlo_2 := hlo.free 0; have hlo_3 := hlo.free 1; have hlo_4 := hlo.lt; replace hhi := Hx.kept (by first | exact Hx.go hhi | exact Hx.go2) hgn (by simp); have hhi_0 := hhi.cell 0; have hhi_1 := hhi.cell 1; have hhi_2 := hhi.free 0; have hhi_3 := hhi.free 1; have hhi_4 := hhi.lt; clear hgn)
      refine ret_cell [.bool false, .int .i64 0] (w.heap.size + 1 + 1 + 1) 28 rfl rfl (Tryz.isAgg28 _) (Tryz.sizeOf28 _) rfl ?_ ⟨by rw [hf2.out]; rfl, (by exact G.go HG)⟩
      exact (by first | exact Hx.go hr | exact Hx.go2)
  have e8 : (nm.toList == ([114, 101, 109, 111, 118, 101, 65, 98, 111, 118, 101, 86, 97, 108, 117, 101] : List UInt8)) = false := eqNo g8
  by_cases g9 : nm = fn9
  · have e9 : (nm.toList == ([114, 101, 109, 111, 118, 101, 66, 101, 108, 111, 119, 86, 97, 108, 117, 101] : List UInt8)) = true := eqYes g9
    have hfin : Hid (V = if ltO (some x) (vK kb kn) then none else some x) := Lib.hid (by rw [← hV.out]; unfold oneO; rw [if_neg g0, if_neg g11, if_neg g5, if_neg g1, if_neg g14, if_neg g6, if_neg g3, if_neg g2, if_neg g8, if_pos g9]; try rfl)
    clear hV g0 g11 g5 g1 g14 g6 g3 g2 g8 g9
    have HA := Lib.hid (fun w => less1_any w true kb x kn)
    rw [vK_of hx] at HA
    generalize ltO (some x) (vK kb kn) = c at *
    cases c
    · have hf2 : Hid (V = some x) := hfin
      go_wp2_with (go_at_call 92; (with_reducible refine (HA.out _).mono ?_); rintro e wn ⟨rfl, hgn⟩; replace HG := G.trans (w := w) (by exact G.go HG) hgn; replace ha := Hx.kept (by first | exact Hx.go ha | exact Hx.go2) hgn (by simp); have ha_0 := ha.cell 0; have ha_1 := ha.cell 1; have ha_2 := ha.free 0; have ha_3 := ha.free 1; have ha_4 := ha.lt; replace hb := Hx.kept (by first | exact Hx.go hb | exact Hx.go2) hgn (by simp); have hb_0 := hb.cell 0; have hb_1 := hb.cell 1; have hb_2 := hb.free 0; have hb_3 := hb.free 1; have hb_4 := hb.lt; replace hr := Hx.kept (by first | exact Hx.go hr | exact Hx.go2) hgn (by simp); have hr_0 := hr.cell 0; have hr_1 := hr.cell 1; have hr_2 := hr.free 0; have hr_3 := hr.free 1; have hr_4 := hr.lt; replace hlo := Hx.kept (by first | exact Hx.go hlo | exact Hx.go2) hgn (by simp); have hlo_0 := hlo.cell 0; have hlo_1 := hlo.cell 1; have hlo_2 := hlo.free 0; have hlo_3 := hlo.free 1; have hlo_4 := hlo.lt; replace hhi := Hx.kept (by first | exact Hx.go hhi | exact Hx.go2) hgn (by simp); have hhi_0 := hhi.cell 0; have hhi_1 := hhi.cell 1; have hhi_2 := hhi.free 0; have hhi_3 := hhi.free 1; have hhi_4 := hhi.lt; clear hgn)
      refine ret_cell [.bool true, .int .i64 x] (w.heap.size + 1 + 1 + 1) 28 rfl rfl (Tryz.isAgg28 _) (Tryz.sizeOf28 _) rfl ?_ ⟨by rw [hf2.out]; rfl, (by exact G.go HG)⟩
      exact (by first | exact Hx.go hr | exact Hx.go2)
    · have hf2 : Hid (V = none) := hfin
      go_wp2_with (go_at_call 92; (with_reducible refine (HA.out _).mono ?_); rintro e wn ⟨rfl, hgn⟩; replace HG := G.trans (w := w) (by exact G.go HG) hgn; replace ha := Hx.kept (by first | exact Hx.go ha | exact Hx.go2) hgn (by simp); have ha_0 := ha.cell 0; have ha_1 := ha.cell 1; have ha_2 := ha.free 0; have ha_3 := ha.free 1; have ha_4 := ha.lt; replace hb := Hx.kept (by first | exact Hx.go hb | exact Hx.go2) hgn (by simp); have hb_0 := hb.cell 0; have hb_1 := hb.cell 1; have hb_2 := hb.free 0; have hb_3 := hb.free 1; have hb_4 := hb.lt; replace hr := Hx.kept (by first | exact Hx.go hr | exact Hx.go2) hgn (by simp); have hr_0 := hr.cell 0; have hr_1 := hr.cell 1; have hr_2 := hr.free 0; have hr_3 := hr.free 1; have hr_4 := hr.lt; replace hlo := Hx.kept (by first | exact Hx.go hlo | exact Hx.go2) hgn (by simp); have hlo_0 := hlo.cell 0; have hlo_1 := hlo.cell 1; have hlo_2 := hlo.free 0; have hlo_3 := hlo.free 1; have hlo_4 := hlo.lt; replace hhi := Hx.kept (by first | exact Hx.go hhi | exact Hx.go2) hgn (by simp); have hhi_0 := hhi.cell 0; have hhi_1 := hhi.cell 1; have hhi_2 := hhi.free 0; have hhi_3 := hhi.free 1; have hhi_4 := hhi.lt; clear hgn)
      refine ret_cell [.bool false, .int .i64 0] (w.heap.size + 1 + 1 + 1) 28 rfl rfl (Tryz.isAgg28 _) (Tryz.sizeOf28 _) rfl ?_ ⟨by rw [hf2.out]; rfl, (by exact G.go HG)⟩
      exact (by first | exact Hx.go hr | exact Hx.go2)
  have e9 : (nm.toList == ([114, 101, 109, 111, 118, 101, 66, 101, 108, 111, 119, 86, 97, 108, 117, 101] : List UInt8)) = false := eqNo g9
  by_cases g4 : nm = fn4
  · have e4 : (nm.toList == ([110, 101, 103, 97, 116, 101] : List UInt8)) = true := eqYes g4
    have hfin : Hid (V = subO (some 0) (some x)) := Lib.hid (by rw [← hV.out]; unfold oneO; rw [if_neg g0, if_neg g11, if_neg g5, if_neg g1, if_neg g14, if_neg g6, if_neg g3, if_neg g2, if_neg g8, if_neg g9, if_pos g4]; try rfl)
    clear hV g0 g11 g5 g1 g14 g6 g3 g2 g8 g9 g4
    have HI := Lib.hid (fun w => refOf_any w 0)
    rw [ofR_small (by omega)] at HI
    simp only [valV, valC] at HI
    have HA := Lib.hid (fun w => sub1_any w true true 0 x)
    rw [vK_of hx, vK_of (by omega), show subO (some 0) (some x) = V from hfin.out.symm, valV_form] at HA
    go_upto_region 26 with (fail)
    (have ha_q0 := fun x => (Hx.inG ha x).cell 0; have ha_q1 := fun x => (Hx.inG ha x).cell 1; have hb_q0 := fun x => (Hx.inG hb x).cell 0; have hb_q1 := fun x => (Hx.inG hb x).cell 1; have hr_q0 := fun x => (Hx.inG hr x).cell 0; have hr_q1 := fun x => (Hx.inG hr x).cell 1; have hlo_q0 := fun x => (Hx.inG hlo x).cell 0; have hlo_q1 := fun x => (Hx.inG hlo x).cell 1; have hhi_q0 := fun x => (Hx.inG hhi x).cell 0; have hhi_q1 := fun x => (Hx.inG hhi x).cell 1; have xq_ := HG; refine wp_region_last (G.refl _ none) (by kernel_rfl) (by kernel_rfl) (by kernel_rfl) ?_; simp only [mapLast, lastOf, idle]; (repeat (refine wpQuiet_step (fun K hK => ?_); go_simp; first | (refine hK _ ?_; clear hK K) | (apply Exists.intro; refine ⟨fun xq => ?_, hK _ ?_⟩; (focus (first | (go_at_call 93; with_reducible exact grow_of (HI.out _)) | (go_at_call 90; with_reducible exact grow_of (HA.out _)))); clear hK K))); refine wpQuiet_nil ?_; intro wn hgn; replace HG := G.trans (w := w) HG hgn; clear ha_q0 ha_q1; replace ha := Hx.kept ha hgn (by simp); have ha_0 := ha.cell 0; have ha_1 := ha.cell 1; have ha_2 := ha.free 0; have ha_3 := ha.free 1; have ha_4 := ha.lt; clear hb_q0 hb_q1; replace hb := Hx.kept hb hgn (by simp); have hb_0 := hb.cell 0; have hb_1 := hb.cell 1; have hb_2 := hb.free 0; have hb_3 := hb.free 1; have hb_4 := hb.lt; clear hr_q0 hr_q1; replace hr := Hx.kept hr hgn (by simp); have hr_0 := hr.cell 0; have hr_1 := hr.cell 1; have hr_2 := hr.free 0; have hr_3 := hr.free 1; have hr_4 := hr.lt; clear hlo_q0 hlo_q1; replace hlo := Hx.kept hlo hgn (by simp); have hlo_0 := hlo.cell 0; have hlo_1 := hlo.cell 1; have hlo_2 := hlo.free 0; have hlo_3 := hlo.free 1; have hlo_4 := hlo.lt; clear hhi_q0 hhi_q1; replace hhi := Hx.kept hhi hgn (by simp); have hhi_0 := hhi.cell 0; have hhi_1 := hhi.cell 1; have hhi_2 := hhi.free 0; have hhi_3 := hhi.free 1; have hhi_4 := hhi.lt; clear hgn xq_)
    go_wp2_with fail
    refine ret_cell [.bool (vB V), .int .i64 (vN V)] (w.heap.size + 1 + 1 + 1) 28 rfl rfl (Tryz.isAgg28 _) (Tryz.sizeOf28 _) rfl ?_ ⟨by rw [hvv.out], (by exact G.go HG)⟩
    exact (by first | exact Hx.go hr | exact Hx.go2)
  have e4 : (nm.toList == ([110, 101, 103, 97, 116, 101] : List UInt8)) = false := eqNo g4
  by_cases g13 : nm = fn13
  · have e13 : (nm.toList == ([115, 105, 103, 110] : List UInt8)) = true := eqYes g13
    have hfin : Hid (V = fm13 (some x)) := Lib.hid (by rw [← hV.out]; unfold oneO; rw [if_neg g0, if_neg g11, if_neg g5, if_neg g1, if_neg g14, if_neg g6, if_neg g3, if_neg g2, if_neg g8, if_neg g9, if_neg g4, if_pos g13]; try rfl)
    clear hV g0 g11 g5 g1 g14 g6 g3 g2 g8 g9 g4 g13
    have HA := Lib.hid (fun w => sign1_any w x)
    rw [show fm13 (some x) = V from hfin.out.symm, valV_form] at HA
    go_wp2_with (go_at_call 94; (with_reducible refine (HA.out _).mono ?_); rintro e wn ⟨rfl, hgn⟩; replace HG := G.trans (w := w) (by exact G.go HG) hgn; replace ha := Hx.kept (by first | exact Hx.go ha | exact Hx.go2) hgn (by simp); have ha_0 := ha.cell 0; have ha_1 := ha.cell 1; have ha_2 := ha.free 0; have ha_3 := ha.free 1; have ha_4 := ha.lt; replace hb := Hx.kept (by first | exact Hx.go hb | exact Hx.go2) hgn (by simp); have hb_0 := hb.cell 0; have hb_1 := hb.cell 1; have hb_2 := hb.free 0; have hb_3 := hb.free 1; have hb_4 := hb.lt; replace hr := Hx.kept (by first | exact Hx.go hr | exact Hx.go2) hgn (by simp); have hr_0 := hr.cell 0; have hr_1 := hr.cell 1; have hr_2 := hr.free 0; have hr_3 := hr.free 1; have hr_4 := hr.lt; replace hlo := Hx.kept (by first | exact Hx.go hlo | exact Hx.go2) hgn (by simp); have hlo_0 := hlo.cell 0; have hlo_1 := hlo.cell 1; have hlo_2 := hlo.free 0; have hlo_3 := hlo.free 1; have hlo_4 := hlo.lt; replace hhi := Hx.kept (by first | exact Hx.go hhi | exact Hx.go2) hgn (by simp); have hhi_0 := hhi.cell 0; have hhi_1 := hhi.cell 1; have hhi_2 := hhi.free 0; have hhi_3 := hhi.free 1; have hhi_4 := hhi.lt; clear hgn)
    refine ret_cell [.bool (vB V), .int .i64 (vN V)] (w.heap.size + 1 + 1 + 1) 28 rfl rfl (Tryz.isAgg28 _) (Tryz.sizeOf28 _) rfl ?_ ⟨by rw [hvv.out], (by exact G.go HG)⟩
    exact (by first | exact Hx.go hr | exact Hx.go2)
  have e13 : (nm.toList == ([115, 105, 103, 110] : List UInt8)) = false := eqNo g13
  have hfin : Hid (V = some x) := Lib.hid (by rw [← hV.out]; unfold oneO; rw [if_neg g0, if_neg g11, if_neg g5, if_neg g1, if_neg g14, if_neg g6, if_neg g3, if_neg g2, if_neg g8, if_neg g9, if_neg g4, if_neg g13])
  clear hV g0 g11 g5 g1 g14 g6 g3 g2 g8 g9 g4 g13
  go_wp2_with fail
  refine ret_cell [.bool true, .int .i64 x] (w.heap.size + 1 + 1 + 1) 28 rfl rfl (Tryz.isAgg28 _) (Tryz.sizeOf28 _) rfl ?_ ⟨by rw [hfin.out]; rfl, (by exact G.go HG)⟩
  exact (by first | exact Hx.go hr | exact Hx.go2)
end Go.Proofs.YtfomknfjidbdcaaGreatDoor
