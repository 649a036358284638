/-
  The walks of the reference's small functions on single values. Printed by genfmref.py.
  The walks of the reference's pow, round, minMax. Printed by genfmrefb.py.
  The walk of the reference's round. Printed by genfmrefc.py.
-/
import Derived.Test.YtfomknfjidbdcaaGreatDoorFmDoesG
import Derived.Laws.StructEq
namespace Go.Proofs.YtfomknfjidbdcaaGreatDoor
open Go.RowKit
theorem isR_of {z : Int} (h : -4611686018427387904 ≤ z ∧ z ≤ 4611686018427387904) : isR true z = true := by simp [isR, h.1, h.2]
theorem wholeB_z (z : Int) : wholeB (some z) = decide (z.tmod 1000000 = 0) := by
  show (true && decide (z.tmod 1000000 = 0)) = _
  exact Bool.true_and _
theorem wholeT_z (z : Int) : wholeT (some z) = z.tdiv 1000000 := rfl
set_option maxHeartbeats 8000000 in
theorem whole1_any (w : World) (z : Int) (hz : -4611686018427387904 ≤ z ∧ z ≤ 4611686018427387904) : Calls Tryz.prog 112 #[.agg #[.bool true, .int .i64 z]] w fun e w' => e = .returned (.tuple #[.int .i64 (if wholeB (some z) then wholeT (some z) else 0), .bool (wholeB (some z))]) ∧ w.grownBy w' none := by
  have HK := Lib.hid (fun w => known1_any w true z)
  rw [isR_of hz] at HK
  have hT := wholeT_le (fits_some hz)
  rw [wholeT_z] at hT
  rw [wholeB_z, wholeT_z]
  have hwr : IntKind.i64.wrap (z.tdiv 1000000) = z.tdiv 1000000 := by rw [IntKind.wrap_i64]; omega
  have HG := G.refl w none
  by_cases hzz : z.tmod 1000000 = 0 <;>
  · go_enter Tryz.func112, Tryz.ntmps112
    go_upto_region 0 with (fail)
    go_cut [1] (fun p wc => p = .pointer (some ⟨w.heap.size, 0, none⟩) ∧ w.grownBy wc none ∧ Hx wc w.heap.size [.bool true, .int .i64 z] 28)
    case first =>
      go_wp2_with fail
      go_meet
      exact ⟨rfl, (by exact G.go HG), Hx.new _ _ _⟩
    obtain ⟨rfl, HG, ha⟩ := hcut
    have ha_0 := ha.cell 0; have ha_1 := ha.cell 1; have ha_2 := ha.free 0; have ha_3 := ha.free 1; have ha_4 := ha.lt
    go_wp2_with (go_at_call 80; (with_reducible refine (HK.out _).mono ?_); rintro e wn ⟨rfl, hgn⟩; replace HG := G.trans (w := w) (by exact G.go HG) hgn; replace ha := Hx.kept (by first | exact Hx.go ha | exact Hx.go2) hgn (by simp); have ha_0 := ha.cell 0; have ha_1 := ha.cell 1; have ha_2 := ha.free 0; have ha_3 := ha.free 1; have ha_4 := ha.lt; clear hgn)
    all_goals go_ret2
    all_goals exact ⟨by simp, (by exact G.go HG)⟩
set_option maxHeartbeats 8000000 in
theorem sign1_any (w : World) (x : Int) : Calls Tryz.prog 94 #[.agg #[.bool true, .int .i64 x]] w fun e w' => e = .returned (valV (fm13 (some x))) ∧ w.grownBy w' none := by
  have HI := Lib.hid (fun w => int1_any w 1)
  rw [intO_small (by omega)] at HI
  have HJ := Lib.hid (fun w => int1_any w (-1))
  rw [intO_small (by omega)] at HJ
  have HO := Lib.hid (fun w => int1_any w 0)
  rw [intO_small (by omega)] at HO
  simp only [valV, valC, Int.one_mul, Int.reduceMul] at HI HJ HO
  have hfin : Hid (fm13 (some x) = some (if 0 < x then 1000000 else if x < 0 then -1000000 else 0)) := Lib.hid rfl
  rw [hfin.out]
  by_cases h1 : 0 < x
  · rw [if_pos h1]
    have HG := G.refl w none
    go_enter Tryz.func94, Tryz.ntmps94
    go_upto_region 0 with (fail)
    go_cut [1, 2] (fun p1 p2 wc => p1 = .pointer (some ⟨w.heap.size, 0, none⟩) ∧ p2 = .pointer (some ⟨(w.heap.size + 1), 0, none⟩) ∧ w.grownBy wc none ∧ Hx wc w.heap.size [.bool true, .int .i64 x] 28 ∧ Hx wc (w.heap.size + 1) [.bool false, .int .i64 0] 28)
    case first =>
      go_wp2_with fail
      go_meet
      exact ⟨rfl, rfl, (by exact G.go HG), Hx.alloc (Hx.new _ _ _) _, Hx.new' (by simp) rfl⟩
    obtain ⟨rfl, rfl, HG, ha, hr⟩ := hcut
    have ha_0 := ha.cell 0; have ha_1 := ha.cell 1; have ha_2 := ha.free 0; have ha_3 := ha.free 1; have ha_4 := ha.lt; have hr_0 := hr.cell 0; have hr_1 := hr.cell 1; have hr_2 := hr.free 0; have hr_3 := hr.free 1; have hr_4 := hr.lt
    go_wp2_with (go_at_call 79; (with_reducible refine (HI.out _).mono ?_); rintro e wn ⟨rfl, hgn⟩; replace HG := G.trans (w := w) (by exact G.go HG) hgn; replace ha := Hx.kept (by first | exact Hx.go ha | exact Hx.go2) hgn (by simp); have ha_0 := ha.cell 0; have ha_1 := ha.cell 1; have ha_2 := ha.free 0; have ha_3 := ha.free 1; have ha_4 := ha.lt; replace hr := Hx.kept (by first | exact Hx.go hr | exact Hx.go2) hgn (by simp); have hr_0 := hr.cell 0; have hr_1 := hr.cell 1; have hr_2 := hr.free 0; have hr_3 := hr.free 1; have hr_4 := hr.lt; clear hgn)
    refine ret_cell [.bool true, .int .i64 1000000] (w.heap.size + 1) 28 rfl rfl (Tryz.isAgg28 _) (Tryz.sizeOf28 _) rfl ?_ ⟨rfl, (by exact G.go HG)⟩
    exact (by first | exact Hx.go hr | exact Hx.go2)
  rw [if_neg h1]
  by_cases h2 : x < 0
  · rw [if_pos h2]
    have HG := G.refl w none
    go_enter Tryz.func94, Tryz.ntmps94
    go_upto_region 0 with (fail)
    go_cut [1, 2] (fun p1 p2 wc => p1 = .pointer (some ⟨w.heap.size, 0, none⟩) ∧ p2 = .pointer (some ⟨(w.heap.size + 1), 0, none⟩) ∧ w.grownBy wc none ∧ Hx wc w.heap.size [.bool true, .int .i64 x] 28 ∧ Hx wc (w.heap.size + 1) [.bool false, .int .i64 0] 28)
    case first =>
      go_wp2_with fail
      go_meet
      exact ⟨rfl, rfl, (by exact G.go HG), Hx.alloc (Hx.new _ _ _) _, Hx.new' (by simp) rfl⟩
    obtain ⟨rfl, rfl, HG, ha, hr⟩ := hcut
    have ha_0 := ha.cell 0; have ha_1 := ha.cell 1; have ha_2 := ha.free 0; have ha_3 := ha.free 1; have ha_4 := ha.lt; have hr_0 := hr.cell 0; have hr_1 := hr.cell 1; have hr_2 := hr.free 0; have hr_3 := hr.free 1; have hr_4 := hr.lt
    go_wp2_with (go_at_call 79; (with_reducible refine (HJ.out _).mono ?_); rintro e wn ⟨rfl, hgn⟩; replace HG := G.trans (w := w) (by exact G.go HG) hgn; replace ha := Hx.kept (by first | exact Hx.go ha | exact Hx.go2) hgn (by simp); have ha_0 := ha.cell 0; have ha_1 := ha.cell 1; have ha_2 := ha.free 0; have ha_3 := ha.free 1; have ha_4 := ha.lt; replace hr := Hx.kept (by first | exact Hx.go hr | exact Hx.go2) hgn (by simp); have hr_0 := hr.cell 0; have hr_1 := hr.cell 1; have hr_2 := hr.free 0; have hr_3 := hr.free 1; have hr_4 := hr.lt; clear hgn)
    refine ret_cell [.bool true, .int .i64 (-1000000)] (w.heap.size + 1) 28 rfl rfl (Tryz.isAgg28 _) (Tryz.sizeOf28 _) rfl ?_ ⟨rfl, (by exact G.go HG)⟩
    exact (by first | exact Hx.go hr | exact Hx.go2)
  rw [if_neg h2]
  have HG := G.refl w none
  go_enter Tryz.func94, Tryz.ntmps94
  go_upto_region 0 with (fail)
  go_cut [1, 2] (fun p1 p2 wc => p1 = .pointer (some ⟨w.heap.size, 0, none⟩) ∧ p2 = .pointer (some ⟨(w.heap.size + 1), 0, none⟩) ∧ w.grownBy wc none ∧ Hx wc w.heap.size [.bool true, .int .i64 x] 28 ∧ Hx wc (w.heap.size + 1) [.bool false, .int .i64 0] 28)
  case first =>
    go_wp2_with fail
    go_meet
    exact ⟨rfl, rfl, (by exact G.go HG), Hx.alloc (Hx.new _ _ _) _, Hx.new' (by simp) rfl⟩
  obtain ⟨rfl, rfl, HG, ha, hr⟩ := hcut
  have ha_0 := ha.cell 0; have ha_1 := ha.cell 1; have ha_2 := ha.free 0; have ha_3 := ha.free 1; have ha_4 := ha.lt; have hr_0 := hr.cell 0; have hr_1 := hr.cell 1; have hr_2 := hr.free 0; have hr_3 := hr.free 1; have hr_4 := hr.lt
  go_wp2_with (go_at_call 79; (with_reducible refine (HO.out _).mono ?_); rintro e wn ⟨rfl, hgn⟩; replace HG := G.trans (w := w) (by exact G.go HG) hgn; replace ha := Hx.kept (by first | exact Hx.go ha | exact Hx.go2) hgn (by simp); have ha_0 := ha.cell 0; have ha_1 := ha.cell 1; have ha_2 := ha.free 0; have ha_3 := ha.free 1; have ha_4 := ha.lt; replace hr := Hx.kept (by first | exact Hx.go hr | exact Hx.go2) hgn (by simp); have hr_0 := hr.cell 0; have hr_1 := hr.cell 1; have hr_2 := hr.free 0; have hr_3 := hr.free 1; have hr_4 := hr.lt; clear hgn)
  refine ret_cell [.bool true, .int .i64 0] (w.heap.size + 1) 28 rfl rfl (Tryz.isAgg28 _) (Tryz.sizeOf28 _) rfl ?_ ⟨rfl, (by exact G.go HG)⟩
  exact (by first | exact Hx.go hr | exact Hx.go2)
set_option maxHeartbeats 8000000 in
theorem per1_any (w : World) (x z : Int) (hx : -4611686018427387904 ≤ x ∧ x ≤ 4611686018427387904) (hz : -4611686018427387904 ≤ z ∧ z ≤ 4611686018427387904) (s : Int) (hs : 1 ≤ s ∧ s ≤ 1099511627776) : Calls Tryz.prog 83 #[.agg #[.bool true, .int .i64 x], .agg #[.bool true, .int .i64 z], .int .i64 s] w fun e w' => e = .returned (valV (fm12 s (some z) (some x))) ∧ w.grownBy w' none := by
  obtain ⟨V, hV⟩ : ∃ V, Hid (fm12 s (some z) (some x) = V) := ⟨_, Lib.hid rfl⟩
  rw [hV.out]
  have HW := Lib.hid (fun w => whole1_any w z hz)
  have hn := wholeT_le (fits_some hz)
  have hV2 : Hid (V = if wholeB (some z) then mulDivO x (wholeT (some z)) s else none) := Lib.hid (by rw [← hV.out]; unfold fm12; rw [wholeO_eq]; cases wholeB (some z) <;> rfl)
  clear hV
  have HM := Lib.hid (fun w => mulDiv1_any x (wholeT (some z)) s w (by omega) (by omega) (by omega) (by omega) (by omega) (by omega))
  have hmf := mulDivO_fits x (wholeT (some z)) s
  generalize mulDivO x (wholeT (some z)) s = M at *
  rw [mulDivV_form] at HM
  have HO := Lib.hid (fun w => refOf_any w (vN M))
  have hob := of_back hmf
  generalize wholeB (some z) = ok at *
  generalize wholeT (some z) = n at *
  cases ok
  · have hfin : Hid (V = none) := hV2
    have HG := G.refl w none
    go_enter Tryz.func83, Tryz.ntmps83
    go_upto_region 0 with (fail)
    go_cut [3, 4, 6] (fun p3 p4 p6 wc => p3 = .pointer (some ⟨w.heap.size, 0, none⟩) ∧ p4 = .pointer (some ⟨(w.heap.size + 1), 0, none⟩) ∧ p6 = .pointer (some ⟨(w.heap.size + 1 + 1), 0, none⟩) ∧ w.grownBy wc none ∧ Hx wc w.heap.size [.bool true, .int .i64 x] 28 ∧ Hx wc (w.heap.size + 1) [.bool true, .int .i64 z] 28 ∧ Hx wc (w.heap.size + 1 + 1) [.bool false, .int .i64 0] 28)
    case first =>
      go_wp2_with fail
      go_meet
      exact ⟨rfl, rfl, rfl, (by exact G.go HG), Hx.alloc (Hx.alloc (Hx.new _ _ _) _) _, Hx.alloc (Hx.new' (by simp) rfl) _, Hx.new' (by simp) rfl⟩
    obtain ⟨rfl, rfl, rfl, HG, ha, hb, hr⟩ := hcut
    have ha_0 := ha.cell 0; have ha_1 := ha.cell 1; have ha_2 := ha.free 0; have ha_3 := ha.free 1; have ha_4 := ha.lt; have hb_0 := hb.cell 0; have hb_1 := hb.cell 1; have hb_2 := hb.free 0; have hb_3 := hb.free 1; have hb_4 := hb.lt; have hr_0 := hr.cell 0; have hr_1 := hr.cell 1; have hr_2 := hr.free 0; have hr_3 := hr.free 1; have hr_4 := hr.lt
    go_wp2_with (go_at_call 112; (with_reducible refine (HW.out _).mono ?_); rintro e wn ⟨rfl, hgn⟩; replace HG := G.trans (w := w) (by exact G.go HG) hgn; replace ha := Hx.kept (by first | exact Hx.go ha | exact Hx.go2) hgn (by simp); have ha_0 := ha.cell 0; have ha_1 := ha.cell 1; have ha_2 := ha.free 0; have ha_3 := ha.free 1; have ha_4 := ha.lt; replace hb := Hx.kept (by first | exact Hx.go hb | exact Hx.go2) hgn (by simp); have hb_0 := hb.cell 0; have hb_1 := hb.cell 1; have hb_2 := hb.free 0; have hb_3 := hb.free 1; have hb_4 := hb.lt; replace hr := Hx.kept (by first | exact Hx.go hr | exact Hx.go2) hgn (by simp); have hr_0 := hr.cell 0; have hr_1 := hr.cell 1; have hr_2 := hr.free 0; have hr_3 := hr.free 1; have hr_4 := hr.lt; clear hgn)
    refine ret_cell [.bool false, .int .i64 0] (w.heap.size + 1 + 1) 28 rfl rfl (Tryz.isAgg28 _) (Tryz.sizeOf28 _) rfl ?_ ⟨by rw [hfin.out]; rfl, (by exact G.go HG)⟩
    exact (by first | exact Hx.go hr | exact Hx.go2)
  have hV3 : Hid (V = M) := hV2
  clear hV2
  cases M with
  | none =>
    have hfin : Hid (V = none) := hV3
    have HG := G.refl w none
    go_enter Tryz.func83, Tryz.ntmps83
    go_upto_region 0 with (fail)
    go_cut [3, 4, 6] (fun p3 p4 p6 wc => p3 = .pointer (some ⟨w.heap.size, 0, none⟩) ∧ p4 = .pointer (some ⟨(w.heap.size + 1), 0, none⟩) ∧ p6 = .pointer (some ⟨(w.heap.size + 1 + 1), 0, none⟩) ∧ w.grownBy wc none ∧ Hx wc w.heap.size [.bool true, .int .i64 x] 28 ∧ Hx wc (w.heap.size + 1) [.bool true, .int .i64 z] 28 ∧ Hx wc (w.heap.size + 1 + 1) [.bool false, .int .i64 0] 28)
    case first =>
      go_wp2_with fail
      go_meet
      exact ⟨rfl, rfl, rfl, (by exact G.go HG), Hx.alloc (Hx.alloc (Hx.new _ _ _) _) _, Hx.alloc (Hx.new' (by simp) rfl) _, Hx.new' (by simp) rfl⟩
    obtain ⟨rfl, rfl, rfl, HG, ha, hb, hr⟩ := hcut
    have ha_0 := ha.cell 0; have ha_1 := ha.cell 1; have ha_2 := ha.free 0; have ha_3 := ha.free 1; have ha_4 := ha.lt; have hb_0 := hb.cell 0; have hb_1 := hb.cell 1; have hb_2 := hb.free 0; have hb_3 := hb.free 1; have hb_4 := hb.lt; have hr_0 := hr.cell 0; have hr_1 := hr.cell 1; have hr_2 := hr.free 0; have hr_3 := hr.free 1; have hr_4 := hr.lt
    go_wp2_with (first | (go_at_call 112; (with_reducible refine (HW.out _).mono ?_); rintro e wn ⟨rfl, hgn⟩; replace HG := G.trans (w := w) (by exact G.go HG) hgn; replace ha := Hx.kept (by first | exact Hx.go ha | exact Hx.go2) hgn (by simp); have ha_0 := ha.cell 0; have ha_1 := ha.cell 1; have ha_2 := ha.free 0; have ha_3 := ha.free 1; have ha_4 := ha.lt; replace hb := Hx.kept (by first | exact Hx.go hb | exact Hx.go2) hgn (by simp); have hb_0 := hb.cell 0; have hb_1 := hb.cell 1; have hb_2 := hb.free 0; have hb_3 := hb.free 1; have hb_4 := hb.lt; replace hr := Hx.kept (by first | exact Hx.go hr | exact Hx.go2) hgn (by simp); have hr_0 := hr.cell 0; have hr_1 := hr.cell 1; have hr_2 := hr.free 0; have hr_3 := hr.free 1; have hr_4 := hr.lt; clear hgn) | (go_at_call 113; (with_reducible refine (HM.out _).mono ?_); rintro e wn ⟨rfl, hgn⟩; replace HG := G.trans (w := w) (by exact G.go HG) hgn; replace ha := Hx.kept (by first | exact Hx.go ha | exact Hx.go2) hgn (by simp); have ha_0 := ha.cell 0; have ha_1 := ha.cell 1; have ha_2 := ha.free 0; have ha_3 := ha.free 1; have ha_4 := ha.lt; replace hb := Hx.kept (by first | exact Hx.go hb | exact Hx.go2) hgn (by simp); have hb_0 := hb.cell 0; have hb_1 := hb.cell 1; have hb_2 := hb.free 0; have hb_3 := hb.free 1; have hb_4 := hb.lt; replace hr := Hx.kept (by first | exact Hx.go hr | exact Hx.go2) hgn (by simp); have hr_0 := hr.cell 0; have hr_1 := hr.cell 1; have hr_2 := hr.free 0; have hr_3 := hr.free 1; have hr_4 := hr.lt; clear hgn))
    refine ret_cell [.bool false, .int .i64 0] (w.heap.size + 1 + 1) 28 rfl rfl (Tryz.isAgg28 _) (Tryz.sizeOf28 _) rfl ?_ ⟨by rw [hfin.out]; rfl, (by exact G.go HG)⟩
    exact (by first | exact Hx.go hr | exact Hx.go2)
  | some m =>
    have hfin : Hid (V = some m) := hV3
    rw [show ofR (vN (some m)) = some m from hob] at HO
    simp only [valV, valC] at HO
    have HG := G.refl w none
    go_enter Tryz.func83, Tryz.ntmps83
    go_upto_region 0 with (fail)
    go_cut [3, 4, 6] (fun p3 p4 p6 wc => p3 = .pointer (some ⟨w.heap.size, 0, none⟩) ∧ p4 = .pointer (some ⟨(w.heap.size + 1), 0, none⟩) ∧ p6 = .pointer (some ⟨(w.heap.size + 1 + 1), 0, none⟩) ∧ w.grownBy wc none ∧ Hx wc w.heap.size [.bool true, .int .i64 x] 28 ∧ Hx wc (w.heap.size + 1) [.bool true, .int .i64 z] 28 ∧ Hx wc (w.heap.size + 1 + 1) [.bool false, .int .i64 0] 28)
    case first =>
      go_wp2_with fail
      go_meet
      exact ⟨rfl, rfl, rfl, (by exact G.go HG), Hx.alloc (Hx.alloc (Hx.new _ _ _) _) _, Hx.alloc (Hx.new' (by simp) rfl) _, Hx.new' (by simp) rfl⟩
    obtain ⟨rfl, rfl, rfl, HG, ha, hb, hr⟩ := hcut
    have ha_0 := ha.cell 0; have ha_1 := ha.cell 1; have ha_2 := ha.free 0; have ha_3 := ha.free 1; have ha_4 := ha.lt; have hb_0 := hb.cell 0; have hb_1 := hb.cell 1; have hb_2 := hb.free 0; have hb_3 := hb.free 1; have hb_4 := hb.lt; have hr_0 := hr.cell 0; have hr_1 := hr.cell 1; have hr_2 := hr.free 0; have hr_3 := hr.free 1; have hr_4 := hr.lt
    go_wp2_with (first | (go_at_call 112; (with_reducible refine (HW.out _).mono ?_); rintro e wn ⟨rfl, hgn⟩; replace HG := G.trans (w := w) (by exact G.go HG) hgn; replace ha := Hx.kept (by first | exact Hx.go ha | exact Hx.go2) hgn (by simp); have ha_0 := ha.cell 0; have ha_1 := ha.cell 1; have ha_2 := ha.free 0; have ha_3 := ha.free 1; have ha_4 := ha.lt; replace hb := Hx.kept (by first | exact Hx.go hb | exact Hx.go2) hgn (by simp); have hb_0 := hb.cell 0; have hb_1 := hb.cell 1; have hb_2 := hb.free 0; have hb_3 := hb.free 1; have hb_4 := hb.lt; replace hr := Hx.kept (by first | exact Hx.go hr | exact Hx.go2) hgn (by simp); have hr_0 := hr.cell 0; have hr_1 := hr.cell 1; have hr_2 := hr.free 0; have hr_3 := hr.free 1; have hr_4 := hr.lt; clear hgn) | (go_at_call 113; (with_reducible refine (HM.out _).mono ?_); rintro e wn ⟨rfl, hgn⟩; replace HG := G.trans (w := w) (by exact G.go HG) hgn; replace ha := Hx.kept (by first | exact Hx.go ha | exact Hx.go2) hgn (by simp); have ha_0 := ha.cell 0; have ha_1 := ha.cell 1; have ha_2 := ha.free 0; have ha_3 := ha.free 1; have ha_4 := ha.lt; replace hb := Hx.kept (by first | exact Hx.go hb | exact Hx.go2) hgn (by simp); have hb_0 := hb.cell 0; have hb_1 := hb.cell 1; have hb_2 := hb.free 0; have hb_3 := hb.free 1; have hb_4 := hb.lt; replace hr := Hx.kept (by first | exact Hx.go hr | exact Hx.go2) hgn (by simp); have hr_0 := hr.cell 0; have hr_1 := hr.cell 1; have hr_2 := hr.free 0; have hr_3 := hr.free 1; have hr_4 := hr.lt; clear hgn) | (go_at_call 93; (with_reducible refine (HO.out _).mono ?_); rintro e wn ⟨rfl, hgn⟩; replace HG := G.trans (w := w) (by exact G.go HG) hgn; replace ha := Hx.kept (by first | exact Hx.go ha | exact Hx.go2) hgn (by simp); have ha_0 := ha.cell 0; have ha_1 := ha.cell 1; have ha_2 := ha.free 0; have ha_3 := ha.free 1; have ha_4 := ha.lt; replace hb := Hx.kept (by first | exact Hx.go hb | exact Hx.go2) hgn (by simp); have hb_0 := hb.cell 0; have hb_1 := hb.cell 1; have hb_2 := hb.free 0; have hb_3 := hb.free 1; have hb_4 := hb.lt; replace hr := Hx.kept (by first | exact Hx.go hr | exact Hx.go2) hgn (by simp); have hr_0 := hr.cell 0; have hr_1 := hr.cell 1; have hr_2 := hr.free 0; have hr_3 := hr.free 1; have hr_4 := hr.lt; clear hgn))
    refine ret_cell [.bool true, .int .i64 m] (w.heap.size + 1 + 1) 28 rfl rfl (Tryz.isAgg28 _) (Tryz.sizeOf28 _) rfl ?_ ⟨by rw [hfin.out]; rfl, (by exact G.go HG)⟩
    exact (by first | exact Hx.go hr | exact Hx.go2)
end Go.Proofs.YtfomknfjidbdcaaGreatDoor
namespace Go.Proofs.YtfomknfjidbdcaaGreatDoor
open Go.RowKit
/-- a product with a whole number is that many times as much -/
theorem mulO_unit {y u : Int} (hu : 1 ≤ u ∧ u ≤ 1000000) : mulO (some y) (some (u * 1000000)) = ofR (y * u) := by
  show mulDivO y (u * 1000000) 1000000 = ofR (y * u)
  have hq : quoR (y.natAbs * (u * 1000000).natAbs) (1000000 : Int).natAbs = (y * u).natAbs := by
    have e : y.natAbs * (u * 1000000).natAbs = (y * u).natAbs * 1000000 := by rw [Int.natAbs_mul, Int.natAbs_mul, ← Nat.mul_assoc]; rfl
    rw [e]
    show quoR ((y * u).natAbs * 1000000) 1000000 = _
    unfold quoR
    rw [Nat.mul_mod_left, Nat.mul_div_cancel _ (by omega), if_neg (by omega), Nat.add_zero]
  unfold mulDivO
  rw [if_neg (by omega), hq]
  have hs : ((decide (y < 0) != decide (u * 1000000 < 0)) != decide ((1000000 : Int) < 0)) = decide (y < 0) := by
    rw [decide_eq_false (show ¬ u * 1000000 < 0 by omega), decide_eq_false (show ¬ (1000000 : Int) < 0 by omega)]
    cases decide (y < 0) <;> rfl
  have hsg : (y < 0 → y * u < 0) ∧ (0 ≤ y → 0 ≤ y * u) := ⟨fun h => Int.mul_neg_of_neg_of_pos h (by omega), fun h => Int.mul_nonneg h (by omega)⟩
  rw [hs]
  unfold ofR
  by_cases hb : -4611686018427387904 ≤ y * u ∧ y * u ≤ 4611686018427387904
  · rw [if_neg (by omega), if_pos hb]
    by_cases hy : y < 0
    · have := hsg.1 hy
      rw [if_pos (decide_eq_true hy)]
      congr 1; omega
    · have := hsg.2 (by omega)
      rw [if_neg (by simp; omega)]
      congr 1; omega
  · rw [if_pos (by omega), if_neg hb]
set_option maxHeartbeats 8000000 in
theorem pow1_any (w : World) (x z : Int) (hx : -4611686018427387904 ≤ x ∧ x ≤ 4611686018427387904) (hz : -4611686018427387904 ≤ z ∧ z ≤ 4611686018427387904) : Calls Tryz.prog 81 #[.agg #[.bool true, .int .i64 x], .agg #[.bool true, .int .i64 z]] w fun e w' => e = .returned (valV (fm7 (some z) (some x))) ∧ w.grownBy w' none := by
  obtain ⟨V, hV⟩ : ∃ V, Hid (fm7 (some z) (some x) = V) := ⟨_, Lib.hid rfl⟩
  rw [hV.out]
  have HW := Lib.hid (fun w => whole1_any w z hz)
  have hn := wholeT_le (fits_some hz)
  have hV2 : Hid (V = if wholeB (some z) then (if 0 ≤ wholeT (some z) ∧ wholeT (some z) ≤ 64 then powO (some x) (wholeT (some z)).toNat else none) else none) := Lib.hid (by rw [← hV.out]; unfold fm7; rw [wholeO_eq]; cases wholeB (some z) <;> rfl)
  clear hV
  have HI := Lib.hid (fun w => int1_any w 1)
  rw [intO_small (by omega)] at HI
  simp only [valV, valC, Int.one_mul] at HI
  have hvv := Lib.hid (valV_form V)
  generalize wholeB (some z) = ok at *
  generalize wholeT (some z) = n at *
  cases ok
  · have hfin : Hid (V = none) := hV2
    clear hn
    have HG := G.refl w none
    go_enter Tryz.func81, Tryz.ntmps81
    go_upto_region 0 with (fail)
    go_cut [2, 3, 4] (fun p2 p3 p4 wc => p2 = .pointer (some ⟨w.heap.size, 0, none⟩) ∧ p3 = .pointer (some ⟨(w.heap.size + 1), 0, none⟩) ∧ p4 = .pointer (some ⟨(w.heap.size + 1 + 1), 0, none⟩) ∧ w.grownBy wc none ∧ Hx wc w.heap.size [.bool true, .int .i64 x] 28 ∧ Hx wc (w.heap.size + 1) [.bool true, .int .i64 z] 28 ∧ Hx wc (w.heap.size + 1 + 1) [.bool false, .int .i64 0] 28)
    case first =>
      go_wp2_with fail
      go_meet
      exact ⟨rfl, rfl, rfl, (by exact G.go HG), Hx.alloc (Hx.alloc (Hx.new _ _ _) _) _, Hx.alloc (Hx.new' (by first | (simp; done) | rfl) rfl) _, Hx.new' (by first | (simp; done) | rfl) rfl⟩
    obtain ⟨rfl, rfl, rfl, HG, ha, hb, hr⟩ := hcut
    have ha_0 := ha.cell 0; have ha_1 := ha.cell 1; have ha_2 := ha.free 0; have ha_3 := ha.free 1; have ha_4 := ha.lt; have hb_0 := hb.cell 0; have hb_1 := hb.cell 1; have hb_2 := hb.free 0; have hb_3 := hb.free 1; have hb_4 := hb.lt; have hr_0 := hr.cell 0; have hr_1 := hr.cell 1; have hr_2 := hr.free 0; have hr_3 := hr.free 1; have hr_4 := hr.lt
    go_wp2_with (go_at_call 112; (with_reducible refine (HW.out _).mono ?_); rintro e wn ⟨rfl, hgn⟩; replace HG := G.trans (w := w) (by exact G.go HG) hgn; replace ha := Hx.kept (by first | exact Hx.go ha | exact Hx.go2) hgn (by simp); have ha_0 := ha.cell 0; have ha_1 := ha.cell 1; have ha_2 := ha.free 0; have ha_3 := ha.free 1; have ha_4 := ha.lt; replace hb := Hx.kept (by first | exact Hx.go hb | exact Hx.go2) hgn (by simp); have hb_0 := hb.cell 0; have hb_1 := hb.cell 1; have hb_2 := hb.free 0; have hb_3 := hb.free 1; have hb_4 := hb.lt; replace hr := Hx.kept (by first | exact Hx.go hr | exact Hx.go2) hgn (by simp); have hr_0 := hr.cell 0; have hr_1 := hr.cell 1; have hr_2 := hr.free 0; have hr_3 := hr.free 1; have hr_4 := hr.lt; clear hgn)
    refine ret_cell [.bool false, .int .i64 0] (w.heap.size + 1 + 1) 28 rfl rfl (Tryz.isAgg28 _) (Tryz.sizeOf28 _) rfl ?_ ⟨by rw [hfin.out]; rfl, (by exact G.go HG)⟩
    exact (by first | exact Hx.go hr | exact Hx.go2)
  have hV3 : Hid (V = if 0 ≤ n ∧ n ≤ 64 then powO (some x) n.toNat else none) := hV2
  clear hV2
  rw [if_pos rfl] at HW
  by_cases h1 : n < 0
  · have hfin : Hid (V = none) := Lib.hid (by rw [hV3.out, if_neg (by omega)])
    have HG := G.refl w none
    go_enter Tryz.func81, Tryz.ntmps81
    go_upto_region 0 with (fail)
    go_cut [2, 3, 4] (fun p2 p3 p4 wc => p2 = .pointer (some ⟨w.heap.size, 0, none⟩) ∧ p3 = .pointer (some ⟨(w.heap.size + 1), 0, none⟩) ∧ p4 = .pointer (some ⟨(w.heap.size + 1 + 1), 0, none⟩) ∧ w.grownBy wc none ∧ Hx wc w.heap.size [.bool true, .int .i64 x] 28 ∧ Hx wc (w.heap.size + 1) [.bool true, .int .i64 z] 28 ∧ Hx wc (w.heap.size + 1 + 1) [.bool false, .int .i64 0] 28)
    case first =>
      go_wp2_with fail
      go_meet
      exact ⟨rfl, rfl, rfl, (by exact G.go HG), Hx.alloc (Hx.alloc (Hx.new _ _ _) _) _, Hx.alloc (Hx.new' (by first | (simp; done) | rfl) rfl) _, Hx.new' (by first | (simp; done) | rfl) rfl⟩
    obtain ⟨rfl, rfl, rfl, HG, ha, hb, hr⟩ := hcut
    have ha_0 := ha.cell 0; have ha_1 := ha.cell 1; have ha_2 := ha.free 0; have ha_3 := ha.free 1; have ha_4 := ha.lt; have hb_0 := hb.cell 0; have hb_1 := hb.cell 1; have hb_2 := hb.free 0; have hb_3 := hb.free 1; have hb_4 := hb.lt; have hr_0 := hr.cell 0; have hr_1 := hr.cell 1; have hr_2 := hr.free 0; have hr_3 := hr.free 1; have hr_4 := hr.lt
    go_wp2_with (go_at_call 112; (with_reducible refine (HW.out _).mono ?_); rintro e wn ⟨rfl, hgn⟩; replace HG := G.trans (w := w) (by exact G.go HG) hgn; replace ha := Hx.kept (by first | exact Hx.go ha | exact Hx.go2) hgn (by simp); have ha_0 := ha.cell 0; have ha_1 := ha.cell 1; have ha_2 := ha.free 0; have ha_3 := ha.free 1; have ha_4 := ha.lt; replace hb := Hx.kept (by first | exact Hx.go hb | exact Hx.go2) hgn (by simp); have hb_0 := hb.cell 0; have hb_1 := hb.cell 1; have hb_2 := hb.free 0; have hb_3 := hb.free 1; have hb_4 := hb.lt; replace hr := Hx.kept (by first | exact Hx.go hr | exact Hx.go2) hgn (by simp); have hr_0 := hr.cell 0; have hr_1 := hr.cell 1; have hr_2 := hr.free 0; have hr_3 := hr.free 1; have hr_4 := hr.lt; clear hgn)
    refine ret_cell [.bool false, .int .i64 0] (w.heap.size + 1 + 1) 28 rfl rfl (Tryz.isAgg28 _) (Tryz.sizeOf28 _) rfl ?_ ⟨by rw [hfin.out]; rfl, (by exact G.go HG)⟩
    exact (by first | exact Hx.go hr | exact Hx.go2)
  by_cases h2 : 64 < n
  · have hfin : Hid (V = none) := Lib.hid (by rw [hV3.out, if_neg (by omega)])
    have HG := G.refl w none
    go_enter Tryz.func81, Tryz.ntmps81
    go_upto_region 0 with (fail)
    go_cut [2, 3, 4] (fun p2 p3 p4 wc => p2 = .pointer (some ⟨w.heap.size, 0, none⟩) ∧ p3 = .pointer (some ⟨(w.heap.size + 1), 0, none⟩) ∧ p4 = .pointer (some ⟨(w.heap.size + 1 + 1), 0, none⟩) ∧ w.grownBy wc none ∧ Hx wc w.heap.size [.bool true, .int .i64 x] 28 ∧ Hx wc (w.heap.size + 1) [.bool true, .int .i64 z] 28 ∧ Hx wc (w.heap.size + 1 + 1) [.bool false, .int .i64 0] 28)
    case first =>
      go_wp2_with fail
      go_meet
      exact ⟨rfl, rfl, rfl, (by exact G.go HG), Hx.alloc (Hx.alloc (Hx.new _ _ _) _) _, Hx.alloc (Hx.new' (by first | (simp; done) | rfl) rfl) _, Hx.new' (by first | (simp; done) | rfl) rfl⟩
    obtain ⟨rfl, rfl, rfl, HG, ha, hb, hr⟩ := hcut
    have ha_0 := ha.cell 0; have ha_1 := ha.cell 1; have ha_2 := ha.free 0; have ha_3 := ha.free 1; have ha_4 := ha.lt; have hb_0 := hb.cell 0; have hb_1 := hb.cell 1; have hb_2 := hb.free 0; have hb_3 := hb.free 1; have hb_4 := hb.lt; have hr_0 := hr.cell 0; have hr_1 := hr.cell 1; have hr_2 := hr.free 0; have hr_3 := hr.free 1; have hr_4 := hr.lt
    go_wp2_with (go_at_call 112; (with_reducible refine (HW.out _).mono ?_); rintro e wn ⟨rfl, hgn⟩; replace HG := G.trans (w := w) (by exact G.go HG) hgn; replace ha := Hx.kept (by first | exact Hx.go ha | exact Hx.go2) hgn (by simp); have ha_0 := ha.cell 0; have ha_1 := ha.cell 1; have ha_2 := ha.free 0; have ha_3 := ha.free 1; have ha_4 := ha.lt; replace hb := Hx.kept (by first | exact Hx.go hb | exact Hx.go2) hgn (by simp); have hb_0 := hb.cell 0; have hb_1 := hb.cell 1; have hb_2 := hb.free 0; have hb_3 := hb.free 1; have hb_4 := hb.lt; replace hr := Hx.kept (by first | exact Hx.go hr | exact Hx.go2) hgn (by simp); have hr_0 := hr.cell 0; have hr_1 := hr.cell 1; have hr_2 := hr.free 0; have hr_3 := hr.free 1; have hr_4 := hr.lt; clear hgn)
    refine ret_cell [.bool false, .int .i64 0] (w.heap.size + 1 + 1) 28 rfl rfl (Tryz.isAgg28 _) (Tryz.sizeOf28 _) rfl ?_ ⟨by rw [hfin.out]; rfl, (by exact G.go HG)⟩
    exact (by first | exact Hx.go hr | exact Hx.go2)
  obtain ⟨N, rfl⟩ : ∃ N : Nat, n = N := ⟨n.toNat, by omega⟩
  have hfin : Hid (V = powO (some x) N) := Lib.hid (by rw [hV3.out, if_pos (by omega)]; rfl)
  clear hV3 h1 hn
  have hN : N ≤ 64 := by omega
  clear h2
  have HG := G.refl w none
  go_enter Tryz.func81, Tryz.ntmps81
  go_upto_region 0 with (fail)
  go_cut [2, 3, 4] (fun p2 p3 p4 wc => p2 = .pointer (some ⟨w.heap.size, 0, none⟩) ∧ p3 = .pointer (some ⟨(w.heap.size + 1), 0, none⟩) ∧ p4 = .pointer (some ⟨(w.heap.size + 1 + 1), 0, none⟩) ∧ w.grownBy wc none ∧ Hx wc w.heap.size [.bool true, .int .i64 x] 28 ∧ Hx wc (w.heap.size + 1) [.bool true, .int .i64 z] 28 ∧ Hx wc (w.heap.size + 1 + 1) [.bool false, .int .i64 0] 28)
  case first =>
    go_wp2_with fail
    go_meet
    exact ⟨rfl, rfl, rfl, (by exact G.go HG), Hx.alloc (Hx.alloc (Hx.new _ _ _) _) _, Hx.alloc (Hx.new' (by first | (simp; done) | rfl) rfl) _, Hx.new' (by first | (simp; done) | rfl) rfl⟩
  obtain ⟨rfl, rfl, rfl, HG, ha, hb, hr⟩ := hcut
  have ha_0 := ha.cell 0; have ha_1 := ha.cell 1; have ha_2 := ha.free 0; have ha_3 := ha.free 1; have ha_4 := ha.lt; have hb_0 := hb.cell 0; have hb_1 := hb.cell 1; have hb_2 := hb.free 0; have hb_3 := hb.free 1; have hb_4 := hb.lt; have hr_0 := hr.cell 0; have hr_1 := hr.cell 1; have hr_2 := hr.free 0; have hr_3 := hr.free 1; have hr_4 := hr.lt
  go_upto_region 4 with ((go_at_call 112; (with_reducible refine (HW.out _).mono ?_); rintro e wn ⟨rfl, hgn⟩; replace HG := G.trans (w := w) (by exact G.go HG) hgn; replace ha := Hx.kept (by first | exact Hx.go ha | exact Hx.go2) hgn (by simp); have ha_0 := ha.cell 0; have ha_1 := ha.cell 1; have ha_2 := ha.free 0; have ha_3 := ha.free 1; have ha_4 := ha.lt; replace hb := Hx.kept (by first | exact Hx.go hb | exact Hx.go2) hgn (by simp); have hb_0 := hb.cell 0; have hb_1 := hb.cell 1; have hb_2 := hb.free 0; have hb_3 := hb.free 1; have hb_4 := hb.lt; replace hr := Hx.kept (by first | exact Hx.go hr | exact Hx.go2) hgn (by simp); have hr_0 := hr.cell 0; have hr_1 := hr.cell 1; have hr_2 := hr.free 0; have hr_3 := hr.free 1; have hr_4 := hr.lt; clear hgn))
  go_cut [2, 4, 5, 7] (fun p2 p4 p5 p7 wd => ∃ PB, p2 = .pointer (some ⟨w.heap.size, 0, none⟩) ∧ p4 = .pointer (some ⟨(w.heap.size + 1 + 1), 0, none⟩) ∧ p5 = .int .i64 N ∧ p7 = .pointer (some ⟨PB, 0, none⟩) ∧ (w.heap.size + 1 + 1) < PB ∧ w.grownBy wd none ∧ Hx wd w.heap.size [.bool true, .int .i64 x] 28 ∧ Hx wd (w.heap.size + 1 + 1) [.bool false, .int .i64 0] 28 ∧ Hx wd PB [.bool true, .int .i64 1000000] 28)
  case first =>
    go_wp2_with (go_at_call 79; (with_reducible refine (HI.out _).mono ?_); rintro e wn ⟨rfl, hgn⟩; replace HG := G.trans (w := w) (by exact G.go HG) hgn; replace ha := Hx.kept (by first | exact Hx.go ha | exact Hx.go2) hgn (by simp); have ha_0 := ha.cell 0; have ha_1 := ha.cell 1; have ha_2 := ha.free 0; have ha_3 := ha.free 1; have ha_4 := ha.lt; replace hr := Hx.kept (by first | exact Hx.go hr | exact Hx.go2) hgn (by simp); have hr_0 := hr.cell 0; have hr_1 := hr.cell 1; have hr_2 := hr.free 0; have hr_3 := hr.free 1; have hr_4 := hr.lt; clear hgn)
    go_meet
    exact ⟨_, rfl, rfl, rfl, rfl, by omega, (by exact G.go HG), (by first | exact Hx.go ha | exact Hx.go2), (by first | exact Hx.go hr | exact Hx.go2), (by first | exact Hx.go hr | exact Hx.go2)⟩
  obtain ⟨PB, rfl, rfl, rfl, rfl, hPB, HG, ha, hr, hp⟩ := hcut
  have hne1 : ¬ w.heap.size = PB := by omega
  have hne2 : ¬ (w.heap.size + 1 + 1) = PB := by omega
  go_wp2_with fail
  go_loopw [8] (fun iv wr => ∃ (i : Nat), iv = .int .i64 i ∧ i ≤ N ∧ w.grownBy wr none ∧ Hx wr w.heap.size [.bool true, .int .i64 x] 28 ∧ Hx wr (w.heap.size + 1 + 1) [.bool false, .int .i64 0] 28 ∧ Hx wr PB [.bool (vB (powO (some x) i)), .int .i64 (vN (powO (some x) i))] 28) (fun iv _ => N - (intOf iv).toNat)
  case atStart => exact ⟨0, rfl, by omega, HG, ha, hr, hp⟩
  case round =>
    clear HG ha hr hp
    obtain ⟨i, rfl, hi, HG, ha, hr, hp⟩ := hrel
    have ha_0 := ha.cell 0; have ha_1 := ha.cell 1; have ha_2 := ha.free 0; have ha_3 := ha.free 1; have ha_4 := ha.lt; have hr_0 := hr.cell 0; have hr_1 := hr.cell 1; have hr_2 := hr.free 0; have hr_3 := hr.free 1; have hr_4 := hr.lt
    by_cases hlt : i < N
    · have HM := Lib.hid (fun w => mul1_any w (vB (powO (some x) i)) true (vN (powO (some x) i)) x)
      rw [vK_form (powO_fits _ _), vK_of hx, show mulO (powO (some x) i) (some x) = powO (some x) (i + 1) from rfl, valV_form] at HM
      obtain ⟨q2, hq2⟩ : ∃ q2, Hid (powO (some x) (i + 1) = q2) := ⟨_, Lib.hid rfl⟩
      rw [hq2.out] at HM
      generalize powO (some x) i = q at *
      have hp_0 := hp.cell 0; have hp_1 := hp.cell 1; have hp_2 := hp.free 0; have hp_3 := hp.free 1; have hp_4 := hp.lt
      go_wp2_with (go_at_call 86; (with_reducible refine (HM.out _).mono ?_); rintro e wn ⟨rfl, hgn⟩; replace HG := G.trans (w := w) (by exact G.go HG) hgn; replace ha := Hx.kept (by first | exact Hx.go ha | exact Hx.go2) hgn (by simp); have ha_0 := ha.cell 0; have ha_1 := ha.cell 1; have ha_2 := ha.free 0; have ha_3 := ha.free 1; have ha_4 := ha.lt; replace hr := Hx.kept (by first | exact Hx.go hr | exact Hx.go2) hgn (by simp); have hr_0 := hr.cell 0; have hr_1 := hr.cell 1; have hr_2 := hr.free 0; have hr_3 := hr.free 1; have hr_4 := hr.lt; replace hp := Hx.kept (by first | exact Hx.go hp | exact Hx.go2) hgn (by simp); have hp_0 := hp.cell 0; have hp_1 := hp.cell 1; have hp_2 := hp.free 0; have hp_3 := hp.free 1; have hp_4 := hp.lt; clear hgn)
      refine ⟨?_, by first | (simp [intOf]; done) | (simp [intOf]; omega)⟩
      refine ⟨i + 1, by go_num, by omega, (by exact G.go HG), (by first | exact Hx.go ha | exact Hx.go2), (by first | exact Hx.go hr | exact Hx.go2), ?_⟩
      rw [hq2.out]
      exact (by first | exact Hx.go hp | exact Hx.go2)
    · obtain rfl : i = N := by omega
      rw [← hfin.out] at hp
      have hp_0 := hp.cell 0; have hp_1 := hp.cell 1; have hp_2 := hp.free 0; have hp_3 := hp.free 1; have hp_4 := hp.lt
      go_wp2_with fail
      refine ret_cell [.bool (vB V), .int .i64 (vN V)] (w.heap.size + 1 + 1) 28 rfl rfl (Tryz.isAgg28 _) (Tryz.sizeOf28 _) rfl ?_ ⟨by rw [valV_form], (by exact G.go HG)⟩
      exact (by first | exact Hx.go hr | exact Hx.go2)
set_option maxHeartbeats 8000000 in
theorem minMax1_any (w : World) (x : Int) (hx : -4611686018427387904 ≤ x ∧ x ≤ 4611686018427387904) (low high : Option Int) (hl : Fits low) (hh : Fits high) : Calls Tryz.prog 91 #[.agg #[.bool true, .int .i64 x], .agg #[.bool (vB low), .int .i64 (vN low)], .agg #[.bool (vB high), .int .i64 (vN high)]] w fun e w' => e = .returned (valV (fm3 low high (some x))) ∧ w.grownBy w' none := by
  obtain ⟨V, hV⟩ : ∃ V, Hid (fm3 low high (some x) = V) := ⟨_, Lib.hid rfl⟩
  rw [hV.out]
  have HO := Lib.hid (fun w => int1_any w 0)
  rw [intO_small (by omega)] at HO
  simp only [valV, valC, Int.zero_mul] at HO
  have HS := Lib.hid (fun w => sub1_any w true (vB low) x (vN low))
  rw [vK_of hx, vK_form hl, valV_form] at HS
  have HT := Lib.hid (fun w => sub1_any w (vB high) (vB low) (vN high) (vN low))
  rw [vK_form hh, vK_form hl, valV_form] at HT
  have hvv := Lib.hid (valV_form V)
  have hd := agg_eq_val low high
  by_cases hlh : low = high
  · have hfin : Hid (V = some 0) := Lib.hid (by rw [← hV.out]; unfold fm3; rw [hlh]; simp)
    have hlh2 := Lib.hid hlh
    clear hlh hV hd
    have HG := G.refl w none
    go_enter Tryz.func91, Tryz.ntmps91
    go_upto_region 0 with (fail)
    go_cut [3, 4, 5, 6] (fun p3 p4 p5 p6 wc => p3 = .pointer (some ⟨w.heap.size, 0, none⟩) ∧ p4 = .pointer (some ⟨(w.heap.size + 1), 0, none⟩) ∧ p5 = .pointer (some ⟨(w.heap.size + 1 + 1), 0, none⟩) ∧ p6 = .pointer (some ⟨(w.heap.size + 1 + 1 + 1), 0, none⟩) ∧ w.grownBy wc none ∧ Hx wc w.heap.size [.bool true, .int .i64 x] 28 ∧ Hx wc (w.heap.size + 1) [.bool (vB low), .int .i64 (vN low)] 28 ∧ Hx wc (w.heap.size + 1 + 1) [.bool (vB high), .int .i64 (vN high)] 28 ∧ Hx wc (w.heap.size + 1 + 1 + 1) [.bool false, .int .i64 0] 28)
    case first =>
      go_wp2_with fail
      go_meet
      exact ⟨rfl, rfl, rfl, rfl, (by exact G.go HG), Hx.alloc (Hx.alloc (Hx.alloc (Hx.new _ _ _) _) _) _, Hx.alloc (Hx.alloc (Hx.new' (by first | (simp; done) | rfl) rfl) _) _, Hx.alloc (Hx.new' (by first | (simp; done) | rfl) rfl) _, Hx.new' (by first | (simp; done) | rfl) rfl⟩
    obtain ⟨rfl, rfl, rfl, rfl, HG, ha, hb, hc, hr⟩ := hcut
    have ha_0 := ha.cell 0; have ha_1 := ha.cell 1; have ha_2 := ha.free 0; have ha_3 := ha.free 1; have ha_4 := ha.lt; have hb_0 := hb.cell 0; have hb_1 := hb.cell 1; have hb_2 := hb.free 0; have hb_3 := hb.free 1; have hb_4 := hb.lt; have hc_0 := hc.cell 0; have hc_1 := hc.cell 1; have hc_2 := hc.free 0; have hc_3 := hc.free 1; have hc_4 := hc.lt; have hr_0 := hr.cell 0; have hr_1 := hr.cell 1; have hr_2 := hr.free 0; have hr_3 := hr.free 1; have hr_4 := hr.lt
    have hq1 : vB low = vB high := by rw [hlh2.out]
    have hq2 : vN low = vN high := by rw [hlh2.out]
    go_wp2_with (go_at_call 79; (with_reducible refine (HO.out _).mono ?_); rintro e wn ⟨rfl, hgn⟩; replace HG := G.trans (w := w) (by exact G.go HG) hgn; replace ha := Hx.kept (by first | exact Hx.go ha | exact Hx.go2) hgn (by simp); have ha_0 := ha.cell 0; have ha_1 := ha.cell 1; have ha_2 := ha.free 0; have ha_3 := ha.free 1; have ha_4 := ha.lt; replace hr := Hx.kept (by first | exact Hx.go hr | exact Hx.go2) hgn (by simp); have hr_0 := hr.cell 0; have hr_1 := hr.cell 1; have hr_2 := hr.free 0; have hr_3 := hr.free 1; have hr_4 := hr.lt; clear hgn)
    refine ret_cell [.bool true, .int .i64 0] (w.heap.size + 1 + 1 + 1) 28 rfl rfl (Tryz.isAgg28 _) (Tryz.sizeOf28 _) rfl ?_ ⟨by rw [hfin.out]; rfl, (by exact G.go HG)⟩
    exact (by first | exact Hx.go hr | exact Hx.go2)
  rw [decide_eq_false hlh] at hd
  have HD := Lib.hid (fun w => div1_any w (vB (subO (some x) low)) (vB (subO high low)) (vN (subO (some x) low)) (vN (subO high low)))
  rw [vK_form (subO_fits _ _), vK_form (subO_fits _ _), show divO (subO (some x) low) (subO high low) = V from by rw [← hV.out]; unfold fm3; simp [hlh], valV_form] at HD
  clear hlh hV
  have hd0 := Lib.hid hd
  clear hd
  have HG := G.refl w none
  go_enter Tryz.func91, Tryz.ntmps91
  go_upto_region 0 with (fail)
  go_cut [3, 4, 5, 6] (fun p3 p4 p5 p6 wc => p3 = .pointer (some ⟨w.heap.size, 0, none⟩) ∧ p4 = .pointer (some ⟨(w.heap.size + 1), 0, none⟩) ∧ p5 = .pointer (some ⟨(w.heap.size + 1 + 1), 0, none⟩) ∧ p6 = .pointer (some ⟨(w.heap.size + 1 + 1 + 1), 0, none⟩) ∧ w.grownBy wc none ∧ Hx wc w.heap.size [.bool true, .int .i64 x] 28 ∧ Hx wc (w.heap.size + 1) [.bool (vB low), .int .i64 (vN low)] 28 ∧ Hx wc (w.heap.size + 1 + 1) [.bool (vB high), .int .i64 (vN high)] 28 ∧ Hx wc (w.heap.size + 1 + 1 + 1) [.bool false, .int .i64 0] 28)
  case first =>
    go_wp2_with fail
    go_meet
    exact ⟨rfl, rfl, rfl, rfl, (by exact G.go HG), Hx.alloc (Hx.alloc (Hx.alloc (Hx.new _ _ _) _) _) _, Hx.alloc (Hx.alloc (Hx.new' (by first | (simp; done) | rfl) rfl) _) _, Hx.alloc (Hx.new' (by first | (simp; done) | rfl) rfl) _, Hx.new' (by first | (simp; done) | rfl) rfl⟩
  obtain ⟨rfl, rfl, rfl, rfl, HG, ha, hb, hc, hr⟩ := hcut
  have ha_0 := ha.cell 0; have ha_1 := ha.cell 1; have ha_2 := ha.free 0; have ha_3 := ha.free 1; have ha_4 := ha.lt; have hb_0 := hb.cell 0; have hb_1 := hb.cell 1; have hb_2 := hb.free 0; have hb_3 := hb.free 1; have hb_4 := hb.lt; have hc_0 := hc.cell 0; have hc_1 := hc.cell 1; have hc_2 := hc.free 0; have hc_3 := hc.free 1; have hc_4 := hc.lt; have hr_0 := hr.cell 0; have hr_1 := hr.cell 1; have hr_2 := hr.free 0; have hr_3 := hr.free 1; have hr_4 := hr.lt
  cases hqb : (vB low == vB high)
  · have hqb2 : ¬ vB low = vB high := by simpa using hqb
    go_upto_region 3 with (fail)
    clear hqb2
    (have ha_q0 := fun x => (Hx.inG ha x).cell 0; have ha_q1 := fun x => (Hx.inG ha x).cell 1; have hb_q0 := fun x => (Hx.inG hb x).cell 0; have hb_q1 := fun x => (Hx.inG hb x).cell 1; have hc_q0 := fun x => (Hx.inG hc x).cell 0; have hc_q1 := fun x => (Hx.inG hc x).cell 1; have hr_q0 := fun x => (Hx.inG hr x).cell 0; have hr_q1 := fun x => (Hx.inG hr x).cell 1; have xq_ := HG; refine wp_region_last (G.refl _ none) (by kernel_rfl) (by kernel_rfl) (by kernel_rfl) ?_; simp only [mapLast, lastOf, idle]; (repeat (refine wpQuiet_step (fun K hK => ?_); go_simp; first | (refine hK _ ?_; clear hK K) | (apply Exists.intro; refine ⟨fun xq => ?_, hK _ ?_⟩; (focus (first | (go_at_call_of 90 (Value.int IntKind.i64 x); with_reducible exact grow_of (HS.out _)) | (go_at_call 90; with_reducible exact grow_of (HT.out _)) | (go_at_call 88; with_reducible exact grow_of (HD.out _)))); clear hK K))); refine wpQuiet_nil ?_; intro wn hgn; replace HG := G.trans (w := w) HG hgn; clear ha_q0 ha_q1; replace ha := Hx.kept ha hgn (by simp); have ha_0 := ha.cell 0; have ha_1 := ha.cell 1; have ha_2 := ha.free 0; have ha_3 := ha.free 1; have ha_4 := ha.lt; clear hb_q0 hb_q1; replace hb := Hx.kept hb hgn (by simp); have hb_0 := hb.cell 0; have hb_1 := hb.cell 1; have hb_2 := hb.free 0; have hb_3 := hb.free 1; have hb_4 := hb.lt; clear hc_q0 hc_q1; replace hc := Hx.kept hc hgn (by simp); have hc_0 := hc.cell 0; have hc_1 := hc.cell 1; have hc_2 := hc.free 0; have hc_3 := hc.free 1; have hc_4 := hc.lt; clear hr_q0 hr_q1; replace hr := Hx.kept hr hgn (by simp); have hr_0 := hr.cell 0; have hr_1 := hr.cell 1; have hr_2 := hr.free 0; have hr_3 := hr.free 1; have hr_4 := hr.lt; clear hgn xq_)
    go_wp2_with fail
    refine ret_cell [.bool (vB V), .int .i64 (vN V)] (w.heap.size + 1 + 1 + 1) 28 rfl rfl (Tryz.isAgg28 _) (Tryz.sizeOf28 _) rfl ?_ ⟨by rw [valV_form], (by exact G.go HG)⟩
    exact (by first | exact Hx.go hr | exact Hx.go2)
  have hd := hd0.out
  rw [hqb, Bool.true_and] at hd
  have hqb2 : vB low = vB high := by simpa using hqb
  have hd2 : ¬ vN low = vN high := by simpa using hd
  go_upto_region 3 with (fail)
  clear hqb2
  (have ha_q0 := fun x => (Hx.inG ha x).cell 0; have ha_q1 := fun x => (Hx.inG ha x).cell 1; have hb_q0 := fun x => (Hx.inG hb x).cell 0; have hb_q1 := fun x => (Hx.inG hb x).cell 1; have hc_q0 := fun x => (Hx.inG hc x).cell 0; have hc_q1 := fun x => (Hx.inG hc x).cell 1; have hr_q0 := fun x => (Hx.inG hr x).cell 0; have hr_q1 := fun x => (Hx.inG hr x).cell 1; have xq_ := HG; refine wp_region_last (G.refl _ none) (by kernel_rfl) (by kernel_rfl) (by kernel_rfl) ?_; simp only [mapLast, lastOf, idle]; (repeat (refine wpQuiet_step (fun K hK => ?_); go_simp; first | (refine hK _ ?_; clear hK K) | (apply Exists.intro; refine ⟨fun xq => ?_, hK _ ?_⟩; (focus (first | (go_at_call_of 90 (Value.int IntKind.i64 x); with_reducible exact grow_of (HS.out _)) | (go_at_call 90; with_reducible exact grow_of (HT.out _)) | (go_at_call 88; with_reducible exact grow_of (HD.out _)))); clear hK K))); refine wpQuiet_nil ?_; intro wn hgn; replace HG := G.trans (w := w) HG hgn; clear ha_q0 ha_q1; replace ha := Hx.kept ha hgn (by simp); have ha_0 := ha.cell 0; have ha_1 := ha.cell 1; have ha_2 := ha.free 0; have ha_3 := ha.free 1; have ha_4 := ha.lt; clear hb_q0 hb_q1; replace hb := Hx.kept hb hgn (by simp); have hb_0 := hb.cell 0; have hb_1 := hb.cell 1; have hb_2 := hb.free 0; have hb_3 := hb.free 1; have hb_4 := hb.lt; clear hc_q0 hc_q1; replace hc := Hx.kept hc hgn (by simp); have hc_0 := hc.cell 0; have hc_1 := hc.cell 1; have hc_2 := hc.free 0; have hc_3 := hc.free 1; have hc_4 := hc.lt; clear hr_q0 hr_q1; replace hr := Hx.kept hr hgn (by simp); have hr_0 := hr.cell 0; have hr_1 := hr.cell 1; have hr_2 := hr.free 0; have hr_3 := hr.free 1; have hr_4 := hr.lt; clear hgn xq_)
  go_wp2_with fail
  refine ret_cell [.bool (vB V), .int .i64 (vN V)] (w.heap.size + 1 + 1 + 1) 28 rfl rfl (Tryz.isAgg28 _) (Tryz.sizeOf28 _) rfl ?_ ⟨by rw [valV_form], (by exact G.go HG)⟩
  exact (by first | exact Hx.go hr | exact Hx.go2)
end Go.Proofs.YtfomknfjidbdcaaGreatDoor
namespace Go.Proofs.YtfomknfjidbdcaaGreatDoor
open Go.RowKit
set_option maxHeartbeats 8000000 in
theorem round1_any (w : World) (x z : Int) (hx : -4611686018427387904 ≤ x ∧ x ≤ 4611686018427387904) (hz : -4611686018427387904 ≤ z ∧ z ≤ 4611686018427387904) : Calls Tryz.prog 82 #[.agg #[.bool true, .int .i64 x], .agg #[.bool true, .int .i64 z]] w fun e w' => e = .returned (valV (fm10 (some z) (some x))) ∧ w.grownBy w' none := by
  obtain ⟨V, hV⟩ : ∃ V, Hid (fm10 (some z) (some x) = V) := ⟨_, Lib.hid rfl⟩
  rw [hV.out]
  have HW := Lib.hid (fun w => whole1_any w z hz)
  have hn := wholeT_le (fits_some hz)
  have hV2 : Hid (V = if wholeB (some z) then (if 0 ≤ wholeT (some z) ∧ wholeT (some z) ≤ 6 then roundO (wholeT (some z)) (some x) else some x) else some x) := Lib.hid (by rw [← hV.out]; unfold fm10; rw [wholeO_eq]; cases wholeB (some z) <;> rfl)
  clear hV
  have hvv := Lib.hid (valV_form V)
  generalize wholeB (some z) = ok at *
  generalize wholeT (some z) = n at *
  cases ok
  · have hfin : Hid (V = some x) := hV2
    clear hn
    have HG := G.refl w none
    go_enter Tryz.func82, Tryz.ntmps82
    go_upto_region 0 with (fail)
    go_cut [2, 3, 4] (fun p2 p3 p4 wc => p2 = .pointer (some ⟨w.heap.size, 0, none⟩) ∧ p3 = .pointer (some ⟨(w.heap.size + 1), 0, none⟩) ∧ p4 = .pointer (some ⟨(w.heap.size + 1 + 1), 0, none⟩) ∧ w.grownBy wc none ∧ Hx wc w.heap.size [.bool true, .int .i64 x] 28 ∧ Hx wc (w.heap.size + 1) [.bool true, .int .i64 z] 28 ∧ Hx wc (w.heap.size + 1 + 1) [.bool false, .int .i64 0] 28)
    case first =>
      go_wp2_with fail
      go_meet
      exact ⟨rfl, rfl, rfl, (by exact G.go HG), Hx.alloc (Hx.alloc (Hx.new _ _ _) _) _, Hx.alloc (Hx.new' (by first | (simp; done) | rfl) rfl) _, Hx.new' (by first | (simp; done) | rfl) rfl⟩
    obtain ⟨rfl, rfl, rfl, HG, ha, hb, hr⟩ := hcut
    have ha_0 := ha.cell 0; have ha_1 := ha.cell 1; have ha_2 := ha.free 0; have ha_3 := ha.free 1; have ha_4 := ha.lt; have hb_0 := hb.cell 0; have hb_1 := hb.cell 1; have hb_2 := hb.free 0; have hb_3 := hb.free 1; have hb_4 := hb.lt; have hr_0 := hr.cell 0; have hr_1 := hr.cell 1; have hr_2 := hr.free 0; have hr_3 := hr.free 1; have hr_4 := hr.lt
    go_wp2_with (go_at_call 112; (with_reducible refine (HW.out _).mono ?_); rintro e wn ⟨rfl, hgn⟩; replace HG := G.trans (w := w) (by exact G.go HG) hgn; replace ha := Hx.kept (by first | exact Hx.go ha | exact Hx.go2) hgn (by simp); have ha_0 := ha.cell 0; have ha_1 := ha.cell 1; have ha_2 := ha.free 0; have ha_3 := ha.free 1; have ha_4 := ha.lt; replace hb := Hx.kept (by first | exact Hx.go hb | exact Hx.go2) hgn (by simp); have hb_0 := hb.cell 0; have hb_1 := hb.cell 1; have hb_2 := hb.free 0; have hb_3 := hb.free 1; have hb_4 := hb.lt; replace hr := Hx.kept (by first | exact Hx.go hr | exact Hx.go2) hgn (by simp); have hr_0 := hr.cell 0; have hr_1 := hr.cell 1; have hr_2 := hr.free 0; have hr_3 := hr.free 1; have hr_4 := hr.lt; clear hgn)
    refine ret_cell [.bool true, .int .i64 x] (w.heap.size + 1 + 1) 28 rfl rfl (Tryz.isAgg28 _) (Tryz.sizeOf28 _) rfl ?_ ⟨by rw [hfin.out]; rfl, (by exact G.go HG)⟩
    exact (by first | exact Hx.go hr | exact Hx.go2)
  have hV3 : Hid (V = if 0 ≤ n ∧ n ≤ 6 then roundO n (some x) else some x) := hV2
  clear hV2
  rw [if_pos rfl] at HW
  by_cases h1 : n < 0
  · have hfin : Hid (V = some x) := Lib.hid (by rw [hV3.out, if_neg (by omega)])
    have HG := G.refl w none
    go_enter Tryz.func82, Tryz.ntmps82
    go_upto_region 0 with (fail)
    go_cut [2, 3, 4] (fun p2 p3 p4 wc => p2 = .pointer (some ⟨w.heap.size, 0, none⟩) ∧ p3 = .pointer (some ⟨(w.heap.size + 1), 0, none⟩) ∧ p4 = .pointer (some ⟨(w.heap.size + 1 + 1), 0, none⟩) ∧ w.grownBy wc none ∧ Hx wc w.heap.size [.bool true, .int .i64 x] 28 ∧ Hx wc (w.heap.size + 1) [.bool true, .int .i64 z] 28 ∧ Hx wc (w.heap.size + 1 + 1) [.bool false, .int .i64 0] 28)
    case first =>
      go_wp2_with fail
      go_meet
      exact ⟨rfl, rfl, rfl, (by exact G.go HG), Hx.alloc (Hx.alloc (Hx.new _ _ _) _) _, Hx.alloc (Hx.new' (by first | (simp; done) | rfl) rfl) _, Hx.new' (by first | (simp; done) | rfl) rfl⟩
    obtain ⟨rfl, rfl, rfl, HG, ha, hb, hr⟩ := hcut
    have ha_0 := ha.cell 0; have ha_1 := ha.cell 1; have ha_2 := ha.free 0; have ha_3 := ha.free 1; have ha_4 := ha.lt; have hb_0 := hb.cell 0; have hb_1 := hb.cell 1; have hb_2 := hb.free 0; have hb_3 := hb.free 1; have hb_4 := hb.lt; have hr_0 := hr.cell 0; have hr_1 := hr.cell 1; have hr_2 := hr.free 0; have hr_3 := hr.free 1; have hr_4 := hr.lt
    go_wp2_with (go_at_call 112; (with_reducible refine (HW.out _).mono ?_); rintro e wn ⟨rfl, hgn⟩; replace HG := G.trans (w := w) (by exact G.go HG) hgn; replace ha := Hx.kept (by first | exact Hx.go ha | exact Hx.go2) hgn (by simp); have ha_0 := ha.cell 0; have ha_1 := ha.cell 1; have ha_2 := ha.free 0; have ha_3 := ha.free 1; have ha_4 := ha.lt; replace hb := Hx.kept (by first | exact Hx.go hb | exact Hx.go2) hgn (by simp); have hb_0 := hb.cell 0; have hb_1 := hb.cell 1; have hb_2 := hb.free 0; have hb_3 := hb.free 1; have hb_4 := hb.lt; replace hr := Hx.kept (by first | exact Hx.go hr | exact Hx.go2) hgn (by simp); have hr_0 := hr.cell 0; have hr_1 := hr.cell 1; have hr_2 := hr.free 0; have hr_3 := hr.free 1; have hr_4 := hr.lt; clear hgn)
    refine ret_cell [.bool true, .int .i64 x] (w.heap.size + 1 + 1) 28 rfl rfl (Tryz.isAgg28 _) (Tryz.sizeOf28 _) rfl ?_ ⟨by rw [hfin.out]; rfl, (by exact G.go HG)⟩
    exact (by first | exact Hx.go hr | exact Hx.go2)
  by_cases h2 : 6 < n
  · have hfin : Hid (V = some x) := Lib.hid (by rw [hV3.out, if_neg (by omega)])
    have HG := G.refl w none
    go_enter Tryz.func82, Tryz.ntmps82
    go_upto_region 0 with (fail)
    go_cut [2, 3, 4] (fun p2 p3 p4 wc => p2 = .pointer (some ⟨w.heap.size, 0, none⟩) ∧ p3 = .pointer (some ⟨(w.heap.size + 1), 0, none⟩) ∧ p4 = .pointer (some ⟨(w.heap.size + 1 + 1), 0, none⟩) ∧ w.grownBy wc none ∧ Hx wc w.heap.size [.bool true, .int .i64 x] 28 ∧ Hx wc (w.heap.size + 1) [.bool true, .int .i64 z] 28 ∧ Hx wc (w.heap.size + 1 + 1) [.bool false, .int .i64 0] 28)
    case first =>
      go_wp2_with fail
      go_meet
      exact ⟨rfl, rfl, rfl, (by exact G.go HG), Hx.alloc (Hx.alloc (Hx.new _ _ _) _) _, Hx.alloc (Hx.new' (by first | (simp; done) | rfl) rfl) _, Hx.new' (by first | (simp; done) | rfl) rfl⟩
    obtain ⟨rfl, rfl, rfl, HG, ha, hb, hr⟩ := hcut
    have ha_0 := ha.cell 0; have ha_1 := ha.cell 1; have ha_2 := ha.free 0; have ha_3 := ha.free 1; have ha_4 := ha.lt; have hb_0 := hb.cell 0; have hb_1 := hb.cell 1; have hb_2 := hb.free 0; have hb_3 := hb.free 1; have hb_4 := hb.lt; have hr_0 := hr.cell 0; have hr_1 := hr.cell 1; have hr_2 := hr.free 0; have hr_3 := hr.free 1; have hr_4 := hr.lt
    go_wp2_with (go_at_call 112; (with_reducible refine (HW.out _).mono ?_); rintro e wn ⟨rfl, hgn⟩; replace HG := G.trans (w := w) (by exact G.go HG) hgn; replace ha := Hx.kept (by first | exact Hx.go ha | exact Hx.go2) hgn (by simp); have ha_0 := ha.cell 0; have ha_1 := ha.cell 1; have ha_2 := ha.free 0; have ha_3 := ha.free 1; have ha_4 := ha.lt; replace hb := Hx.kept (by first | exact Hx.go hb | exact Hx.go2) hgn (by simp); have hb_0 := hb.cell 0; have hb_1 := hb.cell 1; have hb_2 := hb.free 0; have hb_3 := hb.free 1; have hb_4 := hb.lt; replace hr := Hx.kept (by first | exact Hx.go hr | exact Hx.go2) hgn (by simp); have hr_0 := hr.cell 0; have hr_1 := hr.cell 1; have hr_2 := hr.free 0; have hr_3 := hr.free 1; have hr_4 := hr.lt; clear hgn)
    refine ret_cell [.bool true, .int .i64 x] (w.heap.size + 1 + 1) 28 rfl rfl (Tryz.isAgg28 _) (Tryz.sizeOf28 _) rfl ?_ ⟨by rw [hfin.out]; rfl, (by exact G.go HG)⟩
    exact (by first | exact Hx.go hr | exact Hx.go2)
  obtain ⟨N, rfl⟩ : ∃ N : Nat, n = N := ⟨n.toNat, by omega⟩
  have hN : N ≤ 6 := by omega
  obtain ⟨hu1, hu2⟩ := unitN_bound hN
  obtain ⟨y, hy, hy1, hy2⟩ := mulDivO_one hx hu1
  have HM := Lib.hid (fun w => mulDiv1_any x 1 (unitN N) w (by omega) (by omega) (by omega) (by omega) (by omega) (by omega))
  rw [hy, show mulDivV (some y) = .tuple #[.int .i64 y, .bool true] from rfl] at HM
  have hV4 : Hid (V = ofR (y * unitN N)) := Lib.hid (by rw [hV3.out, if_pos (by omega)]; show (mulDivO x 1 (unitN N)).bind _ = _; rw [hy]; rfl)
  have HO := Lib.hid (fun w => refOf_any w y)
  rw [ofR_small ⟨hy1, hy2⟩] at HO
  simp only [valV, valC] at HO
  have HI := Lib.hid (fun w => int1_any w (unitN N))
  rw [intO_small (by omega)] at HI
  simp only [valV, valC] at HI
  have HU := Lib.hid (fun w => mul1_any w true true y (unitN N * 1000000))
  rw [vK_of ⟨hy1, hy2⟩, vK_of (by omega), mulO_unit ⟨hu1, hu2⟩, ← hV4.out, valV_form] at HU
  clear hV3 hV4 h1 h2 hn hy
  have HG := G.refl w none
  go_enter Tryz.func82, Tryz.ntmps82
  go_upto_region 0 with (fail)
  go_cut [2, 3, 4] (fun p2 p3 p4 wc => p2 = .pointer (some ⟨w.heap.size, 0, none⟩) ∧ p3 = .pointer (some ⟨(w.heap.size + 1), 0, none⟩) ∧ p4 = .pointer (some ⟨(w.heap.size + 1 + 1), 0, none⟩) ∧ w.grownBy wc none ∧ Hx wc w.heap.size [.bool true, .int .i64 x] 28 ∧ Hx wc (w.heap.size + 1) [.bool true, .int .i64 z] 28 ∧ Hx wc (w.heap.size + 1 + 1) [.bool false, .int .i64 0] 28)
  case first =>
    go_wp2_with fail
    go_meet
    exact ⟨rfl, rfl, rfl, (by exact G.go HG), Hx.alloc (Hx.alloc (Hx.new _ _ _) _) _, Hx.alloc (Hx.new' (by first | (simp; done) | rfl) rfl) _, Hx.new' (by first | (simp; done) | rfl) rfl⟩
  obtain ⟨rfl, rfl, rfl, HG, ha, hb, hr⟩ := hcut
  have ha_0 := ha.cell 0; have ha_1 := ha.cell 1; have ha_2 := ha.free 0; have ha_3 := ha.free 1; have ha_4 := ha.lt; have hb_0 := hb.cell 0; have hb_1 := hb.cell 1; have hb_2 := hb.free 0; have hb_3 := hb.free 1; have hb_4 := hb.lt; have hr_0 := hr.cell 0; have hr_1 := hr.cell 1; have hr_2 := hr.free 0; have hr_3 := hr.free 1; have hr_4 := hr.lt
  go_upto_region 5 with ((go_at_call 112; (with_reducible refine (HW.out _).mono ?_); rintro e wn ⟨rfl, hgn⟩; replace HG := G.trans (w := w) (by exact G.go HG) hgn; replace ha := Hx.kept (by first | exact Hx.go ha | exact Hx.go2) hgn (by simp); have ha_0 := ha.cell 0; have ha_1 := ha.cell 1; have ha_2 := ha.free 0; have ha_3 := ha.free 1; have ha_4 := ha.lt; replace hb := Hx.kept (by first | exact Hx.go hb | exact Hx.go2) hgn (by simp); have hb_0 := hb.cell 0; have hb_1 := hb.cell 1; have hb_2 := hb.free 0; have hb_3 := hb.free 1; have hb_4 := hb.lt; replace hr := Hx.kept (by first | exact Hx.go hr | exact Hx.go2) hgn (by simp); have hr_0 := hr.cell 0; have hr_1 := hr.cell 1; have hr_2 := hr.free 0; have hr_3 := hr.free 1; have hr_4 := hr.lt; clear hgn))
  go_cut [2, 4, 5, 7, 8] (fun p2 p4 p5 p7 p8 wd => p2 = .pointer (some ⟨w.heap.size, 0, none⟩) ∧ p4 = .pointer (some ⟨(w.heap.size + 1 + 1), 0, none⟩) ∧ p5 = .int .i64 N ∧ p7 = .int .i64 1000000 ∧ p8 = .int .i64 0 ∧ w.grownBy wd none ∧ Hx wd w.heap.size [.bool true, .int .i64 x] 28 ∧ Hx wd (w.heap.size + 1 + 1) [.bool false, .int .i64 0] 28)
  case first =>
    go_wp2_with fail
    go_meet
    exact ⟨rfl, rfl, rfl, rfl, rfl, HG, ha, hr⟩
  obtain ⟨rfl, rfl, rfl, rfl, rfl, HG, ha, hr⟩ := hcut
  go_wp2_with fail
  go_loop [7, 8] (fun uv iv => ∃ (i : Nat), uv = .int .i64 (unitN i) ∧ iv = .int .i64 i ∧ i ≤ N) (fun _ iv => N - (intOf iv).toNat)
  case atStart => exact ⟨0, rfl, rfl, by omega⟩
  case round =>
    obtain ⟨i, rfl, rfl, hi⟩ := hrel
    by_cases hlt : i < N
    · have hst := unitN_step (i := i) (by omega)
      have hb := unitN_bound (i := i) (by omega)
      have hb2 := unitN_bound (i := i + 1) (by omega)
      obtain ⟨u2, hu⟩ : ∃ u2, Hid (unitN (i + 1 : Nat) = u2) := ⟨_, Lib.hid rfl⟩
      rw [hu.out] at hst hb2
      generalize unitN i = u1 at *
      go_wp2_with fail
      refine ⟨⟨i + 1, ?_, by go_num, by omega⟩, by first | (simp [intOf]; done) | (simp [intOf]; omega)⟩
      rw [hu.out]
    · obtain rfl : i = N := by omega
      generalize unitN i = u at *
      have ha_0 := ha.cell 0; have ha_1 := ha.cell 1; have ha_2 := ha.free 0; have ha_3 := ha.free 1; have ha_4 := ha.lt; have hr_0 := hr.cell 0; have hr_1 := hr.cell 1; have hr_2 := hr.free 0; have hr_3 := hr.free 1; have hr_4 := hr.lt
      go_wp2_with (first | (go_at_call 113; (with_reducible refine (HM.out _).mono ?_); rintro e wn ⟨rfl, hgn⟩; replace HG := G.trans (w := w) (by exact G.go HG) hgn; replace ha := Hx.kept (by first | exact Hx.go ha | exact Hx.go2) hgn (by simp); have ha_0 := ha.cell 0; have ha_1 := ha.cell 1; have ha_2 := ha.free 0; have ha_3 := ha.free 1; have ha_4 := ha.lt; replace hr := Hx.kept (by first | exact Hx.go hr | exact Hx.go2) hgn (by simp); have hr_0 := hr.cell 0; have hr_1 := hr.cell 1; have hr_2 := hr.free 0; have hr_3 := hr.free 1; have hr_4 := hr.lt; clear hgn) | (go_at_call 93; (with_reducible refine (HO.out _).mono ?_); rintro e wn ⟨rfl, hgn⟩; replace HG := G.trans (w := w) (by exact G.go HG) hgn; replace ha := Hx.kept (by first | exact Hx.go ha | exact Hx.go2) hgn (by simp); have ha_0 := ha.cell 0; have ha_1 := ha.cell 1; have ha_2 := ha.free 0; have ha_3 := ha.free 1; have ha_4 := ha.lt; replace hr := Hx.kept (by first | exact Hx.go hr | exact Hx.go2) hgn (by simp); have hr_0 := hr.cell 0; have hr_1 := hr.cell 1; have hr_2 := hr.free 0; have hr_3 := hr.free 1; have hr_4 := hr.lt; clear hgn) | (go_at_call 79; (with_reducible refine (HI.out _).mono ?_); rintro e wn ⟨rfl, hgn⟩; replace HG := G.trans (w := w) (by exact G.go HG) hgn; replace ha := Hx.kept (by first | exact Hx.go ha | exact Hx.go2) hgn (by simp); have ha_0 := ha.cell 0; have ha_1 := ha.cell 1; have ha_2 := ha.free 0; have ha_3 := ha.free 1; have ha_4 := ha.lt; replace hr := Hx.kept (by first | exact Hx.go hr | exact Hx.go2) hgn (by simp); have hr_0 := hr.cell 0; have hr_1 := hr.cell 1; have hr_2 := hr.free 0; have hr_3 := hr.free 1; have hr_4 := hr.lt; clear hgn) | (go_at_call 86; (with_reducible refine (HU.out _).mono ?_); rintro e wn ⟨rfl, hgn⟩; replace HG := G.trans (w := w) (by exact G.go HG) hgn; replace ha := Hx.kept (by first | exact Hx.go ha | exact Hx.go2) hgn (by simp); have ha_0 := ha.cell 0; have ha_1 := ha.cell 1; have ha_2 := ha.free 0; have ha_3 := ha.free 1; have ha_4 := ha.lt; replace hr := Hx.kept (by first | exact Hx.go hr | exact Hx.go2) hgn (by simp); have hr_0 := hr.cell 0; have hr_1 := hr.cell 1; have hr_2 := hr.free 0; have hr_3 := hr.free 1; have hr_4 := hr.lt; clear hgn))
      refine ret_cell [.bool (vB V), .int .i64 (vN V)] (w.heap.size + 1 + 1) 28 rfl rfl (Tryz.isAgg28 _) (Tryz.sizeOf28 _) rfl ?_ ⟨by rw [valV_form], (by exact G.go HG)⟩
      exact (by first | exact Hx.go hr | exact Hx.go2)
end Go.Proofs.YtfomknfjidbdcaaGreatDoor
