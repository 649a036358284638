/-
  The walks of the reference's null and counted. Printed by genfmrefe.py.
-/
import Derived.Test.YtfomknfjidbdcaaGreatDoorFmRefD
import Derived.Test.YtfomknfjidbdcaaGreatDoorFmApply
namespace Go.Proofs.YtfomknfjidbdcaaGreatDoor
open Go.RowKit
/-- what none becomes -/
def nullO (nm : ByteArray) (L : List (Bool × Int)) : Option Int := if nm = fn2 then some 0 else if nm = fn15 then (if L.length = 0 then some 0 else kOf L) else none
set_option maxHeartbeats 8000000 in
theorem null1_any (nm : ByteArray) (lv : Value) (L : List (Bool × Int)) (w : World) (h : ERow valE w lv L) : Calls Tryz.prog 40 #[.string nm, lv] w fun e w' => e = .returned (valV (nullO nm L)) ∧ w.grownBy w' none := by
  obtain ⟨V, hV⟩ : ∃ V, Hid (nullO nm L = V) := ⟨_, Lib.hid rfl⟩
  rw [hV.out]
  have hV2 : Hid (V = if nm = fn2 then some 0 else if nm = fn15 then (if L.length = 0 then some 0 else kOf L) else none) := Lib.hid (by rw [← hV.out]; rfl)
  clear hV
  have HO := Lib.hid (fun w => int1_any w 0)
  rw [intO_small (by omega)] at HO
  simp only [valV, valC, Int.zero_mul] at HO
  obtain ⟨A, c, rfl, q1, q2, q3⟩ := h
  have Q3 := Lib.hid q3; clear q3
  by_cases g2 : nm = fn2
  · have e2 : (nm.toList == ([105, 115, 78, 111, 110, 78, 117, 108, 108] : List UInt8)) = true := eqYes g2
    have hfin : Hid (V = some 0) := Lib.hid (by rw [hV2.out, if_pos g2])
    clear hV2 g2
    have HG := G.refl w none
    go_enter Tryz.func40, Tryz.ntmps40
    go_upto_region 0 with (fail)
    go_cut [4] (fun r wc => r = .pointer (some ⟨w.heap.size, 0, none⟩) ∧ w.grownBy wc none ∧ Hx wc w.heap.size [.bool false, .int .i64 0] 28)
    case first =>
      go_wp2_with fail
      go_meet
      exact ⟨rfl, (by exact G.go HG), Hx.new _ _ _⟩
    obtain ⟨rfl, HG, hr⟩ := hcut
    have hr_0 := hr.cell 0; have hr_1 := hr.cell 1; have hr_2 := hr.free 0; have hr_3 := hr.free 1; have hr_4 := hr.lt
    go_wp2_with (go_at_call 79; (with_reducible refine (HO.out _).mono ?_); rintro e wn ⟨rfl, hgn⟩; replace HG := G.trans (w := w) (by exact G.go HG) hgn; replace hr := Hx.kept (by first | exact Hx.go hr | exact Hx.go2) hgn (by simp); have hr_0 := hr.cell 0; have hr_1 := hr.cell 1; have hr_2 := hr.free 0; have hr_3 := hr.free 1; have hr_4 := hr.lt; clear hgn)
    refine ret_cell [.bool true, .int .i64 0] w.heap.size 28 rfl rfl (Tryz.isAgg28 _) (Tryz.sizeOf28 _) rfl ?_ ⟨by rw [hfin.out]; rfl, (by exact G.go HG)⟩
    exact (by first | exact Hx.go hr | exact Hx.go2)
  have e2 : (nm.toList == ([105, 115, 78, 111, 110, 78, 117, 108, 108] : List UInt8)) = false := eqNo g2
  by_cases g15 : nm = fn15
  rotate_left
  · have e15 : (nm.toList == ([116, 114, 97, 110, 115, 102, 111, 114, 109, 78, 117, 108, 108] : List UInt8)) = false := eqNo g15
    have hfin : Hid (V = none) := Lib.hid (by rw [hV2.out, if_neg g2, if_neg g15])
    clear hV2 g2 g15
    have HG := G.refl w none
    go_enter Tryz.func40, Tryz.ntmps40
    go_upto_region 0 with (fail)
    go_cut [4] (fun r wc => r = .pointer (some ⟨w.heap.size, 0, none⟩) ∧ w.grownBy wc none ∧ Hx wc w.heap.size [.bool false, .int .i64 0] 28)
    case first =>
      go_wp2_with fail
      go_meet
      exact ⟨rfl, (by exact G.go HG), Hx.new _ _ _⟩
    obtain ⟨rfl, HG, hr⟩ := hcut
    have hr_0 := hr.cell 0; have hr_1 := hr.cell 1; have hr_2 := hr.free 0; have hr_3 := hr.free 1; have hr_4 := hr.lt
    go_wp2_with fail
    refine ret_cell [.bool false, .int .i64 0] w.heap.size 28 rfl rfl (Tryz.isAgg28 _) (Tryz.sizeOf28 _) rfl ?_ ⟨by rw [hfin.out]; rfl, (by exact G.go HG)⟩
    exact (by first | exact Hx.go hr | exact Hx.go2)
  have e15 : (nm.toList == ([116, 114, 97, 110, 115, 102, 111, 114, 109, 78, 117, 108, 108] : List UInt8)) = true := eqYes g15
  have hV3 : Hid (V = if L.length = 0 then some 0 else kOf L) := Lib.hid (by rw [hV2.out, if_neg g2, if_pos g15])
  clear hV2 g2 g15
  by_cases h0 : L.length = 0
  · have hfin : Hid (V = some 0) := Lib.hid (by rw [hV3.out, if_pos h0])
    have HG := G.refl w none
    go_enter Tryz.func40, Tryz.ntmps40
    go_upto_region 0 with (fail)
    go_cut [4] (fun r wc => r = .pointer (some ⟨w.heap.size, 0, none⟩) ∧ w.grownBy wc none ∧ Hx wc w.heap.size [.bool false, .int .i64 0] 28)
    case first =>
      go_wp2_with fail
      go_meet
      exact ⟨rfl, (by exact G.go HG), Hx.new _ _ _⟩
    obtain ⟨rfl, HG, hr⟩ := hcut
    have hr_0 := hr.cell 0; have hr_1 := hr.cell 1; have hr_2 := hr.free 0; have hr_3 := hr.free 1; have hr_4 := hr.lt
    go_wp2_with (go_at_call 79; (with_reducible refine (HO.out _).mono ?_); rintro e wn ⟨rfl, hgn⟩; replace HG := G.trans (w := w) (by exact G.go HG) hgn; replace hr := Hx.kept (by first | exact Hx.go hr | exact Hx.go2) hgn (by simp); have hr_0 := hr.cell 0; have hr_1 := hr.cell 1; have hr_2 := hr.free 0; have hr_3 := hr.free 1; have hr_4 := hr.lt; clear hgn)
    refine ret_cell [.bool true, .int .i64 0] w.heap.size 28 rfl rfl (Tryz.isAgg28 _) (Tryz.sizeOf28 _) rfl ?_ ⟨by rw [hfin.out]; rfl, (by exact G.go HG)⟩
    exact (by first | exact Hx.go hr | exact Hx.go2)
  have hp : 0 < L.length := by omega
  obtain ⟨b, o, rfl, hbl, hc⟩ := Q3.out hp
  have HK := Lib.hid (fun w => known1_any w L[0].1 L[0].2)
  have hV4 : Hid (V = vK L[0].1 L[0].2) := Lib.hid (by rw [hV3.out, if_neg h0]; cases L with | nil => simp at hp | cons p r => rfl)
  have hcc := Lib.hid (fun (wr : World) (hg : w.grownBy wr none) => valCells hc hg hbl hp)
  simp only [Nat.zero_mul, Nat.add_zero] at hcc
  have k1 := @vK_some L[0].1 L[0].2
  have k3 := @vK_none L[0].1 L[0].2
  clear hV3 hc
  generalize L[0].1 = vb at *
  generalize L[0].2 = vn at *
  generalize (vb && isR vb vn) = kk at *
  have K1 := Lib.hid k1; have K3 := Lib.hid k3
  clear k1 k3
  cases kk
  · have hfin : Hid (V = none) := Lib.hid (by rw [hV4.out, K3.out rfl])
    have HG := G.refl w none
    go_enter Tryz.func40, Tryz.ntmps40
    go_upto_region 0 with (fail)
    go_cut [4] (fun r wc => r = .pointer (some ⟨w.heap.size, 0, none⟩) ∧ w.grownBy wc none ∧ Hx wc w.heap.size [.bool false, .int .i64 0] 28)
    case first =>
      go_wp2_with fail
      go_meet
      exact ⟨rfl, (by exact G.go HG), Hx.new _ _ _⟩
    obtain ⟨rfl, HG, hr⟩ := hcut
    have hr_0 := hr.cell 0; have hr_1 := hr.cell 1; have hr_2 := hr.free 0; have hr_3 := hr.free 1; have hr_4 := hr.lt
    obtain ⟨x0, x1⟩ := hcc.out _ HG
    go_wp2_with (go_at_call 80; (with_reducible refine (HK.out _).mono ?_); rintro e wn ⟨rfl, hgn⟩; replace HG := G.trans (w := w) (by exact G.go HG) hgn; replace hr := Hx.kept (by first | exact Hx.go hr | exact Hx.go2) hgn (by simp); obtain ⟨y0, y1⟩ := hcc.out _ HG; have hr_0 := hr.cell 0; have hr_1 := hr.cell 1; have hr_2 := hr.free 0; have hr_3 := hr.free 1; have hr_4 := hr.lt; clear hgn)
    refine ret_cell [.bool false, .int .i64 0] w.heap.size 28 rfl rfl (Tryz.isAgg28 _) (Tryz.sizeOf28 _) rfl ?_ ⟨by rw [hfin.out]; rfl, (by exact G.go HG)⟩
    exact (by first | exact Hx.go hr | exact Hx.go2)
  · obtain ⟨va, rfl, a1, a2⟩ := K1.out rfl
    have hfin : Hid (V = some vn) := Lib.hid (by rw [hV4.out, va])
    have HG := G.refl w none
    go_enter Tryz.func40, Tryz.ntmps40
    go_upto_region 0 with (fail)
    go_cut [4] (fun r wc => r = .pointer (some ⟨w.heap.size, 0, none⟩) ∧ w.grownBy wc none ∧ Hx wc w.heap.size [.bool false, .int .i64 0] 28)
    case first =>
      go_wp2_with fail
      go_meet
      exact ⟨rfl, (by exact G.go HG), Hx.new _ _ _⟩
    obtain ⟨rfl, HG, hr⟩ := hcut
    have hr_0 := hr.cell 0; have hr_1 := hr.cell 1; have hr_2 := hr.free 0; have hr_3 := hr.free 1; have hr_4 := hr.lt
    obtain ⟨x0, x1⟩ := hcc.out _ HG
    go_wp2_with (go_at_call 80; (with_reducible refine (HK.out _).mono ?_); rintro e wn ⟨rfl, hgn⟩; replace HG := G.trans (w := w) (by exact G.go HG) hgn; replace hr := Hx.kept (by first | exact Hx.go hr | exact Hx.go2) hgn (by simp); obtain ⟨y0, y1⟩ := hcc.out _ HG; have hr_0 := hr.cell 0; have hr_1 := hr.cell 1; have hr_2 := hr.free 0; have hr_3 := hr.free 1; have hr_4 := hr.lt; clear hgn)
    refine ret_cell [.bool true, .int .i64 vn] w.heap.size 28 rfl rfl (Tryz.isAgg28 _) (Tryz.sizeOf28 _) rfl ?_ ⟨by rw [hfin.out]; rfl, (by exact G.go HG)⟩
    exact (by first | exact Hx.go hr | exact Hx.go2)
/-- what a number becomes by one that counts -/
def countO (nm : ByteArray) (s : Int) (k v : Option Int) : Option Int := match k with
  | none => none
  | some _ => if nm = fn7 then fm7 k v else if nm = fn10 then fm10 k v else fm12 s k v
set_option maxHeartbeats 16000000 in
theorem counted1_any (nm : ByteArray) (S : Ser) (sv : Value) (w : World) (x : Int) (hx : -4611686018427387904 ≤ x ∧ x ≤ 4611686018427387904) (kb : Bool) (kn : Int) (hs : 1 ≤ S.step ∧ S.step ≤ 1099511627776) (hsv : ∃ a n c, sv = .slice a n c) :
    Calls Tryz.prog 41 #[.string nm, .agg #[.string S.name, .int .i64 S.start, .int .i64 S.step, sv, .int .i64 S.cons], .agg #[.bool true, .int .i64 x], .agg #[.bool kb, .int .i64 kn]] w fun e w' => e = .returned (valV (countO nm S.step (vK kb kn) (some x))) ∧ w.grownBy w' none := by
  obtain ⟨V, hV⟩ : ∃ V, Hid (countO nm S.step (vK kb kn) (some x) = V) := ⟨_, Lib.hid rfl⟩
  rw [hV.out]
  obtain ⟨sa, sn, sc, rfl⟩ := hsv
  have hvv := Lib.hid (valV_form V)
  have HK := Lib.hid (fun w => known1_any w kb kn)
  have k1 := @vK_some kb kn
  have k3 := @vK_none kb kn
  generalize (kb && isR kb kn) = kk at *
  have K1 := Lib.hid k1; have K3 := Lib.hid k3
  clear k1 k3
  cases kk
  · have hfin : Hid (V = none) := Lib.hid (by rw [← hV.out, K3.out rfl]; rfl)
    clear hV
    have HG := G.refl w none
    go_enter Tryz.func41, Tryz.ntmps41
    go_upto_region 0 with (fail)
    go_cut [5, 6, 7, 8] (fun p5 p6 p7 p8 wc => p5 = .pointer (some ⟨w.heap.size, 0, none⟩) ∧ p6 = .pointer (some ⟨(w.heap.size + 1), 0, none⟩) ∧ p7 = .pointer (some ⟨(w.heap.size + 1 + 1), 0, none⟩) ∧ p8 = .pointer (some ⟨(w.heap.size + 1 + 1 + 1), 0, none⟩) ∧ w.grownBy wc none ∧ Hx wc w.heap.size [.string S.name, .int .i64 S.start, .int .i64 S.step, .slice sa sn sc, .int .i64 S.cons] 24 ∧ Hx wc (w.heap.size + 1) [.bool true, .int .i64 x] 28 ∧ Hx wc (w.heap.size + 1 + 1) [.bool kb, .int .i64 kn] 28 ∧ Hx wc (w.heap.size + 1 + 1 + 1) [.bool false, .int .i64 0] 28)
    case first =>
      go_wp2_with fail
      go_meet
      exact ⟨rfl, rfl, rfl, rfl, (by exact G.go HG), Hx.alloc (Hx.alloc (Hx.alloc (Hx.new _ _ _) _) _) _, Hx.alloc (Hx.alloc (Hx.new' (by simp) rfl) _) _, Hx.alloc (Hx.new' (by simp) rfl) _, Hx.new' (by simp) rfl⟩
    obtain ⟨rfl, rfl, rfl, rfl, HG, hs1, ha, hb, hr⟩ := hcut
    have hs1_2 := hs1.cell 2; have hs1_l := hs1.lt; have ha_0 := ha.cell 0; have ha_1 := ha.cell 1; have ha_2 := ha.free 0; have ha_3 := ha.free 1; have ha_4 := ha.lt; have hb_0 := hb.cell 0; have hb_1 := hb.cell 1; have hb_2 := hb.free 0; have hb_3 := hb.free 1; have hb_4 := hb.lt; have hr_0 := hr.cell 0; have hr_1 := hr.cell 1; have hr_2 := hr.free 0; have hr_3 := hr.free 1; have hr_4 := hr.lt
    go_wp2_with (go_at_call 80; (with_reducible refine (HK.out _).mono ?_); rintro e wn ⟨rfl, hgn⟩; replace HG := G.trans (w := w) (by exact G.go HG) hgn; replace hs1 := Hx.kept hs1 hgn (by simp); replace ha := Hx.kept ha hgn (by simp); replace hb := Hx.kept hb hgn (by simp); replace hr := Hx.kept hr hgn (by simp); have hs1_2 := hs1.cell 2; have hs1_l := hs1.lt; have ha_0 := ha.cell 0; have ha_1 := ha.cell 1; have ha_2 := ha.free 0; have ha_3 := ha.free 1; have ha_4 := ha.lt; have hb_0 := hb.cell 0; have hb_1 := hb.cell 1; have hb_2 := hb.free 0; have hb_3 := hb.free 1; have hb_4 := hb.lt; have hr_0 := hr.cell 0; have hr_1 := hr.cell 1; have hr_2 := hr.free 0; have hr_3 := hr.free 1; have hr_4 := hr.lt; clear hgn)
    refine ret_cell [.bool false, .int .i64 0] (w.heap.size + 1 + 1 + 1) 28 rfl rfl (Tryz.isAgg28 _) (Tryz.sizeOf28 _) rfl ?_ ⟨by rw [hfin.out]; rfl, (by exact G.go HG)⟩
    exact (by first | exact Hx.go hr | exact Hx.go2)
  obtain ⟨va, rfl, a1, a2⟩ := K1.out rfl
  rw [va] at hV
  have hz : -4611686018427387904 ≤ kn ∧ kn ≤ 4611686018427387904 := ⟨a1, a2⟩
  have hV2 : Hid (V = if nm = fn7 then fm7 (some kn) (some x) else if nm = fn10 then fm10 (some kn) (some x) else fm12 S.step (some kn) (some x)) := Lib.hid hV.out.symm
  clear hV va K1 K3
  by_cases g7 : nm = fn7
  · have e7 : (nm.toList == ([112, 111, 119] : List UInt8)) = true := eqYes g7
    have hfin : Hid (V = fm7 (some kn) (some x)) := Lib.hid (by rw [hV2.out, if_pos g7])
    clear hV2 g7
    have HC := Lib.hid (fun w => pow1_any w x kn hx hz)
    rw [← hfin.out, valV_form] at HC
    have HG := G.refl w none
    go_enter Tryz.func41, Tryz.ntmps41
    go_upto_region 0 with (fail)
    go_cut [5, 6, 7, 8] (fun p5 p6 p7 p8 wc => p5 = .pointer (some ⟨w.heap.size, 0, none⟩) ∧ p6 = .pointer (some ⟨(w.heap.size + 1), 0, none⟩) ∧ p7 = .pointer (some ⟨(w.heap.size + 1 + 1), 0, none⟩) ∧ p8 = .pointer (some ⟨(w.heap.size + 1 + 1 + 1), 0, none⟩) ∧ w.grownBy wc none ∧ Hx wc w.heap.size [.string S.name, .int .i64 S.start, .int .i64 S.step, .slice sa sn sc, .int .i64 S.cons] 24 ∧ Hx wc (w.heap.size + 1) [.bool true, .int .i64 x] 28 ∧ Hx wc (w.heap.size + 1 + 1) [.bool true, .int .i64 kn] 28 ∧ Hx wc (w.heap.size + 1 + 1 + 1) [.bool false, .int .i64 0] 28)
    case first =>
      go_wp2_with fail
      go_meet
      exact ⟨rfl, rfl, rfl, rfl, (by exact G.go HG), Hx.alloc (Hx.alloc (Hx.alloc (Hx.new _ _ _) _) _) _, Hx.alloc (Hx.alloc (Hx.new' (by simp) rfl) _) _, Hx.alloc (Hx.new' (by simp) rfl) _, Hx.new' (by simp) rfl⟩
    obtain ⟨rfl, rfl, rfl, rfl, HG, hs1, ha, hb, hr⟩ := hcut
    have hs1_2 := hs1.cell 2; have hs1_l := hs1.lt; have ha_0 := ha.cell 0; have ha_1 := ha.cell 1; have ha_2 := ha.free 0; have ha_3 := ha.free 1; have ha_4 := ha.lt; have hb_0 := hb.cell 0; have hb_1 := hb.cell 1; have hb_2 := hb.free 0; have hb_3 := hb.free 1; have hb_4 := hb.lt; have hr_0 := hr.cell 0; have hr_1 := hr.cell 1; have hr_2 := hr.free 0; have hr_3 := hr.free 1; have hr_4 := hr.lt
    go_wp2_with (first | (go_at_call 80; (with_reducible refine (HK.out _).mono ?_); rintro e wn ⟨rfl, hgn⟩; replace HG := G.trans (w := w) (by exact G.go HG) hgn; replace hs1 := Hx.kept hs1 hgn (by simp); replace ha := Hx.kept ha hgn (by simp); replace hb := Hx.kept hb hgn (by simp); replace hr := Hx.kept hr hgn (by simp); have hs1_2 := hs1.cell 2; have hs1_l := hs1.lt; have ha_0 := ha.cell 0; have ha_1 := ha.cell 1; have ha_2 := ha.free 0; have ha_3 := ha.free 1; have ha_4 := ha.lt; have hb_0 := hb.cell 0; have hb_1 := hb.cell 1; have hb_2 := hb.free 0; have hb_3 := hb.free 1; have hb_4 := hb.lt; have hr_0 := hr.cell 0; have hr_1 := hr.cell 1; have hr_2 := hr.free 0; have hr_3 := hr.free 1; have hr_4 := hr.lt; clear hgn) | (go_at_call 81; (with_reducible refine (HC.out _).mono ?_); rintro e wn ⟨rfl, hgn⟩; replace HG := G.trans (w := w) (by exact G.go HG) hgn; replace hr := Hx.kept (by first | exact Hx.go hr | exact Hx.go2) hgn (by simp); have hr_0 := hr.cell 0; have hr_1 := hr.cell 1; have hr_2 := hr.free 0; have hr_3 := hr.free 1; have hr_4 := hr.lt; clear hgn))
    refine ret_cell [.bool (vB V), .int .i64 (vN V)] (w.heap.size + 1 + 1 + 1) 28 rfl rfl (Tryz.isAgg28 _) (Tryz.sizeOf28 _) rfl ?_ ⟨by rw [hvv.out], (by exact G.go HG)⟩
    exact (by first | exact Hx.go hr | exact Hx.go2)
  have e7 : (nm.toList == ([112, 111, 119] : List UInt8)) = false := eqNo g7
  by_cases g10 : nm = fn10
  · have e10 : (nm.toList == ([114, 111, 117, 110, 100] : List UInt8)) = true := eqYes g10
    have hfin : Hid (V = fm10 (some kn) (some x)) := Lib.hid (by rw [hV2.out, if_neg g7, if_pos g10])
    clear hV2 g7 g10
    have HC := Lib.hid (fun w => round1_any w x kn hx hz)
    rw [← hfin.out, valV_form] at HC
    have HG := G.refl w none
    go_enter Tryz.func41, Tryz.ntmps41
    go_upto_region 0 with (fail)
    go_cut [5, 6, 7, 8] (fun p5 p6 p7 p8 wc => p5 = .pointer (some ⟨w.heap.size, 0, none⟩) ∧ p6 = .pointer (some ⟨(w.heap.size + 1), 0, none⟩) ∧ p7 = .pointer (some ⟨(w.heap.size + 1 + 1), 0, none⟩) ∧ p8 = .pointer (some ⟨(w.heap.size + 1 + 1 + 1), 0, none⟩) ∧ w.grownBy wc none ∧ Hx wc w.heap.size [.string S.name, .int .i64 S.start, .int .i64 S.step, .slice sa sn sc, .int .i64 S.cons] 24 ∧ Hx wc (w.heap.size + 1) [.bool true, .int .i64 x] 28 ∧ Hx wc (w.heap.size + 1 + 1) [.bool true, .int .i64 kn] 28 ∧ Hx wc (w.heap.size + 1 + 1 + 1) [.bool false, .int .i64 0] 28)
    case first =>
      go_wp2_with fail
      go_meet
      exact ⟨rfl, rfl, rfl, rfl, (by exact G.go HG), Hx.alloc (Hx.alloc (Hx.alloc (Hx.new _ _ _) _) _) _, Hx.alloc (Hx.alloc (Hx.new' (by simp) rfl) _) _, Hx.alloc (Hx.new' (by simp) rfl) _, Hx.new' (by simp) rfl⟩
    obtain ⟨rfl, rfl, rfl, rfl, HG, hs1, ha, hb, hr⟩ := hcut
    have hs1_2 := hs1.cell 2; have hs1_l := hs1.lt; have ha_0 := ha.cell 0; have ha_1 := ha.cell 1; have ha_2 := ha.free 0; have ha_3 := ha.free 1; have ha_4 := ha.lt; have hb_0 := hb.cell 0; have hb_1 := hb.cell 1; have hb_2 := hb.free 0; have hb_3 := hb.free 1; have hb_4 := hb.lt; have hr_0 := hr.cell 0; have hr_1 := hr.cell 1; have hr_2 := hr.free 0; have hr_3 := hr.free 1; have hr_4 := hr.lt
    go_wp2_with (first | (go_at_call 80; (with_reducible refine (HK.out _).mono ?_); rintro e wn ⟨rfl, hgn⟩; replace HG := G.trans (w := w) (by exact G.go HG) hgn; replace hs1 := Hx.kept hs1 hgn (by simp); replace ha := Hx.kept ha hgn (by simp); replace hb := Hx.kept hb hgn (by simp); replace hr := Hx.kept hr hgn (by simp); have hs1_2 := hs1.cell 2; have hs1_l := hs1.lt; have ha_0 := ha.cell 0; have ha_1 := ha.cell 1; have ha_2 := ha.free 0; have ha_3 := ha.free 1; have ha_4 := ha.lt; have hb_0 := hb.cell 0; have hb_1 := hb.cell 1; have hb_2 := hb.free 0; have hb_3 := hb.free 1; have hb_4 := hb.lt; have hr_0 := hr.cell 0; have hr_1 := hr.cell 1; have hr_2 := hr.free 0; have hr_3 := hr.free 1; have hr_4 := hr.lt; clear hgn) | (go_at_call 82; (with_reducible refine (HC.out _).mono ?_); rintro e wn ⟨rfl, hgn⟩; replace HG := G.trans (w := w) (by exact G.go HG) hgn; replace hr := Hx.kept (by first | exact Hx.go hr | exact Hx.go2) hgn (by simp); have hr_0 := hr.cell 0; have hr_1 := hr.cell 1; have hr_2 := hr.free 0; have hr_3 := hr.free 1; have hr_4 := hr.lt; clear hgn))
    refine ret_cell [.bool (vB V), .int .i64 (vN V)] (w.heap.size + 1 + 1 + 1) 28 rfl rfl (Tryz.isAgg28 _) (Tryz.sizeOf28 _) rfl ?_ ⟨by rw [hvv.out], (by exact G.go HG)⟩
    exact (by first | exact Hx.go hr | exact Hx.go2)
  have e10 : (nm.toList == ([114, 111, 117, 110, 100] : List UInt8)) = false := eqNo g10
  have hfin : Hid (V = fm12 S.step (some kn) (some x)) := Lib.hid (by rw [hV2.out, if_neg g7, if_neg g10])
  clear hV2 g7 g10
  have HC := Lib.hid (fun w => per1_any w x kn hx hz S.step hs)
  rw [← hfin.out, valV_form] at HC
  have HG := G.refl w none
  go_enter Tryz.func41, Tryz.ntmps41
  go_upto_region 0 with (fail)
  go_cut [5, 6, 7, 8] (fun p5 p6 p7 p8 wc => p5 = .pointer (some ⟨w.heap.size, 0, none⟩) ∧ p6 = .pointer (some ⟨(w.heap.size + 1), 0, none⟩) ∧ p7 = .pointer (some ⟨(w.heap.size + 1 + 1), 0, none⟩) ∧ p8 = .pointer (some ⟨(w.heap.size + 1 + 1 + 1), 0, none⟩) ∧ w.grownBy wc none ∧ Hx wc w.heap.size [.string S.name, .int .i64 S.start, .int .i64 S.step, .slice sa sn sc, .int .i64 S.cons] 24 ∧ Hx wc (w.heap.size + 1) [.bool true, .int .i64 x] 28 ∧ Hx wc (w.heap.size + 1 + 1) [.bool true, .int .i64 kn] 28 ∧ Hx wc (w.heap.size + 1 + 1 + 1) [.bool false, .int .i64 0] 28)
  case first =>
    go_wp2_with fail
    go_meet
    exact ⟨rfl, rfl, rfl, rfl, (by exact G.go HG), Hx.alloc (Hx.alloc (Hx.alloc (Hx.new _ _ _) _) _) _, Hx.alloc (Hx.alloc (Hx.new' (by simp) rfl) _) _, Hx.alloc (Hx.new' (by simp) rfl) _, Hx.new' (by simp) rfl⟩
  obtain ⟨rfl, rfl, rfl, rfl, HG, hs1, ha, hb, hr⟩ := hcut
  have hs1_2 := hs1.cell 2; have hs1_l := hs1.lt; have ha_0 := ha.cell 0; have ha_1 := ha.cell 1; have ha_2 := ha.free 0; have ha_3 := ha.free 1; have ha_4 := ha.lt; have hb_0 := hb.cell 0; have hb_1 := hb.cell 1; have hb_2 := hb.free 0; have hb_3 := hb.free 1; have hb_4 := hb.lt; have hr_0 := hr.cell 0; have hr_1 := hr.cell 1; have hr_2 := hr.free 0; have hr_3 := hr.free 1; have hr_4 := hr.lt
  go_wp2_with (first | (go_at_call 80; (with_reducible refine (HK.out _).mono ?_); rintro e wn ⟨rfl, hgn⟩; replace HG := G.trans (w := w) (by exact G.go HG) hgn; replace hs1 := Hx.kept hs1 hgn (by simp); replace ha := Hx.kept ha hgn (by simp); replace hb := Hx.kept hb hgn (by simp); replace hr := Hx.kept hr hgn (by simp); have hs1_2 := hs1.cell 2; have hs1_l := hs1.lt; have ha_0 := ha.cell 0; have ha_1 := ha.cell 1; have ha_2 := ha.free 0; have ha_3 := ha.free 1; have ha_4 := ha.lt; have hb_0 := hb.cell 0; have hb_1 := hb.cell 1; have hb_2 := hb.free 0; have hb_3 := hb.free 1; have hb_4 := hb.lt; have hr_0 := hr.cell 0; have hr_1 := hr.cell 1; have hr_2 := hr.free 0; have hr_3 := hr.free 1; have hr_4 := hr.lt; clear hgn) | (go_at_call 83; (with_reducible refine (HC.out _).mono ?_); rintro e wn ⟨rfl, hgn⟩; replace HG := G.trans (w := w) (by exact G.go HG) hgn; replace hr := Hx.kept (by first | exact Hx.go hr | exact Hx.go2) hgn (by simp); have hr_0 := hr.cell 0; have hr_1 := hr.cell 1; have hr_2 := hr.free 0; have hr_3 := hr.free 1; have hr_4 := hr.lt; clear hgn))
  refine ret_cell [.bool (vB V), .int .i64 (vN V)] (w.heap.size + 1 + 1 + 1) 28 rfl rfl (Tryz.isAgg28 _) (Tryz.sizeOf28 _) rfl ?_ ⟨by rw [hvv.out], (by exact G.go HG)⟩
  exact (by first | exact Hx.go hr | exact Hx.go2)
end Go.Proofs.YtfomknfjidbdcaaGreatDoor
