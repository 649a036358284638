/-
  The walks of the reference's left and right. Printed by genfsrefa.py.
  The walks of the reference's small functions on places. Printed by genfsrefb.py.
-/
import Derived.Test.YtkablhamnepfnaaGreatDoorFsWork
import Derived.Test.YtkablhamnepfnaaGreatDoorFsBase
import Derived.Test.YtkablhamnepfnaaGreatDoorFsTab
import Derived.Test.YtkablhamnepfnaaGreatDoorApplyAid
import Derived.Test.YtkablhamnepfnaaGreatDoorFixAddR
namespace Go.Proofs.YtkablhamnepfnaaGreatDoor
open Go.RowKit
set_option maxHeartbeats 8000000 in
theorem left1_any (w : World) (S : Ser) (sv : Value) (h : ERow valE w sv S.vals) (hall : S.vals.all (fun p => isR p.1 p.2) = true) (i : Int) (hi1 : -1 ≤ i) (hi : i < S.vals.length) (hl : S.vals.length ≤ 1000000) : Calls Tryz.prog 93 #[sv, .int .i64 i] w fun e w' => e = .returned (.int .i64 (aheadI S.opts (i + 1).toNat)) ∧ w.grownBy w' none := by
  have HG := G.refl w none
  obtain ⟨A, c, rfl, q1, q2, q3⟩ := h
  have Q3 := Lib.hid q3; clear q3
  obtain ⟨R, hR⟩ : ∃ R, Hid (aheadI S.opts (i + 1).toNat = R) := ⟨_, Lib.hid rfl⟩
  rw [hR.out]
  go_enter Tryz.func93, Tryz.ntmps93
  go_wp2_with fail
  go_loopw [1] (fun iv wr => wr = w ∧ ∃ z : Int, iv = .int .i64 z ∧ -1 ≤ z ∧ z < S.vals.length ∧ Hid (aheadI S.opts (z + 1).toNat = R)) (fun iv _ => (intOf iv + 1).toNat)
  case atStart => exact ⟨rfl, _, rfl, hi1, hi, hR⟩
  case round =>
    clear hR
    obtain ⟨rfl, z, rfl, hz1, hz2, HZ⟩ := hrel
    by_cases hneg : z < 0
    · have hzR : Hid (z = R) := Lib.hid (by rw [← HZ.out, show (z + 1).toNat = 0 by omega]; show z = -1; omega)
      clear HZ
      go_wp2_with fail
      go_ret
      exact ⟨by rw [← hzR.out]; rfl, (by exact G.go HG)⟩
    · obtain ⟨j, rfl⟩ : ∃ j : Nat, z = j := ⟨z.toNat, by omega⟩
      have hlt : j < S.vals.length := by omega
      obtain ⟨b, o, rfl, hbl, hc⟩ := Q3.out (by omega)
      obtain ⟨e0, e1⟩ := opts_pair hall j hlt
      obtain ⟨x0, x1⟩ := valCells hc HG hbl hlt
      rw [e0] at x0
      clear hc e0 e1 x1
      have hwr : IntKind.i64.wrap ((j : Int) - 1) = (j : Int) - 1 := by rw [IntKind.wrap_i64]; omega
      have hj1 : ((j : Int) + 1).toNat = j + 1 := by omega
      cases hv : S.opts.getD j none with
      | none =>
        have HZ2 : Hid (aheadI S.opts ((j : Int) - 1 + 1).toNat = R) := Lib.hid (by rw [← HZ.out, hj1, aheadI_skip hv]; congr 1; omega)
        rw [hv] at x0
        have x2 : wr.cell? ⟨b, o + j * 2, none⟩ = some (.bool false) := x0
        clear x0 HZ hv hj1
        have hb2 : -1 ≤ (j : Int) - 1 ∧ (j : Int) - 1 < S.vals.length := by omega
        have hms : ((j : Int) - 1 + 1).toNat < ((j : Int) + 1).toNat := by omega
        go_wp2_with fail
        refine ⟨?_, by first | exact hms | (simp [intOf]; done) | (simp [intOf]; omega)⟩
        first | exact ⟨rfl, _, rfl, hb2.1, hb2.2, HZ2⟩ | exact ⟨trivial, _, rfl, hb2.1, hb2.2, HZ2⟩
      | some x =>
        have hzR : Hid ((j : Int) = R) := Lib.hid (by rw [← HZ.out, hj1, aheadI_hit hv])
        rw [hv] at x0
        have x2 : wr.cell? ⟨b, o + j * 2, none⟩ = some (.bool true) := x0
        clear x0 HZ hv hj1
        go_wp2_with fail
        go_ret
        exact ⟨by rw [← hzR.out]; rfl, (by exact G.go HG)⟩
set_option maxHeartbeats 8000000 in
theorem right1_any (w : World) (S : Ser) (sv : Value) (h : ERow valE w sv S.vals) (hall : S.vals.all (fun p => isR p.1 p.2) = true) (i : Nat) (hi : i ≤ S.vals.length) (hl : S.vals.length ≤ 1000000) : Calls Tryz.prog 95 #[sv, .int .i64 (i : Int)] w fun e w' => e = .returned (.int .i64 (behindN S.opts (S.opts.length - i) i : Nat)) ∧ w.grownBy w' none := by
  have HG := G.refl w none
  obtain ⟨A, c, rfl, q1, q2, q3⟩ := h
  have Q3 := Lib.hid q3; clear q3
  have hol := opts_len S
  obtain ⟨R, hR⟩ : ∃ R, Hid (behindN S.opts (S.opts.length - i) i = R) := ⟨_, Lib.hid rfl⟩
  rw [hR.out]
  go_enter Tryz.func95, Tryz.ntmps95
  go_wp2_with fail
  go_loopw [1] (fun iv wr => wr = w ∧ ∃ z : Nat, iv = .int .i64 (z : Int) ∧ z ≤ S.vals.length ∧ Hid (behindN S.opts (S.opts.length - z) z = R)) (fun iv _ => S.vals.length - (intOf iv).toNat)
  case atStart => exact ⟨rfl, i, rfl, hi, hR⟩
  case round =>
    clear hR
    obtain ⟨rfl, z, rfl, hz, HZ⟩ := hrel
    by_cases hlt : z < S.vals.length
    · obtain ⟨b, o, rfl, hbl, hc⟩ := Q3.out (by omega)
      obtain ⟨e0, e1⟩ := opts_pair hall z hlt
      obtain ⟨x0, x1⟩ := valCells hc HG hbl hlt
      rw [e0] at x0
      clear hc e0 e1 x1
      have hlo : z < S.opts.length := by rw [hol]; exact hlt
      cases hv : S.opts.getD z none with
      | none =>
        have HZ2 : Hid (behindN S.opts (S.opts.length - (z + 1)) (z + 1) = R) := Lib.hid (by rw [← HZ.out, behindN_skip hlo hv])
        rw [hv] at x0
        have x2 : wr.cell? ⟨b, o + z * 2, none⟩ = some (.bool false) := x0
        clear x0 HZ hv hlo
        go_wp2_with fail
        refine ⟨?_, by first | (simp [intOf]; done) | (simp [intOf]; omega)⟩
        first | exact ⟨rfl, z + 1, by go_num, by omega, HZ2⟩ | exact ⟨trivial, z + 1, by go_num, by omega, HZ2⟩
      | some x =>
        have hzR : Hid (z = R) := Lib.hid (by rw [← HZ.out, behindN_hit hlo hv])
        rw [hv] at x0
        have x2 : wr.cell? ⟨b, o + z * 2, none⟩ = some (.bool true) := x0
        clear x0 HZ hv hlo
        go_wp2_with fail
        go_ret
        exact ⟨by rw [← hzR.out]; rfl, (by exact G.go HG)⟩
    · have hzR : Hid (z = R) := Lib.hid (by rw [← HZ.out, behindN_end (by omega)])
      clear HZ
      go_wp2_with fail
      go_ret
      exact ⟨by rw [← hzR.out]; rfl, (by exact G.go HG)⟩
end Go.Proofs.YtkablhamnepfnaaGreatDoor
namespace Go.Proofs.YtkablhamnepfnaaGreatDoor
open Go.RowKit
theorem rise_ref {x y : Int} {k : Option Int} (hno : ∀ d, subO (some x) (some y) = some d → ¬ 0 ≤ d) : riseO (some x) (some y) k = (match k with | some m => if x ≤ m then sum3 (subO (some m) (some y)) (some x) (some 1000000) else none | none => none) := by
  unfold riseO
  simp only []
  cases hs : subO (some x) (some y) with
  | none => cases k <;> rfl
  | some d =>
    simp only [if_neg (hno d hs)]
    cases k <;> rfl
theorem rise_none2 (v k : Option Int) : riseO v none k = none := by cases v <;> rfl
theorem sub_none2 (v : Option Int) : subO v none = none := by cases v <;> rfl
set_option maxHeartbeats 16000000 in
set_option maxRecDepth 100000 in
theorem ahead1_any (w : World) (S : Ser) (sv : Value) (h : ERow valE w sv S.vals) (hall : S.vals.all (fun p => isR p.1 p.2) = true) (hl : S.vals.length ≤ 131072) (j : Nat) (hj : j < S.vals.length) : Calls Tryz.prog 50 #[sv, .int .i64 (j : Int)] w fun e w' => e = .returned (valV (atO S.opts ((j : Int) - 1))) ∧ w.grownBy w' none := by
  have HG := G.refl w none
  have HV := Lib.hid h
  obtain ⟨A, c, rfl, -, -, q3⟩ := h
  obtain ⟨b, o, rfl, hbl, hc⟩ := q3 (by omega)
  have HC := Lib.hid (fun (m : Nat) (hm : m < S.vals.length) (wr : World) (hg : w.grownBy wr none) => rowCells hall hc hg hbl hm)
  clear hc q3
  by_cases h0 : j = 0
  · subst h0
    rw [show atO S.opts (((0 : Nat) : Int) - 1) = none from if_neg (by omega)]
    go_enter Tryz.func50, Tryz.ntmps50
    go_upto_region 0 with (fail)
    go_cut [4] (fun p4 wc => p4 = .pointer (some ⟨w.heap.size, 0, none⟩) ∧ w.grownBy wc none ∧ Hx wc w.heap.size [.bool false, .int .i64 0] 28)
    case first =>
      go_wp2_with fail
      go_meet
      exact ⟨rfl, (by exact G.go HG), Hx.new _ _ _⟩
    obtain ⟨rfl, HG, hr⟩ := hcut
    rename World => wx
    have hr_0 := hr.cell 0; have hr_1 := hr.cell 1; have hr_f0 := hr.free 0; have hr_f1 := hr.free 1; have hr_l := hr.lt
    go_wp2_with fail
    refine ret_cell [.bool false, .int .i64 0] w.heap.size 28 rfl rfl (Tryz.isAgg28 _) (Tryz.sizeOf28 _) rfl ?_ ⟨by rfl, (by exact G.go HG)⟩
    exact (by first | exact Hx.go hr | exact Hx.go2)
  obtain ⟨m, rfl⟩ : ∃ m, j = m + 1 := ⟨j - 1, by omega⟩
  have hat : atO S.opts (((m + 1 : Nat) : Int) - 1) = S.opts.getD m none := by
    rw [show ((m + 1 : Nat) : Int) - 1 = (m : Int) by omega, atO_nat]
  rw [hat]
  obtain ⟨y, hY⟩ : ∃ y, Hid (S.opts.getD m none = y) := ⟨_, Lib.hid rfl⟩
  rw [hY.out]
  have hwr : IntKind.i64.wrap (((m + 1 : Nat) : Int) - 1) = (m : Int) := by rw [IntKind.wrap_i64]; omega
  have hne : ¬ (((m + 1 : Nat) : Int) = 0) := by omega
  go_enter Tryz.func50, Tryz.ntmps50
  go_upto_region 0 with (fail)
  go_cut [4] (fun p4 wc => p4 = .pointer (some ⟨w.heap.size, 0, none⟩) ∧ w.grownBy wc none ∧ Hx wc w.heap.size [.bool false, .int .i64 0] 28)
  case first =>
    go_wp2_with fail
    go_meet
    exact ⟨rfl, (by exact G.go HG), Hx.new _ _ _⟩
  obtain ⟨rfl, HG, hr⟩ := hcut
  rename World => wx
  obtain ⟨y0, y1⟩ := HC.out m (by omega) _ HG
  rw [hY.out] at y0 y1
  have hr_0 := hr.cell 0; have hr_1 := hr.cell 1; have hr_f0 := hr.free 0; have hr_f1 := hr.free 1; have hr_l := hr.lt
  go_wp2_with fail
  refine ret_cell [.bool (vB y), .int .i64 (vN y)] w.heap.size 28 rfl rfl (Tryz.isAgg28 _) (Tryz.sizeOf28 _) rfl ?_ ⟨by rw [valV_form], (by exact G.go HG)⟩
  exact (by first | exact Hx.go hr | exact Hx.go2)
set_option maxHeartbeats 16000000 in
set_option maxRecDepth 100000 in
theorem rise1_any (w : World) (va vb : Option Int) (hfa : Fits va) (hfb : Fits vb) (kb : Bool) (kn : Int) : Calls Tryz.prog 51 #[.agg #[.bool (vB va), .int .i64 (vN va)], .agg #[.bool (vB vb), .int .i64 (vN vb)], .agg #[.bool kb, .int .i64 kn]] w fun e w' => e = .returned (valV (riseO va vb (vK kb kn))) ∧ w.grownBy w' none := by
  have HG := G.refl w none
  obtain ⟨V, hV⟩ : ∃ V, Hid (riseO va vb (vK kb kn) = V) := ⟨_, Lib.hid rfl⟩
  rw [hV.out]
  have hvv := Lib.hid (valV_form V)
  have HS := Lib.hid (fun w2 => sub1_any w2 (vB va) (vB vb) (vN va) (vN vb))
  rw [vK_form hfa, vK_form hfb] at HS
  obtain ⟨D, hD⟩ : ∃ D, Hid (subO va vb = D) := ⟨_, Lib.hid rfl⟩
  rw [hD.out, valV_form] at HS
  go_enter Tryz.func51, Tryz.ntmps51
  go_upto_region 0 with (fail)
  go_cut [3, 4, 5, 6] (fun p3 p4 p5 p6 wc => p3 = .pointer (some ⟨w.heap.size, 0, none⟩) ∧ p4 = .pointer (some ⟨(w.heap.size + 1), 0, none⟩) ∧ p5 = .pointer (some ⟨(w.heap.size + 1 + 1), 0, none⟩) ∧ p6 = .pointer (some ⟨(w.heap.size + 1 + 1 + 1), 0, none⟩) ∧ w.grownBy wc none ∧ Hx wc w.heap.size [.bool (vB va), .int .i64 (vN va)] 28 ∧ Hx wc (w.heap.size + 1) [.bool (vB vb), .int .i64 (vN vb)] 28 ∧ Hx wc (w.heap.size + 1 + 1) [.bool kb, .int .i64 kn] 28 ∧ Hx wc (w.heap.size + 1 + 1 + 1) [.bool false, .int .i64 0] 28)
  case first =>
    go_wp2_with fail
    go_meet
    exact ⟨rfl, rfl, rfl, rfl, (by exact G.go HG), Hx.alloc (Hx.alloc (Hx.alloc (Hx.new _ _ _) _) _) _, Hx.alloc (Hx.alloc (Hx.new' (by first | (simp; done) | rfl) rfl) _) _, Hx.alloc (Hx.new' (by first | (simp; done) | rfl) rfl) _, Hx.new' (by first | (simp; done) | rfl) rfl⟩
  obtain ⟨rfl, rfl, rfl, rfl, HG, ha, hb, hk, hr⟩ := hcut
  rename World => wx
  have ha_0 := ha.cell 0; have ha_1 := ha.cell 1; have ha_f0 := ha.free 0; have ha_f1 := ha.free 1; have ha_l := ha.lt; have hb_0 := hb.cell 0; have hb_1 := hb.cell 1; have hb_f0 := hb.free 0; have hb_f1 := hb.free 1; have hb_l := hb.lt
  go_upto_region 1 with (fail)
  go_cut [3, 4, 5, 6, 7] (fun p3 p4 p5 p6 p7 wd => ∃ O, p3 = .pointer (some ⟨w.heap.size, 0, none⟩) ∧ p4 = .pointer (some ⟨(w.heap.size + 1), 0, none⟩) ∧ p5 = .pointer (some ⟨(w.heap.size + 1 + 1), 0, none⟩) ∧ p6 = .pointer (some ⟨(w.heap.size + 1 + 1 + 1), 0, none⟩) ∧ p7 = .pointer (some ⟨O, 0, none⟩) ∧ (w.heap.size + 1 + 1 + 1) < O ∧ w.grownBy wd none ∧ Hx wd w.heap.size [.bool (vB va), .int .i64 (vN va)] 28 ∧ Hx wd (w.heap.size + 1) [.bool (vB vb), .int .i64 (vN vb)] 28 ∧ Hx wd (w.heap.size + 1 + 1) [.bool kb, .int .i64 kn] 28 ∧ Hx wd (w.heap.size + 1 + 1 + 1) [.bool false, .int .i64 0] 28 ∧ Hx wd O [.bool (vB D), .int .i64 (vN D)] 28)
  case first =>
    go_wp2_with (go_at_call 49; (with_reducible refine (HS.out _).mono ?_); rintro e wn ⟨rfl, hgn⟩; replace HG := G.trans (w := w) (by exact G.go HG) hgn; replace ha := Hx.kept (by first | exact Hx.go ha | exact Hx.go2) hgn (by simp); have ha_0 := ha.cell 0; have ha_1 := ha.cell 1; have ha_f0 := ha.free 0; have ha_f1 := ha.free 1; have ha_l := ha.lt; replace hb := Hx.kept (by first | exact Hx.go hb | exact Hx.go2) hgn (by simp); have hb_0 := hb.cell 0; have hb_1 := hb.cell 1; have hb_f0 := hb.free 0; have hb_f1 := hb.free 1; have hb_l := hb.lt; replace hk := Hx.kept (by first | exact Hx.go hk | exact Hx.go2) hgn (by simp); have hk_0 := hk.cell 0; have hk_1 := hk.cell 1; have hk_f0 := hk.free 0; have hk_f1 := hk.free 1; have hk_l := hk.lt; replace hr := Hx.kept (by first | exact Hx.go hr | exact Hx.go2) hgn (by simp); have hr_0 := hr.cell 0; have hr_1 := hr.cell 1; have hr_f0 := hr.free 0; have hr_f1 := hr.free 1; have hr_l := hr.lt; clear hgn)
    go_meet
    exact ⟨_, rfl, rfl, rfl, rfl, rfl, hr_l, (by exact G.go HG), (by first | exact Hx.go ha | exact Hx.go2), (by first | exact Hx.go hb | exact Hx.go2), (by first | exact Hx.go hk | exact Hx.go2), (by first | exact Hx.go hr | exact Hx.go2), (by first | exact Hx.go hr | exact Hx.go2)⟩
  clear ha_0 ha_1 ha_f0 ha_f1 ha_l hb_0 hb_1 hb_f0 hb_f1 hb_l
  obtain ⟨O, rfl, rfl, rfl, rfl, rfl, hO, HG, ha, hb, hk, hr, hd⟩ := hcut
  clear HS
  rename World => wy
  have hn3 : ¬ (w.heap.size + 1 + 1 + 1) = O := by omega
  cases va with
  | none =>
    have hfin : Hid (V = none) := Lib.hid (by rw [← hV.out]; rfl)
    obtain rfl : D = none := hD.out.symm
    have ha : Hx wy w.heap.size [.bool false, .int .i64 0] 28 := ha
    have hd : Hx wy O [.bool false, .int .i64 0] 28 := hd
    have ha_0 := ha.cell 0; have ha_1 := ha.cell 1; have ha_f0 := ha.free 0; have ha_f1 := ha.free 1; have ha_l := ha.lt; have hr_0 := hr.cell 0; have hr_1 := hr.cell 1; have hr_f0 := hr.free 0; have hr_f1 := hr.free 1; have hr_l := hr.lt; have hd_0 := hd.cell 0; have hd_1 := hd.cell 1; have hd_f0 := hd.free 0; have hd_f1 := hd.free 1; have hd_l := hd.lt
    go_wp2_with fail
    refine ret_cell [.bool false, .int .i64 0] (w.heap.size + 1 + 1 + 1) 28 rfl rfl (Tryz.isAgg28 _) (Tryz.sizeOf28 _) rfl ?_ ⟨by rw [hfin.out]; rfl, (by exact G.go HG)⟩
    exact (by first | exact Hx.go hr | exact Hx.go2)
  | some x =>
    cases vb with
    | none =>
      have hfin : Hid (V = none) := Lib.hid (by rw [← hV.out]; exact rise_none2 _ _)
      obtain rfl : D = none := hD.out.symm.trans (sub_none2 _)
      have ha : Hx wy w.heap.size [.bool true, .int .i64 x] 28 := ha
      have hb : Hx wy (w.heap.size + 1) [.bool false, .int .i64 0] 28 := hb
      have hd : Hx wy O [.bool false, .int .i64 0] 28 := hd
      have ha_0 := ha.cell 0; have ha_1 := ha.cell 1; have ha_f0 := ha.free 0; have ha_f1 := ha.free 1; have ha_l := ha.lt; have hb_0 := hb.cell 0; have hb_1 := hb.cell 1; have hb_f0 := hb.free 0; have hb_f1 := hb.free 1; have hb_l := hb.lt; have hr_0 := hr.cell 0; have hr_1 := hr.cell 1; have hr_f0 := hr.free 0; have hr_f1 := hr.free 1; have hr_l := hr.lt; have hd_0 := hd.cell 0; have hd_1 := hd.cell 1; have hd_f0 := hd.free 0; have hd_f1 := hd.free 1; have hd_l := hd.lt
      go_wp2_with fail
      refine ret_cell [.bool false, .int .i64 0] (w.heap.size + 1 + 1 + 1) 28 rfl rfl (Tryz.isAgg28 _) (Tryz.sizeOf28 _) rfl ?_ ⟨by rw [hfin.out]; rfl, (by exact G.go HG)⟩
      exact (by first | exact Hx.go hr | exact Hx.go2)
    | some y =>
      have ha : Hx wy w.heap.size [.bool true, .int .i64 x] 28 := ha
      have hb : Hx wy (w.heap.size + 1) [.bool true, .int .i64 y] 28 := hb
      obtain ⟨bd, hbd⟩ : ∃ bd, Hid ((vB D && decide (0 ≤ vN D)) = bd) := ⟨_, Lib.hid rfl⟩
      go_upto_region 2 with (fail)
      go_cut [3, 4, 5, 6, 7, 27] (fun p3 p4 p5 p6 p7 p27 wd => p3 = .pointer (some ⟨w.heap.size, 0, none⟩) ∧ p4 = .pointer (some ⟨(w.heap.size + 1), 0, none⟩) ∧ p5 = .pointer (some ⟨(w.heap.size + 1 + 1), 0, none⟩) ∧ p6 = .pointer (some ⟨(w.heap.size + 1 + 1 + 1), 0, none⟩) ∧ p7 = .pointer (some ⟨O, 0, none⟩) ∧ p27 = .bool bd ∧ wy.grownBy wd none)
      case first =>
        have HGz := G.refl wy none
        cases D with
        | none =>
          obtain rfl : bd = false := hbd.out.symm
          have hd : Hx wy O [.bool false, .int .i64 0] 28 := hd
          have ha_0 := ha.cell 0; have ha_1 := ha.cell 1; have ha_f0 := ha.free 0; have ha_f1 := ha.free 1; have ha_l := ha.lt; have hb_0 := hb.cell 0; have hb_1 := hb.cell 1; have hb_f0 := hb.free 0; have hb_f1 := hb.free 1; have hb_l := hb.lt; have hd_0 := hd.cell 0; have hd_1 := hd.cell 1; have hd_f0 := hd.free 0; have hd_f1 := hd.free 1; have hd_l := hd.lt
          go_wp2_with fail
          go_meet
          exact ⟨rfl, rfl, rfl, rfl, rfl, rfl, (by exact G.go HGz)⟩
        | some d =>
          have hd : Hx wy O [.bool true, .int .i64 d] 28 := hd
          have ha_0 := ha.cell 0; have ha_1 := ha.cell 1; have ha_f0 := ha.free 0; have ha_f1 := ha.free 1; have ha_l := ha.lt; have hb_0 := hb.cell 0; have hb_1 := hb.cell 1; have hb_f0 := hb.free 0; have hb_f1 := hb.free 1; have hb_l := hb.lt; have hd_0 := hd.cell 0; have hd_1 := hd.cell 1; have hd_f0 := hd.free 0; have hd_f1 := hd.free 1; have hd_l := hd.lt
          have hbe : decide (0 ≤ d) = bd := hbd.out
          clear hbd
          go_wp2_with fail
          go_meet
          exact ⟨rfl, rfl, rfl, rfl, rfl, by first | rfl | (simp [hbe]; done) | (rw [← hbe]; simp), (by exact G.go HGz)⟩
      obtain ⟨rfl, rfl, rfl, rfl, rfl, rfl, hgz⟩ := hcut
      replace HG := G.trans HG hgz
      replace hr := Hx.kept hr hgz (by simp)
      replace hk := Hx.kept hk hgz (by simp)
      replace ha := Hx.kept ha hgz (by simp)
      replace hb := Hx.kept hb hgz (by simp)
      replace hd := Hx.kept hd hgz (by simp)
      clear hgz
      rename World => wq
      cases bd
      rotate_left
      · obtain ⟨d, rfl⟩ : ∃ d, D = some d := by
          cases D with
          | none => exact absurd hbd.out (by simp [vB])
          | some d => exact ⟨d, rfl⟩
        have hd0 : 0 ≤ d := of_decide_eq_true (show decide (0 ≤ d) = true from hbd.out)
        have hfin : Hid (V = some d) := Lib.hid (by rw [← hV.out]; exact rise_hit hD.out hd0)
        have hd : Hx wq O [.bool true, .int .i64 d] 28 := hd
        have hr_0 := hr.cell 0; have hr_1 := hr.cell 1; have hr_f0 := hr.free 0; have hr_f1 := hr.free 1; have hr_l := hr.lt; have hd_0 := hd.cell 0; have hd_1 := hd.cell 1; have hd_f0 := hd.free 0; have hd_f1 := hd.free 1; have hd_l := hd.lt
        go_wp2_with fail
        refine ret_cell [.bool true, .int .i64 d] (w.heap.size + 1 + 1 + 1) 28 rfl rfl (Tryz.isAgg28 _) (Tryz.sizeOf28 _) rfl ?_ ⟨by rw [hfin.out]; rfl, (by exact G.go HG)⟩
        exact (by first | exact Hx.go hr | exact Hx.go2)
      have hno : ∀ d, subO (some x) (some y) = some d → ¬ 0 ≤ d := by
        intro d e h0
        rw [hD.out] at e
        subst e
        have h1 : decide (0 ≤ d) = false := hbd.out
        exact of_decide_eq_false h1 h0
      have hV2 := hV.out
      rw [rise_ref hno] at hV2
      clear hbd hd hno hD hV
      have HK := Lib.hid (fun w => known1_any w kb kn)
      have k1 := @vK_some kb kn
      have k3 := @vK_none kb kn
      generalize (kb && isR kb kn) = kk at *
      have K1 := Lib.hid k1; have K3 := Lib.hid k3
      clear k1 k3
      cases kk
      · have hfin : Hid (V = none) := Lib.hid (by rw [← hV2, K3.out rfl])
        have hk_0 := hk.cell 0; have hk_1 := hk.cell 1; have hk_f0 := hk.free 0; have hk_f1 := hk.free 1; have hk_l := hk.lt; have hr_0 := hr.cell 0; have hr_1 := hr.cell 1; have hr_f0 := hr.free 0; have hr_f1 := hr.free 1; have hr_l := hr.lt; have ha_0 := ha.cell 0; have ha_1 := ha.cell 1; have ha_f0 := ha.free 0; have ha_f1 := ha.free 1; have ha_l := ha.lt; have hb_0 := hb.cell 0; have hb_1 := hb.cell 1; have hb_f0 := hb.free 0; have hb_f1 := hb.free 1; have hb_l := hb.lt
        go_wp2_with (go_at_call 88; (with_reducible refine (HK.out _).mono ?_); rintro e wn ⟨rfl, hgn⟩; replace HG := G.trans (w := w) (by exact G.go HG) hgn; replace ha := Hx.kept (by first | exact Hx.go ha | exact Hx.go2) hgn (by simp); have ha_0 := ha.cell 0; have ha_1 := ha.cell 1; have ha_f0 := ha.free 0; have ha_f1 := ha.free 1; have ha_l := ha.lt; replace hb := Hx.kept (by first | exact Hx.go hb | exact Hx.go2) hgn (by simp); have hb_0 := hb.cell 0; have hb_1 := hb.cell 1; have hb_f0 := hb.free 0; have hb_f1 := hb.free 1; have hb_l := hb.lt; replace hk := Hx.kept (by first | exact Hx.go hk | exact Hx.go2) hgn (by simp); have hk_0 := hk.cell 0; have hk_1 := hk.cell 1; have hk_f0 := hk.free 0; have hk_f1 := hk.free 1; have hk_l := hk.lt; replace hr := Hx.kept (by first | exact Hx.go hr | exact Hx.go2) hgn (by simp); have hr_0 := hr.cell 0; have hr_1 := hr.cell 1; have hr_f0 := hr.free 0; have hr_f1 := hr.free 1; have hr_l := hr.lt; clear hgn)
        refine ret_cell [.bool false, .int .i64 0] (w.heap.size + 1 + 1 + 1) 28 rfl rfl (Tryz.isAgg28 _) (Tryz.sizeOf28 _) rfl ?_ ⟨by rw [hfin.out]; rfl, (by exact G.go HG)⟩
        exact (by first | exact Hx.go hr | exact Hx.go2)
      obtain ⟨va, rfl, a1, a2⟩ := K1.out rfl
      rw [va] at hV2
      have hV3 : (if x ≤ kn then sum3 (subO (some kn) (some y)) (some x) (some 1000000) else none) = V := hV2
      clear hV2 K1 K3
      by_cases hxm : x ≤ kn
      rotate_left
      · have hfin : Hid (V = none) := Lib.hid (by rw [← hV3, if_neg hxm])
        have hlm : decide (x ≤ kn) = false := decide_eq_false hxm
        have hk_0 := hk.cell 0; have hk_1 := hk.cell 1; have hk_f0 := hk.free 0; have hk_f1 := hk.free 1; have hk_l := hk.lt; have hr_0 := hr.cell 0; have hr_1 := hr.cell 1; have hr_f0 := hr.free 0; have hr_f1 := hr.free 1; have hr_l := hr.lt; have ha_0 := ha.cell 0; have ha_1 := ha.cell 1; have ha_f0 := ha.free 0; have ha_f1 := ha.free 1; have ha_l := ha.lt; have hb_0 := hb.cell 0; have hb_1 := hb.cell 1; have hb_f0 := hb.free 0; have hb_f1 := hb.free 1; have hb_l := hb.lt
        go_wp2_with (go_at_call 88; (with_reducible refine (HK.out _).mono ?_); rintro e wn ⟨rfl, hgn⟩; replace HG := G.trans (w := w) (by exact G.go HG) hgn; replace ha := Hx.kept (by first | exact Hx.go ha | exact Hx.go2) hgn (by simp); have ha_0 := ha.cell 0; have ha_1 := ha.cell 1; have ha_f0 := ha.free 0; have ha_f1 := ha.free 1; have ha_l := ha.lt; replace hb := Hx.kept (by first | exact Hx.go hb | exact Hx.go2) hgn (by simp); have hb_0 := hb.cell 0; have hb_1 := hb.cell 1; have hb_f0 := hb.free 0; have hb_f1 := hb.free 1; have hb_l := hb.lt; replace hk := Hx.kept (by first | exact Hx.go hk | exact Hx.go2) hgn (by simp); have hk_0 := hk.cell 0; have hk_1 := hk.cell 1; have hk_f0 := hk.free 0; have hk_f1 := hk.free 1; have hk_l := hk.lt; replace hr := Hx.kept (by first | exact Hx.go hr | exact Hx.go2) hgn (by simp); have hr_0 := hr.cell 0; have hr_1 := hr.cell 1; have hr_f0 := hr.free 0; have hr_f1 := hr.free 1; have hr_l := hr.lt; clear hgn)
        refine ret_cell [.bool false, .int .i64 0] (w.heap.size + 1 + 1 + 1) 28 rfl rfl (Tryz.isAgg28 _) (Tryz.sizeOf28 _) rfl ?_ ⟨by rw [hfin.out]; rfl, (by exact G.go HG)⟩
        exact (by first | exact Hx.go hr | exact Hx.go2)
      rw [if_pos hxm] at hV3
      have hlm : decide (x ≤ kn) = true := decide_eq_true hxm
      have HS := Lib.hid (fun w2 => sub1_any w2 true true kn y)
      rw [show vK true kn = some kn from va, show vK true y = some y from vK_form hfb] at HS
      have hsf := subO_fits (some kn) (some y)
      obtain ⟨Q, hQ⟩ : ∃ Q, Hid (subO (some kn) (some y) = Q) := ⟨_, Lib.hid rfl⟩
      rw [hQ.out] at HS hV3 hsf
      rw [valV_form] at HS
      have HI := Lib.hid (fun w2 => int1_any w2 1)
      rw [intO_small (by omega)] at HI
      simp only [valV, valC, Int.one_mul] at HI
      have HAd := Lib.hid (fun v w2 h => add1_any [(vB Q, vN Q), (true, x), (true, 1000000)] v w2 h (by simp))
      rw [show addO [(vB Q, vN Q), (true, x), (true, 1000000)] = V from (add3_fit Q (some x) (some 1000000) hsf hfa (fits_some (by omega))).trans hV3, valV_form] at HAd
      clear hV3 hQ hsf va
      go_upto_region 4 with (fail)
      go_cut [3, 4, 5, 6, 37] (fun p3 p4 p5 p6 p37 wd => p3 = .pointer (some ⟨w.heap.size, 0, none⟩) ∧ p4 = .pointer (some ⟨(w.heap.size + 1), 0, none⟩) ∧ p5 = .pointer (some ⟨(w.heap.size + 1 + 1), 0, none⟩) ∧ p6 = .pointer (some ⟨(w.heap.size + 1 + 1 + 1), 0, none⟩) ∧ p37 = .bool true ∧ w.grownBy wd none ∧ Hx wd w.heap.size [.bool true, .int .i64 x] 28 ∧ Hx wd (w.heap.size + 1) [.bool true, .int .i64 y] 28 ∧ Hx wd (w.heap.size + 1 + 1) [.bool true, .int .i64 kn] 28 ∧ Hx wd (w.heap.size + 1 + 1 + 1) [.bool false, .int .i64 0] 28)
      case first =>
        have hk_0 := hk.cell 0; have hk_1 := hk.cell 1; have hk_f0 := hk.free 0; have hk_f1 := hk.free 1; have hk_l := hk.lt; have hr_0 := hr.cell 0; have hr_1 := hr.cell 1; have hr_f0 := hr.free 0; have hr_f1 := hr.free 1; have hr_l := hr.lt; have ha_0 := ha.cell 0; have ha_1 := ha.cell 1; have ha_f0 := ha.free 0; have ha_f1 := ha.free 1; have ha_l := ha.lt; have hb_0 := hb.cell 0; have hb_1 := hb.cell 1; have hb_f0 := hb.free 0; have hb_f1 := hb.free 1; have hb_l := hb.lt
        go_wp2_with (go_at_call 88; (with_reducible refine (HK.out _).mono ?_); rintro e wn ⟨rfl, hgn⟩; replace HG := G.trans (w := w) (by exact G.go HG) hgn; replace ha := Hx.kept (by first | exact Hx.go ha | exact Hx.go2) hgn (by simp); have ha_0 := ha.cell 0; have ha_1 := ha.cell 1; have ha_f0 := ha.free 0; have ha_f1 := ha.free 1; have ha_l := ha.lt; replace hb := Hx.kept (by first | exact Hx.go hb | exact Hx.go2) hgn (by simp); have hb_0 := hb.cell 0; have hb_1 := hb.cell 1; have hb_f0 := hb.free 0; have hb_f1 := hb.free 1; have hb_l := hb.lt; replace hk := Hx.kept (by first | exact Hx.go hk | exact Hx.go2) hgn (by simp); have hk_0 := hk.cell 0; have hk_1 := hk.cell 1; have hk_f0 := hk.free 0; have hk_f1 := hk.free 1; have hk_l := hk.lt; replace hr := Hx.kept (by first | exact Hx.go hr | exact Hx.go2) hgn (by simp); have hr_0 := hr.cell 0; have hr_1 := hr.cell 1; have hr_f0 := hr.free 0; have hr_f1 := hr.free 1; have hr_l := hr.lt; clear hgn)
        go_meet
        exact ⟨rfl, rfl, rfl, rfl, by first | rfl | (simp [hxm]; done), (by exact G.go HG), (by first | exact Hx.go ha | exact Hx.go2), (by first | exact Hx.go hb | exact Hx.go2), (by first | exact Hx.go hk | exact Hx.go2), (by first | exact Hx.go hr | exact Hx.go2)⟩
      obtain ⟨rfl, rfl, rfl, rfl, rfl, HG, ha, hb, hk, hr⟩ := hcut
      rename World => wu
      go_upto_region 5 with (fail)
      refine wp_region_rel (n := 7) (S := [fun v _ => v = .agg #[.bool true, .int .i64 kn], fun v _ => v = .agg #[.bool true, .int .i64 y], fun v _ => v = .agg #[.bool (vB Q), .int .i64 (vN Q)], fun v _ => v = .agg #[.bool true, .int .i64 x], fun v _ => v = .agg #[.bool true, .int .i64 1000000], fun v w => ∃ Z, v = .slice (some ⟨Z, 0, none⟩) 3 3 ∧ Hx w Z [.bool (vB Q), .int .i64 (vN Q), .bool true, .int .i64 x, .bool true, .int .i64 1000000] 28, fun v _ => v = .agg #[.bool (vB V), .int .i64 (vN V)]]) (G.refl _ none) (by kernel_rfl) (by kernel_rfl) ?_ ?_ ?_
      · intro i v y1 y2 hg12 hS
        match i, hS with
        | 0, h => exact h
        | 1, h => exact h
        | 2, h => exact h
        | 3, h => exact h
        | 4, h => exact h
        | 5, h => exact (let ⟨Z, e1, e2⟩ := h; ⟨Z, e1, e2.kept hg12 (by simp)⟩)
        | 6, h => exact h
        | k + 7, h => exact trivial
      · simp only [List.take_succ_cons, List.take_zero, relOps]
        refine ⟨fun VV y1 hg1 hV => ?_, fun VV y1 hg1 hV => ?_, fun VV y1 hg1 hV => ?_, fun VV y1 hg1 hV => ?_, fun VV y1 hg1 hV => ?_, fun VV y1 hg1 hV => ?_, fun VV y1 hg1 hV => ?_, trivial⟩
        · clear hV
          replace hk := Hx.kept hk hg1 (by simp); replace ha := Hx.kept ha hg1 (by simp); replace hb := Hx.kept hb hg1 (by simp); replace hr := Hx.kept hr hg1 (by simp); have hk_0 := hk.cell 0; have hk_1 := hk.cell 1; have hk_f0 := hk.free 0; have hk_f1 := hk.free 1; have hk_l := hk.lt; have ha_0 := ha.cell 0; have ha_1 := ha.cell 1; have ha_f0 := ha.free 0; have ha_f1 := ha.free 1; have ha_l := ha.lt; have hb_0 := hb.cell 0; have hb_1 := hb.cell 1; have hb_f0 := hb.free 0; have hb_f1 := hb.free 1; have hb_l := hb.lt; have hr_0 := hr.cell 0; have hr_1 := hr.cell 1; have hr_f0 := hr.free 0; have hr_f1 := hr.free 1; have hr_l := hr.lt
          simp only [putAll]
          go_wp2_with fail
          exact ⟨rfl, rfl, G.refl _ none, rfl⟩
        · clear hV
          replace hk := Hx.kept hk hg1 (by simp); replace ha := Hx.kept ha hg1 (by simp); replace hb := Hx.kept hb hg1 (by simp); replace hr := Hx.kept hr hg1 (by simp); have hk_0 := hk.cell 0; have hk_1 := hk.cell 1; have hk_f0 := hk.free 0; have hk_f1 := hk.free 1; have hk_l := hk.lt; have ha_0 := ha.cell 0; have ha_1 := ha.cell 1; have ha_f0 := ha.free 0; have ha_f1 := ha.free 1; have ha_l := ha.lt; have hb_0 := hb.cell 0; have hb_1 := hb.cell 1; have hb_f0 := hb.free 0; have hb_f1 := hb.free 1; have hb_l := hb.lt; have hr_0 := hr.cell 0; have hr_1 := hr.cell 1; have hr_f0 := hr.free 0; have hr_f1 := hr.free 1; have hr_l := hr.lt
          simp only [putAll]
          go_wp2_with fail
          exact ⟨rfl, rfl, G.refl _ none, rfl⟩
        · have e0 := hV 0 (by kernel_rfl); have e1 := hV 1 (by kernel_rfl); clear hV
          replace hk := Hx.kept hk hg1 (by simp); replace ha := Hx.kept ha hg1 (by simp); replace hb := Hx.kept hb hg1 (by simp); replace hr := Hx.kept hr hg1 (by simp); have hk_0 := hk.cell 0; have hk_1 := hk.cell 1; have hk_f0 := hk.free 0; have hk_f1 := hk.free 1; have hk_l := hk.lt; have ha_0 := ha.cell 0; have ha_1 := ha.cell 1; have ha_f0 := ha.free 0; have ha_f1 := ha.free 1; have ha_l := ha.lt; have hb_0 := hb.cell 0; have hb_1 := hb.cell 1; have hb_f0 := hb.free 0; have hb_f1 := hb.free 1; have hb_l := hb.lt; have hr_0 := hr.cell 0; have hr_1 := hr.cell 1; have hr_f0 := hr.free 0; have hr_f1 := hr.free 1; have hr_l := hr.lt
          simp only [atS, List.getD_cons_succ, List.getD_cons_zero] at e0 e1
          simp only [putAll, e0, e1]
          go_wp2_with (go_at_call 49; (with_reducible refine (HS.out _).mono ?_); rintro e wn ⟨rfl, hgn⟩)
          exact ⟨rfl, rfl, hgn, rfl⟩
        · clear hV
          replace hk := Hx.kept hk hg1 (by simp); replace ha := Hx.kept ha hg1 (by simp); replace hb := Hx.kept hb hg1 (by simp); replace hr := Hx.kept hr hg1 (by simp); have hk_0 := hk.cell 0; have hk_1 := hk.cell 1; have hk_f0 := hk.free 0; have hk_f1 := hk.free 1; have hk_l := hk.lt; have ha_0 := ha.cell 0; have ha_1 := ha.cell 1; have ha_f0 := ha.free 0; have ha_f1 := ha.free 1; have ha_l := ha.lt; have hb_0 := hb.cell 0; have hb_1 := hb.cell 1; have hb_f0 := hb.free 0; have hb_f1 := hb.free 1; have hb_l := hb.lt; have hr_0 := hr.cell 0; have hr_1 := hr.cell 1; have hr_f0 := hr.free 0; have hr_f1 := hr.free 1; have hr_l := hr.lt
          simp only [putAll]
          go_wp2_with fail
          exact ⟨rfl, rfl, G.refl _ none, rfl⟩
        · clear hV
          replace hk := Hx.kept hk hg1 (by simp); replace ha := Hx.kept ha hg1 (by simp); replace hb := Hx.kept hb hg1 (by simp); replace hr := Hx.kept hr hg1 (by simp); have hk_0 := hk.cell 0; have hk_1 := hk.cell 1; have hk_f0 := hk.free 0; have hk_f1 := hk.free 1; have hk_l := hk.lt; have ha_0 := ha.cell 0; have ha_1 := ha.cell 1; have ha_f0 := ha.free 0; have ha_f1 := ha.free 1; have ha_l := ha.lt; have hb_0 := hb.cell 0; have hb_1 := hb.cell 1; have hb_f0 := hb.free 0; have hb_f1 := hb.free 1; have hb_l := hb.lt; have hr_0 := hr.cell 0; have hr_1 := hr.cell 1; have hr_f0 := hr.free 0; have hr_f1 := hr.free 1; have hr_l := hr.lt
          simp only [putAll]
          go_wp2_with (go_at_call 53; (with_reducible refine (HI.out _).mono ?_); rintro e wn ⟨rfl, hgn⟩)
          exact ⟨rfl, rfl, hgn, rfl⟩
        · have e2 := hV 2 (by kernel_rfl); have e3 := hV 3 (by kernel_rfl); have e4 := hV 4 (by kernel_rfl); clear hV
          replace hk := Hx.kept hk hg1 (by simp); replace ha := Hx.kept ha hg1 (by simp); replace hb := Hx.kept hb hg1 (by simp); replace hr := Hx.kept hr hg1 (by simp); have hk_0 := hk.cell 0; have hk_1 := hk.cell 1; have hk_f0 := hk.free 0; have hk_f1 := hk.free 1; have hk_l := hk.lt; have ha_0 := ha.cell 0; have ha_1 := ha.cell 1; have ha_f0 := ha.free 0; have ha_f1 := ha.free 1; have ha_l := ha.lt; have hb_0 := hb.cell 0; have hb_1 := hb.cell 1; have hb_f0 := hb.free 0; have hb_f1 := hb.free 1; have hb_l := hb.lt; have hr_0 := hr.cell 0; have hr_1 := hr.cell 1; have hr_f0 := hr.free 0; have hr_f1 := hr.free 1; have hr_l := hr.lt
          simp only [atS, List.getD_cons_succ, List.getD_cons_zero] at e2 e3 e4
          simp only [putAll, e2, e3, e4]
          go_wp2_with fail
          exact ⟨rfl, rfl, G.alloc (G.refl _ _) _, _, rfl, Hx.new _ _ _⟩
        · have e5 := hV 5 (by kernel_rfl); clear hV
          replace hk := Hx.kept hk hg1 (by simp); replace ha := Hx.kept ha hg1 (by simp); replace hb := Hx.kept hb hg1 (by simp); replace hr := Hx.kept hr hg1 (by simp); have hk_0 := hk.cell 0; have hk_1 := hk.cell 1; have hk_f0 := hk.free 0; have hk_f1 := hk.free 1; have hk_l := hk.lt; have ha_0 := ha.cell 0; have ha_1 := ha.cell 1; have ha_f0 := ha.free 0; have ha_f1 := ha.free 1; have ha_l := ha.lt; have hb_0 := hb.cell 0; have hb_1 := hb.cell 1; have hb_f0 := hb.free 0; have hb_f1 := hb.free 1; have hb_l := hb.lt; have hr_0 := hr.cell 0; have hr_1 := hr.cell 1; have hr_f0 := hr.free 0; have hr_f1 := hr.free 1; have hr_l := hr.lt
          simp only [atS, List.getD_cons_succ, List.getD_cons_zero] at e5
          obtain ⟨Z, e5, hZ⟩ := e5
          simp only [putAll, e5]
          go_wp2_with (go_at_call 55; (with_reducible refine (HAd.out _ _ ?_).mono ?_); (exact ERow.of_hx (ts := [(vB Q, vN Q), (true, x), (true, 1000000)]) (by simp) (by decide) hZ); rintro e wn ⟨rfl, hgn⟩)
          exact ⟨rfl, rfl, hgn, rfl⟩
      · intro VV y1 hg1 hV
        have e0 := hV 0 (by omega); have e1 := hV 1 (by omega); have e2 := hV 2 (by omega); have e3 := hV 3 (by omega); have e4 := hV 4 (by omega); have e5 := hV 5 (by omega); have e6 := hV 6 (by omega); clear hV
        simp only [atS, List.getD_cons_succ, List.getD_cons_zero] at e0 e1 e2 e3 e4 e5 e6
        simp only [List.take_succ_cons, List.take_zero, List.drop_succ_cons, List.drop_zero, putAll, e0, e1, e2, e3, e4, e6]
        replace hk := Hx.kept hk hg1 (by simp); replace ha := Hx.kept ha hg1 (by simp); replace hb := Hx.kept hb hg1 (by simp); replace hr := Hx.kept hr hg1 (by simp); have hk_0 := hk.cell 0; have hk_1 := hk.cell 1; have hk_f0 := hk.free 0; have hk_f1 := hk.free 1; have hk_l := hk.lt; have ha_0 := ha.cell 0; have ha_1 := ha.cell 1; have ha_f0 := ha.free 0; have ha_f1 := ha.free 1; have ha_l := ha.lt; have hb_0 := hb.cell 0; have hb_1 := hb.cell 1; have hb_f0 := hb.free 0; have hb_f1 := hb.free 1; have hb_l := hb.lt; have hr_0 := hr.cell 0; have hr_1 := hr.cell 1; have hr_f0 := hr.free 0; have hr_f1 := hr.free 1; have hr_l := hr.lt
        have hg2 := hg1
        replace HG := G.trans (w := w) HG hg1; clear hg1
        obtain ⟨Z, e5, hZ⟩ := e5
        simp only [e5]
        go_wp2_with fail
        refine ret_cell [.bool (vB V), .int .i64 (vN V)] (w.heap.size + 1 + 1 + 1) 28 rfl rfl (Tryz.isAgg28 _) (Tryz.sizeOf28 _) rfl ?_ ⟨by rw [hvv.out], (by exact G.go HG)⟩
        exact (by first | exact Hx.go hr | exact Hx.go2)
/-- how many in a row may be none -/
def limT (L : List (Bool × Int)) : Int := if L.length = 0 then 131072 else if wholeB (kOf L) then wholeT (kOf L) else 0
def limB (L : List (Bool × Int)) : Bool := decide (L.length = 0) || wholeB (kOf L)
theorem vK_whole {kb : Bool} {kn : Int} : wholeB (vK kb kn) = ((kb && isR kb kn) && decide (kn.tmod 1000000 = 0)) := by
  show (vB (vK kb kn) && decide ((vN (vK kb kn)).tmod 1000000 = 0)) = _
  cases hk : (kb && isR kb kn) with
  | false => rw [vK_none hk]; rfl
  | true => obtain ⟨e, -, -, -⟩ := vK_some hk; rw [e]; rfl
theorem tdiv_wrap {z : Int} (h1 : -4611686018427387904 ≤ z) (h2 : z ≤ 4611686018427387904) : IntKind.i64.wrap (z.tdiv 1000000) = z.tdiv 1000000 := by
  have := wholeT_range (k := some z) (fits_some ⟨h1, h2⟩)
  have h : wholeT (some z) = z.tdiv 1000000 := rfl
  rw [h] at this
  rw [IntKind.wrap_i64]
  omega
set_option maxHeartbeats 16000000 in
set_option maxRecDepth 100000 in
theorem limit1_any (w : World) (lv : Value) (L : List (Bool × Int)) (h : ERow valE w lv L) : Calls Tryz.prog 94 #[lv] w fun e w' => e = .returned (.tuple #[.int .i64 (limT L), .bool (limB L)]) ∧ w.grownBy w' none := by
  have HG := G.refl w none
  obtain ⟨T, hT⟩ : ∃ T, Hid (limT L = T) := ⟨_, Lib.hid rfl⟩
  obtain ⟨B, hB⟩ : ∃ B, Hid (limB L = B) := ⟨_, Lib.hid rfl⟩
  rw [hT.out, hB.out]
  obtain ⟨A, c, rfl, -, -, q3⟩ := h
  by_cases h0 : L.length = 0
  · have hf1 : Hid (T = 131072) := Lib.hid (by rw [← hT.out]; exact if_pos h0)
    have hf2 : Hid (B = true) := Lib.hid (by rw [← hB.out]; unfold limB; rw [decide_eq_true h0]; rfl)
    clear hT hB q3
    go_enter Tryz.func94, Tryz.ntmps94
    go_wp2_with fail
    go_ret2
    exact ⟨by rw [hf1.out, hf2.out]; rfl, (by exact G.go HG)⟩
  obtain ⟨b, o, rfl, hbl, hc⟩ := q3 (by omega)
  have hp : 0 < L.length := by omega
  have hcc := Lib.hid (fun (wr : World) (hg : w.grownBy wr none) => valCells hc hg hbl hp)
  simp only [Nat.zero_mul, Nat.add_zero] at hcc
  have hke : kOf L = vK L[0].1 L[0].2 := by cases L with | nil => simp at hp | cons p r => rfl
  have hT2 : Hid (T = if wholeB (vK L[0].1 L[0].2) then wholeT (vK L[0].1 L[0].2) else 0) := Lib.hid (by rw [← hT.out, ← hke]; exact if_neg h0)
  have hB2 : Hid (B = wholeB (vK L[0].1 L[0].2)) := Lib.hid (by rw [← hB.out, ← hke]; unfold limB; rw [decide_eq_false h0]; rfl)
  clear hT hB hc hke
  have HK := Lib.hid (fun w => known1_any w L[0].1 L[0].2)
  have hw := @vK_whole L[0].1 L[0].2
  have k1 := @vK_some L[0].1 L[0].2
  generalize L[0].1 = kb at *
  generalize L[0].2 = kn at *
  generalize (kb && isR kb kn) = kk at *
  have K1 := Lib.hid k1
  clear k1
  cases kk
  · have hf2 : Hid (B = false) := Lib.hid (by rw [hB2.out, hw]; rfl)
    have hf1 : Hid (T = 0) := Lib.hid (by rw [hT2.out, hw]; rfl)
    clear hT2 hB2 hw
    obtain ⟨x0, x1⟩ := hcc.out _ HG
    go_enter Tryz.func94, Tryz.ntmps94
    go_wp2_with (go_at_call 88; (with_reducible refine (HK.out _).mono ?_); rintro e wn ⟨rfl, hgn⟩; replace HG := G.trans (w := w) (by exact G.go HG) hgn; obtain ⟨y0, y1⟩ := hcc.out _ HG; clear hgn)
    go_ret2
    exact ⟨by rw [hf1.out, hf2.out]; rfl, (by exact G.go HG)⟩
  obtain ⟨va, rfl, a1, a2⟩ := K1.out rfl
  rw [hw] at hT2 hB2
  rw [va] at hT2
  have hwr := tdiv_wrap a1 a2
  have hT3 : Hid (T = if decide (kn.tmod 1000000 = 0) then kn.tdiv 1000000 else 0) := Lib.hid hT2.out
  have hB3 : Hid (B = decide (kn.tmod 1000000 = 0)) := Lib.hid hB2.out
  clear hT2 hB2 hw va K1
  by_cases hz : kn.tmod 1000000 = 0
  · have hf2 : Hid (B = true) := Lib.hid (by rw [hB3.out, decide_eq_true hz])
    have hf1 : Hid (T = kn.tdiv 1000000) := Lib.hid (by rw [hT3.out, decide_eq_true hz]; rfl)
    clear hT3 hB3
    obtain ⟨x0, x1⟩ := hcc.out _ HG
    go_enter Tryz.func94, Tryz.ntmps94
    go_wp2_with (go_at_call 88; (with_reducible refine (HK.out _).mono ?_); rintro e wn ⟨rfl, hgn⟩; replace HG := G.trans (w := w) (by exact G.go HG) hgn; obtain ⟨y0, y1⟩ := hcc.out _ HG; clear hgn)
    go_ret2
    exact ⟨by rw [hf1.out, hf2.out]; rfl, (by exact G.go HG)⟩
  have hf2 : Hid (B = false) := Lib.hid (by rw [hB3.out, decide_eq_false hz])
  have hf1 : Hid (T = 0) := Lib.hid (by rw [hT3.out, decide_eq_false hz]; rfl)
  clear hT3 hB3
  obtain ⟨x0, x1⟩ := hcc.out _ HG
  go_enter Tryz.func94, Tryz.ntmps94
  go_wp2_with (go_at_call 88; (with_reducible refine (HK.out _).mono ?_); rintro e wn ⟨rfl, hgn⟩; replace HG := G.trans (w := w) (by exact G.go HG) hgn; obtain ⟨y0, y1⟩ := hcc.out _ HG; clear hgn)
  go_ret2
  exact ⟨by rw [hf1.out, hf2.out]; rfl, (by exact G.go HG)⟩
end Go.Proofs.YtkablhamnepfnaaGreatDoor
