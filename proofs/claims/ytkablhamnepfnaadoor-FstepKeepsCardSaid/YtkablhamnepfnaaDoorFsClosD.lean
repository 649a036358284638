/-
  The functions on places: changed, keepLast. Printed by genfsclosd.py.
-/
import Derived.Test.YtkablhamnepfnaaDoorFsBase
import Derived.Laws.StructEq
namespace Go.Proofs.YtkablhamnepfnaaDoor
open Go.RowKit
set_option maxHeartbeats 16000000 in
set_option maxRecDepth 100000 in
theorem fchg1_any (w : World) (B : Nat) (W : FWork) (sv : Value) (hm : FAt w B W sv) (h : ERow valE w sv W.S.vals) (hall : W.S.vals.all (fun p => isR p.1 p.2) = true) (hl : W.S.vals.length ≤ 1000000) (_hf : Fits W.k) (q : Nat) (hq : Hx w q [.pointer (some ⟨B, 0, none⟩)] 42) (j : Nat) (hj : j < W.S.vals.length) : Calls Tryd.prog 34 #[.int .i64 (j : Int), .pointer (some ⟨q, 0, none⟩)] w fun e w' => e = .returned (valV (fsV 0 W.S.step W.has W.k W.S.opts j)) ∧ w.grownBy w' none := by
  have HG := G.refl w none
  have HA := Lib.hid (fun w2 (h1 : Hx w2 B [.string W.S.name, .int .i64 W.S.start, .int .i64 W.S.step, sv, .int .i64 W.S.cons, .bool (vB W.k), .int .i64 (vN W.k), .bool W.has] 44) h2 => fahead_any w2 B W sv h1 h2 hall j (by omega) hl)
  have hab := aheadI_bound W.S.opts j
  have has := aheadI_some W.S.opts j
  obtain ⟨V, hV⟩ : ∃ V, Hid (fsV 0 W.S.step W.has W.k W.S.opts j = V) := ⟨_, Lib.hid rfl⟩
  rw [hV.out]
  have hvv := Lib.hid (valV_form V)
  have hV2 : Hid (V = if (W.S.opts.getD j none).isSome && (decide (0 ≤ aheadI W.S.opts j) && !(W.S.opts.getD (aheadI W.S.opts j).toNat none == W.S.opts.getD j none)) then some 1000000 else some 0) := Lib.hid (by rw [← hV.out]; rfl)
  clear hV
  have HO := Lib.hid (fun w2 : World => fixedOf_any (w := w2) 0)
  rw [ofR_small (by omega)] at HO
  have HI := Lib.hid (fun w2 => int_any w2 1)
  rw [intO_small (by omega)] at HI
  simp only [valV, valC, Int.one_mul] at HO HI
  have HV := Lib.hid h
  obtain ⟨A, c, rfl, -, -, q3⟩ := h
  obtain ⟨b, o, rfl, hbl, hc⟩ := q3 (by omega)
  have HC := Lib.hid (fun (m : Nat) (hm : m < W.S.vals.length) (wr : World) (hg : w.grownBy wr none) => rowCells hall hc hg hbl hm)
  clear hc q3
  replace hm := hm.hx
  generalize aheadI W.S.opts j = a at *
  cases hv : W.S.opts.getD j none with
  | none =>
    have hfin : Hid (V = some 0) := Lib.hid (by rw [hV2.out, hv]; rfl)
    clear hV2
    go_enter Tryd.func34, Tryd.ntmps34
    go_upto_region 0 with (fail)
    go_cut [3] (fun p3 wc => p3 = .pointer (some ⟨w.heap.size, 0, none⟩) ∧ w.grownBy wc none ∧ Hx wc w.heap.size [.bool false, .int .i64 0] 28 ∧ Hx wc B [.string W.S.name, .int .i64 W.S.start, .int .i64 W.S.step, .slice (some ⟨b, o, none⟩) W.S.vals.length c, .int .i64 W.S.cons, .bool (vB W.k), .int .i64 (vN W.k), .bool W.has] 44 ∧ Hx wc q [.pointer (some ⟨B, 0, none⟩)] 42)
    case first =>
      go_wp2_with fail
      go_meet
      exact ⟨rfl, (by exact G.go HG), Hx.new _ _ _, Hx.alloc hm _, Hx.alloc hq _⟩
    obtain ⟨rfl, HG, hr, hm, hq⟩ := hcut
    rename World => wx
    go_upto_region 1 with (fail)
    go_cut [3, 4] (fun p3 p4 wd => p3 = .pointer (some ⟨w.heap.size, 0, none⟩) ∧ p4 = .int .i64 a ∧ w.grownBy wd none ∧ Hx wd w.heap.size [.bool false, .int .i64 0] 28 ∧ Hx wd B [.string W.S.name, .int .i64 W.S.start, .int .i64 W.S.step, .slice (some ⟨b, o, none⟩) W.S.vals.length c, .int .i64 W.S.cons, .bool (vB W.k), .int .i64 (vN W.k), .bool W.has] 44 ∧ Hx wd q [.pointer (some ⟨B, 0, none⟩)] 42)
    case first =>
      have hq_0 := hq.cell 0; have hq_f0 := hq.free 0; have hq_l := hq.lt
      go_wp2_with (go_at_call 35; (with_reducible refine (HA.out _ hm (HV.out.kept0 (by exact G.go HG))).mono ?_); rintro e wn ⟨rfl, hgn⟩; replace HG := G.trans (w := w) (by exact G.go HG) hgn; replace hr := Hx.kept (by first | exact Hx.go hr | exact Hx.go2) hgn (by simp); have hr_0 := hr.cell 0; have hr_1 := hr.cell 1; have hr_f0 := hr.free 0; have hr_f1 := hr.free 1; have hr_l := hr.lt; replace hm := Hx.kept (by first | exact Hx.go hm | exact Hx.go2) hgn (by simp); have hm_0 := hm.cell 0; have hm_1 := hm.cell 1; have hm_2 := hm.cell 2; have hm_3 := hm.cell 3; have hm_4 := hm.cell 4; have hm_5 := hm.cell 5; have hm_6 := hm.cell 6; have hm_7 := hm.cell 7; have hm_f0 := hm.free 0; have hm_f1 := hm.free 1; have hm_f2 := hm.free 2; have hm_f3 := hm.free 3; have hm_f4 := hm.free 4; have hm_f5 := hm.free 5; have hm_f6 := hm.free 6; have hm_f7 := hm.free 7; have hm_l := hm.lt; replace hq := Hx.kept (by first | exact Hx.go hq | exact Hx.go2) hgn (by simp); have hq_0 := hq.cell 0; have hq_f0 := hq.free 0; have hq_l := hq.lt; clear hgn)
      go_meet
      exact ⟨rfl, rfl, HG, hr, hm, hq⟩
    obtain ⟨rfl, rfl, HG, hr, hm, hq⟩ := hcut
    rename World => wy
    have hr_0 := hr.cell 0; have hr_1 := hr.cell 1; have hr_f0 := hr.free 0; have hr_f1 := hr.free 1; have hr_l := hr.lt; have hm_0 := hm.cell 0; have hm_1 := hm.cell 1; have hm_2 := hm.cell 2; have hm_3 := hm.cell 3; have hm_4 := hm.cell 4; have hm_5 := hm.cell 5; have hm_6 := hm.cell 6; have hm_7 := hm.cell 7; have hm_f0 := hm.free 0; have hm_f1 := hm.free 1; have hm_f2 := hm.free 2; have hm_f3 := hm.free 3; have hm_f4 := hm.free 4; have hm_f5 := hm.free 5; have hm_f6 := hm.free 6; have hm_f7 := hm.free 7; have hm_l := hm.lt; have hq_0 := hq.cell 0; have hq_f0 := hq.free 0; have hq_l := hq.lt
    obtain ⟨x0, x1⟩ := HC.out j hj _ HG
    rw [hv] at x0 x1
    have x2 : wy.cell? ⟨b, o + j * 2, none⟩ = some (.bool false) := x0
    have x3 : wy.cell? ⟨b, o + j * 2 + 1, none⟩ = some (.int .i64 0) := x1
    clear x0 x1
    go_upto_region 2 with (fail)
    go_quiet (fail)
    go_wp2_with (go_at_call 37; (with_reducible refine (HO.out _).mono ?_); rintro e wn ⟨rfl, hgn⟩; replace HG := G.trans (w := w) (by exact G.go HG) hgn; replace hr := Hx.kept (by first | exact Hx.go hr | exact Hx.go2) hgn (by simp); have hr_0 := hr.cell 0; have hr_1 := hr.cell 1; have hr_f0 := hr.free 0; have hr_f1 := hr.free 1; have hr_l := hr.lt; clear hgn)
    refine ret_cell [.bool true, .int .i64 0] w.heap.size 28 rfl rfl (Tryd.isAgg28 _) (Tryd.sizeOf28 _) rfl ?_ ⟨by rw [hfin.out]; rfl, (by exact G.go HG)⟩
    exact (by first | exact Hx.go hr | exact Hx.go2)
  | some x =>
    rw [hv] at hV2
    have hV3 : Hid (V = if (decide (0 ≤ a) && !(W.S.opts.getD a.toNat none == some x)) then some 1000000 else some 0) := Lib.hid (by rw [hV2.out]; rfl)
    clear hV2
    by_cases hneg : a < 0
    · have hd : decide (0 ≤ a) = false := decide_eq_false (by omega)
      have hfin : Hid (V = some 0) := Lib.hid (by rw [hV3.out, hd]; rfl)
      clear hV3
      go_enter Tryd.func34, Tryd.ntmps34
      go_upto_region 0 with (fail)
      go_cut [3] (fun p3 wc => p3 = .pointer (some ⟨w.heap.size, 0, none⟩) ∧ w.grownBy wc none ∧ Hx wc w.heap.size [.bool false, .int .i64 0] 28 ∧ Hx wc B [.string W.S.name, .int .i64 W.S.start, .int .i64 W.S.step, .slice (some ⟨b, o, none⟩) W.S.vals.length c, .int .i64 W.S.cons, .bool (vB W.k), .int .i64 (vN W.k), .bool W.has] 44 ∧ Hx wc q [.pointer (some ⟨B, 0, none⟩)] 42)
      case first =>
        go_wp2_with fail
        go_meet
        exact ⟨rfl, (by exact G.go HG), Hx.new _ _ _, Hx.alloc hm _, Hx.alloc hq _⟩
      obtain ⟨rfl, HG, hr, hm, hq⟩ := hcut
      rename World => wx
      go_upto_region 1 with (fail)
      go_cut [3, 4] (fun p3 p4 wd => p3 = .pointer (some ⟨w.heap.size, 0, none⟩) ∧ p4 = .int .i64 a ∧ w.grownBy wd none ∧ Hx wd w.heap.size [.bool false, .int .i64 0] 28 ∧ Hx wd B [.string W.S.name, .int .i64 W.S.start, .int .i64 W.S.step, .slice (some ⟨b, o, none⟩) W.S.vals.length c, .int .i64 W.S.cons, .bool (vB W.k), .int .i64 (vN W.k), .bool W.has] 44 ∧ Hx wd q [.pointer (some ⟨B, 0, none⟩)] 42)
      case first =>
        have hq_0 := hq.cell 0; have hq_f0 := hq.free 0; have hq_l := hq.lt
        go_wp2_with (go_at_call 35; (with_reducible refine (HA.out _ hm (HV.out.kept0 (by exact G.go HG))).mono ?_); rintro e wn ⟨rfl, hgn⟩; replace HG := G.trans (w := w) (by exact G.go HG) hgn; replace hr := Hx.kept (by first | exact Hx.go hr | exact Hx.go2) hgn (by simp); have hr_0 := hr.cell 0; have hr_1 := hr.cell 1; have hr_f0 := hr.free 0; have hr_f1 := hr.free 1; have hr_l := hr.lt; replace hm := Hx.kept (by first | exact Hx.go hm | exact Hx.go2) hgn (by simp); have hm_0 := hm.cell 0; have hm_1 := hm.cell 1; have hm_2 := hm.cell 2; have hm_3 := hm.cell 3; have hm_4 := hm.cell 4; have hm_5 := hm.cell 5; have hm_6 := hm.cell 6; have hm_7 := hm.cell 7; have hm_f0 := hm.free 0; have hm_f1 := hm.free 1; have hm_f2 := hm.free 2; have hm_f3 := hm.free 3; have hm_f4 := hm.free 4; have hm_f5 := hm.free 5; have hm_f6 := hm.free 6; have hm_f7 := hm.free 7; have hm_l := hm.lt; replace hq := Hx.kept (by first | exact Hx.go hq | exact Hx.go2) hgn (by simp); have hq_0 := hq.cell 0; have hq_f0 := hq.free 0; have hq_l := hq.lt; clear hgn)
        go_meet
        exact ⟨rfl, rfl, HG, hr, hm, hq⟩
      obtain ⟨rfl, rfl, HG, hr, hm, hq⟩ := hcut
      rename World => wy
      have hr_0 := hr.cell 0; have hr_1 := hr.cell 1; have hr_f0 := hr.free 0; have hr_f1 := hr.free 1; have hr_l := hr.lt; have hm_0 := hm.cell 0; have hm_1 := hm.cell 1; have hm_2 := hm.cell 2; have hm_3 := hm.cell 3; have hm_4 := hm.cell 4; have hm_5 := hm.cell 5; have hm_6 := hm.cell 6; have hm_7 := hm.cell 7; have hm_f0 := hm.free 0; have hm_f1 := hm.free 1; have hm_f2 := hm.free 2; have hm_f3 := hm.free 3; have hm_f4 := hm.free 4; have hm_f5 := hm.free 5; have hm_f6 := hm.free 6; have hm_f7 := hm.free 7; have hm_l := hm.lt; have hq_0 := hq.cell 0; have hq_f0 := hq.free 0; have hq_l := hq.lt
      obtain ⟨x0, x1⟩ := HC.out j hj _ HG
      rw [hv] at x0 x1
      have x2 : wy.cell? ⟨b, o + j * 2, none⟩ = some (.bool true) := x0
      have x3 : wy.cell? ⟨b, o + j * 2 + 1, none⟩ = some (.int .i64 x) := x1
      clear x0 x1
      go_upto_region 2 with (fail)
      go_quiet (fail)
      go_wp2_with (go_at_call 37; (with_reducible refine (HO.out _).mono ?_); rintro e wn ⟨rfl, hgn⟩; replace HG := G.trans (w := w) (by exact G.go HG) hgn; replace hr := Hx.kept (by first | exact Hx.go hr | exact Hx.go2) hgn (by simp); have hr_0 := hr.cell 0; have hr_1 := hr.cell 1; have hr_f0 := hr.free 0; have hr_f1 := hr.free 1; have hr_l := hr.lt; clear hgn)
      refine ret_cell [.bool true, .int .i64 0] w.heap.size 28 rfl rfl (Tryd.isAgg28 _) (Tryd.sizeOf28 _) rfl ?_ ⟨by rw [hfin.out]; rfl, (by exact G.go HG)⟩
      exact (by first | exact Hx.go hr | exact Hx.go2)
    obtain ⟨m, rfl⟩ : ∃ m : Nat, a = m := ⟨a.toNat, by omega⟩
    obtain ⟨y, hy⟩ := has (by omega)
    have hy : W.S.opts.getD m none = some y := hy
    have hml : m < W.S.vals.length := by omega
    have hd : decide (0 ≤ (m : Int)) = true := decide_eq_true (by omega)
    have hV4 : Hid (V = if !(some y == some x) then some 1000000 else some 0) := Lib.hid (by rw [hV3.out, hd, show (W.S.opts.getD (m : Int).toNat none) = some y from hy]; rfl)
    clear hV3 has
    by_cases hxy : y = x
    · subst hxy
      have hfin : Hid (V = some 0) := Lib.hid (by rw [hV4.out]; simp)
      clear hV4
      go_enter Tryd.func34, Tryd.ntmps34
      go_upto_region 0 with (fail)
      go_cut [3] (fun p3 wc => p3 = .pointer (some ⟨w.heap.size, 0, none⟩) ∧ w.grownBy wc none ∧ Hx wc w.heap.size [.bool false, .int .i64 0] 28 ∧ Hx wc B [.string W.S.name, .int .i64 W.S.start, .int .i64 W.S.step, .slice (some ⟨b, o, none⟩) W.S.vals.length c, .int .i64 W.S.cons, .bool (vB W.k), .int .i64 (vN W.k), .bool W.has] 44 ∧ Hx wc q [.pointer (some ⟨B, 0, none⟩)] 42)
      case first =>
        go_wp2_with fail
        go_meet
        exact ⟨rfl, (by exact G.go HG), Hx.new _ _ _, Hx.alloc hm _, Hx.alloc hq _⟩
      obtain ⟨rfl, HG, hr, hm, hq⟩ := hcut
      rename World => wx
      go_upto_region 1 with (fail)
      go_cut [3, 4] (fun p3 p4 wd => p3 = .pointer (some ⟨w.heap.size, 0, none⟩) ∧ p4 = .int .i64 (m : Int) ∧ w.grownBy wd none ∧ Hx wd w.heap.size [.bool false, .int .i64 0] 28 ∧ Hx wd B [.string W.S.name, .int .i64 W.S.start, .int .i64 W.S.step, .slice (some ⟨b, o, none⟩) W.S.vals.length c, .int .i64 W.S.cons, .bool (vB W.k), .int .i64 (vN W.k), .bool W.has] 44 ∧ Hx wd q [.pointer (some ⟨B, 0, none⟩)] 42)
      case first =>
        have hq_0 := hq.cell 0; have hq_f0 := hq.free 0; have hq_l := hq.lt
        go_wp2_with (go_at_call 35; (with_reducible refine (HA.out _ hm (HV.out.kept0 (by exact G.go HG))).mono ?_); rintro e wn ⟨rfl, hgn⟩; replace HG := G.trans (w := w) (by exact G.go HG) hgn; replace hr := Hx.kept (by first | exact Hx.go hr | exact Hx.go2) hgn (by simp); have hr_0 := hr.cell 0; have hr_1 := hr.cell 1; have hr_f0 := hr.free 0; have hr_f1 := hr.free 1; have hr_l := hr.lt; replace hm := Hx.kept (by first | exact Hx.go hm | exact Hx.go2) hgn (by simp); have hm_0 := hm.cell 0; have hm_1 := hm.cell 1; have hm_2 := hm.cell 2; have hm_3 := hm.cell 3; have hm_4 := hm.cell 4; have hm_5 := hm.cell 5; have hm_6 := hm.cell 6; have hm_7 := hm.cell 7; have hm_f0 := hm.free 0; have hm_f1 := hm.free 1; have hm_f2 := hm.free 2; have hm_f3 := hm.free 3; have hm_f4 := hm.free 4; have hm_f5 := hm.free 5; have hm_f6 := hm.free 6; have hm_f7 := hm.free 7; have hm_l := hm.lt; replace hq := Hx.kept (by first | exact Hx.go hq | exact Hx.go2) hgn (by simp); have hq_0 := hq.cell 0; have hq_f0 := hq.free 0; have hq_l := hq.lt; clear hgn)
        go_meet
        exact ⟨rfl, rfl, HG, hr, hm, hq⟩
      obtain ⟨rfl, rfl, HG, hr, hm, hq⟩ := hcut
      rename World => wy
      have hr_0 := hr.cell 0; have hr_1 := hr.cell 1; have hr_f0 := hr.free 0; have hr_f1 := hr.free 1; have hr_l := hr.lt; have hm_0 := hm.cell 0; have hm_1 := hm.cell 1; have hm_2 := hm.cell 2; have hm_3 := hm.cell 3; have hm_4 := hm.cell 4; have hm_5 := hm.cell 5; have hm_6 := hm.cell 6; have hm_7 := hm.cell 7; have hm_f0 := hm.free 0; have hm_f1 := hm.free 1; have hm_f2 := hm.free 2; have hm_f3 := hm.free 3; have hm_f4 := hm.free 4; have hm_f5 := hm.free 5; have hm_f6 := hm.free 6; have hm_f7 := hm.free 7; have hm_l := hm.lt; have hq_0 := hq.cell 0; have hq_f0 := hq.free 0; have hq_l := hq.lt
      obtain ⟨x0, x1⟩ := HC.out j hj _ HG
      rw [hv] at x0 x1
      have x2 : wy.cell? ⟨b, o + j * 2, none⟩ = some (.bool true) := x0
      have x3 : wy.cell? ⟨b, o + j * 2 + 1, none⟩ = some (.int .i64 y) := x1
      clear x0 x1
      obtain ⟨y0, y1⟩ := HC.out m hml _ HG
      rw [hy] at y0 y1
      have y2 : wy.cell? ⟨b, o + m * 2, none⟩ = some (.bool true) := y0
      have y3 : wy.cell? ⟨b, o + m * 2 + 1, none⟩ = some (.int .i64 y) := y1
      clear y0 y1
      go_upto_region 2 with (fail)
      go_quiet (fail)
      go_wp2_with (go_at_call 37; (with_reducible refine (HO.out _).mono ?_); rintro e wn ⟨rfl, hgn⟩; replace HG := G.trans (w := w) (by exact G.go HG) hgn; replace hr := Hx.kept (by first | exact Hx.go hr | exact Hx.go2) hgn (by simp); have hr_0 := hr.cell 0; have hr_1 := hr.cell 1; have hr_f0 := hr.free 0; have hr_f1 := hr.free 1; have hr_l := hr.lt; clear hgn)
      refine ret_cell [.bool true, .int .i64 0] w.heap.size 28 rfl rfl (Tryd.isAgg28 _) (Tryd.sizeOf28 _) rfl ?_ ⟨by rw [hfin.out]; rfl, (by exact G.go HG)⟩
      exact (by first | exact Hx.go hr | exact Hx.go2)
    have hfin : Hid (V = some 1000000) := Lib.hid (by rw [hV4.out]; simp [hxy])
    clear hV4
    have hyx : decide (y = x) = false := decide_eq_false hxy
    go_enter Tryd.func34, Tryd.ntmps34
    go_upto_region 0 with (fail)
    go_cut [3] (fun p3 wc => p3 = .pointer (some ⟨w.heap.size, 0, none⟩) ∧ w.grownBy wc none ∧ Hx wc w.heap.size [.bool false, .int .i64 0] 28 ∧ Hx wc B [.string W.S.name, .int .i64 W.S.start, .int .i64 W.S.step, .slice (some ⟨b, o, none⟩) W.S.vals.length c, .int .i64 W.S.cons, .bool (vB W.k), .int .i64 (vN W.k), .bool W.has] 44 ∧ Hx wc q [.pointer (some ⟨B, 0, none⟩)] 42)
    case first =>
      go_wp2_with fail
      go_meet
      exact ⟨rfl, (by exact G.go HG), Hx.new _ _ _, Hx.alloc hm _, Hx.alloc hq _⟩
    obtain ⟨rfl, HG, hr, hm, hq⟩ := hcut
    rename World => wx
    go_upto_region 1 with (fail)
    go_cut [3, 4] (fun p3 p4 wd => p3 = .pointer (some ⟨w.heap.size, 0, none⟩) ∧ p4 = .int .i64 (m : Int) ∧ w.grownBy wd none ∧ Hx wd w.heap.size [.bool false, .int .i64 0] 28 ∧ Hx wd B [.string W.S.name, .int .i64 W.S.start, .int .i64 W.S.step, .slice (some ⟨b, o, none⟩) W.S.vals.length c, .int .i64 W.S.cons, .bool (vB W.k), .int .i64 (vN W.k), .bool W.has] 44 ∧ Hx wd q [.pointer (some ⟨B, 0, none⟩)] 42)
    case first =>
      have hq_0 := hq.cell 0; have hq_f0 := hq.free 0; have hq_l := hq.lt
      go_wp2_with (go_at_call 35; (with_reducible refine (HA.out _ hm (HV.out.kept0 (by exact G.go HG))).mono ?_); rintro e wn ⟨rfl, hgn⟩; replace HG := G.trans (w := w) (by exact G.go HG) hgn; replace hr := Hx.kept (by first | exact Hx.go hr | exact Hx.go2) hgn (by simp); have hr_0 := hr.cell 0; have hr_1 := hr.cell 1; have hr_f0 := hr.free 0; have hr_f1 := hr.free 1; have hr_l := hr.lt; replace hm := Hx.kept (by first | exact Hx.go hm | exact Hx.go2) hgn (by simp); have hm_0 := hm.cell 0; have hm_1 := hm.cell 1; have hm_2 := hm.cell 2; have hm_3 := hm.cell 3; have hm_4 := hm.cell 4; have hm_5 := hm.cell 5; have hm_6 := hm.cell 6; have hm_7 := hm.cell 7; have hm_f0 := hm.free 0; have hm_f1 := hm.free 1; have hm_f2 := hm.free 2; have hm_f3 := hm.free 3; have hm_f4 := hm.free 4; have hm_f5 := hm.free 5; have hm_f6 := hm.free 6; have hm_f7 := hm.free 7; have hm_l := hm.lt; replace hq := Hx.kept (by first | exact Hx.go hq | exact Hx.go2) hgn (by simp); have hq_0 := hq.cell 0; have hq_f0 := hq.free 0; have hq_l := hq.lt; clear hgn)
      go_meet
      exact ⟨rfl, rfl, HG, hr, hm, hq⟩
    obtain ⟨rfl, rfl, HG, hr, hm, hq⟩ := hcut
    rename World => wy
    have hr_0 := hr.cell 0; have hr_1 := hr.cell 1; have hr_f0 := hr.free 0; have hr_f1 := hr.free 1; have hr_l := hr.lt; have hm_0 := hm.cell 0; have hm_1 := hm.cell 1; have hm_2 := hm.cell 2; have hm_3 := hm.cell 3; have hm_4 := hm.cell 4; have hm_5 := hm.cell 5; have hm_6 := hm.cell 6; have hm_7 := hm.cell 7; have hm_f0 := hm.free 0; have hm_f1 := hm.free 1; have hm_f2 := hm.free 2; have hm_f3 := hm.free 3; have hm_f4 := hm.free 4; have hm_f5 := hm.free 5; have hm_f6 := hm.free 6; have hm_f7 := hm.free 7; have hm_l := hm.lt; have hq_0 := hq.cell 0; have hq_f0 := hq.free 0; have hq_l := hq.lt
    obtain ⟨x0, x1⟩ := HC.out j hj _ HG
    rw [hv] at x0 x1
    have x2 : wy.cell? ⟨b, o + j * 2, none⟩ = some (.bool true) := x0
    have x3 : wy.cell? ⟨b, o + j * 2 + 1, none⟩ = some (.int .i64 x) := x1
    clear x0 x1
    obtain ⟨y0, y1⟩ := HC.out m hml _ HG
    rw [hy] at y0 y1
    have y2 : wy.cell? ⟨b, o + m * 2, none⟩ = some (.bool true) := y0
    have y3 : wy.cell? ⟨b, o + m * 2 + 1, none⟩ = some (.int .i64 y) := y1
    clear y0 y1
    go_upto_region 2 with (fail)
    go_quiet (fail)
    go_wp2_with (go_at_call 36; (with_reducible refine (HI.out _).mono ?_); rintro e wn ⟨rfl, hgn⟩; replace HG := G.trans (w := w) (by exact G.go HG) hgn; replace hr := Hx.kept (by first | exact Hx.go hr | exact Hx.go2) hgn (by simp); have hr_0 := hr.cell 0; have hr_1 := hr.cell 1; have hr_f0 := hr.free 0; have hr_f1 := hr.free 1; have hr_l := hr.lt; clear hgn)
    refine ret_cell [.bool true, .int .i64 1000000] w.heap.size 28 rfl rfl (Tryd.isAgg28 _) (Tryd.sizeOf28 _) rfl ?_ ⟨by rw [hfin.out]; rfl, (by exact G.go HG)⟩
    exact (by first | exact Hx.go hr | exact Hx.go2)
set_option maxHeartbeats 8000000 in
set_option maxRecDepth 100000 in
theorem fchg_any (w : World) (B : Nat) (W : FWork) (sv : Value) (hm : FAt w B W sv) (h : ERow valE w sv W.S.vals) (hall : W.S.vals.all (fun p => isR p.1 p.2) = true) (hl : W.S.vals.length ≤ 1000000) (hf : Fits W.k) : Calls Tryd.prog 19 #[.pointer (some ⟨B, 0, none⟩)] w fun e w' => FsRow 0 W w e w' := by
  have HG := G.refl w none
  have HV := Lib.hid h
  have HE := Lib.hid (fun w2 q (h1 : Hx w2 B [.string W.S.name, .int .i64 W.S.start, .int .i64 W.S.step, sv, .int .i64 W.S.cons, .bool (vB W.k), .int .i64 (vN W.k), .bool W.has] 44) h2 (hq : Hx w2 q [.pointer (some ⟨B, 0, none⟩)] 42) => each_any 34 #[] #[.pointer (some ⟨q, 0, none⟩)] (enters_of Tryd.func34 (by kernel_rfl) rfl) w2 B W sv h1 h2 hl (fun j => fsV 0 W.S.step W.has W.k W.S.opts j) none (fun c e => by cases e) (fun _ _ => True) trivial (fun _ _ _ _ _ _ _ _ => trivial) (fun j wj hj hg _ => by rw [push_one]; exact (fchg1_any wj B W sv (FAt.kept h1 hg (by simp)) (h2.kept0 hg) hall hl hf q (Hx.kept hq hg (by simp)) j hj).mono fun e w3 hh => ⟨hh.1, hh.2, trivial⟩))
  obtain ⟨A, c, rfl, -, -, -⟩ := h
  replace hm := hm.hx
  go_enter Tryd.func19, Tryd.ntmps19
  go_upto_region 0 with (fail)
  go_cut [1, 2] (fun p r wc => p = .pointer (some ⟨w.heap.size, 0, none⟩) ∧ r = .slice none 0 0 ∧ w.grownBy wc none ∧ Hx wc B [.string W.S.name, .int .i64 W.S.start, .int .i64 W.S.step, .slice A W.S.vals.length c, .int .i64 W.S.cons, .bool (vB W.k), .int .i64 (vN W.k), .bool W.has] 44 ∧ Hx wc w.heap.size [.pointer (some ⟨B, 0, none⟩)] 42)
  case first =>
    go_wp2_with fail
    go_meet
    exact ⟨rfl, rfl, (by exact G.go HG), Hx.alloc hm _, Hx.new _ _ _⟩
  obtain ⟨rfl, rfl, HG, hm, hq⟩ := hcut
  have hq_0 := hq.cell 0; have hq_l := hq.lt
  have hsz0 := HG.size
  go_wp2_with (go_at_call 33; (with_reducible refine (HE.out _ _ hm (HV.out.kept0 HG) hq).mono ?_); rintro e wn ⟨u, rfl, hu, hgn, -⟩; replace HG := G.trans (w := w) (by exact G.go HG) hgn; clear hgn)
  go_ret
  exact ⟨u, rfl, EOwn.mono hu hsz0, HG⟩
set_option maxHeartbeats 16000000 in
set_option maxRecDepth 100000 in
theorem fkeep1_any (w : World) (B : Nat) (W : FWork) (sv : Value) (hm : FAt w B W sv) (h : ERow valE w sv W.S.vals) (hall : W.S.vals.all (fun p => isR p.1 p.2) = true) (hl : W.S.vals.length ≤ 1000000) (hf : Fits W.k) (q : Nat) (hq : Hx w q [.pointer (some ⟨B, 0, none⟩)] 42) (j : Nat) (hj : j < W.S.vals.length) : Calls Tryd.prog 49 #[.int .i64 (j : Int), .pointer (some ⟨q, 0, none⟩)] w fun e w' => e = .returned (valV (fsV 5 W.S.step W.has W.k W.S.opts j)) ∧ w.grownBy w' none := by
  have HG := G.refl w none
  have HA := Lib.hid (fun w2 (h1 : Hx w2 B [.string W.S.name, .int .i64 W.S.start, .int .i64 W.S.step, sv, .int .i64 W.S.cons, .bool (vB W.k), .int .i64 (vN W.k), .bool W.has] 44) h2 => fahead_any w2 B W sv h1 h2 hall j (by omega) hl)
  have hab := aheadI_bound W.S.opts j
  have has := aheadI_some W.S.opts j
  obtain ⟨V, hV⟩ : ∃ V, Hid (fsV 5 W.S.step W.has W.k W.S.opts j = V) := ⟨_, Lib.hid rfl⟩
  rw [hV.out]
  have hvv := Lib.hid (valV_form V)
  have hol := opts_len W.S
  have HB := Lib.hid (fun w2 (h1 : Hx w2 B [.string W.S.name, .int .i64 W.S.start, .int .i64 W.S.step, sv, .int .i64 W.S.cons, .bool (vB W.k), .int .i64 (vN W.k), .bool W.has] 44) h2 => fbehind_any w2 B W sv h1 h2 hall j hj hl)
  have hbb := behindN_bound W.S.opts (W.S.opts.length - (j + 1)) (j + 1)
  have hV2 : Hid (V = match W.S.opts.getD j none with | some x => some x | none => if 0 ≤ aheadI W.S.opts j ∧ fillsB W.has W.k ((behindN W.S.opts (W.S.opts.length - (j + 1)) (j + 1) : Nat) - aheadI W.S.opts j - 1) = true then W.S.opts.getD (aheadI W.S.opts j).toNat none else none) := Lib.hid (by rw [← hV.out]; rfl)
  clear hV
  have HV := Lib.hid h
  obtain ⟨A, c, rfl, -, -, q3⟩ := h
  obtain ⟨b, o, rfl, hbl, hc⟩ := q3 (by omega)
  have HC := Lib.hid (fun (m : Nat) (hm : m < W.S.vals.length) (wr : World) (hg : w.grownBy wr none) => rowCells hall hc hg hbl hm)
  clear hc q3
  replace hm := hm.hx
  have HF := Lib.hid (fun w2 (h1 : Hx w2 B [.string W.S.name, .int .i64 W.S.start, .int .i64 W.S.step, .slice (some ⟨b, o, none⟩) W.S.vals.length c, .int .i64 W.S.cons, .bool (vB W.k), .int .i64 (vN W.k), .bool W.has] 44) => ffills_any w2 B W (.slice (some ⟨b, o, none⟩) W.S.vals.length c) h1 ⟨_, _, _, rfl⟩ hf ((behindN W.S.opts (W.S.opts.length - (j + 1)) (j + 1) : Nat) - aheadI W.S.opts j - 1))
  generalize aheadI W.S.opts j = a at *
  generalize behindN W.S.opts (W.S.opts.length - (j + 1)) (j + 1) = bn at *
  have hwr1 : IntKind.i64.wrap ((bn : Int) - a) = (bn : Int) - a := by rw [IntKind.wrap_i64]; omega
  have hwr2 : IntKind.i64.wrap ((bn : Int) - a - 1) = (bn : Int) - a - 1 := by rw [IntKind.wrap_i64]; omega
  cases hv : W.S.opts.getD j none with
  | some x =>
    have hfin : Hid (V = some x) := Lib.hid (by rw [hV2.out, hv])
    clear hV2
    go_enter Tryd.func49, Tryd.ntmps49
    go_upto_region 0 with (fail)
    go_cut [3] (fun p3 wc => p3 = .pointer (some ⟨w.heap.size, 0, none⟩) ∧ w.grownBy wc none ∧ Hx wc w.heap.size [.bool false, .int .i64 0] 28 ∧ Hx wc B [.string W.S.name, .int .i64 W.S.start, .int .i64 W.S.step, .slice (some ⟨b, o, none⟩) W.S.vals.length c, .int .i64 W.S.cons, .bool (vB W.k), .int .i64 (vN W.k), .bool W.has] 44 ∧ Hx wc q [.pointer (some ⟨B, 0, none⟩)] 42)
    case first =>
      go_wp2_with fail
      go_meet
      exact ⟨rfl, (by exact G.go HG), Hx.new _ _ _, Hx.alloc hm _, Hx.alloc hq _⟩
    obtain ⟨rfl, HG, hr, hm, hq⟩ := hcut
    rename World => wx
    go_upto_region 1 with (fail)
    go_cut [3, 4] (fun p3 p4 wd => p3 = .pointer (some ⟨w.heap.size, 0, none⟩) ∧ p4 = .int .i64 a ∧ w.grownBy wd none ∧ Hx wd w.heap.size [.bool false, .int .i64 0] 28 ∧ Hx wd B [.string W.S.name, .int .i64 W.S.start, .int .i64 W.S.step, .slice (some ⟨b, o, none⟩) W.S.vals.length c, .int .i64 W.S.cons, .bool (vB W.k), .int .i64 (vN W.k), .bool W.has] 44 ∧ Hx wd q [.pointer (some ⟨B, 0, none⟩)] 42)
    case first =>
      have hq_0 := hq.cell 0; have hq_f0 := hq.free 0; have hq_l := hq.lt
      go_wp2_with (go_at_call 35; (with_reducible refine (HA.out _ hm (HV.out.kept0 (by exact G.go HG))).mono ?_); rintro e wn ⟨rfl, hgn⟩; replace HG := G.trans (w := w) (by exact G.go HG) hgn; replace hr := Hx.kept (by first | exact Hx.go hr | exact Hx.go2) hgn (by simp); have hr_0 := hr.cell 0; have hr_1 := hr.cell 1; have hr_f0 := hr.free 0; have hr_f1 := hr.free 1; have hr_l := hr.lt; replace hm := Hx.kept (by first | exact Hx.go hm | exact Hx.go2) hgn (by simp); have hm_0 := hm.cell 0; have hm_1 := hm.cell 1; have hm_2 := hm.cell 2; have hm_3 := hm.cell 3; have hm_4 := hm.cell 4; have hm_5 := hm.cell 5; have hm_6 := hm.cell 6; have hm_7 := hm.cell 7; have hm_f0 := hm.free 0; have hm_f1 := hm.free 1; have hm_f2 := hm.free 2; have hm_f3 := hm.free 3; have hm_f4 := hm.free 4; have hm_f5 := hm.free 5; have hm_f6 := hm.free 6; have hm_f7 := hm.free 7; have hm_l := hm.lt; replace hq := Hx.kept (by first | exact Hx.go hq | exact Hx.go2) hgn (by simp); have hq_0 := hq.cell 0; have hq_f0 := hq.free 0; have hq_l := hq.lt; clear hgn)
      go_meet
      exact ⟨rfl, rfl, HG, hr, hm, hq⟩
    obtain ⟨rfl, rfl, HG, hr, hm, hq⟩ := hcut
    rename World => wy
    have hr_0 := hr.cell 0; have hr_1 := hr.cell 1; have hr_f0 := hr.free 0; have hr_f1 := hr.free 1; have hr_l := hr.lt; have hm_0 := hm.cell 0; have hm_1 := hm.cell 1; have hm_2 := hm.cell 2; have hm_3 := hm.cell 3; have hm_4 := hm.cell 4; have hm_5 := hm.cell 5; have hm_6 := hm.cell 6; have hm_7 := hm.cell 7; have hm_f0 := hm.free 0; have hm_f1 := hm.free 1; have hm_f2 := hm.free 2; have hm_f3 := hm.free 3; have hm_f4 := hm.free 4; have hm_f5 := hm.free 5; have hm_f6 := hm.free 6; have hm_f7 := hm.free 7; have hm_l := hm.lt; have hq_0 := hq.cell 0; have hq_f0 := hq.free 0; have hq_l := hq.lt
    obtain ⟨x0, x1⟩ := HC.out j hj _ HG
    rw [hv] at x0 x1
    have x2 : wy.cell? ⟨b, o + j * 2, none⟩ = some (.bool true) := x0
    have x3 : wy.cell? ⟨b, o + j * 2 + 1, none⟩ = some (.int .i64 x) := x1
    clear x0 x1
    go_upto_region 2 with (fail)
    go_quiet (fail)
    go_wp2_with fail
    refine ret_cell [.bool true, .int .i64 x] w.heap.size 28 rfl rfl (Tryd.isAgg28 _) (Tryd.sizeOf28 _) rfl ?_ ⟨by rw [hfin.out]; rfl, (by exact G.go HG)⟩
    exact (by first | exact Hx.go hr | exact Hx.go2)
  | none =>
    rw [hv] at hV2
    have hV3 : Hid (V = if 0 ≤ a ∧ fillsB W.has W.k ((bn : Int) - a - 1) = true then W.S.opts.getD a.toNat none else none) := Lib.hid (by rw [hV2.out])
    clear hV2
    by_cases hneg : a < 0
    · have hd : decide (a < 0) = true := decide_eq_true hneg
      have hfin : Hid (V = none) := Lib.hid (by rw [hV3.out, if_neg (by omega)])
      clear hV3
      go_enter Tryd.func49, Tryd.ntmps49
      go_upto_region 0 with (fail)
      go_cut [3] (fun p3 wc => p3 = .pointer (some ⟨w.heap.size, 0, none⟩) ∧ w.grownBy wc none ∧ Hx wc w.heap.size [.bool false, .int .i64 0] 28 ∧ Hx wc B [.string W.S.name, .int .i64 W.S.start, .int .i64 W.S.step, .slice (some ⟨b, o, none⟩) W.S.vals.length c, .int .i64 W.S.cons, .bool (vB W.k), .int .i64 (vN W.k), .bool W.has] 44 ∧ Hx wc q [.pointer (some ⟨B, 0, none⟩)] 42)
      case first =>
        go_wp2_with fail
        go_meet
        exact ⟨rfl, (by exact G.go HG), Hx.new _ _ _, Hx.alloc hm _, Hx.alloc hq _⟩
      obtain ⟨rfl, HG, hr, hm, hq⟩ := hcut
      rename World => wx
      go_upto_region 1 with (fail)
      go_cut [3, 4] (fun p3 p4 wd => p3 = .pointer (some ⟨w.heap.size, 0, none⟩) ∧ p4 = .int .i64 a ∧ w.grownBy wd none ∧ Hx wd w.heap.size [.bool false, .int .i64 0] 28 ∧ Hx wd B [.string W.S.name, .int .i64 W.S.start, .int .i64 W.S.step, .slice (some ⟨b, o, none⟩) W.S.vals.length c, .int .i64 W.S.cons, .bool (vB W.k), .int .i64 (vN W.k), .bool W.has] 44 ∧ Hx wd q [.pointer (some ⟨B, 0, none⟩)] 42)
      case first =>
        have hq_0 := hq.cell 0; have hq_f0 := hq.free 0; have hq_l := hq.lt
        go_wp2_with (go_at_call 35; (with_reducible refine (HA.out _ hm (HV.out.kept0 (by exact G.go HG))).mono ?_); rintro e wn ⟨rfl, hgn⟩; replace HG := G.trans (w := w) (by exact G.go HG) hgn; replace hr := Hx.kept (by first | exact Hx.go hr | exact Hx.go2) hgn (by simp); have hr_0 := hr.cell 0; have hr_1 := hr.cell 1; have hr_f0 := hr.free 0; have hr_f1 := hr.free 1; have hr_l := hr.lt; replace hm := Hx.kept (by first | exact Hx.go hm | exact Hx.go2) hgn (by simp); have hm_0 := hm.cell 0; have hm_1 := hm.cell 1; have hm_2 := hm.cell 2; have hm_3 := hm.cell 3; have hm_4 := hm.cell 4; have hm_5 := hm.cell 5; have hm_6 := hm.cell 6; have hm_7 := hm.cell 7; have hm_f0 := hm.free 0; have hm_f1 := hm.free 1; have hm_f2 := hm.free 2; have hm_f3 := hm.free 3; have hm_f4 := hm.free 4; have hm_f5 := hm.free 5; have hm_f6 := hm.free 6; have hm_f7 := hm.free 7; have hm_l := hm.lt; replace hq := Hx.kept (by first | exact Hx.go hq | exact Hx.go2) hgn (by simp); have hq_0 := hq.cell 0; have hq_f0 := hq.free 0; have hq_l := hq.lt; clear hgn)
        go_meet
        exact ⟨rfl, rfl, HG, hr, hm, hq⟩
      obtain ⟨rfl, rfl, HG, hr, hm, hq⟩ := hcut
      rename World => wy
      have hr_0 := hr.cell 0; have hr_1 := hr.cell 1; have hr_f0 := hr.free 0; have hr_f1 := hr.free 1; have hr_l := hr.lt; have hm_0 := hm.cell 0; have hm_1 := hm.cell 1; have hm_2 := hm.cell 2; have hm_3 := hm.cell 3; have hm_4 := hm.cell 4; have hm_5 := hm.cell 5; have hm_6 := hm.cell 6; have hm_7 := hm.cell 7; have hm_f0 := hm.free 0; have hm_f1 := hm.free 1; have hm_f2 := hm.free 2; have hm_f3 := hm.free 3; have hm_f4 := hm.free 4; have hm_f5 := hm.free 5; have hm_f6 := hm.free 6; have hm_f7 := hm.free 7; have hm_l := hm.lt; have hq_0 := hq.cell 0; have hq_f0 := hq.free 0; have hq_l := hq.lt
      obtain ⟨x0, x1⟩ := HC.out j hj _ HG
      rw [hv] at x0 x1
      have x2 : wy.cell? ⟨b, o + j * 2, none⟩ = some (.bool false) := x0
      have x3 : wy.cell? ⟨b, o + j * 2 + 1, none⟩ = some (.int .i64 0) := x1
      clear x0 x1
      go_upto_region 2 with (fail)
      go_quiet (fail)
      go_wp2_with fail
      refine ret_cell [.bool false, .int .i64 0] w.heap.size 28 rfl rfl (Tryd.isAgg28 _) (Tryd.sizeOf28 _) rfl ?_ ⟨by rw [hfin.out]; rfl, (by exact G.go HG)⟩
      exact (by first | exact Hx.go hr | exact Hx.go2)
    obtain ⟨m, rfl⟩ : ∃ m : Nat, a = m := ⟨a.toNat, by omega⟩
    have hml : m < W.S.vals.length := by omega
    have hd : decide ((m : Int) < 0) = false := decide_eq_false (by omega)
    have hV4 : Hid (V = if fillsB W.has W.k ((bn : Int) - m - 1) = true then W.S.opts.getD m none else none) := Lib.hid (by rw [hV3.out]; by_cases g : fillsB W.has W.k ((bn : Int) - m - 1) = true <;> simp [g])
    clear hV3 has
    generalize fillsB W.has W.k ((bn : Int) - m - 1) = fb at *
    go_enter Tryd.func49, Tryd.ntmps49
    go_upto_region 0 with (fail)
    go_cut [3] (fun p3 wc => p3 = .pointer (some ⟨w.heap.size, 0, none⟩) ∧ w.grownBy wc none ∧ Hx wc w.heap.size [.bool false, .int .i64 0] 28 ∧ Hx wc B [.string W.S.name, .int .i64 W.S.start, .int .i64 W.S.step, .slice (some ⟨b, o, none⟩) W.S.vals.length c, .int .i64 W.S.cons, .bool (vB W.k), .int .i64 (vN W.k), .bool W.has] 44 ∧ Hx wc q [.pointer (some ⟨B, 0, none⟩)] 42)
    case first =>
      go_wp2_with fail
      go_meet
      exact ⟨rfl, (by exact G.go HG), Hx.new _ _ _, Hx.alloc hm _, Hx.alloc hq _⟩
    obtain ⟨rfl, HG, hr, hm, hq⟩ := hcut
    rename World => wx
    go_upto_region 1 with (fail)
    go_cut [3, 4] (fun p3 p4 wd => p3 = .pointer (some ⟨w.heap.size, 0, none⟩) ∧ p4 = .int .i64 (m : Int) ∧ w.grownBy wd none ∧ Hx wd w.heap.size [.bool false, .int .i64 0] 28 ∧ Hx wd B [.string W.S.name, .int .i64 W.S.start, .int .i64 W.S.step, .slice (some ⟨b, o, none⟩) W.S.vals.length c, .int .i64 W.S.cons, .bool (vB W.k), .int .i64 (vN W.k), .bool W.has] 44 ∧ Hx wd q [.pointer (some ⟨B, 0, none⟩)] 42)
    case first =>
      have hq_0 := hq.cell 0; have hq_f0 := hq.free 0; have hq_l := hq.lt
      go_wp2_with (go_at_call 35; (with_reducible refine (HA.out _ hm (HV.out.kept0 (by exact G.go HG))).mono ?_); rintro e wn ⟨rfl, hgn⟩; replace HG := G.trans (w := w) (by exact G.go HG) hgn; replace hr := Hx.kept (by first | exact Hx.go hr | exact Hx.go2) hgn (by simp); have hr_0 := hr.cell 0; have hr_1 := hr.cell 1; have hr_f0 := hr.free 0; have hr_f1 := hr.free 1; have hr_l := hr.lt; replace hm := Hx.kept (by first | exact Hx.go hm | exact Hx.go2) hgn (by simp); have hm_0 := hm.cell 0; have hm_1 := hm.cell 1; have hm_2 := hm.cell 2; have hm_3 := hm.cell 3; have hm_4 := hm.cell 4; have hm_5 := hm.cell 5; have hm_6 := hm.cell 6; have hm_7 := hm.cell 7; have hm_f0 := hm.free 0; have hm_f1 := hm.free 1; have hm_f2 := hm.free 2; have hm_f3 := hm.free 3; have hm_f4 := hm.free 4; have hm_f5 := hm.free 5; have hm_f6 := hm.free 6; have hm_f7 := hm.free 7; have hm_l := hm.lt; replace hq := Hx.kept (by first | exact Hx.go hq | exact Hx.go2) hgn (by simp); have hq_0 := hq.cell 0; have hq_f0 := hq.free 0; have hq_l := hq.lt; clear hgn)
      go_meet
      exact ⟨rfl, rfl, HG, hr, hm, hq⟩
    obtain ⟨rfl, rfl, HG, hr, hm, hq⟩ := hcut
    rename World => wy
    have HJ1 := Lib.hid (fun wr hg => (HC.out j hj wr hg).1)
    rw [hv] at HJ1
    have HJ : Hid (∀ wr, w.grownBy wr none → wr.cell? ⟨b, o + j * 2, none⟩ = some (.bool false)) := HJ1
    clear HJ1
    have HVx := Lib.hid (HV.out.kept0 HG)
    go_upto_region 2 with (fail)
    have hm_q0 := fun x => (Hx.inG hm x).cell 0; have hm_q1 := fun x => (Hx.inG hm x).cell 1; have hm_q2 := fun x => (Hx.inG hm x).cell 2; have hm_q3 := fun x => (Hx.inG hm x).cell 3; have hm_q4 := fun x => (Hx.inG hm x).cell 4; have hm_q5 := fun x => (Hx.inG hm x).cell 5; have hm_q6 := fun x => (Hx.inG hm x).cell 6; have hm_q7 := fun x => (Hx.inG hm x).cell 7; have hq_q0 := fun x => (Hx.inG hq x).cell 0; have HJ_q := fun x => inGc HJ.out HG x; have HG0 := HG
    refine wp_region_grow (G.refl _ none) (by kernel_rfl) (by kernel_rfl) ?_
    repeat (refine wpQuiet_step (fun K hK => ?_); go_simp; first | (refine hK _ ?_; clear hK K) | (apply Exists.intro; refine ⟨fun xq => ?_, hK _ ?_⟩; (focus (first | (go_at_call 46; have h0 := HB.out xq.1 (Hx.inG hm xq) (HVx.out.kept0 xq.2); with_reducible exact grow_of h0) | (go_at_call 47; have h0 := HF.out xq.1 (Hx.inG hm xq); with_reducible exact grow_of h0))); clear hK K))
    refine wpQuiet_nil ?_
    intro wn hgn
    clear hm_q0 hm_q1 hm_q2 hm_q3 hm_q4 hm_q5 hm_q6 hm_q7 hq_q0 HJ_q
    replace HG := G.trans (w := w) HG0 hgn
    clear HG0
    replace hm := Hx.kept hm hgn (by simp)
    replace hq := Hx.kept hq hgn (by simp)
    replace hr := Hx.kept hr hgn (by simp)
    clear hgn
    rename World => wy2
    cases fb
    · have hfin : Hid (V = none) := Lib.hid (by rw [hV4.out]; rfl)
      have hr_0 := hr.cell 0; have hr_1 := hr.cell 1; have hr_f0 := hr.free 0; have hr_f1 := hr.free 1; have hr_l := hr.lt; have hm_0 := hm.cell 0; have hm_1 := hm.cell 1; have hm_2 := hm.cell 2; have hm_3 := hm.cell 3; have hm_4 := hm.cell 4; have hm_5 := hm.cell 5; have hm_6 := hm.cell 6; have hm_7 := hm.cell 7; have hm_f0 := hm.free 0; have hm_f1 := hm.free 1; have hm_f2 := hm.free 2; have hm_f3 := hm.free 3; have hm_f4 := hm.free 4; have hm_f5 := hm.free 5; have hm_f6 := hm.free 6; have hm_f7 := hm.free 7; have hm_l := hm.lt; have hq_0 := hq.cell 0; have hq_f0 := hq.free 0; have hq_l := hq.lt
      obtain ⟨x0, x1⟩ := HC.out j hj _ HG
      rw [hv] at x0 x1
      have x2 : wy2.cell? ⟨b, o + j * 2, none⟩ = some (.bool false) := x0
      have x3 : wy2.cell? ⟨b, o + j * 2 + 1, none⟩ = some (.int .i64 0) := x1
      clear x0 x1
      go_wp2_with fail
      refine ret_cell [.bool false, .int .i64 0] w.heap.size 28 rfl rfl (Tryd.isAgg28 _) (Tryd.sizeOf28 _) rfl ?_ ⟨by rw [hfin.out]; rfl, (by exact G.go HG)⟩
      exact (by first | exact Hx.go hr | exact Hx.go2)
    have hfin : Hid (V = W.S.opts.getD m none) := Lib.hid (by rw [hV4.out]; rfl)
    obtain ⟨y0, y1⟩ := HC.out m hml _ HG
    generalize W.S.opts.getD m none = y at *
    have hr_0 := hr.cell 0; have hr_1 := hr.cell 1; have hr_f0 := hr.free 0; have hr_f1 := hr.free 1; have hr_l := hr.lt; have hm_0 := hm.cell 0; have hm_1 := hm.cell 1; have hm_2 := hm.cell 2; have hm_3 := hm.cell 3; have hm_4 := hm.cell 4; have hm_5 := hm.cell 5; have hm_6 := hm.cell 6; have hm_7 := hm.cell 7; have hm_f0 := hm.free 0; have hm_f1 := hm.free 1; have hm_f2 := hm.free 2; have hm_f3 := hm.free 3; have hm_f4 := hm.free 4; have hm_f5 := hm.free 5; have hm_f6 := hm.free 6; have hm_f7 := hm.free 7; have hm_l := hm.lt; have hq_0 := hq.cell 0; have hq_f0 := hq.free 0; have hq_l := hq.lt
    go_wp2_with fail
    refine ret_cell [.bool (vB y), .int .i64 (vN y)] w.heap.size 28 rfl rfl (Tryd.isAgg28 _) (Tryd.sizeOf28 _) rfl ?_ ⟨by rw [hfin.out, valV_form], (by exact G.go HG)⟩
    exact (by first | exact Hx.go hr | exact Hx.go2)
set_option maxHeartbeats 8000000 in
set_option maxRecDepth 100000 in
theorem fkeep_any (w : World) (B : Nat) (W : FWork) (sv : Value) (hm : FAt w B W sv) (h : ERow valE w sv W.S.vals) (hall : W.S.vals.all (fun p => isR p.1 p.2) = true) (hl : W.S.vals.length ≤ 1000000) (hf : Fits W.k) : Calls Tryd.prog 24 #[.pointer (some ⟨B, 0, none⟩)] w fun e w' => FsRow 5 W w e w' := by
  have HG := G.refl w none
  have HV := Lib.hid h
  have HE := Lib.hid (fun w2 q (h1 : Hx w2 B [.string W.S.name, .int .i64 W.S.start, .int .i64 W.S.step, sv, .int .i64 W.S.cons, .bool (vB W.k), .int .i64 (vN W.k), .bool W.has] 44) h2 (hq : Hx w2 q [.pointer (some ⟨B, 0, none⟩)] 42) => each_any 49 #[] #[.pointer (some ⟨q, 0, none⟩)] (enters_of Tryd.func49 (by kernel_rfl) rfl) w2 B W sv h1 h2 hl (fun j => fsV 5 W.S.step W.has W.k W.S.opts j) none (fun c e => by cases e) (fun _ _ => True) trivial (fun _ _ _ _ _ _ _ _ => trivial) (fun j wj hj hg _ => by rw [push_one]; exact (fkeep1_any wj B W sv (FAt.kept h1 hg (by simp)) (h2.kept0 hg) hall hl hf q (Hx.kept hq hg (by simp)) j hj).mono fun e w3 hh => ⟨hh.1, hh.2, trivial⟩))
  obtain ⟨A, c, rfl, -, -, -⟩ := h
  replace hm := hm.hx
  go_enter Tryd.func24, Tryd.ntmps24
  go_upto_region 0 with (fail)
  go_cut [1, 2] (fun p r wc => p = .pointer (some ⟨w.heap.size, 0, none⟩) ∧ r = .slice none 0 0 ∧ w.grownBy wc none ∧ Hx wc B [.string W.S.name, .int .i64 W.S.start, .int .i64 W.S.step, .slice A W.S.vals.length c, .int .i64 W.S.cons, .bool (vB W.k), .int .i64 (vN W.k), .bool W.has] 44 ∧ Hx wc w.heap.size [.pointer (some ⟨B, 0, none⟩)] 42)
  case first =>
    go_wp2_with fail
    go_meet
    exact ⟨rfl, rfl, (by exact G.go HG), Hx.alloc hm _, Hx.new _ _ _⟩
  obtain ⟨rfl, rfl, HG, hm, hq⟩ := hcut
  have hq_0 := hq.cell 0; have hq_l := hq.lt
  have hsz0 := HG.size
  go_wp2_with (go_at_call 33; (with_reducible refine (HE.out _ _ hm (HV.out.kept0 HG) hq).mono ?_); rintro e wn ⟨u, rfl, hu, hgn, -⟩; replace HG := G.trans (w := w) (by exact G.go HG) hgn; clear hgn)
  go_ret
  exact ⟨u, rfl, EOwn.mono hu hsz0, HG⟩
end Go.Proofs.YtkablhamnepfnaaDoor
