/-
  The walks of the reference's delay, changed, many. Printed by genfsrefc.py.
-/
import Derived.Test.YtkablhamnepfnaaGreatDoorFsRefAB
namespace Go.Proofs.YtkablhamnepfnaaGreatDoor
open Go.RowKit
/-- the value that stands so many places ahead, as the reference says it -/
def delayO (k : Option Int) (X : List (Option Int)) (j : Nat) : Option Int := if wholeB k then atO X ((j : Int) - wholeT k) else none
theorem delay_eq (step : Int) (has : Bool) (k : Option Int) (S : Ser) (hl : S.vals.length ≤ 131072) (j : Nat) (hj : j < S.vals.length) : fsV 1 step has k S.opts j = delayO k S.opts j := by
  have e : fsV 1 step has k S.opts j = (match wholeO k with | none => none | some n => if -131072 ≤ n ∧ n ≤ 131072 then atO S.opts ((j : Int) - n) else none) := rfl
  rw [e, wholeO_eq]
  unfold delayO
  cases wholeB k with
  | false => rfl
  | true =>
    show (if -131072 ≤ wholeT k ∧ wholeT k ≤ 131072 then atO S.opts ((j : Int) - wholeT k) else none) = atO S.opts ((j : Int) - wholeT k)
    by_cases h : -131072 ≤ wholeT k ∧ wholeT k ≤ 131072
    · rw [if_pos h]
    · rw [if_neg h]
      unfold atO
      split
      · rw [opts_out S _ (by omega)]
      · rfl
set_option maxHeartbeats 16000000 in
set_option maxRecDepth 100000 in
theorem delay1_any (w : World) (S : Ser) (sv : Value) (h : ERow valE w sv S.vals) (hall : S.vals.all (fun p => isR p.1 p.2) = true) (hl : S.vals.length ≤ 131072) (j : Nat) (hj : j < S.vals.length) (kb : Bool) (kn : Int) : Calls Tryz.prog 56 #[sv, .int .i64 (j : Int), .agg #[.bool kb, .int .i64 kn]] w fun e w' => e = .returned (valV (delayO (vK kb kn) S.opts j)) ∧ w.grownBy w' none := by
  have HG := G.refl w none
  obtain ⟨V, hV⟩ : ∃ V, Hid (delayO (vK kb kn) S.opts j = V) := ⟨_, Lib.hid rfl⟩
  rw [hV.out]
  have hvv := Lib.hid (valV_form V)
  have hV2 : Hid (V = if wholeB (vK kb kn) then atO S.opts ((j : Int) - wholeT (vK kb kn)) else none) := Lib.hid hV.out.symm
  clear hV
  have HV := Lib.hid h
  obtain ⟨A, c, rfl, -, -, q3⟩ := h
  obtain ⟨b, o, rfl, hbl, hc⟩ := q3 (by omega)
  have HC := Lib.hid (fun (m : Nat) (hm : m < S.vals.length) (wr : World) (hg : w.grownBy wr none) => rowCells hall hc hg hbl hm)
  clear hc q3
  have HK := Lib.hid (fun w => known1_any w kb kn)
  have hw := @vK_whole kb kn
  have k1 := @vK_some kb kn
  generalize (kb && isR kb kn) = kk at *
  have K1 := Lib.hid k1
  clear k1
  cases kk
  · have hfin : Hid (V = none) := Lib.hid (by rw [hV2.out, hw]; rfl)
    clear hV2 hw
    go_enter Tryz.func56, Tryz.ntmps56
    go_upto_region 0 with (fail)
    go_cut [5, 6] (fun p5 p6 wc => p5 = .pointer (some ⟨w.heap.size, 0, none⟩) ∧ p6 = .pointer (some ⟨(w.heap.size + 1), 0, none⟩) ∧ w.grownBy wc none ∧ Hx wc w.heap.size [.bool kb, .int .i64 kn] 28 ∧ Hx wc (w.heap.size + 1) [.bool false, .int .i64 0] 28)
    case first =>
      go_wp2_with fail
      go_meet
      exact ⟨rfl, rfl, (by exact G.go HG), Hx.alloc (Hx.new _ _ _) _, Hx.new' (by first | (simp; done) | rfl) rfl⟩
    obtain ⟨rfl, rfl, HG, hk, hr⟩ := hcut
    rename World => wx
    have hk_0 := hk.cell 0; have hk_1 := hk.cell 1; have hk_f0 := hk.free 0; have hk_f1 := hk.free 1; have hk_l := hk.lt; have hr_0 := hr.cell 0; have hr_1 := hr.cell 1; have hr_f0 := hr.free 0; have hr_f1 := hr.free 1; have hr_l := hr.lt
    go_wp2_with (go_at_call 88; (with_reducible refine (HK.out _).mono ?_); rintro e wn ⟨rfl, hgn⟩; replace HG := G.trans (w := w) (by exact G.go HG) hgn; replace hk := Hx.kept (by first | exact Hx.go hk | exact Hx.go2) hgn (by simp); have hk_0 := hk.cell 0; have hk_1 := hk.cell 1; have hk_f0 := hk.free 0; have hk_f1 := hk.free 1; have hk_l := hk.lt; replace hr := Hx.kept (by first | exact Hx.go hr | exact Hx.go2) hgn (by simp); have hr_0 := hr.cell 0; have hr_1 := hr.cell 1; have hr_f0 := hr.free 0; have hr_f1 := hr.free 1; have hr_l := hr.lt; clear hgn)
    refine ret_cell [.bool false, .int .i64 0] (w.heap.size + 1) 28 rfl rfl (Tryz.isAgg28 _) (Tryz.sizeOf28 _) rfl ?_ ⟨by rw [hfin.out]; rfl, (by exact G.go HG)⟩
    exact (by first | exact Hx.go hr | exact Hx.go2)
  obtain ⟨va, rfl, a1, a2⟩ := K1.out rfl
  rw [hw] at hV2
  rw [va] at hV2
  have hrg := wholeT_range (k := some kn) (fits_some ⟨a1, a2⟩)
  have hwr := tdiv_wrap a1 a2
  have hV3 : Hid (V = if decide (kn.tmod 1000000 = 0) then atO S.opts ((j : Int) - kn.tdiv 1000000) else none) := Lib.hid hV2.out
  have hrg : -4611686018427387904 ≤ kn.tdiv 1000000 ∧ kn.tdiv 1000000 ≤ 4611686018427387904 := hrg
  clear hV2 hw va K1
  by_cases hz : kn.tmod 1000000 = 0
  rotate_left
  · have hfin : Hid (V = none) := Lib.hid (by rw [hV3.out, decide_eq_false hz]; rfl)
    clear hV3
    go_enter Tryz.func56, Tryz.ntmps56
    go_upto_region 0 with (fail)
    go_cut [5, 6] (fun p5 p6 wc => p5 = .pointer (some ⟨w.heap.size, 0, none⟩) ∧ p6 = .pointer (some ⟨(w.heap.size + 1), 0, none⟩) ∧ w.grownBy wc none ∧ Hx wc w.heap.size [.bool true, .int .i64 kn] 28 ∧ Hx wc (w.heap.size + 1) [.bool false, .int .i64 0] 28)
    case first =>
      go_wp2_with fail
      go_meet
      exact ⟨rfl, rfl, (by exact G.go HG), Hx.alloc (Hx.new _ _ _) _, Hx.new' (by first | (simp; done) | rfl) rfl⟩
    obtain ⟨rfl, rfl, HG, hk, hr⟩ := hcut
    rename World => wx
    have hk_0 := hk.cell 0; have hk_1 := hk.cell 1; have hk_f0 := hk.free 0; have hk_f1 := hk.free 1; have hk_l := hk.lt; have hr_0 := hr.cell 0; have hr_1 := hr.cell 1; have hr_f0 := hr.free 0; have hr_f1 := hr.free 1; have hr_l := hr.lt
    go_wp2_with (go_at_call 88; (with_reducible refine (HK.out _).mono ?_); rintro e wn ⟨rfl, hgn⟩; replace HG := G.trans (w := w) (by exact G.go HG) hgn; replace hk := Hx.kept (by first | exact Hx.go hk | exact Hx.go2) hgn (by simp); have hk_0 := hk.cell 0; have hk_1 := hk.cell 1; have hk_f0 := hk.free 0; have hk_f1 := hk.free 1; have hk_l := hk.lt; replace hr := Hx.kept (by first | exact Hx.go hr | exact Hx.go2) hgn (by simp); have hr_0 := hr.cell 0; have hr_1 := hr.cell 1; have hr_f0 := hr.free 0; have hr_f1 := hr.free 1; have hr_l := hr.lt; clear hgn)
    refine ret_cell [.bool false, .int .i64 0] (w.heap.size + 1) 28 rfl rfl (Tryz.isAgg28 _) (Tryz.sizeOf28 _) rfl ?_ ⟨by rw [hfin.out]; rfl, (by exact G.go HG)⟩
    exact (by first | exact Hx.go hr | exact Hx.go2)
  have hV4 : Hid (V = atO S.opts ((j : Int) - kn.tdiv 1000000)) := Lib.hid (by rw [hV3.out, decide_eq_true hz]; rfl)
  clear hV3
  obtain ⟨n, hn⟩ : ∃ n, kn.tdiv 1000000 = n := ⟨_, rfl⟩
  rw [hn] at hrg hwr hV4
  have hws : IntKind.i64.wrap ((j : Int) - n) = (j : Int) - n := by rw [IntKind.wrap_i64]; omega
  by_cases hneg : (j : Int) - n < 0
  · have hfin : Hid (V = none) := Lib.hid (by rw [hV4.out]; exact if_neg (by omega))
    clear hV4
    go_enter Tryz.func56, Tryz.ntmps56
    go_upto_region 0 with (fail)
    go_cut [5, 6] (fun p5 p6 wc => p5 = .pointer (some ⟨w.heap.size, 0, none⟩) ∧ p6 = .pointer (some ⟨(w.heap.size + 1), 0, none⟩) ∧ w.grownBy wc none ∧ Hx wc w.heap.size [.bool true, .int .i64 kn] 28 ∧ Hx wc (w.heap.size + 1) [.bool false, .int .i64 0] 28)
    case first =>
      go_wp2_with fail
      go_meet
      exact ⟨rfl, rfl, (by exact G.go HG), Hx.alloc (Hx.new _ _ _) _, Hx.new' (by first | (simp; done) | rfl) rfl⟩
    obtain ⟨rfl, rfl, HG, hk, hr⟩ := hcut
    rename World => wx
    have hk_0 := hk.cell 0; have hk_1 := hk.cell 1; have hk_f0 := hk.free 0; have hk_f1 := hk.free 1; have hk_l := hk.lt; have hr_0 := hr.cell 0; have hr_1 := hr.cell 1; have hr_f0 := hr.free 0; have hr_f1 := hr.free 1; have hr_l := hr.lt
    go_wp2_with (go_at_call 88; (with_reducible refine (HK.out _).mono ?_); rintro e wn ⟨rfl, hgn⟩; replace HG := G.trans (w := w) (by exact G.go HG) hgn; replace hk := Hx.kept (by first | exact Hx.go hk | exact Hx.go2) hgn (by simp); have hk_0 := hk.cell 0; have hk_1 := hk.cell 1; have hk_f0 := hk.free 0; have hk_f1 := hk.free 1; have hk_l := hk.lt; replace hr := Hx.kept (by first | exact Hx.go hr | exact Hx.go2) hgn (by simp); have hr_0 := hr.cell 0; have hr_1 := hr.cell 1; have hr_f0 := hr.free 0; have hr_f1 := hr.free 1; have hr_l := hr.lt; clear hgn)
    refine ret_cell [.bool false, .int .i64 0] (w.heap.size + 1) 28 rfl rfl (Tryz.isAgg28 _) (Tryz.sizeOf28 _) rfl ?_ ⟨by rw [hfin.out]; rfl, (by exact G.go HG)⟩
    exact (by first | exact Hx.go hr | exact Hx.go2)
  obtain ⟨m, hm⟩ : ∃ m : Nat, (j : Int) - n = m := ⟨((j : Int) - n).toNat, by omega⟩
  have hV5 : Hid (V = S.opts.getD m none) := Lib.hid (by rw [hV4.out, hm, atO_nat])
  rw [hm] at hws
  clear hV4 hneg
  by_cases hge : S.vals.length ≤ m
  · have hfin : Hid (V = none) := Lib.hid (by rw [hV5.out, opts_out S m hge])
    clear hV5
    go_enter Tryz.func56, Tryz.ntmps56
    go_upto_region 0 with (fail)
    go_cut [5, 6] (fun p5 p6 wc => p5 = .pointer (some ⟨w.heap.size, 0, none⟩) ∧ p6 = .pointer (some ⟨(w.heap.size + 1), 0, none⟩) ∧ w.grownBy wc none ∧ Hx wc w.heap.size [.bool true, .int .i64 kn] 28 ∧ Hx wc (w.heap.size + 1) [.bool false, .int .i64 0] 28)
    case first =>
      go_wp2_with fail
      go_meet
      exact ⟨rfl, rfl, (by exact G.go HG), Hx.alloc (Hx.new _ _ _) _, Hx.new' (by first | (simp; done) | rfl) rfl⟩
    obtain ⟨rfl, rfl, HG, hk, hr⟩ := hcut
    rename World => wx
    have hk_0 := hk.cell 0; have hk_1 := hk.cell 1; have hk_f0 := hk.free 0; have hk_f1 := hk.free 1; have hk_l := hk.lt; have hr_0 := hr.cell 0; have hr_1 := hr.cell 1; have hr_f0 := hr.free 0; have hr_f1 := hr.free 1; have hr_l := hr.lt
    go_wp2_with (go_at_call 88; (with_reducible refine (HK.out _).mono ?_); rintro e wn ⟨rfl, hgn⟩; replace HG := G.trans (w := w) (by exact G.go HG) hgn; replace hk := Hx.kept (by first | exact Hx.go hk | exact Hx.go2) hgn (by simp); have hk_0 := hk.cell 0; have hk_1 := hk.cell 1; have hk_f0 := hk.free 0; have hk_f1 := hk.free 1; have hk_l := hk.lt; replace hr := Hx.kept (by first | exact Hx.go hr | exact Hx.go2) hgn (by simp); have hr_0 := hr.cell 0; have hr_1 := hr.cell 1; have hr_f0 := hr.free 0; have hr_f1 := hr.free 1; have hr_l := hr.lt; clear hgn)
    refine ret_cell [.bool false, .int .i64 0] (w.heap.size + 1) 28 rfl rfl (Tryz.isAgg28 _) (Tryz.sizeOf28 _) rfl ?_ ⟨by rw [hfin.out]; rfl, (by exact G.go HG)⟩
    exact (by first | exact Hx.go hr | exact Hx.go2)
  have HM := Lib.hid (fun wr hg => HC.out m (by omega) wr hg)
  rw [← hV5.out] at HM
  go_enter Tryz.func56, Tryz.ntmps56
  go_upto_region 0 with (fail)
  go_cut [5, 6] (fun p5 p6 wc => p5 = .pointer (some ⟨w.heap.size, 0, none⟩) ∧ p6 = .pointer (some ⟨(w.heap.size + 1), 0, none⟩) ∧ w.grownBy wc none ∧ Hx wc w.heap.size [.bool true, .int .i64 kn] 28 ∧ Hx wc (w.heap.size + 1) [.bool false, .int .i64 0] 28)
  case first =>
    go_wp2_with fail
    go_meet
    exact ⟨rfl, rfl, (by exact G.go HG), Hx.alloc (Hx.new _ _ _) _, Hx.new' (by first | (simp; done) | rfl) rfl⟩
  obtain ⟨rfl, rfl, HG, hk, hr⟩ := hcut
  rename World => wx
  have hk_0 := hk.cell 0; have hk_1 := hk.cell 1; have hk_f0 := hk.free 0; have hk_f1 := hk.free 1; have hk_l := hk.lt; have hr_0 := hr.cell 0; have hr_1 := hr.cell 1; have hr_f0 := hr.free 0; have hr_f1 := hr.free 1; have hr_l := hr.lt
  go_upto_region 6 with (go_at_call 88; (with_reducible refine (HK.out _).mono ?_); rintro e wn ⟨rfl, hgn⟩; replace HG := G.trans (w := w) (by exact G.go HG) hgn; replace hk := Hx.kept (by first | exact Hx.go hk | exact Hx.go2) hgn (by simp); have hk_0 := hk.cell 0; have hk_1 := hk.cell 1; have hk_f0 := hk.free 0; have hk_f1 := hk.free 1; have hk_l := hk.lt; replace hr := Hx.kept (by first | exact Hx.go hr | exact Hx.go2) hgn (by simp); have hr_0 := hr.cell 0; have hr_1 := hr.cell 1; have hr_f0 := hr.free 0; have hr_f1 := hr.free 1; have hr_l := hr.lt; clear hgn)
  obtain ⟨y0, y1⟩ := HM.out _ (by exact (by exact G.go HG))
  go_wp2_with fail
  refine ret_cell [.bool (vB V), .int .i64 (vN V)] (w.heap.size + 1) 28 rfl rfl (Tryz.isAgg28 _) (Tryz.sizeOf28 _) rfl ?_ ⟨by rw [hvv.out], (by exact G.go HG)⟩
  exact (by first | exact Hx.go hr | exact Hx.go2)
set_option maxHeartbeats 16000000 in
set_option maxRecDepth 100000 in
theorem changed1_any (w : World) (S : Ser) (sv : Value) (h : ERow valE w sv S.vals) (hall : S.vals.all (fun p => isR p.1 p.2) = true) (hl : S.vals.length ≤ 131072) (step : Int) (has : Bool) (k : Option Int) (j : Nat) (hj : j < S.vals.length) : Calls Tryz.prog 57 #[sv, .int .i64 (j : Int)] w fun e w' => e = .returned (valV (fsV 0 step has k S.opts j)) ∧ w.grownBy w' none := by
  have HG := G.refl w none
  have HA := Lib.hid (fun w2 h2 (hp : 0 < j) => left1_any w2 S sv h2 hall ((j : Int) - 1) (by omega) (by omega) (by omega))
  have hab := aheadI_bound S.opts j
  have has2 := aheadI_some S.opts j
  obtain ⟨V, hV⟩ : ∃ V, Hid (fsV 0 step has k S.opts j = V) := ⟨_, Lib.hid rfl⟩
  rw [hV.out]
  have hV2 : Hid (V = if (S.opts.getD j none).isSome && (decide (0 ≤ aheadI S.opts j) && !(S.opts.getD (aheadI S.opts j).toNat none == S.opts.getD j none)) then some 1000000 else some 0) := Lib.hid (by rw [← hV.out]; rfl)
  clear hV
  have HO := Lib.hid (fun w2 => int1_any w2 0)
  rw [intO_small (by omega)] at HO
  have HI := Lib.hid (fun w2 => int1_any w2 1)
  rw [intO_small (by omega)] at HI
  simp only [valV, valC, Int.one_mul, Int.zero_mul] at HO HI
  have HV := Lib.hid h
  obtain ⟨A, c, rfl, -, -, q3⟩ := h
  obtain ⟨b, o, rfl, hbl, hc⟩ := q3 (by omega)
  have HC := Lib.hid (fun (m : Nat) (hm : m < S.vals.length) (wr : World) (hg : w.grownBy wr none) => rowCells hall hc hg hbl hm)
  clear hc q3
  have hwr : IntKind.i64.wrap ((j : Int) - 1) = (j : Int) - 1 := by rw [IntKind.wrap_i64]; omega
  rw [show ((j : Int) - 1 + 1).toNat = j by omega] at HA
  have h0 : j = 0 → aheadI S.opts j = -1 := fun e => by subst e; rfl
  generalize aheadI S.opts j = a at *
  cases hv : S.opts.getD j none with
  | none =>
    have hfin : Hid (V = some 0) := Lib.hid (by rw [hV2.out, hv]; rfl)
    clear hV2
    go_enter Tryz.func57, Tryz.ntmps57
    go_upto_region 0 with (fail)
    go_cut [4] (fun p4 wc => p4 = .pointer (some ⟨w.heap.size, 0, none⟩) ∧ w.grownBy wc none ∧ Hx wc w.heap.size [.bool false, .int .i64 0] 28)
    case first =>
      go_wp2_with fail
      go_meet
      exact ⟨rfl, (by exact G.go HG), Hx.new _ _ _⟩
    obtain ⟨rfl, HG, hr⟩ := hcut
    rename World => wx
    go_upto_if 7 with (fail)
    go_cut [4, 5] (fun p4 p5 wd => p4 = .pointer (some ⟨w.heap.size, 0, none⟩) ∧ p5 = .int .i64 a ∧ w.grownBy wd none ∧ Hx wd w.heap.size [.bool false, .int .i64 0] 28)
    case first =>
      by_cases hj0 : 0 < j
      rotate_left
      · have hdj : ¬ ((0 : Int) < (j : Int)) := by omega
        have hr_0 := hr.cell 0; have hr_1 := hr.cell 1; have hr_f0 := hr.free 0; have hr_f1 := hr.free 1; have hr_l := hr.lt
        go_wp2_with fail
        all_goals go_meet
        all_goals have ha0 := h0 (by omega)
        all_goals first | exact ⟨rfl, by rw [ha0], (by exact G.go HG), (by first | exact Hx.go hr | exact Hx.go2)⟩ | (exfalso; omega)
      · have HA2 := Lib.hid (fun w2 h2 => HA.out w2 h2 (by omega))
        have hr_0 := hr.cell 0; have hr_1 := hr.cell 1; have hr_f0 := hr.free 0; have hr_f1 := hr.free 1; have hr_l := hr.lt
        go_wp2_with (go_at_call 93; (with_reducible refine (HA2.out _ (HV.out.kept0 (by exact G.go HG))).mono ?_); rintro e wn ⟨rfl, hgn⟩; replace HG := G.trans (w := w) (by exact G.go HG) hgn; replace hr := Hx.kept (by first | exact Hx.go hr | exact Hx.go2) hgn (by simp); have hr_0 := hr.cell 0; have hr_1 := hr.cell 1; have hr_f0 := hr.free 0; have hr_f1 := hr.free 1; have hr_l := hr.lt; clear hgn)
        go_meet
        exact ⟨rfl, rfl, (by exact G.go HG), (by first | exact Hx.go hr | exact Hx.go2)⟩
    obtain ⟨rfl, rfl, HG, hr⟩ := hcut
    rename World => wy
    have hr_0 := hr.cell 0; have hr_1 := hr.cell 1; have hr_f0 := hr.free 0; have hr_f1 := hr.free 1; have hr_l := hr.lt
    obtain ⟨x0, x1⟩ := HC.out j hj _ HG
    rw [hv] at x0 x1
    have x2 : wy.cell? ⟨b, o + j * 2, none⟩ = some (.bool false) := x0
    have x3 : wy.cell? ⟨b, o + j * 2 + 1, none⟩ = some (.int .i64 0) := x1
    clear x0 x1
    go_upto_region 4 with (fail)
    go_quiet (fail)
    go_wp2_with (go_at_call 53; (with_reducible refine (HO.out _).mono ?_); rintro e wn ⟨rfl, hgn⟩; replace HG := G.trans (w := w) (by exact G.go HG) hgn; replace hr := Hx.kept (by first | exact Hx.go hr | exact Hx.go2) hgn (by simp); have hr_0 := hr.cell 0; have hr_1 := hr.cell 1; have hr_f0 := hr.free 0; have hr_f1 := hr.free 1; have hr_l := hr.lt; clear hgn)
    refine ret_cell [.bool true, .int .i64 0] w.heap.size 28 rfl rfl (Tryz.isAgg28 _) (Tryz.sizeOf28 _) rfl ?_ ⟨by rw [hfin.out]; rfl, (by exact G.go HG)⟩
    exact (by first | exact Hx.go hr | exact Hx.go2)
  | some x =>
    rw [hv] at hV2
    have hV3 : Hid (V = if (decide (0 ≤ a) && !(S.opts.getD a.toNat none == some x)) then some 1000000 else some 0) := Lib.hid (by rw [hV2.out]; rfl)
    clear hV2
    by_cases hneg : a < 0
    · have hd : decide (0 ≤ a) = false := decide_eq_false (by omega)
      have hfin : Hid (V = some 0) := Lib.hid (by rw [hV3.out, hd]; rfl)
      clear hV3
      go_enter Tryz.func57, Tryz.ntmps57
      go_upto_region 0 with (fail)
      go_cut [4] (fun p4 wc => p4 = .pointer (some ⟨w.heap.size, 0, none⟩) ∧ w.grownBy wc none ∧ Hx wc w.heap.size [.bool false, .int .i64 0] 28)
      case first =>
        go_wp2_with fail
        go_meet
        exact ⟨rfl, (by exact G.go HG), Hx.new _ _ _⟩
      obtain ⟨rfl, HG, hr⟩ := hcut
      rename World => wx
      go_upto_if 7 with (fail)
      go_cut [4, 5] (fun p4 p5 wd => p4 = .pointer (some ⟨w.heap.size, 0, none⟩) ∧ p5 = .int .i64 a ∧ w.grownBy wd none ∧ Hx wd w.heap.size [.bool false, .int .i64 0] 28)
      case first =>
        by_cases hj0 : 0 < j
        rotate_left
        · have hdj : ¬ ((0 : Int) < (j : Int)) := by omega
          have hr_0 := hr.cell 0; have hr_1 := hr.cell 1; have hr_f0 := hr.free 0; have hr_f1 := hr.free 1; have hr_l := hr.lt
          go_wp2_with fail
          all_goals go_meet
          all_goals have ha0 := h0 (by omega)
          all_goals first | exact ⟨rfl, by rw [ha0], (by exact G.go HG), (by first | exact Hx.go hr | exact Hx.go2)⟩ | (exfalso; omega)
        · have HA2 := Lib.hid (fun w2 h2 => HA.out w2 h2 (by omega))
          have hr_0 := hr.cell 0; have hr_1 := hr.cell 1; have hr_f0 := hr.free 0; have hr_f1 := hr.free 1; have hr_l := hr.lt
          go_wp2_with (go_at_call 93; (with_reducible refine (HA2.out _ (HV.out.kept0 (by exact G.go HG))).mono ?_); rintro e wn ⟨rfl, hgn⟩; replace HG := G.trans (w := w) (by exact G.go HG) hgn; replace hr := Hx.kept (by first | exact Hx.go hr | exact Hx.go2) hgn (by simp); have hr_0 := hr.cell 0; have hr_1 := hr.cell 1; have hr_f0 := hr.free 0; have hr_f1 := hr.free 1; have hr_l := hr.lt; clear hgn)
          go_meet
          exact ⟨rfl, rfl, (by exact G.go HG), (by first | exact Hx.go hr | exact Hx.go2)⟩
      obtain ⟨rfl, rfl, HG, hr⟩ := hcut
      rename World => wy
      have hr_0 := hr.cell 0; have hr_1 := hr.cell 1; have hr_f0 := hr.free 0; have hr_f1 := hr.free 1; have hr_l := hr.lt
      obtain ⟨x0, x1⟩ := HC.out j hj _ HG
      rw [hv] at x0 x1
      have x2 : wy.cell? ⟨b, o + j * 2, none⟩ = some (.bool true) := x0
      have x3 : wy.cell? ⟨b, o + j * 2 + 1, none⟩ = some (.int .i64 x) := x1
      clear x0 x1
      go_upto_region 4 with (fail)
      go_quiet (fail)
      go_wp2_with (go_at_call 53; (with_reducible refine (HO.out _).mono ?_); rintro e wn ⟨rfl, hgn⟩; replace HG := G.trans (w := w) (by exact G.go HG) hgn; replace hr := Hx.kept (by first | exact Hx.go hr | exact Hx.go2) hgn (by simp); have hr_0 := hr.cell 0; have hr_1 := hr.cell 1; have hr_f0 := hr.free 0; have hr_f1 := hr.free 1; have hr_l := hr.lt; clear hgn)
      refine ret_cell [.bool true, .int .i64 0] w.heap.size 28 rfl rfl (Tryz.isAgg28 _) (Tryz.sizeOf28 _) rfl ?_ ⟨by rw [hfin.out]; rfl, (by exact G.go HG)⟩
      exact (by first | exact Hx.go hr | exact Hx.go2)
    obtain ⟨m, rfl⟩ : ∃ m : Nat, a = m := ⟨a.toNat, by omega⟩
    obtain ⟨y, hy⟩ := has2 (by omega)
    have hy : S.opts.getD m none = some y := hy
    have hml : m < S.vals.length := by omega
    have hd : decide (0 ≤ (m : Int)) = true := decide_eq_true (by omega)
    have hV4 : Hid (V = if !(some y == some x) then some 1000000 else some 0) := Lib.hid (by rw [hV3.out, hd, show (S.opts.getD (m : Int).toNat none) = some y from hy]; rfl)
    clear hV3 has2
    by_cases hxy : y = x
    · subst hxy
      have hfin : Hid (V = some 0) := Lib.hid (by rw [hV4.out]; simp)
      clear hV4
      go_enter Tryz.func57, Tryz.ntmps57
      go_upto_region 0 with (fail)
      go_cut [4] (fun p4 wc => p4 = .pointer (some ⟨w.heap.size, 0, none⟩) ∧ w.grownBy wc none ∧ Hx wc w.heap.size [.bool false, .int .i64 0] 28)
      case first =>
        go_wp2_with fail
        go_meet
        exact ⟨rfl, (by exact G.go HG), Hx.new _ _ _⟩
      obtain ⟨rfl, HG, hr⟩ := hcut
      rename World => wx
      go_upto_if 7 with (fail)
      go_cut [4, 5] (fun p4 p5 wd => p4 = .pointer (some ⟨w.heap.size, 0, none⟩) ∧ p5 = .int .i64 (m : Int) ∧ w.grownBy wd none ∧ Hx wd w.heap.size [.bool false, .int .i64 0] 28)
      case first =>
        by_cases hj0 : 0 < j
        rotate_left
        · have hdj : ¬ ((0 : Int) < (j : Int)) := by omega
          have hr_0 := hr.cell 0; have hr_1 := hr.cell 1; have hr_f0 := hr.free 0; have hr_f1 := hr.free 1; have hr_l := hr.lt
          go_wp2_with fail
          all_goals go_meet
          all_goals have ha0 := h0 (by omega)
          all_goals first | exact ⟨rfl, by rw [ha0], (by exact G.go HG), (by first | exact Hx.go hr | exact Hx.go2)⟩ | (exfalso; omega)
        · have HA2 := Lib.hid (fun w2 h2 => HA.out w2 h2 (by omega))
          have hr_0 := hr.cell 0; have hr_1 := hr.cell 1; have hr_f0 := hr.free 0; have hr_f1 := hr.free 1; have hr_l := hr.lt
          go_wp2_with (go_at_call 93; (with_reducible refine (HA2.out _ (HV.out.kept0 (by exact G.go HG))).mono ?_); rintro e wn ⟨rfl, hgn⟩; replace HG := G.trans (w := w) (by exact G.go HG) hgn; replace hr := Hx.kept (by first | exact Hx.go hr | exact Hx.go2) hgn (by simp); have hr_0 := hr.cell 0; have hr_1 := hr.cell 1; have hr_f0 := hr.free 0; have hr_f1 := hr.free 1; have hr_l := hr.lt; clear hgn)
          go_meet
          exact ⟨rfl, rfl, (by exact G.go HG), (by first | exact Hx.go hr | exact Hx.go2)⟩
      obtain ⟨rfl, rfl, HG, hr⟩ := hcut
      rename World => wy
      have hr_0 := hr.cell 0; have hr_1 := hr.cell 1; have hr_f0 := hr.free 0; have hr_f1 := hr.free 1; have hr_l := hr.lt
      obtain ⟨x0, x1⟩ := HC.out j hj _ HG
      rw [hv] at x0 x1
      have x2 : wy.cell? ⟨b, o + j * 2, none⟩ = some (.bool true) := x0
      have x3 : wy.cell? ⟨b, o + j * 2 + 1, none⟩ = some (.int .i64 y) := x1
      clear x0 x1
      obtain ⟨y0, y1⟩ := HC.out m hml _ HG
      rw [hy] at y0 y1
      have y2 : wy.cell? ⟨b, o + m * 2, none⟩ = some (.bool true) := y0
      have y3 : wy.cell? ⟨b, o + m * 2 + 1, none⟩ = some (.int .i64 y) := y1
      clear y0 y1
      go_upto_region 4 with (fail)
      go_quiet (fail)
      go_wp2_with (go_at_call 53; (with_reducible refine (HO.out _).mono ?_); rintro e wn ⟨rfl, hgn⟩; replace HG := G.trans (w := w) (by exact G.go HG) hgn; replace hr := Hx.kept (by first | exact Hx.go hr | exact Hx.go2) hgn (by simp); have hr_0 := hr.cell 0; have hr_1 := hr.cell 1; have hr_f0 := hr.free 0; have hr_f1 := hr.free 1; have hr_l := hr.lt; clear hgn)
      refine ret_cell [.bool true, .int .i64 0] w.heap.size 28 rfl rfl (Tryz.isAgg28 _) (Tryz.sizeOf28 _) rfl ?_ ⟨by rw [hfin.out]; rfl, (by exact G.go HG)⟩
      exact (by first | exact Hx.go hr | exact Hx.go2)
    have hfin : Hid (V = some 1000000) := Lib.hid (by rw [hV4.out]; simp [hxy])
    clear hV4
    have hyx : decide (y = x) = false := decide_eq_false hxy
    go_enter Tryz.func57, Tryz.ntmps57
    go_upto_region 0 with (fail)
    go_cut [4] (fun p4 wc => p4 = .pointer (some ⟨w.heap.size, 0, none⟩) ∧ w.grownBy wc none ∧ Hx wc w.heap.size [.bool false, .int .i64 0] 28)
    case first =>
      go_wp2_with fail
      go_meet
      exact ⟨rfl, (by exact G.go HG), Hx.new _ _ _⟩
    obtain ⟨rfl, HG, hr⟩ := hcut
    rename World => wx
    go_upto_if 7 with (fail)
    go_cut [4, 5] (fun p4 p5 wd => p4 = .pointer (some ⟨w.heap.size, 0, none⟩) ∧ p5 = .int .i64 (m : Int) ∧ w.grownBy wd none ∧ Hx wd w.heap.size [.bool false, .int .i64 0] 28)
    case first =>
      by_cases hj0 : 0 < j
      rotate_left
      · have hdj : ¬ ((0 : Int) < (j : Int)) := by omega
        have hr_0 := hr.cell 0; have hr_1 := hr.cell 1; have hr_f0 := hr.free 0; have hr_f1 := hr.free 1; have hr_l := hr.lt
        go_wp2_with fail
        all_goals go_meet
        all_goals have ha0 := h0 (by omega)
        all_goals first | exact ⟨rfl, by rw [ha0], (by exact G.go HG), (by first | exact Hx.go hr | exact Hx.go2)⟩ | (exfalso; omega)
      · have HA2 := Lib.hid (fun w2 h2 => HA.out w2 h2 (by omega))
        have hr_0 := hr.cell 0; have hr_1 := hr.cell 1; have hr_f0 := hr.free 0; have hr_f1 := hr.free 1; have hr_l := hr.lt
        go_wp2_with (go_at_call 93; (with_reducible refine (HA2.out _ (HV.out.kept0 (by exact G.go HG))).mono ?_); rintro e wn ⟨rfl, hgn⟩; replace HG := G.trans (w := w) (by exact G.go HG) hgn; replace hr := Hx.kept (by first | exact Hx.go hr | exact Hx.go2) hgn (by simp); have hr_0 := hr.cell 0; have hr_1 := hr.cell 1; have hr_f0 := hr.free 0; have hr_f1 := hr.free 1; have hr_l := hr.lt; clear hgn)
        go_meet
        exact ⟨rfl, rfl, (by exact G.go HG), (by first | exact Hx.go hr | exact Hx.go2)⟩
    obtain ⟨rfl, rfl, HG, hr⟩ := hcut
    rename World => wy
    have hr_0 := hr.cell 0; have hr_1 := hr.cell 1; have hr_f0 := hr.free 0; have hr_f1 := hr.free 1; have hr_l := hr.lt
    obtain ⟨x0, x1⟩ := HC.out j hj _ HG
    rw [hv] at x0 x1
    have x2 : wy.cell? ⟨b, o + j * 2, none⟩ = some (.bool true) := x0
    have x3 : wy.cell? ⟨b, o + j * 2 + 1, none⟩ = some (.int .i64 x) := x1
    clear x0 x1
    obtain ⟨y0, y1⟩ := HC.out m hml _ HG
    rw [hy] at y0 y1
    have y2 : wy.cell? ⟨b, o + m * 2, none⟩ = some (.bool true) := y0
    have y3 : wy.cell? ⟨b, o + m * 2 + 1, none⟩ = some (.int .i64 y) := y1
    clear y0 y1
    go_upto_region 4 with (fail)
    go_quiet (fail)
    go_wp2_with (go_at_call 53; (with_reducible refine (HI.out _).mono ?_); rintro e wn ⟨rfl, hgn⟩; replace HG := G.trans (w := w) (by exact G.go HG) hgn; replace hr := Hx.kept (by first | exact Hx.go hr | exact Hx.go2) hgn (by simp); have hr_0 := hr.cell 0; have hr_1 := hr.cell 1; have hr_f0 := hr.free 0; have hr_f1 := hr.free 1; have hr_l := hr.lt; clear hgn)
    refine ret_cell [.bool true, .int .i64 1000000] w.heap.size 28 rfl rfl (Tryz.isAgg28 _) (Tryz.sizeOf28 _) rfl ?_ ⟨by rw [hfin.out]; rfl, (by exact G.go HG)⟩
    exact (by first | exact Hx.go hr | exact Hx.go2)
theorem eqFs {nm : ByteArray} {l : List UInt8} {b : Bool} (h : decide (nm = ⟨l.toArray⟩) = b) : (nm.toList == l) = b := by
  have h1 := sbeq nm ⟨l.toArray⟩
  rw [ByteArray.toList_eq ⟨l.toArray⟩] at h1
  exact h1.trans h
theorem eqFsYes {nm : ByteArray} {l : List UInt8} (h : nm = ⟨l.toArray⟩) : (nm.toList == l) = true := eqFs (decide_eq_true h)
theorem eqFsNo {nm : ByteArray} {l : List UInt8} (h : ¬ nm = ⟨l.toArray⟩) : (nm.toList == l) = false := eqFs (decide_eq_false h)
def manyT (x : Option Nat) : Value := match x with | none => .tuple #[.int .i64 0, .int .i64 0, .bool false] | some i => .tuple #[.int .i64 (fsNeed i), .int .i64 (fsMost i), .bool true]
theorem results3s {fn : Func} {t u v : Tmp} (h : fn.results = #[.tmp t, .tmp u, .tmp v]) (tmps : Array Value) (P : Program) (w : World) : (results fn tmps).run P w = .ok (.tuple #[tmps.getD t undef, tmps.getD u undef, tmps.getD v undef]) w := by
  simp [results, h]
set_option maxHeartbeats 8000000 in
theorem many_any (nm : ByteArray) (w : World) : Calls Tryz.prog 28 #[.string nm] w fun e w' => e = .returned (manyT (fsIdx nm)) ∧ w = w' := by
  by_cases g0 : nm = fs0
  · have hix : Hid (fsIdx nm = some 0) := Lib.hid (by subst g0; decide)
    have e0 : (nm.toList == ([99, 104, 97, 110, 103, 101, 100] : List UInt8)) = true := eqFsYes g0
    have e1 : (nm.toList == ([100, 101, 108, 97, 121] : List UInt8)) = false := eqFsNo (by rw [g0]; decide)
    have e2 : (nm.toList == ([100, 101, 114, 105, 118, 97, 116, 105, 118, 101] : List UInt8)) = false := eqFsNo (by rw [g0]; decide)
    have e3 : (nm.toList == ([105, 110, 116, 101, 103, 114, 97, 108] : List UInt8)) = false := eqFsNo (by rw [g0]; decide)
    have e4 : (nm.toList == ([105, 110, 116, 101, 114, 112, 111, 108, 97, 116, 101] : List UInt8)) = false := eqFsNo (by rw [g0]; decide)
    have e5 : (nm.toList == ([107, 101, 101, 112, 76, 97, 115, 116, 86, 97, 108, 117, 101] : List UInt8)) = false := eqFsNo (by rw [g0]; decide)
    have e6 : (nm.toList == ([110, 111, 110, 78, 101, 103, 97, 116, 105, 118, 101, 68, 101, 114, 105, 118, 97, 116, 105, 118, 101] : List UInt8)) = false := eqFsNo (by rw [g0]; decide)
    have e7 : (nm.toList == ([112, 101, 114, 83, 101, 99, 111, 110, 100] : List UInt8)) = false := eqFsNo (by rw [g0]; decide)
    clear g0
    go_enter Tryz.func28, Tryz.ntmps28
    go_wp2_with fail
    refine bodyPost_ret (results3s rfl _ _ _) rfl ⟨by rw [hix.out]; rfl, rfl⟩
  have e0 : (nm.toList == ([99, 104, 97, 110, 103, 101, 100] : List UInt8)) = false := eqFsNo g0
  by_cases g1 : nm = fs1
  · have hix : Hid (fsIdx nm = some 1) := Lib.hid (by subst g1; decide)
    have e1 : (nm.toList == ([100, 101, 108, 97, 121] : List UInt8)) = true := eqFsYes g1
    have e0 : (nm.toList == ([99, 104, 97, 110, 103, 101, 100] : List UInt8)) = false := eqFsNo (by rw [g1]; decide)
    have e2 : (nm.toList == ([100, 101, 114, 105, 118, 97, 116, 105, 118, 101] : List UInt8)) = false := eqFsNo (by rw [g1]; decide)
    have e3 : (nm.toList == ([105, 110, 116, 101, 103, 114, 97, 108] : List UInt8)) = false := eqFsNo (by rw [g1]; decide)
    have e4 : (nm.toList == ([105, 110, 116, 101, 114, 112, 111, 108, 97, 116, 101] : List UInt8)) = false := eqFsNo (by rw [g1]; decide)
    have e5 : (nm.toList == ([107, 101, 101, 112, 76, 97, 115, 116, 86, 97, 108, 117, 101] : List UInt8)) = false := eqFsNo (by rw [g1]; decide)
    have e6 : (nm.toList == ([110, 111, 110, 78, 101, 103, 97, 116, 105, 118, 101, 68, 101, 114, 105, 118, 97, 116, 105, 118, 101] : List UInt8)) = false := eqFsNo (by rw [g1]; decide)
    have e7 : (nm.toList == ([112, 101, 114, 83, 101, 99, 111, 110, 100] : List UInt8)) = false := eqFsNo (by rw [g1]; decide)
    clear g1
    go_enter Tryz.func28, Tryz.ntmps28
    go_wp2_with fail
    refine bodyPost_ret (results3s rfl _ _ _) rfl ⟨by rw [hix.out]; rfl, rfl⟩
  have e1 : (nm.toList == ([100, 101, 108, 97, 121] : List UInt8)) = false := eqFsNo g1
  by_cases g2 : nm = fs2
  · have hix : Hid (fsIdx nm = some 2) := Lib.hid (by subst g2; decide)
    have e2 : (nm.toList == ([100, 101, 114, 105, 118, 97, 116, 105, 118, 101] : List UInt8)) = true := eqFsYes g2
    have e0 : (nm.toList == ([99, 104, 97, 110, 103, 101, 100] : List UInt8)) = false := eqFsNo (by rw [g2]; decide)
    have e1 : (nm.toList == ([100, 101, 108, 97, 121] : List UInt8)) = false := eqFsNo (by rw [g2]; decide)
    have e3 : (nm.toList == ([105, 110, 116, 101, 103, 114, 97, 108] : List UInt8)) = false := eqFsNo (by rw [g2]; decide)
    have e4 : (nm.toList == ([105, 110, 116, 101, 114, 112, 111, 108, 97, 116, 101] : List UInt8)) = false := eqFsNo (by rw [g2]; decide)
    have e5 : (nm.toList == ([107, 101, 101, 112, 76, 97, 115, 116, 86, 97, 108, 117, 101] : List UInt8)) = false := eqFsNo (by rw [g2]; decide)
    have e6 : (nm.toList == ([110, 111, 110, 78, 101, 103, 97, 116, 105, 118, 101, 68, 101, 114, 105, 118, 97, 116, 105, 118, 101] : List UInt8)) = false := eqFsNo (by rw [g2]; decide)
    have e7 : (nm.toList == ([112, 101, 114, 83, 101, 99, 111, 110, 100] : List UInt8)) = false := eqFsNo (by rw [g2]; decide)
    clear g2
    go_enter Tryz.func28, Tryz.ntmps28
    go_wp2_with fail
    refine bodyPost_ret (results3s rfl _ _ _) rfl ⟨by rw [hix.out]; rfl, rfl⟩
  have e2 : (nm.toList == ([100, 101, 114, 105, 118, 97, 116, 105, 118, 101] : List UInt8)) = false := eqFsNo g2
  by_cases g3 : nm = fs3
  · have hix : Hid (fsIdx nm = some 3) := Lib.hid (by subst g3; decide)
    have e3 : (nm.toList == ([105, 110, 116, 101, 103, 114, 97, 108] : List UInt8)) = true := eqFsYes g3
    have e0 : (nm.toList == ([99, 104, 97, 110, 103, 101, 100] : List UInt8)) = false := eqFsNo (by rw [g3]; decide)
    have e1 : (nm.toList == ([100, 101, 108, 97, 121] : List UInt8)) = false := eqFsNo (by rw [g3]; decide)
    have e2 : (nm.toList == ([100, 101, 114, 105, 118, 97, 116, 105, 118, 101] : List UInt8)) = false := eqFsNo (by rw [g3]; decide)
    have e4 : (nm.toList == ([105, 110, 116, 101, 114, 112, 111, 108, 97, 116, 101] : List UInt8)) = false := eqFsNo (by rw [g3]; decide)
    have e5 : (nm.toList == ([107, 101, 101, 112, 76, 97, 115, 116, 86, 97, 108, 117, 101] : List UInt8)) = false := eqFsNo (by rw [g3]; decide)
    have e6 : (nm.toList == ([110, 111, 110, 78, 101, 103, 97, 116, 105, 118, 101, 68, 101, 114, 105, 118, 97, 116, 105, 118, 101] : List UInt8)) = false := eqFsNo (by rw [g3]; decide)
    have e7 : (nm.toList == ([112, 101, 114, 83, 101, 99, 111, 110, 100] : List UInt8)) = false := eqFsNo (by rw [g3]; decide)
    clear g3
    go_enter Tryz.func28, Tryz.ntmps28
    go_wp2_with fail
    refine bodyPost_ret (results3s rfl _ _ _) rfl ⟨by rw [hix.out]; rfl, rfl⟩
  have e3 : (nm.toList == ([105, 110, 116, 101, 103, 114, 97, 108] : List UInt8)) = false := eqFsNo g3
  by_cases g4 : nm = fs4
  · have hix : Hid (fsIdx nm = some 4) := Lib.hid (by subst g4; decide)
    have e4 : (nm.toList == ([105, 110, 116, 101, 114, 112, 111, 108, 97, 116, 101] : List UInt8)) = true := eqFsYes g4
    have e0 : (nm.toList == ([99, 104, 97, 110, 103, 101, 100] : List UInt8)) = false := eqFsNo (by rw [g4]; decide)
    have e1 : (nm.toList == ([100, 101, 108, 97, 121] : List UInt8)) = false := eqFsNo (by rw [g4]; decide)
    have e2 : (nm.toList == ([100, 101, 114, 105, 118, 97, 116, 105, 118, 101] : List UInt8)) = false := eqFsNo (by rw [g4]; decide)
    have e3 : (nm.toList == ([105, 110, 116, 101, 103, 114, 97, 108] : List UInt8)) = false := eqFsNo (by rw [g4]; decide)
    have e5 : (nm.toList == ([107, 101, 101, 112, 76, 97, 115, 116, 86, 97, 108, 117, 101] : List UInt8)) = false := eqFsNo (by rw [g4]; decide)
    have e6 : (nm.toList == ([110, 111, 110, 78, 101, 103, 97, 116, 105, 118, 101, 68, 101, 114, 105, 118, 97, 116, 105, 118, 101] : List UInt8)) = false := eqFsNo (by rw [g4]; decide)
    have e7 : (nm.toList == ([112, 101, 114, 83, 101, 99, 111, 110, 100] : List UInt8)) = false := eqFsNo (by rw [g4]; decide)
    clear g4
    go_enter Tryz.func28, Tryz.ntmps28
    go_wp2_with fail
    refine bodyPost_ret (results3s rfl _ _ _) rfl ⟨by rw [hix.out]; rfl, rfl⟩
  have e4 : (nm.toList == ([105, 110, 116, 101, 114, 112, 111, 108, 97, 116, 101] : List UInt8)) = false := eqFsNo g4
  by_cases g5 : nm = fs5
  · have hix : Hid (fsIdx nm = some 5) := Lib.hid (by subst g5; decide)
    have e5 : (nm.toList == ([107, 101, 101, 112, 76, 97, 115, 116, 86, 97, 108, 117, 101] : List UInt8)) = true := eqFsYes g5
    have e0 : (nm.toList == ([99, 104, 97, 110, 103, 101, 100] : List UInt8)) = false := eqFsNo (by rw [g5]; decide)
    have e1 : (nm.toList == ([100, 101, 108, 97, 121] : List UInt8)) = false := eqFsNo (by rw [g5]; decide)
    have e2 : (nm.toList == ([100, 101, 114, 105, 118, 97, 116, 105, 118, 101] : List UInt8)) = false := eqFsNo (by rw [g5]; decide)
    have e3 : (nm.toList == ([105, 110, 116, 101, 103, 114, 97, 108] : List UInt8)) = false := eqFsNo (by rw [g5]; decide)
    have e4 : (nm.toList == ([105, 110, 116, 101, 114, 112, 111, 108, 97, 116, 101] : List UInt8)) = false := eqFsNo (by rw [g5]; decide)
    have e6 : (nm.toList == ([110, 111, 110, 78, 101, 103, 97, 116, 105, 118, 101, 68, 101, 114, 105, 118, 97, 116, 105, 118, 101] : List UInt8)) = false := eqFsNo (by rw [g5]; decide)
    have e7 : (nm.toList == ([112, 101, 114, 83, 101, 99, 111, 110, 100] : List UInt8)) = false := eqFsNo (by rw [g5]; decide)
    clear g5
    go_enter Tryz.func28, Tryz.ntmps28
    go_wp2_with fail
    refine bodyPost_ret (results3s rfl _ _ _) rfl ⟨by rw [hix.out]; rfl, rfl⟩
  have e5 : (nm.toList == ([107, 101, 101, 112, 76, 97, 115, 116, 86, 97, 108, 117, 101] : List UInt8)) = false := eqFsNo g5
  by_cases g6 : nm = fs6
  · have hix : Hid (fsIdx nm = some 6) := Lib.hid (by subst g6; decide)
    have e6 : (nm.toList == ([110, 111, 110, 78, 101, 103, 97, 116, 105, 118, 101, 68, 101, 114, 105, 118, 97, 116, 105, 118, 101] : List UInt8)) = true := eqFsYes g6
    have e0 : (nm.toList == ([99, 104, 97, 110, 103, 101, 100] : List UInt8)) = false := eqFsNo (by rw [g6]; decide)
    have e1 : (nm.toList == ([100, 101, 108, 97, 121] : List UInt8)) = false := eqFsNo (by rw [g6]; decide)
    have e2 : (nm.toList == ([100, 101, 114, 105, 118, 97, 116, 105, 118, 101] : List UInt8)) = false := eqFsNo (by rw [g6]; decide)
    have e3 : (nm.toList == ([105, 110, 116, 101, 103, 114, 97, 108] : List UInt8)) = false := eqFsNo (by rw [g6]; decide)
    have e4 : (nm.toList == ([105, 110, 116, 101, 114, 112, 111, 108, 97, 116, 101] : List UInt8)) = false := eqFsNo (by rw [g6]; decide)
    have e5 : (nm.toList == ([107, 101, 101, 112, 76, 97, 115, 116, 86, 97, 108, 117, 101] : List UInt8)) = false := eqFsNo (by rw [g6]; decide)
    have e7 : (nm.toList == ([112, 101, 114, 83, 101, 99, 111, 110, 100] : List UInt8)) = false := eqFsNo (by rw [g6]; decide)
    clear g6
    go_enter Tryz.func28, Tryz.ntmps28
    go_wp2_with fail
    refine bodyPost_ret (results3s rfl _ _ _) rfl ⟨by rw [hix.out]; rfl, rfl⟩
  have e6 : (nm.toList == ([110, 111, 110, 78, 101, 103, 97, 116, 105, 118, 101, 68, 101, 114, 105, 118, 97, 116, 105, 118, 101] : List UInt8)) = false := eqFsNo g6
  by_cases g7 : nm = fs7
  · have hix : Hid (fsIdx nm = some 7) := Lib.hid (by subst g7; decide)
    have e7 : (nm.toList == ([112, 101, 114, 83, 101, 99, 111, 110, 100] : List UInt8)) = true := eqFsYes g7
    have e0 : (nm.toList == ([99, 104, 97, 110, 103, 101, 100] : List UInt8)) = false := eqFsNo (by rw [g7]; decide)
    have e1 : (nm.toList == ([100, 101, 108, 97, 121] : List UInt8)) = false := eqFsNo (by rw [g7]; decide)
    have e2 : (nm.toList == ([100, 101, 114, 105, 118, 97, 116, 105, 118, 101] : List UInt8)) = false := eqFsNo (by rw [g7]; decide)
    have e3 : (nm.toList == ([105, 110, 116, 101, 103, 114, 97, 108] : List UInt8)) = false := eqFsNo (by rw [g7]; decide)
    have e4 : (nm.toList == ([105, 110, 116, 101, 114, 112, 111, 108, 97, 116, 101] : List UInt8)) = false := eqFsNo (by rw [g7]; decide)
    have e5 : (nm.toList == ([107, 101, 101, 112, 76, 97, 115, 116, 86, 97, 108, 117, 101] : List UInt8)) = false := eqFsNo (by rw [g7]; decide)
    have e6 : (nm.toList == ([110, 111, 110, 78, 101, 103, 97, 116, 105, 118, 101, 68, 101, 114, 105, 118, 97, 116, 105, 118, 101] : List UInt8)) = false := eqFsNo (by rw [g7]; decide)
    clear g7
    go_enter Tryz.func28, Tryz.ntmps28
    go_wp2_with fail
    refine bodyPost_ret (results3s rfl _ _ _) rfl ⟨by rw [hix.out]; rfl, rfl⟩
  have e7 : (nm.toList == ([112, 101, 114, 83, 101, 99, 111, 110, 100] : List UInt8)) = false := eqFsNo g7
  have hix : Hid (fsIdx nm = none) := Lib.hid (by unfold fsIdx; simp only [if_neg g0, if_neg g1, if_neg g2, if_neg g3, if_neg g4, if_neg g5, if_neg g6, if_neg g7])
  clear g0 g1 g2 g3 g4 g5 g6 g7
  go_enter Tryz.func28, Tryz.ntmps28
  go_wp2_with fail
  refine bodyPost_ret (results3s rfl _ _ _) rfl ⟨by rw [hix.out]; rfl, rfl⟩
end Go.Proofs.YtkablhamnepfnaaGreatDoor
