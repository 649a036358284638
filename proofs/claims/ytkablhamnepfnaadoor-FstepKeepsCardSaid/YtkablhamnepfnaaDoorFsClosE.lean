/-
  The functions on places: interpolate, and all eight at once. Printed by genfsclose.py.
-/
import Derived.Test.YtkablhamnepfnaaDoorFsClosB
import Derived.Test.YtkablhamnepfnaaDoorFsClosC
import Derived.Test.YtkablhamnepfnaaDoorFsClosD
import Derived.Test.YtkablhamnepfnaaDoorFsTab
namespace Go.Proofs.YtkablhamnepfnaaDoor
open Go.RowKit
theorem lie_sub {xa xb : Option Int} {p q : Int} (h : subO xb xa = none) : lieO xa xb p q = none := by
  unfold lieO
  rw [h]
  rfl
theorem lie_mul {xa xb : Option Int} {p q d : Int} (h : subO xb xa = some d) (hm : mulDivO d p q = none) : lieO xa xb p q = none := by
  unfold lieO
  rw [h, Option.bind_some, hm]
  rfl
theorem lie_hit {xa xb : Option Int} {p q d n : Int} (h : subO xb xa = some d) (hm : mulDivO d p q = some n) : lieO xa xb p q = sumO (sumO (some 0) xa) (some n) := by
  unfold lieO
  rw [h, Option.bind_some, hm, Option.bind_some, ofR_small (mulDivO_fits d p q n hm)]
set_option maxHeartbeats 16000000 in
set_option maxRecDepth 100000 in
theorem flie1_any (w : World) (B : Nat) (W : FWork) (sv : Value) (hm : FAt w B W sv) (h : ERow valE w sv W.S.vals) (hall : W.S.vals.all (fun p => isR p.1 p.2) = true) (hl : W.S.vals.length ≤ 1000000) (hf : Fits W.k) (q : Nat) (hq : Hx w q [.pointer (some ⟨B, 0, none⟩)] 42) (j : Nat) (hj : j < W.S.vals.length) : Calls Tryd.prog 45 #[.int .i64 (j : Int), .pointer (some ⟨q, 0, none⟩)] w fun e w' => e = .returned (valV (fsV 4 W.S.step W.has W.k W.S.opts j)) ∧ w.grownBy w' none := by
  have HG := G.refl w none
  have HA := Lib.hid (fun w2 (h1 : Hx w2 B [.string W.S.name, .int .i64 W.S.start, .int .i64 W.S.step, sv, .int .i64 W.S.cons, .bool (vB W.k), .int .i64 (vN W.k), .bool W.has] 44) h2 => fahead_any w2 B W sv h1 h2 hall j (by omega) hl)
  have hab := aheadI_bound W.S.opts j
  have has := aheadI_some W.S.opts j
  obtain ⟨V, hV⟩ : ∃ V, Hid (fsV 4 W.S.step W.has W.k W.S.opts j = V) := ⟨_, Lib.hid rfl⟩
  rw [hV.out]
  have hvv := Lib.hid (valV_form V)
  have hol := opts_len W.S
  have HB := Lib.hid (fun w2 (h1 : Hx w2 B [.string W.S.name, .int .i64 W.S.start, .int .i64 W.S.step, sv, .int .i64 W.S.cons, .bool (vB W.k), .int .i64 (vN W.k), .bool W.has] 44) h2 => fbehind_any w2 B W sv h1 h2 hall j hj hl)
  have hbb := behindN_bound W.S.opts (W.S.opts.length - (j + 1)) (j + 1)
  have hbs := behindN_some W.S.opts (W.S.opts.length - (j + 1)) (j + 1)
  have hV2 : Hid (V = match W.S.opts.getD j none with | some x => some x | none => if 0 ≤ aheadI W.S.opts j ∧ behindN W.S.opts (W.S.opts.length - (j + 1)) (j + 1) < W.S.opts.length ∧ fillsB W.has W.k ((behindN W.S.opts (W.S.opts.length - (j + 1)) (j + 1) : Nat) - aheadI W.S.opts j - 1) = true then lieO (W.S.opts.getD (aheadI W.S.opts j).toNat none) (W.S.opts.getD (behindN W.S.opts (W.S.opts.length - (j + 1)) (j + 1)) none) ((j : Int) - aheadI W.S.opts j) ((behindN W.S.opts (W.S.opts.length - (j + 1)) (j + 1) : Nat) - aheadI W.S.opts j) else none) := Lib.hid (by rw [← hV.out]; rfl)
  clear hV
  have HV := Lib.hid h
  obtain ⟨A, c, rfl, -, -, q3⟩ := h
  obtain ⟨b, o, rfl, hbl, hc⟩ := q3 (by omega)
  have HC := Lib.hid (fun (m : Nat) (hm : m < W.S.vals.length) (wr : World) (hg : w.grownBy wr none) => rowCells hall hc hg hbl hm)
  clear hc q3
  replace hm := hm.hx
  have HF := Lib.hid (fun w2 (h1 : Hx w2 B [.string W.S.name, .int .i64 W.S.start, .int .i64 W.S.step, .slice (some ⟨b, o, none⟩) W.S.vals.length c, .int .i64 W.S.cons, .bool (vB W.k), .int .i64 (vN W.k), .bool W.has] 44) => ffills_any w2 B W (.slice (some ⟨b, o, none⟩) W.S.vals.length c) h1 ⟨_, _, _, rfl⟩ hf ((behindN W.S.opts (W.S.opts.length - (j + 1)) (j + 1) : Nat) - aheadI W.S.opts j - 1))
  generalize aheadI W.S.opts j = a at *
  generalize behindN W.S.opts (W.S.opts.length - (j + 1)) (j + 1) = bn at *
  have hwr1 : IntKind.i64.wrap ((bn : Int) - a) = (bn : Int) - a := by rw [IntKind.wrap_i64]; omega
  have hwr2 : IntKind.i64.wrap ((bn : Int) - a - 1) = (bn : Int) - a - 1 := by rw [IntKind.wrap_i64]; omega
  have hwr3 : IntKind.i64.wrap ((j : Int) - a) = (j : Int) - a := by rw [IntKind.wrap_i64]; omega
  cases hv : W.S.opts.getD j none with
  | some x =>
    have hfin : Hid (V = some x) := Lib.hid (by rw [hV2.out, hv])
    clear hV2
    go_enter Tryd.func45, Tryd.ntmps45
    go_upto_region 0 with (fail)
    go_cut [3] (fun p3 wc => p3 = .pointer (some ⟨w.heap.size, 0, none⟩) ∧ w.grownBy wc none ∧ Hx wc w.heap.size [.bool false, .int .i64 0] 28 ∧ Hx wc B [.string W.S.name, .int .i64 W.S.start, .int .i64 W.S.step, .slice (some ⟨b, o, none⟩) W.S.vals.length c, .int .i64 W.S.cons, .bool (vB W.k), .int .i64 (vN W.k), .bool W.has] 44 ∧ Hx wc q [.pointer (some ⟨B, 0, none⟩)] 42)
    case first =>
      go_wp2_with fail
      go_meet
      exact ⟨rfl, (by exact G.go HG), Hx.new _ _ _, Hx.alloc hm _, Hx.alloc hq _⟩
    obtain ⟨rfl, HG, hr, hm, hq⟩ := hcut
    rename World => wx
    have HVx := Lib.hid (HV.out.kept0 HG)
    go_upto_region 1 with (fail)
    go_cut [3, 4, 5] (fun p3 p4 p5 wd => p3 = .pointer (some ⟨w.heap.size, 0, none⟩) ∧ p4 = .int .i64 a ∧ p5 = .int .i64 (bn : Int) ∧ w.grownBy wd none ∧ Hx wd w.heap.size [.bool false, .int .i64 0] 28 ∧ Hx wd B [.string W.S.name, .int .i64 W.S.start, .int .i64 W.S.step, .slice (some ⟨b, o, none⟩) W.S.vals.length c, .int .i64 W.S.cons, .bool (vB W.k), .int .i64 (vN W.k), .bool W.has] 44 ∧ Hx wd q [.pointer (some ⟨B, 0, none⟩)] 42)
    case first =>
      have hm_q0 := fun x => (Hx.inG hm x).cell 0; have hm_q1 := fun x => (Hx.inG hm x).cell 1; have hm_q2 := fun x => (Hx.inG hm x).cell 2; have hm_q3 := fun x => (Hx.inG hm x).cell 3; have hm_q4 := fun x => (Hx.inG hm x).cell 4; have hm_q5 := fun x => (Hx.inG hm x).cell 5; have hm_q6 := fun x => (Hx.inG hm x).cell 6; have hm_q7 := fun x => (Hx.inG hm x).cell 7; have hq_q0 := fun x => (Hx.inG hq x).cell 0; have HG0 := HG
      refine wp_region_grow (G.refl _ none) (by kernel_rfl) (by kernel_rfl) ?_
      repeat (refine wpQuiet_step (fun K hK => ?_); go_simp; first | (refine hK _ ?_; clear hK K) | (apply Exists.intro; refine ⟨fun xq => ?_, hK _ ?_⟩; (focus (first | (go_at_call 35; have h0 := HA.out xq.1 (Hx.inG hm xq) (HVx.out.kept0 xq.2); with_reducible exact grow_of h0) | (go_at_call 46; have h0 := HB.out xq.1 (Hx.inG hm xq) (HVx.out.kept0 xq.2); with_reducible exact grow_of h0))); clear hK K))
      refine wpQuiet_nil ?_
      intro wn hgn
      clear hm_q0 hm_q1 hm_q2 hm_q3 hm_q4 hm_q5 hm_q6 hm_q7 hq_q0
      replace HG := G.trans (w := w) HG0 hgn
      clear HG0
      replace hm := Hx.kept hm hgn (by simp)
      replace hq := Hx.kept hq hgn (by simp)
      replace hr := Hx.kept hr hgn (by simp)
      clear hgn
      go_wp2_with fail
      go_meet
      exact ⟨rfl, rfl, by first | rfl | rw [hend], HG, hr, hm, hq⟩
    clear HVx
    obtain ⟨rfl, rfl, rfl, HG, hr, hm, hq⟩ := hcut
    rename World => wy
    have hr_0 := hr.cell 0; have hr_1 := hr.cell 1; have hr_f0 := hr.free 0; have hr_f1 := hr.free 1; have hr_l := hr.lt; have hm_0 := hm.cell 0; have hm_1 := hm.cell 1; have hm_2 := hm.cell 2; have hm_3 := hm.cell 3; have hm_4 := hm.cell 4; have hm_5 := hm.cell 5; have hm_6 := hm.cell 6; have hm_7 := hm.cell 7; have hm_f0 := hm.free 0; have hm_f1 := hm.free 1; have hm_f2 := hm.free 2; have hm_f3 := hm.free 3; have hm_f4 := hm.free 4; have hm_f5 := hm.free 5; have hm_f6 := hm.free 6; have hm_f7 := hm.free 7; have hm_l := hm.lt; have hq_0 := hq.cell 0; have hq_f0 := hq.free 0; have hq_l := hq.lt
    obtain ⟨x0, x1⟩ := HC.out j hj _ HG
    rw [hv] at x0 x1
    have x2 : wy.cell? ⟨b, o + j * 2, none⟩ = some (.bool true) := x0
    have x3 : wy.cell? ⟨b, o + j * 2 + 1, none⟩ = some (.int .i64 x) := x1
    clear x0 x1
    go_wp2_with fail
    refine ret_cell [.bool true, .int .i64 x] w.heap.size 28 rfl rfl (Tryd.isAgg28 _) (Tryd.sizeOf28 _) rfl ?_ ⟨by rw [hfin.out]; rfl, (by exact G.go HG)⟩
    exact (by first | exact Hx.go hr | exact Hx.go2)
  | none =>
    rw [hv] at hV2
    have hV3 : Hid (V = if 0 ≤ a ∧ bn < W.S.opts.length ∧ fillsB W.has W.k ((bn : Int) - a - 1) = true then lieO (W.S.opts.getD a.toNat none) (W.S.opts.getD bn none) ((j : Int) - a) ((bn : Int) - a) else none) := Lib.hid (by rw [hV2.out])
    clear hV2
    by_cases hneg : a < 0
    · have hd : decide (a < 0) = true := decide_eq_true hneg
      have hfin : Hid (V = none) := Lib.hid (by rw [hV3.out, if_neg (by omega)])
      clear hV3
      go_enter Tryd.func45, Tryd.ntmps45
      go_upto_region 0 with (fail)
      go_cut [3] (fun p3 wc => p3 = .pointer (some ⟨w.heap.size, 0, none⟩) ∧ w.grownBy wc none ∧ Hx wc w.heap.size [.bool false, .int .i64 0] 28 ∧ Hx wc B [.string W.S.name, .int .i64 W.S.start, .int .i64 W.S.step, .slice (some ⟨b, o, none⟩) W.S.vals.length c, .int .i64 W.S.cons, .bool (vB W.k), .int .i64 (vN W.k), .bool W.has] 44 ∧ Hx wc q [.pointer (some ⟨B, 0, none⟩)] 42)
      case first =>
        go_wp2_with fail
        go_meet
        exact ⟨rfl, (by exact G.go HG), Hx.new _ _ _, Hx.alloc hm _, Hx.alloc hq _⟩
      obtain ⟨rfl, HG, hr, hm, hq⟩ := hcut
      rename World => wx
      have HVx := Lib.hid (HV.out.kept0 HG)
      go_upto_region 1 with (fail)
      go_cut [3, 4, 5] (fun p3 p4 p5 wd => p3 = .pointer (some ⟨w.heap.size, 0, none⟩) ∧ p4 = .int .i64 a ∧ p5 = .int .i64 (bn : Int) ∧ w.grownBy wd none ∧ Hx wd w.heap.size [.bool false, .int .i64 0] 28 ∧ Hx wd B [.string W.S.name, .int .i64 W.S.start, .int .i64 W.S.step, .slice (some ⟨b, o, none⟩) W.S.vals.length c, .int .i64 W.S.cons, .bool (vB W.k), .int .i64 (vN W.k), .bool W.has] 44 ∧ Hx wd q [.pointer (some ⟨B, 0, none⟩)] 42)
      case first =>
        have hm_q0 := fun x => (Hx.inG hm x).cell 0; have hm_q1 := fun x => (Hx.inG hm x).cell 1; have hm_q2 := fun x => (Hx.inG hm x).cell 2; have hm_q3 := fun x => (Hx.inG hm x).cell 3; have hm_q4 := fun x => (Hx.inG hm x).cell 4; have hm_q5 := fun x => (Hx.inG hm x).cell 5; have hm_q6 := fun x => (Hx.inG hm x).cell 6; have hm_q7 := fun x => (Hx.inG hm x).cell 7; have hq_q0 := fun x => (Hx.inG hq x).cell 0; have HG0 := HG
        refine wp_region_grow (G.refl _ none) (by kernel_rfl) (by kernel_rfl) ?_
        repeat (refine wpQuiet_step (fun K hK => ?_); go_simp; first | (refine hK _ ?_; clear hK K) | (apply Exists.intro; refine ⟨fun xq => ?_, hK _ ?_⟩; (focus (first | (go_at_call 35; have h0 := HA.out xq.1 (Hx.inG hm xq) (HVx.out.kept0 xq.2); with_reducible exact grow_of h0) | (go_at_call 46; have h0 := HB.out xq.1 (Hx.inG hm xq) (HVx.out.kept0 xq.2); with_reducible exact grow_of h0))); clear hK K))
        refine wpQuiet_nil ?_
        intro wn hgn
        clear hm_q0 hm_q1 hm_q2 hm_q3 hm_q4 hm_q5 hm_q6 hm_q7 hq_q0
        replace HG := G.trans (w := w) HG0 hgn
        clear HG0
        replace hm := Hx.kept hm hgn (by simp)
        replace hq := Hx.kept hq hgn (by simp)
        replace hr := Hx.kept hr hgn (by simp)
        clear hgn
        go_wp2_with fail
        go_meet
        exact ⟨rfl, rfl, by first | rfl | rw [hend], HG, hr, hm, hq⟩
      clear HVx
      obtain ⟨rfl, rfl, rfl, HG, hr, hm, hq⟩ := hcut
      rename World => wy
      have hr_0 := hr.cell 0; have hr_1 := hr.cell 1; have hr_f0 := hr.free 0; have hr_f1 := hr.free 1; have hr_l := hr.lt; have hm_0 := hm.cell 0; have hm_1 := hm.cell 1; have hm_2 := hm.cell 2; have hm_3 := hm.cell 3; have hm_4 := hm.cell 4; have hm_5 := hm.cell 5; have hm_6 := hm.cell 6; have hm_7 := hm.cell 7; have hm_f0 := hm.free 0; have hm_f1 := hm.free 1; have hm_f2 := hm.free 2; have hm_f3 := hm.free 3; have hm_f4 := hm.free 4; have hm_f5 := hm.free 5; have hm_f6 := hm.free 6; have hm_f7 := hm.free 7; have hm_l := hm.lt; have hq_0 := hq.cell 0; have hq_f0 := hq.free 0; have hq_l := hq.lt
      obtain ⟨x0, x1⟩ := HC.out j hj _ HG
      rw [hv] at x0 x1
      have x2 : wy.cell? ⟨b, o + j * 2, none⟩ = some (.bool false) := x0
      have x3 : wy.cell? ⟨b, o + j * 2 + 1, none⟩ = some (.int .i64 0) := x1
      clear x0 x1
      go_wp2_with fail
      refine ret_cell [.bool false, .int .i64 0] w.heap.size 28 rfl rfl (Tryd.isAgg28 _) (Tryd.sizeOf28 _) rfl ?_ ⟨by rw [hfin.out]; rfl, (by exact G.go HG)⟩
      exact (by first | exact Hx.go hr | exact Hx.go2)
    obtain ⟨m, rfl⟩ : ∃ m : Nat, a = m := ⟨a.toNat, by omega⟩
    have hml : m < W.S.vals.length := by omega
    have hd : decide ((m : Int) < 0) = false := decide_eq_false (by omega)
    by_cases hend : bn = W.S.vals.length
    · have hde : decide ((bn : Int) = (W.S.vals.length : Int)) = true := decide_eq_true (by omega)
      have hfin : Hid (V = none) := Lib.hid (by rw [hV3.out, if_neg (by omega)])
      clear hV3
      go_enter Tryd.func45, Tryd.ntmps45
      go_upto_region 0 with (fail)
      go_cut [3] (fun p3 wc => p3 = .pointer (some ⟨w.heap.size, 0, none⟩) ∧ w.grownBy wc none ∧ Hx wc w.heap.size [.bool false, .int .i64 0] 28 ∧ Hx wc B [.string W.S.name, .int .i64 W.S.start, .int .i64 W.S.step, .slice (some ⟨b, o, none⟩) W.S.vals.length c, .int .i64 W.S.cons, .bool (vB W.k), .int .i64 (vN W.k), .bool W.has] 44 ∧ Hx wc q [.pointer (some ⟨B, 0, none⟩)] 42)
      case first =>
        go_wp2_with fail
        go_meet
        exact ⟨rfl, (by exact G.go HG), Hx.new _ _ _, Hx.alloc hm _, Hx.alloc hq _⟩
      obtain ⟨rfl, HG, hr, hm, hq⟩ := hcut
      rename World => wx
      have HVx := Lib.hid (HV.out.kept0 HG)
      go_upto_region 1 with (fail)
      go_cut [3, 4, 5] (fun p3 p4 p5 wd => p3 = .pointer (some ⟨w.heap.size, 0, none⟩) ∧ p4 = .int .i64 (m : Int) ∧ p5 = .int .i64 (bn : Int) ∧ w.grownBy wd none ∧ Hx wd w.heap.size [.bool false, .int .i64 0] 28 ∧ Hx wd B [.string W.S.name, .int .i64 W.S.start, .int .i64 W.S.step, .slice (some ⟨b, o, none⟩) W.S.vals.length c, .int .i64 W.S.cons, .bool (vB W.k), .int .i64 (vN W.k), .bool W.has] 44 ∧ Hx wd q [.pointer (some ⟨B, 0, none⟩)] 42)
      case first =>
        have hm_q0 := fun x => (Hx.inG hm x).cell 0; have hm_q1 := fun x => (Hx.inG hm x).cell 1; have hm_q2 := fun x => (Hx.inG hm x).cell 2; have hm_q3 := fun x => (Hx.inG hm x).cell 3; have hm_q4 := fun x => (Hx.inG hm x).cell 4; have hm_q5 := fun x => (Hx.inG hm x).cell 5; have hm_q6 := fun x => (Hx.inG hm x).cell 6; have hm_q7 := fun x => (Hx.inG hm x).cell 7; have hq_q0 := fun x => (Hx.inG hq x).cell 0; have HG0 := HG
        refine wp_region_grow (G.refl _ none) (by kernel_rfl) (by kernel_rfl) ?_
        repeat (refine wpQuiet_step (fun K hK => ?_); go_simp; first | (refine hK _ ?_; clear hK K) | (apply Exists.intro; refine ⟨fun xq => ?_, hK _ ?_⟩; (focus (first | (go_at_call 35; have h0 := HA.out xq.1 (Hx.inG hm xq) (HVx.out.kept0 xq.2); with_reducible exact grow_of h0) | (go_at_call 46; have h0 := HB.out xq.1 (Hx.inG hm xq) (HVx.out.kept0 xq.2); with_reducible exact grow_of h0))); clear hK K))
        refine wpQuiet_nil ?_
        intro wn hgn
        clear hm_q0 hm_q1 hm_q2 hm_q3 hm_q4 hm_q5 hm_q6 hm_q7 hq_q0
        replace HG := G.trans (w := w) HG0 hgn
        clear HG0
        replace hm := Hx.kept hm hgn (by simp)
        replace hq := Hx.kept hq hgn (by simp)
        replace hr := Hx.kept hr hgn (by simp)
        clear hgn
        go_wp2_with fail
        go_meet
        exact ⟨rfl, rfl, by first | rfl | rw [hend], HG, hr, hm, hq⟩
      clear HVx
      obtain ⟨rfl, rfl, rfl, HG, hr, hm, hq⟩ := hcut
      rename World => wy
      have hr_0 := hr.cell 0; have hr_1 := hr.cell 1; have hr_f0 := hr.free 0; have hr_f1 := hr.free 1; have hr_l := hr.lt; have hm_0 := hm.cell 0; have hm_1 := hm.cell 1; have hm_2 := hm.cell 2; have hm_3 := hm.cell 3; have hm_4 := hm.cell 4; have hm_5 := hm.cell 5; have hm_6 := hm.cell 6; have hm_7 := hm.cell 7; have hm_f0 := hm.free 0; have hm_f1 := hm.free 1; have hm_f2 := hm.free 2; have hm_f3 := hm.free 3; have hm_f4 := hm.free 4; have hm_f5 := hm.free 5; have hm_f6 := hm.free 6; have hm_f7 := hm.free 7; have hm_l := hm.lt; have hq_0 := hq.cell 0; have hq_f0 := hq.free 0; have hq_l := hq.lt
      obtain ⟨x0, x1⟩ := HC.out j hj _ HG
      rw [hv] at x0 x1
      have x2 : wy.cell? ⟨b, o + j * 2, none⟩ = some (.bool false) := x0
      have x3 : wy.cell? ⟨b, o + j * 2 + 1, none⟩ = some (.int .i64 0) := x1
      clear x0 x1
      go_wp2_with fail
      refine ret_cell [.bool false, .int .i64 0] w.heap.size 28 rfl rfl (Tryd.isAgg28 _) (Tryd.sizeOf28 _) rfl ?_ ⟨by rw [hfin.out]; rfl, (by exact G.go HG)⟩
      exact (by first | exact Hx.go hr | exact Hx.go2)
    have hbl2 : bn < W.S.vals.length := by omega
    have hde : decide ((bn : Int) = (W.S.vals.length : Int)) = false := decide_eq_false (by omega)
    obtain ⟨y, hy⟩ := has (by omega)
    have hy : W.S.opts.getD m none = some y := hy
    obtain ⟨z, hz⟩ := hbs (by omega)
    have hfy := opts_fits W.S m
    have hfz := opts_fits W.S bn
    rw [hy] at hfy
    rw [hz] at hfz
    have hV4 : Hid (V = if fillsB W.has W.k ((bn : Int) - m - 1) = true then lieO (some y) (some z) ((j : Int) - m) ((bn : Int) - m) else none) := Lib.hid (by rw [hV3.out, show W.S.opts.getD (m : Int).toNat none = some y from hy, hz]; by_cases g : fillsB W.has W.k ((bn : Int) - m - 1) = true <;> simp [g, hol, hbl2])
    clear hV3 has hbs
    generalize fillsB W.has W.k ((bn : Int) - m - 1) = fb at *
    have HSb := Lib.hid (fun w2 => sub_any w2 true true z y)
    rw [show vK true z = some z from vK_form hfz, show vK true y = some y from vK_form hfy] at HSb
    obtain ⟨D, hD⟩ : ∃ D, Hid (subO (some z) (some y) = D) := ⟨_, Lib.hid rfl⟩
    rw [hD.out, valV_form] at HSb
    have hDf : Fits D := by rw [← hD.out]; exact subO_fits _ _
    go_enter Tryd.func45, Tryd.ntmps45
    go_upto_region 0 with (fail)
    go_cut [3] (fun p3 wc => p3 = .pointer (some ⟨w.heap.size, 0, none⟩) ∧ w.grownBy wc none ∧ Hx wc w.heap.size [.bool false, .int .i64 0] 28 ∧ Hx wc B [.string W.S.name, .int .i64 W.S.start, .int .i64 W.S.step, .slice (some ⟨b, o, none⟩) W.S.vals.length c, .int .i64 W.S.cons, .bool (vB W.k), .int .i64 (vN W.k), .bool W.has] 44 ∧ Hx wc q [.pointer (some ⟨B, 0, none⟩)] 42)
    case first =>
      go_wp2_with fail
      go_meet
      exact ⟨rfl, (by exact G.go HG), Hx.new _ _ _, Hx.alloc hm _, Hx.alloc hq _⟩
    obtain ⟨rfl, HG, hr, hm, hq⟩ := hcut
    rename World => wx
    have HVx := Lib.hid (HV.out.kept0 HG)
    go_upto_region 1 with (fail)
    go_cut [3, 4, 5] (fun p3 p4 p5 wd => p3 = .pointer (some ⟨w.heap.size, 0, none⟩) ∧ p4 = .int .i64 (m : Int) ∧ p5 = .int .i64 (bn : Int) ∧ w.grownBy wd none ∧ Hx wd w.heap.size [.bool false, .int .i64 0] 28 ∧ Hx wd B [.string W.S.name, .int .i64 W.S.start, .int .i64 W.S.step, .slice (some ⟨b, o, none⟩) W.S.vals.length c, .int .i64 W.S.cons, .bool (vB W.k), .int .i64 (vN W.k), .bool W.has] 44 ∧ Hx wd q [.pointer (some ⟨B, 0, none⟩)] 42)
    case first =>
      have hm_q0 := fun x => (Hx.inG hm x).cell 0; have hm_q1 := fun x => (Hx.inG hm x).cell 1; have hm_q2 := fun x => (Hx.inG hm x).cell 2; have hm_q3 := fun x => (Hx.inG hm x).cell 3; have hm_q4 := fun x => (Hx.inG hm x).cell 4; have hm_q5 := fun x => (Hx.inG hm x).cell 5; have hm_q6 := fun x => (Hx.inG hm x).cell 6; have hm_q7 := fun x => (Hx.inG hm x).cell 7; have hq_q0 := fun x => (Hx.inG hq x).cell 0; have HG0 := HG
      refine wp_region_grow (G.refl _ none) (by kernel_rfl) (by kernel_rfl) ?_
      repeat (refine wpQuiet_step (fun K hK => ?_); go_simp; first | (refine hK _ ?_; clear hK K) | (apply Exists.intro; refine ⟨fun xq => ?_, hK _ ?_⟩; (focus (first | (go_at_call 35; have h0 := HA.out xq.1 (Hx.inG hm xq) (HVx.out.kept0 xq.2); with_reducible exact grow_of h0) | (go_at_call 46; have h0 := HB.out xq.1 (Hx.inG hm xq) (HVx.out.kept0 xq.2); with_reducible exact grow_of h0))); clear hK K))
      refine wpQuiet_nil ?_
      intro wn hgn
      clear hm_q0 hm_q1 hm_q2 hm_q3 hm_q4 hm_q5 hm_q6 hm_q7 hq_q0
      replace HG := G.trans (w := w) HG0 hgn
      clear HG0
      replace hm := Hx.kept hm hgn (by simp)
      replace hq := Hx.kept hq hgn (by simp)
      replace hr := Hx.kept hr hgn (by simp)
      clear hgn
      go_wp2_with fail
      go_meet
      exact ⟨rfl, rfl, by first | rfl | rw [hend], HG, hr, hm, hq⟩
    clear HVx
    obtain ⟨rfl, rfl, rfl, HG, hr, hm, hq⟩ := hcut
    rename World => wy
    go_upto_region 2 with (fail)
    go_cut [3, 4, 5, 46] (fun p3 p4 p5 p46 wd => p3 = .pointer (some ⟨w.heap.size, 0, none⟩) ∧ p4 = .int .i64 (m : Int) ∧ p5 = .int .i64 (bn : Int) ∧ p46 = .bool (!fb) ∧ w.grownBy wd none ∧ Hx wd w.heap.size [.bool false, .int .i64 0] 28 ∧ Hx wd B [.string W.S.name, .int .i64 W.S.start, .int .i64 W.S.step, .slice (some ⟨b, o, none⟩) W.S.vals.length c, .int .i64 W.S.cons, .bool (vB W.k), .int .i64 (vN W.k), .bool W.has] 44 ∧ Hx wd q [.pointer (some ⟨B, 0, none⟩)] 42)
    case first =>
      have hr_0 := hr.cell 0; have hr_1 := hr.cell 1; have hr_f0 := hr.free 0; have hr_f1 := hr.free 1; have hr_l := hr.lt; have hm_0 := hm.cell 0; have hm_1 := hm.cell 1; have hm_2 := hm.cell 2; have hm_3 := hm.cell 3; have hm_4 := hm.cell 4; have hm_5 := hm.cell 5; have hm_6 := hm.cell 6; have hm_7 := hm.cell 7; have hm_f0 := hm.free 0; have hm_f1 := hm.free 1; have hm_f2 := hm.free 2; have hm_f3 := hm.free 3; have hm_f4 := hm.free 4; have hm_f5 := hm.free 5; have hm_f6 := hm.free 6; have hm_f7 := hm.free 7; have hm_l := hm.lt; have hq_0 := hq.cell 0; have hq_f0 := hq.free 0; have hq_l := hq.lt
      obtain ⟨x0, x1⟩ := HC.out j hj _ HG
      rw [hv] at x0 x1
      have x2 : wy.cell? ⟨b, o + j * 2, none⟩ = some (.bool false) := x0
      have x3 : wy.cell? ⟨b, o + j * 2 + 1, none⟩ = some (.int .i64 0) := x1
      clear x0 x1
      go_wp2_with (go_at_call 47; (with_reducible refine (HF.out _ hm).mono ?_); rintro e wn ⟨rfl, hgn⟩; replace HG := G.trans (w := w) (by exact G.go HG) hgn; replace hr := Hx.kept (by first | exact Hx.go hr | exact Hx.go2) hgn (by simp); replace hm := Hx.kept hm hgn (by simp); replace hq := Hx.kept hq hgn (by simp); have hr_0 := hr.cell 0; have hr_1 := hr.cell 1; have hr_f0 := hr.free 0; have hr_f1 := hr.free 1; have hr_l := hr.lt; have hm_0 := hm.cell 0; have hm_1 := hm.cell 1; have hm_2 := hm.cell 2; have hm_3 := hm.cell 3; have hm_4 := hm.cell 4; have hm_5 := hm.cell 5; have hm_6 := hm.cell 6; have hm_7 := hm.cell 7; have hm_f0 := hm.free 0; have hm_f1 := hm.free 1; have hm_f2 := hm.free 2; have hm_f3 := hm.free 3; have hm_f4 := hm.free 4; have hm_f5 := hm.free 5; have hm_f6 := hm.free 6; have hm_f7 := hm.free 7; have hm_l := hm.lt; have hq_0 := hq.cell 0; have hq_f0 := hq.free 0; have hq_l := hq.lt; clear hgn)
      go_meet
      exact ⟨rfl, rfl, rfl, by first | rfl | (simp; done) | (simp; intro h; omega), (by exact G.go HG), (by first | exact Hx.go hr | exact Hx.go2), (by first | exact Hx.go hm | exact Hx.go2), (by first | exact Hx.go hq | exact Hx.go2)⟩
    obtain ⟨rfl, rfl, rfl, rfl, HG, hr, hm, hq⟩ := hcut
    rename World => wy2
    cases fb
    · have hfin : Hid (V = none) := Lib.hid (by rw [hV4.out]; rfl)
      have hr_0 := hr.cell 0; have hr_1 := hr.cell 1; have hr_f0 := hr.free 0; have hr_f1 := hr.free 1; have hr_l := hr.lt; have hm_0 := hm.cell 0; have hm_1 := hm.cell 1; have hm_2 := hm.cell 2; have hm_3 := hm.cell 3; have hm_4 := hm.cell 4; have hm_5 := hm.cell 5; have hm_6 := hm.cell 6; have hm_7 := hm.cell 7; have hm_f0 := hm.free 0; have hm_f1 := hm.free 1; have hm_f2 := hm.free 2; have hm_f3 := hm.free 3; have hm_f4 := hm.free 4; have hm_f5 := hm.free 5; have hm_f6 := hm.free 6; have hm_f7 := hm.free 7; have hm_l := hm.lt; have hq_0 := hq.cell 0; have hq_f0 := hq.free 0; have hq_l := hq.lt
      obtain ⟨x0, x1⟩ := HC.out j hj _ HG
      rw [hv] at x0 x1
      have x2 : wy2.cell? ⟨b, o + j * 2, none⟩ = some (.bool false) := x0
      have x3 : wy2.cell? ⟨b, o + j * 2 + 1, none⟩ = some (.int .i64 0) := x1
      clear x0 x1
      go_wp2_with fail
      refine ret_cell [.bool false, .int .i64 0] w.heap.size 28 rfl rfl (Tryd.isAgg28 _) (Tryd.sizeOf28 _) rfl ?_ ⟨by rw [hfin.out]; rfl, (by exact G.go HG)⟩
      exact (by first | exact Hx.go hr | exact Hx.go2)
    have hV5 : Hid (V = lieO (some y) (some z) ((j : Int) - m) ((bn : Int) - m)) := Lib.hid (by rw [hV4.out]; rfl)
    clear hV4 HF HA HB
    have HY := Lib.hid (fun wr hg => HC.out m hml wr hg)
    rw [hy] at HY
    have HZ := Lib.hid (fun wr hg => HC.out bn hbl2 wr hg)
    rw [hz] at HZ
    have HYx : Hid (∀ wr, w.grownBy wr none → wr.cell? ⟨b, o + m * 2, none⟩ = some (.bool true) ∧ wr.cell? ⟨b, o + m * 2 + 1, none⟩ = some (.int .i64 y)) := HY
    have HZx : Hid (∀ wr, w.grownBy wr none → wr.cell? ⟨b, o + bn * 2, none⟩ = some (.bool true) ∧ wr.cell? ⟨b, o + bn * 2 + 1, none⟩ = some (.int .i64 z)) := HZ
    clear HY HZ HC
    go_upto_region 4 with (fail)
    go_cut [3, 4, 5, 6] (fun p3 p4 p5 p6 wd => ∃ O, p3 = .pointer (some ⟨w.heap.size, 0, none⟩) ∧ p4 = .int .i64 (m : Int) ∧ p5 = .int .i64 (bn : Int) ∧ p6 = .pointer (some ⟨O, 0, none⟩) ∧ wy2.heap.size ≤ O ∧ wy2.grownBy wd none ∧ Hx wd O [.bool (vB D), .int .i64 (vN D)] 28)
    case first =>
      refine wp_region_rel (n := 18) (S := [fun v _ => v = .pointer (some ⟨B, 0, none⟩), fun v _ => v = .pointer (some ⟨B, 0, none⟩), fun v _ => v = .pointer (some ⟨B, 0, none⟩), fun v _ => v = .pointer (some ⟨B, 3, none⟩), fun v _ => v = .slice (some ⟨b, o, none⟩) W.S.vals.length c, fun v _ => v = .int .i64 (bn : Int), fun v _ => v = .pointer (some ⟨b, o + bn * 2, none⟩), fun v _ => v = .agg #[.bool true, .int .i64 z], fun v _ => v = .pointer (some ⟨B, 0, none⟩), fun v _ => v = .pointer (some ⟨B, 0, none⟩), fun v _ => v = .pointer (some ⟨B, 0, none⟩), fun v _ => v = .pointer (some ⟨B, 3, none⟩), fun v _ => v = .slice (some ⟨b, o, none⟩) W.S.vals.length c, fun v _ => v = .int .i64 (m : Int), fun v _ => v = .pointer (some ⟨b, o + m * 2, none⟩), fun v _ => v = .agg #[.bool true, .int .i64 y], fun v _ => v = .agg #[.bool (vB D), .int .i64 (vN D)], fun v w => ∃ O, v = .pointer (some ⟨O, 0, none⟩) ∧ wy2.heap.size ≤ O ∧ Hx w O [.bool false, .int .i64 0] 28]) (G.refl _ none) (by kernel_rfl) (by kernel_rfl) ?_ ?_ ?_
      · intro i v y1 y2 hg12 hS
        match i, hS with
        | 0, h => exact h
        | 1, h => exact h
        | 2, h => exact h
        | 3, h => exact h
        | 4, h => exact h
        | 5, h => exact h
        | 6, h => exact h
        | 7, h => exact h
        | 8, h => exact h
        | 9, h => exact h
        | 10, h => exact h
        | 11, h => exact h
        | 12, h => exact h
        | 13, h => exact h
        | 14, h => exact h
        | 15, h => exact h
        | 16, h => exact h
        | 17, h => exact (let ⟨O, e1, e2, e3⟩ := h; ⟨O, e1, e2, e3.kept hg12 (by simp)⟩)
        | k + 18, h => exact trivial
      · simp only [List.take_succ_cons, List.take_zero, relOps]
        refine ⟨fun VV y1 hg1 hV => ?_, fun VV y1 hg1 hV => ?_, fun VV y1 hg1 hV => ?_, fun VV y1 hg1 hV => ?_, fun VV y1 hg1 hV => ?_, fun VV y1 hg1 hV => ?_, fun VV y1 hg1 hV => ?_, fun VV y1 hg1 hV => ?_, fun VV y1 hg1 hV => ?_, fun VV y1 hg1 hV => ?_, fun VV y1 hg1 hV => ?_, fun VV y1 hg1 hV => ?_, fun VV y1 hg1 hV => ?_, fun VV y1 hg1 hV => ?_, fun VV y1 hg1 hV => ?_, fun VV y1 hg1 hV => ?_, fun VV y1 hg1 hV => ?_, fun VV y1 hg1 hV => ?_, trivial⟩
        · clear hV
          obtain ⟨y2, y3⟩ := HYx.out _ (G.trans HG hg1); obtain ⟨z2, z3⟩ := HZx.out _ (G.trans HG hg1); replace hm := Hx.kept hm hg1 (by simp); replace hq := Hx.kept hq hg1 (by simp); have hm_0 := hm.cell 0; have hm_1 := hm.cell 1; have hm_2 := hm.cell 2; have hm_3 := hm.cell 3; have hm_4 := hm.cell 4; have hm_5 := hm.cell 5; have hm_6 := hm.cell 6; have hm_7 := hm.cell 7; have hm_f0 := hm.free 0; have hm_f1 := hm.free 1; have hm_f2 := hm.free 2; have hm_f3 := hm.free 3; have hm_f4 := hm.free 4; have hm_f5 := hm.free 5; have hm_f6 := hm.free 6; have hm_f7 := hm.free 7; have hm_l := hm.lt; have hq_0 := hq.cell 0; have hq_f0 := hq.free 0; have hq_l := hq.lt
          simp only [putAll]
          go_wp2_with fail
          exact ⟨rfl, rfl, G.refl _ none, rfl⟩
        · have e0 := hV 0 (by kernel_rfl); clear hV
          obtain ⟨y2, y3⟩ := HYx.out _ (G.trans HG hg1); obtain ⟨z2, z3⟩ := HZx.out _ (G.trans HG hg1); replace hm := Hx.kept hm hg1 (by simp); replace hq := Hx.kept hq hg1 (by simp); have hm_0 := hm.cell 0; have hm_1 := hm.cell 1; have hm_2 := hm.cell 2; have hm_3 := hm.cell 3; have hm_4 := hm.cell 4; have hm_5 := hm.cell 5; have hm_6 := hm.cell 6; have hm_7 := hm.cell 7; have hm_f0 := hm.free 0; have hm_f1 := hm.free 1; have hm_f2 := hm.free 2; have hm_f3 := hm.free 3; have hm_f4 := hm.free 4; have hm_f5 := hm.free 5; have hm_f6 := hm.free 6; have hm_f7 := hm.free 7; have hm_l := hm.lt; have hq_0 := hq.cell 0; have hq_f0 := hq.free 0; have hq_l := hq.lt
          simp only [atS, List.getD_cons_zero] at e0
          simp only [putAll, e0]
          go_wp2_with fail
          exact ⟨rfl, rfl, G.refl _ none, rfl⟩
        · have e1 := hV 1 (by kernel_rfl); clear hV
          obtain ⟨y2, y3⟩ := HYx.out _ (G.trans HG hg1); obtain ⟨z2, z3⟩ := HZx.out _ (G.trans HG hg1); replace hm := Hx.kept hm hg1 (by simp); replace hq := Hx.kept hq hg1 (by simp); have hm_0 := hm.cell 0; have hm_1 := hm.cell 1; have hm_2 := hm.cell 2; have hm_3 := hm.cell 3; have hm_4 := hm.cell 4; have hm_5 := hm.cell 5; have hm_6 := hm.cell 6; have hm_7 := hm.cell 7; have hm_f0 := hm.free 0; have hm_f1 := hm.free 1; have hm_f2 := hm.free 2; have hm_f3 := hm.free 3; have hm_f4 := hm.free 4; have hm_f5 := hm.free 5; have hm_f6 := hm.free 6; have hm_f7 := hm.free 7; have hm_l := hm.lt; have hq_0 := hq.cell 0; have hq_f0 := hq.free 0; have hq_l := hq.lt
          simp only [atS, List.getD_cons_succ, List.getD_cons_zero] at e1
          simp only [putAll, e1]
          go_wp2_with fail
          exact ⟨rfl, rfl, G.refl _ none, rfl⟩
        · have e2 := hV 2 (by kernel_rfl); clear hV
          obtain ⟨y2, y3⟩ := HYx.out _ (G.trans HG hg1); obtain ⟨z2, z3⟩ := HZx.out _ (G.trans HG hg1); replace hm := Hx.kept hm hg1 (by simp); replace hq := Hx.kept hq hg1 (by simp); have hm_0 := hm.cell 0; have hm_1 := hm.cell 1; have hm_2 := hm.cell 2; have hm_3 := hm.cell 3; have hm_4 := hm.cell 4; have hm_5 := hm.cell 5; have hm_6 := hm.cell 6; have hm_7 := hm.cell 7; have hm_f0 := hm.free 0; have hm_f1 := hm.free 1; have hm_f2 := hm.free 2; have hm_f3 := hm.free 3; have hm_f4 := hm.free 4; have hm_f5 := hm.free 5; have hm_f6 := hm.free 6; have hm_f7 := hm.free 7; have hm_l := hm.lt; have hq_0 := hq.cell 0; have hq_f0 := hq.free 0; have hq_l := hq.lt
          simp only [atS, List.getD_cons_succ, List.getD_cons_zero] at e2
          simp only [putAll, e2]
          go_wp2_with fail
          exact ⟨rfl, rfl, G.refl _ none, rfl⟩
        · have e3 := hV 3 (by kernel_rfl); clear hV
          obtain ⟨y2, y3⟩ := HYx.out _ (G.trans HG hg1); obtain ⟨z2, z3⟩ := HZx.out _ (G.trans HG hg1); replace hm := Hx.kept hm hg1 (by simp); replace hq := Hx.kept hq hg1 (by simp); have hm_0 := hm.cell 0; have hm_1 := hm.cell 1; have hm_2 := hm.cell 2; have hm_3 := hm.cell 3; have hm_4 := hm.cell 4; have hm_5 := hm.cell 5; have hm_6 := hm.cell 6; have hm_7 := hm.cell 7; have hm_f0 := hm.free 0; have hm_f1 := hm.free 1; have hm_f2 := hm.free 2; have hm_f3 := hm.free 3; have hm_f4 := hm.free 4; have hm_f5 := hm.free 5; have hm_f6 := hm.free 6; have hm_f7 := hm.free 7; have hm_l := hm.lt; have hq_0 := hq.cell 0; have hq_f0 := hq.free 0; have hq_l := hq.lt
          simp only [atS, List.getD_cons_succ, List.getD_cons_zero] at e3
          simp only [putAll, e3]
          go_wp2_with fail
          exact ⟨rfl, rfl, G.refl _ none, rfl⟩
        · clear hV
          obtain ⟨y2, y3⟩ := HYx.out _ (G.trans HG hg1); obtain ⟨z2, z3⟩ := HZx.out _ (G.trans HG hg1); replace hm := Hx.kept hm hg1 (by simp); replace hq := Hx.kept hq hg1 (by simp); have hm_0 := hm.cell 0; have hm_1 := hm.cell 1; have hm_2 := hm.cell 2; have hm_3 := hm.cell 3; have hm_4 := hm.cell 4; have hm_5 := hm.cell 5; have hm_6 := hm.cell 6; have hm_7 := hm.cell 7; have hm_f0 := hm.free 0; have hm_f1 := hm.free 1; have hm_f2 := hm.free 2; have hm_f3 := hm.free 3; have hm_f4 := hm.free 4; have hm_f5 := hm.free 5; have hm_f6 := hm.free 6; have hm_f7 := hm.free 7; have hm_l := hm.lt; have hq_0 := hq.cell 0; have hq_f0 := hq.free 0; have hq_l := hq.lt
          simp only [putAll]
          go_wp2_with fail
          exact ⟨rfl, rfl, G.refl _ none, rfl⟩
        · have e4 := hV 4 (by kernel_rfl); have e5 := hV 5 (by kernel_rfl); clear hV
          obtain ⟨y2, y3⟩ := HYx.out _ (G.trans HG hg1); obtain ⟨z2, z3⟩ := HZx.out _ (G.trans HG hg1); replace hm := Hx.kept hm hg1 (by simp); replace hq := Hx.kept hq hg1 (by simp); have hm_0 := hm.cell 0; have hm_1 := hm.cell 1; have hm_2 := hm.cell 2; have hm_3 := hm.cell 3; have hm_4 := hm.cell 4; have hm_5 := hm.cell 5; have hm_6 := hm.cell 6; have hm_7 := hm.cell 7; have hm_f0 := hm.free 0; have hm_f1 := hm.free 1; have hm_f2 := hm.free 2; have hm_f3 := hm.free 3; have hm_f4 := hm.free 4; have hm_f5 := hm.free 5; have hm_f6 := hm.free 6; have hm_f7 := hm.free 7; have hm_l := hm.lt; have hq_0 := hq.cell 0; have hq_f0 := hq.free 0; have hq_l := hq.lt
          simp only [atS, List.getD_cons_succ, List.getD_cons_zero] at e4 e5
          simp only [putAll, e4, e5]
          go_wp2_with fail
          exact ⟨rfl, rfl, G.refl _ none, rfl⟩
        · have e6 := hV 6 (by kernel_rfl); clear hV
          obtain ⟨y2, y3⟩ := HYx.out _ (G.trans HG hg1); obtain ⟨z2, z3⟩ := HZx.out _ (G.trans HG hg1); replace hm := Hx.kept hm hg1 (by simp); replace hq := Hx.kept hq hg1 (by simp); have hm_0 := hm.cell 0; have hm_1 := hm.cell 1; have hm_2 := hm.cell 2; have hm_3 := hm.cell 3; have hm_4 := hm.cell 4; have hm_5 := hm.cell 5; have hm_6 := hm.cell 6; have hm_7 := hm.cell 7; have hm_f0 := hm.free 0; have hm_f1 := hm.free 1; have hm_f2 := hm.free 2; have hm_f3 := hm.free 3; have hm_f4 := hm.free 4; have hm_f5 := hm.free 5; have hm_f6 := hm.free 6; have hm_f7 := hm.free 7; have hm_l := hm.lt; have hq_0 := hq.cell 0; have hq_f0 := hq.free 0; have hq_l := hq.lt
          simp only [atS, List.getD_cons_succ, List.getD_cons_zero] at e6
          simp only [putAll, e6]
          go_wp2_with fail
          exact ⟨rfl, rfl, G.refl _ none, rfl⟩
        · clear hV
          obtain ⟨y2, y3⟩ := HYx.out _ (G.trans HG hg1); obtain ⟨z2, z3⟩ := HZx.out _ (G.trans HG hg1); replace hm := Hx.kept hm hg1 (by simp); replace hq := Hx.kept hq hg1 (by simp); have hm_0 := hm.cell 0; have hm_1 := hm.cell 1; have hm_2 := hm.cell 2; have hm_3 := hm.cell 3; have hm_4 := hm.cell 4; have hm_5 := hm.cell 5; have hm_6 := hm.cell 6; have hm_7 := hm.cell 7; have hm_f0 := hm.free 0; have hm_f1 := hm.free 1; have hm_f2 := hm.free 2; have hm_f3 := hm.free 3; have hm_f4 := hm.free 4; have hm_f5 := hm.free 5; have hm_f6 := hm.free 6; have hm_f7 := hm.free 7; have hm_l := hm.lt; have hq_0 := hq.cell 0; have hq_f0 := hq.free 0; have hq_l := hq.lt
          simp only [putAll]
          go_wp2_with fail
          exact ⟨rfl, rfl, G.refl _ none, rfl⟩
        · have e8 := hV 8 (by kernel_rfl); clear hV
          obtain ⟨y2, y3⟩ := HYx.out _ (G.trans HG hg1); obtain ⟨z2, z3⟩ := HZx.out _ (G.trans HG hg1); replace hm := Hx.kept hm hg1 (by simp); replace hq := Hx.kept hq hg1 (by simp); have hm_0 := hm.cell 0; have hm_1 := hm.cell 1; have hm_2 := hm.cell 2; have hm_3 := hm.cell 3; have hm_4 := hm.cell 4; have hm_5 := hm.cell 5; have hm_6 := hm.cell 6; have hm_7 := hm.cell 7; have hm_f0 := hm.free 0; have hm_f1 := hm.free 1; have hm_f2 := hm.free 2; have hm_f3 := hm.free 3; have hm_f4 := hm.free 4; have hm_f5 := hm.free 5; have hm_f6 := hm.free 6; have hm_f7 := hm.free 7; have hm_l := hm.lt; have hq_0 := hq.cell 0; have hq_f0 := hq.free 0; have hq_l := hq.lt
          simp only [atS, List.getD_cons_succ, List.getD_cons_zero] at e8
          simp only [putAll, e8]
          go_wp2_with fail
          exact ⟨rfl, rfl, G.refl _ none, rfl⟩
        · have e9 := hV 9 (by kernel_rfl); clear hV
          obtain ⟨y2, y3⟩ := HYx.out _ (G.trans HG hg1); obtain ⟨z2, z3⟩ := HZx.out _ (G.trans HG hg1); replace hm := Hx.kept hm hg1 (by simp); replace hq := Hx.kept hq hg1 (by simp); have hm_0 := hm.cell 0; have hm_1 := hm.cell 1; have hm_2 := hm.cell 2; have hm_3 := hm.cell 3; have hm_4 := hm.cell 4; have hm_5 := hm.cell 5; have hm_6 := hm.cell 6; have hm_7 := hm.cell 7; have hm_f0 := hm.free 0; have hm_f1 := hm.free 1; have hm_f2 := hm.free 2; have hm_f3 := hm.free 3; have hm_f4 := hm.free 4; have hm_f5 := hm.free 5; have hm_f6 := hm.free 6; have hm_f7 := hm.free 7; have hm_l := hm.lt; have hq_0 := hq.cell 0; have hq_f0 := hq.free 0; have hq_l := hq.lt
          simp only [atS, List.getD_cons_succ, List.getD_cons_zero] at e9
          simp only [putAll, e9]
          go_wp2_with fail
          exact ⟨rfl, rfl, G.refl _ none, rfl⟩
        · have e10 := hV 10 (by kernel_rfl); clear hV
          obtain ⟨y2, y3⟩ := HYx.out _ (G.trans HG hg1); obtain ⟨z2, z3⟩ := HZx.out _ (G.trans HG hg1); replace hm := Hx.kept hm hg1 (by simp); replace hq := Hx.kept hq hg1 (by simp); have hm_0 := hm.cell 0; have hm_1 := hm.cell 1; have hm_2 := hm.cell 2; have hm_3 := hm.cell 3; have hm_4 := hm.cell 4; have hm_5 := hm.cell 5; have hm_6 := hm.cell 6; have hm_7 := hm.cell 7; have hm_f0 := hm.free 0; have hm_f1 := hm.free 1; have hm_f2 := hm.free 2; have hm_f3 := hm.free 3; have hm_f4 := hm.free 4; have hm_f5 := hm.free 5; have hm_f6 := hm.free 6; have hm_f7 := hm.free 7; have hm_l := hm.lt; have hq_0 := hq.cell 0; have hq_f0 := hq.free 0; have hq_l := hq.lt
          simp only [atS, List.getD_cons_succ, List.getD_cons_zero] at e10
          simp only [putAll, e10]
          go_wp2_with fail
          exact ⟨rfl, rfl, G.refl _ none, rfl⟩
        · have e11 := hV 11 (by kernel_rfl); clear hV
          obtain ⟨y2, y3⟩ := HYx.out _ (G.trans HG hg1); obtain ⟨z2, z3⟩ := HZx.out _ (G.trans HG hg1); replace hm := Hx.kept hm hg1 (by simp); replace hq := Hx.kept hq hg1 (by simp); have hm_0 := hm.cell 0; have hm_1 := hm.cell 1; have hm_2 := hm.cell 2; have hm_3 := hm.cell 3; have hm_4 := hm.cell 4; have hm_5 := hm.cell 5; have hm_6 := hm.cell 6; have hm_7 := hm.cell 7; have hm_f0 := hm.free 0; have hm_f1 := hm.free 1; have hm_f2 := hm.free 2; have hm_f3 := hm.free 3; have hm_f4 := hm.free 4; have hm_f5 := hm.free 5; have hm_f6 := hm.free 6; have hm_f7 := hm.free 7; have hm_l := hm.lt; have hq_0 := hq.cell 0; have hq_f0 := hq.free 0; have hq_l := hq.lt
          simp only [atS, List.getD_cons_succ, List.getD_cons_zero] at e11
          simp only [putAll, e11]
          go_wp2_with fail
          exact ⟨rfl, rfl, G.refl _ none, rfl⟩
        · clear hV
          obtain ⟨y2, y3⟩ := HYx.out _ (G.trans HG hg1); obtain ⟨z2, z3⟩ := HZx.out _ (G.trans HG hg1); replace hm := Hx.kept hm hg1 (by simp); replace hq := Hx.kept hq hg1 (by simp); have hm_0 := hm.cell 0; have hm_1 := hm.cell 1; have hm_2 := hm.cell 2; have hm_3 := hm.cell 3; have hm_4 := hm.cell 4; have hm_5 := hm.cell 5; have hm_6 := hm.cell 6; have hm_7 := hm.cell 7; have hm_f0 := hm.free 0; have hm_f1 := hm.free 1; have hm_f2 := hm.free 2; have hm_f3 := hm.free 3; have hm_f4 := hm.free 4; have hm_f5 := hm.free 5; have hm_f6 := hm.free 6; have hm_f7 := hm.free 7; have hm_l := hm.lt; have hq_0 := hq.cell 0; have hq_f0 := hq.free 0; have hq_l := hq.lt
          simp only [putAll]
          go_wp2_with fail
          exact ⟨rfl, rfl, G.refl _ none, rfl⟩
        · have e12 := hV 12 (by kernel_rfl); have e13 := hV 13 (by kernel_rfl); clear hV
          obtain ⟨y2, y3⟩ := HYx.out _ (G.trans HG hg1); obtain ⟨z2, z3⟩ := HZx.out _ (G.trans HG hg1); replace hm := Hx.kept hm hg1 (by simp); replace hq := Hx.kept hq hg1 (by simp); have hm_0 := hm.cell 0; have hm_1 := hm.cell 1; have hm_2 := hm.cell 2; have hm_3 := hm.cell 3; have hm_4 := hm.cell 4; have hm_5 := hm.cell 5; have hm_6 := hm.cell 6; have hm_7 := hm.cell 7; have hm_f0 := hm.free 0; have hm_f1 := hm.free 1; have hm_f2 := hm.free 2; have hm_f3 := hm.free 3; have hm_f4 := hm.free 4; have hm_f5 := hm.free 5; have hm_f6 := hm.free 6; have hm_f7 := hm.free 7; have hm_l := hm.lt; have hq_0 := hq.cell 0; have hq_f0 := hq.free 0; have hq_l := hq.lt
          simp only [atS, List.getD_cons_succ, List.getD_cons_zero] at e12 e13
          simp only [putAll, e12, e13]
          go_wp2_with fail
          exact ⟨rfl, rfl, G.refl _ none, rfl⟩
        · have e14 := hV 14 (by kernel_rfl); clear hV
          obtain ⟨y2, y3⟩ := HYx.out _ (G.trans HG hg1); obtain ⟨z2, z3⟩ := HZx.out _ (G.trans HG hg1); replace hm := Hx.kept hm hg1 (by simp); replace hq := Hx.kept hq hg1 (by simp); have hm_0 := hm.cell 0; have hm_1 := hm.cell 1; have hm_2 := hm.cell 2; have hm_3 := hm.cell 3; have hm_4 := hm.cell 4; have hm_5 := hm.cell 5; have hm_6 := hm.cell 6; have hm_7 := hm.cell 7; have hm_f0 := hm.free 0; have hm_f1 := hm.free 1; have hm_f2 := hm.free 2; have hm_f3 := hm.free 3; have hm_f4 := hm.free 4; have hm_f5 := hm.free 5; have hm_f6 := hm.free 6; have hm_f7 := hm.free 7; have hm_l := hm.lt; have hq_0 := hq.cell 0; have hq_f0 := hq.free 0; have hq_l := hq.lt
          simp only [atS, List.getD_cons_succ, List.getD_cons_zero] at e14
          simp only [putAll, e14]
          go_wp2_with fail
          exact ⟨rfl, rfl, G.refl _ none, rfl⟩
        · have e7 := hV 7 (by kernel_rfl); have e15 := hV 15 (by kernel_rfl); clear hV
          obtain ⟨y2, y3⟩ := HYx.out _ (G.trans HG hg1); obtain ⟨z2, z3⟩ := HZx.out _ (G.trans HG hg1); replace hm := Hx.kept hm hg1 (by simp); replace hq := Hx.kept hq hg1 (by simp); have hm_0 := hm.cell 0; have hm_1 := hm.cell 1; have hm_2 := hm.cell 2; have hm_3 := hm.cell 3; have hm_4 := hm.cell 4; have hm_5 := hm.cell 5; have hm_6 := hm.cell 6; have hm_7 := hm.cell 7; have hm_f0 := hm.free 0; have hm_f1 := hm.free 1; have hm_f2 := hm.free 2; have hm_f3 := hm.free 3; have hm_f4 := hm.free 4; have hm_f5 := hm.free 5; have hm_f6 := hm.free 6; have hm_f7 := hm.free 7; have hm_l := hm.lt; have hq_0 := hq.cell 0; have hq_f0 := hq.free 0; have hq_l := hq.lt
          simp only [atS, List.getD_cons_succ, List.getD_cons_zero] at e7 e15
          simp only [putAll, e7, e15]
          go_wp2_with (go_at_call 42; (with_reducible refine (HSb.out _).mono ?_); rintro e wn ⟨rfl, hgn⟩)
          exact ⟨rfl, rfl, hgn, rfl⟩
        · clear hV
          obtain ⟨y2, y3⟩ := HYx.out _ (G.trans HG hg1); obtain ⟨z2, z3⟩ := HZx.out _ (G.trans HG hg1); replace hm := Hx.kept hm hg1 (by simp); replace hq := Hx.kept hq hg1 (by simp); have hm_0 := hm.cell 0; have hm_1 := hm.cell 1; have hm_2 := hm.cell 2; have hm_3 := hm.cell 3; have hm_4 := hm.cell 4; have hm_5 := hm.cell 5; have hm_6 := hm.cell 6; have hm_7 := hm.cell 7; have hm_f0 := hm.free 0; have hm_f1 := hm.free 1; have hm_f2 := hm.free 2; have hm_f3 := hm.free 3; have hm_f4 := hm.free 4; have hm_f5 := hm.free 5; have hm_f6 := hm.free 6; have hm_f7 := hm.free 7; have hm_l := hm.lt; have hq_0 := hq.cell 0; have hq_f0 := hq.free 0; have hq_l := hq.lt
          simp only [putAll]
          go_wp2_with fail
          exact ⟨rfl, rfl, G.alloc (G.refl _ _) _, _, rfl, hg1.size, Hx.new _ _ _⟩
      · intro VV y1 hg1 hV
        have e0 := hV 0 (by omega); have e1 := hV 1 (by omega); have e2 := hV 2 (by omega); have e3 := hV 3 (by omega); have e4 := hV 4 (by omega); have e5 := hV 5 (by omega); have e6 := hV 6 (by omega); have e7 := hV 7 (by omega); have e8 := hV 8 (by omega); have e9 := hV 9 (by omega); have e10 := hV 10 (by omega); have e11 := hV 11 (by omega); have e12 := hV 12 (by omega); have e13 := hV 13 (by omega); have e14 := hV 14 (by omega); have e15 := hV 15 (by omega); have e16 := hV 16 (by omega); have e17 := hV 17 (by omega); clear hV
        simp only [atS, List.getD_cons_succ, List.getD_cons_zero] at e0 e1 e2 e3 e4 e5 e6 e7 e8 e9 e10 e11 e12 e13 e14 e15 e16 e17
        simp only [List.take_succ_cons, List.take_zero, List.drop_succ_cons, List.drop_zero, putAll, e0, e1, e2, e3, e4, e5, e6, e7, e8, e9, e10, e11, e12, e13, e14, e15, e16]
        replace hm := Hx.kept hm hg1 (by simp); replace hq := Hx.kept hq hg1 (by simp); have hm_0 := hm.cell 0; have hm_1 := hm.cell 1; have hm_2 := hm.cell 2; have hm_3 := hm.cell 3; have hm_4 := hm.cell 4; have hm_5 := hm.cell 5; have hm_6 := hm.cell 6; have hm_7 := hm.cell 7; have hm_f0 := hm.free 0; have hm_f1 := hm.free 1; have hm_f2 := hm.free 2; have hm_f3 := hm.free 3; have hm_f4 := hm.free 4; have hm_f5 := hm.free 5; have hm_f6 := hm.free 6; have hm_f7 := hm.free 7; have hm_l := hm.lt; have hq_0 := hq.cell 0; have hq_f0 := hq.free 0; have hq_l := hq.lt
        have hg2 := hg1
        clear hg1
        obtain ⟨O, e17, hO1, hO2⟩ := e17
        simp only [e17]
        have ho_0 := hO2.cell 0; have ho_1 := hO2.cell 1; have ho_f0 := hO2.free 0; have ho_f1 := hO2.free 1; have ho_l := hO2.lt
        go_wp2_with fail
        go_meet
        exact ⟨O, rfl, rfl, rfl, rfl, hO1, (by exact G.go hg2), (by first | exact Hx.go hO2 | exact Hx.go2)⟩
    obtain ⟨O, rfl, rfl, rfl, rfl, hO1, hgo, ho⟩ := hcut
    have hrl := hr.lt
    have hnO : ¬ w.heap.size = O := by omega
    have hnO2 : ¬ O = w.heap.size := by omega
    replace HG := G.trans HG hgo
    replace hr := Hx.kept hr hgo (by simp); replace hm := Hx.kept hm hgo (by simp); replace hq := Hx.kept hq hgo (by simp)
    clear hgo
    rename World => wz
    have hvn : -4611686018427387904 ≤ vN D ∧ vN D ≤ 4611686018427387904 := by
      cases D with
      | none => simp [vN]
      | some d => exact hDf d rfl
    have HMd := Lib.hid (fun w2 => mulDiv_any (vN D) ((j : Int) - m) ((bn : Int) - m) w2 (by omega) (by omega) (by omega) (by omega) (by omega) (by omega))
    obtain ⟨M, hM⟩ : ∃ M, Hid (mulDivO (vN D) ((j : Int) - m) ((bn : Int) - m) = M) := ⟨_, Lib.hid rfl⟩
    rw [hM.out, mulDivV_form] at HMd
    cases D with
    | none =>
      have hfin : Hid (V = none) := Lib.hid (by rw [hV5.out]; exact lie_sub hD.out)
      have ho : Hx wz O [.bool false, .int .i64 0] 28 := ho
      have HMd : Hid (∀ w2, Calls Tryd.prog 48 #[.int .i64 0, .int .i64 ((j : Int) - m), .int .i64 ((bn : Int) - m)] w2 fun e w' => e = .returned (.tuple #[.int .i64 (vN M), .bool (vB M)]) ∧ w2.grownBy w' none) := HMd
      have ho_0 := ho.cell 0; have ho_1 := ho.cell 1; have ho_f0 := ho.free 0; have ho_f1 := ho.free 1; have ho_l := ho.lt; have hr_0 := hr.cell 0; have hr_1 := hr.cell 1; have hr_f0 := hr.free 0; have hr_f1 := hr.free 1; have hr_l := hr.lt
      go_wp2_with (go_at_call 48; (with_reducible refine (HMd.out _).mono ?_); rintro e wn ⟨rfl, hgn⟩; replace HG := G.trans (w := w) (by exact G.go HG) hgn; replace ho := Hx.kept ho hgn (by simp); replace hr := Hx.kept hr hgn (by simp); replace hm := Hx.kept hm hgn (by simp); replace hq := Hx.kept hq hgn (by simp); have ho_0 := ho.cell 0; have ho_1 := ho.cell 1; have ho_f0 := ho.free 0; have ho_f1 := ho.free 1; have ho_l := ho.lt; have hr_0 := hr.cell 0; have hr_1 := hr.cell 1; have hr_f0 := hr.free 0; have hr_f1 := hr.free 1; have hr_l := hr.lt; have hm_0 := hm.cell 0; have hm_1 := hm.cell 1; have hm_2 := hm.cell 2; have hm_3 := hm.cell 3; have hm_4 := hm.cell 4; have hm_5 := hm.cell 5; have hm_6 := hm.cell 6; have hm_7 := hm.cell 7; have hm_f0 := hm.free 0; have hm_f1 := hm.free 1; have hm_f2 := hm.free 2; have hm_f3 := hm.free 3; have hm_f4 := hm.free 4; have hm_f5 := hm.free 5; have hm_f6 := hm.free 6; have hm_f7 := hm.free 7; have hm_l := hm.lt; have hq_0 := hq.cell 0; have hq_f0 := hq.free 0; have hq_l := hq.lt; clear hgn)
      refine ret_cell [.bool false, .int .i64 0] w.heap.size 28 rfl rfl (Tryd.isAgg28 _) (Tryd.sizeOf28 _) rfl ?_ ⟨by rw [hfin.out]; rfl, (by exact G.go HG)⟩
      exact (by first | exact Hx.go hr | exact Hx.go2)
    | some d =>
      have ho : Hx wz O [.bool true, .int .i64 d] 28 := ho
      have HMd : Hid (∀ w2, Calls Tryd.prog 48 #[.int .i64 d, .int .i64 ((j : Int) - m), .int .i64 ((bn : Int) - m)] w2 fun e w' => e = .returned (.tuple #[.int .i64 (vN M), .bool (vB M)]) ∧ w2.grownBy w' none) := HMd
      have hM : Hid (mulDivO d ((j : Int) - m) ((bn : Int) - m) = M) := hM
      cases M with
      | none =>
        have hfin : Hid (V = none) := Lib.hid (by rw [hV5.out]; exact lie_mul hD.out hM.out)
        have HMd : Hid (∀ w2, Calls Tryd.prog 48 #[.int .i64 d, .int .i64 ((j : Int) - m), .int .i64 ((bn : Int) - m)] w2 fun e w' => e = .returned (.tuple #[.int .i64 0, .bool false]) ∧ w2.grownBy w' none) := HMd
        have ho_0 := ho.cell 0; have ho_1 := ho.cell 1; have ho_f0 := ho.free 0; have ho_f1 := ho.free 1; have ho_l := ho.lt; have hr_0 := hr.cell 0; have hr_1 := hr.cell 1; have hr_f0 := hr.free 0; have hr_f1 := hr.free 1; have hr_l := hr.lt
        go_wp2_with (go_at_call 48; (with_reducible refine (HMd.out _).mono ?_); rintro e wn ⟨rfl, hgn⟩; replace HG := G.trans (w := w) (by exact G.go HG) hgn; replace ho := Hx.kept ho hgn (by simp); replace hr := Hx.kept hr hgn (by simp); replace hm := Hx.kept hm hgn (by simp); replace hq := Hx.kept hq hgn (by simp); have ho_0 := ho.cell 0; have ho_1 := ho.cell 1; have ho_f0 := ho.free 0; have ho_f1 := ho.free 1; have ho_l := ho.lt; have hr_0 := hr.cell 0; have hr_1 := hr.cell 1; have hr_f0 := hr.free 0; have hr_f1 := hr.free 1; have hr_l := hr.lt; have hm_0 := hm.cell 0; have hm_1 := hm.cell 1; have hm_2 := hm.cell 2; have hm_3 := hm.cell 3; have hm_4 := hm.cell 4; have hm_5 := hm.cell 5; have hm_6 := hm.cell 6; have hm_7 := hm.cell 7; have hm_f0 := hm.free 0; have hm_f1 := hm.free 1; have hm_f2 := hm.free 2; have hm_f3 := hm.free 3; have hm_f4 := hm.free 4; have hm_f5 := hm.free 5; have hm_f6 := hm.free 6; have hm_f7 := hm.free 7; have hm_l := hm.lt; have hq_0 := hq.cell 0; have hq_f0 := hq.free 0; have hq_l := hq.lt; clear hgn)
        refine ret_cell [.bool false, .int .i64 0] w.heap.size 28 rfl rfl (Tryd.isAgg28 _) (Tryd.sizeOf28 _) rfl ?_ ⟨by rw [hfin.out]; rfl, (by exact G.go HG)⟩
        exact (by first | exact Hx.go hr | exact Hx.go2)
      | some n =>
        have hnf := mulDivO_fits d ((j : Int) - m) ((bn : Int) - m) n hM.out
        have HMd : Hid (∀ w2, Calls Tryd.prog 48 #[.int .i64 d, .int .i64 ((j : Int) - m), .int .i64 ((bn : Int) - m)] w2 fun e w' => e = .returned (.tuple #[.int .i64 n, .bool true]) ∧ w2.grownBy w' none) := HMd
        have hV6 : Hid (V = sumO (sumO (some 0) (some y)) (some n)) := Lib.hid (by rw [hV5.out]; exact lie_hit hD.out hM.out)
        have HO := Lib.hid (fun w2 : World => fixedOf_any (w := w2) n)
        rw [ofR_small hnf] at HO
        simp only [valV, valC] at HO
        have HAd := Lib.hid (fun v w2 h => add_any [(true, y), (true, n)] v w2 h (by simp))
        rw [show addO [(true, y), (true, n)] = V from (add2_fit (some y) (some n) hfy (fits_some hnf)).trans hV6.out.symm, valV_form] at HAd
        clear hV5 hV6 hD hM HSb
        have ho_0 := ho.cell 0; have ho_1 := ho.cell 1; have ho_f0 := ho.free 0; have ho_f1 := ho.free 1; have ho_l := ho.lt; have hr_0 := hr.cell 0; have hr_1 := hr.cell 1; have hr_f0 := hr.free 0; have hr_f1 := hr.free 1; have hr_l := hr.lt
        go_upto_region 8 with (go_at_call 48; (with_reducible refine (HMd.out _).mono ?_); rintro e wn ⟨rfl, hgn⟩; replace HG := G.trans (w := w) (by exact G.go HG) hgn; replace ho := Hx.kept ho hgn (by simp); replace hr := Hx.kept hr hgn (by simp); replace hm := Hx.kept hm hgn (by simp); replace hq := Hx.kept hq hgn (by simp); have ho_0 := ho.cell 0; have ho_1 := ho.cell 1; have ho_f0 := ho.free 0; have ho_f1 := ho.free 1; have ho_l := ho.lt; have hr_0 := hr.cell 0; have hr_1 := hr.cell 1; have hr_f0 := hr.free 0; have hr_f1 := hr.free 1; have hr_l := hr.lt; have hm_0 := hm.cell 0; have hm_1 := hm.cell 1; have hm_2 := hm.cell 2; have hm_3 := hm.cell 3; have hm_4 := hm.cell 4; have hm_5 := hm.cell 5; have hm_6 := hm.cell 6; have hm_7 := hm.cell 7; have hm_f0 := hm.free 0; have hm_f1 := hm.free 1; have hm_f2 := hm.free 2; have hm_f3 := hm.free 3; have hm_f4 := hm.free 4; have hm_f5 := hm.free 5; have hm_f6 := hm.free 6; have hm_f7 := hm.free 7; have hm_l := hm.lt; have hq_0 := hq.cell 0; have hq_f0 := hq.free 0; have hq_l := hq.lt; clear hgn)
        clear ho_0 ho_1 ho_f0 ho_f1 ho_l hr_0 hr_1 hr_f0 hr_f1 hr_l hm_0 hm_1 hm_2 hm_3 hm_4 hm_5 hm_6 hm_7 hm_f0 hm_f1 hm_f2 hm_f3 hm_f4 hm_f5 hm_f6 hm_f7 hm_l hq_0 hq_f0 hq_l
        refine wp_region_rel (n := 12) (S := [fun v _ => v = .pointer (some ⟨B, 0, none⟩), fun v _ => v = .pointer (some ⟨B, 0, none⟩), fun v _ => v = .pointer (some ⟨B, 0, none⟩), fun v _ => v = .pointer (some ⟨B, 3, none⟩), fun v _ => v = .slice (some ⟨b, o, none⟩) W.S.vals.length c, fun v _ => v = .int .i64 (m : Int), fun v _ => v = .pointer (some ⟨b, o + m * 2, none⟩), fun v _ => v = .agg #[.bool true, .int .i64 y], fun v _ => v = .int .i64 n, fun v _ => v = .agg #[.bool true, .int .i64 n], fun v w => ∃ Q, v = .slice (some ⟨Q, 0, none⟩) 2 2 ∧ Hx w Q [.bool true, .int .i64 y, .bool true, .int .i64 n] 28, fun v _ => v = .agg #[.bool (vB V), .int .i64 (vN V)]]) (G.refl _ none) (by kernel_rfl) (by kernel_rfl) ?_ ?_ ?_
        · intro i v y1 y2 hg12 hS
          match i, hS with
          | 0, h => exact h
          | 1, h => exact h
          | 2, h => exact h
          | 3, h => exact h
          | 4, h => exact h
          | 5, h => exact h
          | 6, h => exact h
          | 7, h => exact h
          | 8, h => exact h
          | 9, h => exact h
          | 10, h => exact (let ⟨Q, e1, e2⟩ := h; ⟨Q, e1, e2.kept hg12 (by simp)⟩)
          | 11, h => exact h
          | k + 12, h => exact trivial
        · simp only [List.take_succ_cons, List.take_zero, relOps]
          refine ⟨fun VV y1 hg1 hV => ?_, fun VV y1 hg1 hV => ?_, fun VV y1 hg1 hV => ?_, fun VV y1 hg1 hV => ?_, fun VV y1 hg1 hV => ?_, fun VV y1 hg1 hV => ?_, fun VV y1 hg1 hV => ?_, fun VV y1 hg1 hV => ?_, fun VV y1 hg1 hV => ?_, fun VV y1 hg1 hV => ?_, fun VV y1 hg1 hV => ?_, fun VV y1 hg1 hV => ?_, trivial⟩
          · clear hV
            obtain ⟨y2, y3⟩ := HYx.out _ (G.trans HG hg1); replace hm := Hx.kept hm hg1 (by simp); replace hq := Hx.kept hq hg1 (by simp); replace hr := Hx.kept hr hg1 (by simp); have hm_0 := hm.cell 0; have hm_1 := hm.cell 1; have hm_2 := hm.cell 2; have hm_3 := hm.cell 3; have hm_4 := hm.cell 4; have hm_5 := hm.cell 5; have hm_6 := hm.cell 6; have hm_7 := hm.cell 7; have hm_f0 := hm.free 0; have hm_f1 := hm.free 1; have hm_f2 := hm.free 2; have hm_f3 := hm.free 3; have hm_f4 := hm.free 4; have hm_f5 := hm.free 5; have hm_f6 := hm.free 6; have hm_f7 := hm.free 7; have hm_l := hm.lt; have hq_0 := hq.cell 0; have hq_f0 := hq.free 0; have hq_l := hq.lt; have hr_0 := hr.cell 0; have hr_1 := hr.cell 1; have hr_f0 := hr.free 0; have hr_f1 := hr.free 1; have hr_l := hr.lt
            simp only [putAll]
            go_wp2_with fail
            exact ⟨rfl, rfl, G.refl _ none, rfl⟩
          · have e0 := hV 0 (by kernel_rfl); clear hV
            obtain ⟨y2, y3⟩ := HYx.out _ (G.trans HG hg1); replace hm := Hx.kept hm hg1 (by simp); replace hq := Hx.kept hq hg1 (by simp); replace hr := Hx.kept hr hg1 (by simp); have hm_0 := hm.cell 0; have hm_1 := hm.cell 1; have hm_2 := hm.cell 2; have hm_3 := hm.cell 3; have hm_4 := hm.cell 4; have hm_5 := hm.cell 5; have hm_6 := hm.cell 6; have hm_7 := hm.cell 7; have hm_f0 := hm.free 0; have hm_f1 := hm.free 1; have hm_f2 := hm.free 2; have hm_f3 := hm.free 3; have hm_f4 := hm.free 4; have hm_f5 := hm.free 5; have hm_f6 := hm.free 6; have hm_f7 := hm.free 7; have hm_l := hm.lt; have hq_0 := hq.cell 0; have hq_f0 := hq.free 0; have hq_l := hq.lt; have hr_0 := hr.cell 0; have hr_1 := hr.cell 1; have hr_f0 := hr.free 0; have hr_f1 := hr.free 1; have hr_l := hr.lt
            simp only [atS, List.getD_cons_zero] at e0
            simp only [putAll, e0]
            go_wp2_with fail
            exact ⟨rfl, rfl, G.refl _ none, rfl⟩
          · have e1 := hV 1 (by kernel_rfl); clear hV
            obtain ⟨y2, y3⟩ := HYx.out _ (G.trans HG hg1); replace hm := Hx.kept hm hg1 (by simp); replace hq := Hx.kept hq hg1 (by simp); replace hr := Hx.kept hr hg1 (by simp); have hm_0 := hm.cell 0; have hm_1 := hm.cell 1; have hm_2 := hm.cell 2; have hm_3 := hm.cell 3; have hm_4 := hm.cell 4; have hm_5 := hm.cell 5; have hm_6 := hm.cell 6; have hm_7 := hm.cell 7; have hm_f0 := hm.free 0; have hm_f1 := hm.free 1; have hm_f2 := hm.free 2; have hm_f3 := hm.free 3; have hm_f4 := hm.free 4; have hm_f5 := hm.free 5; have hm_f6 := hm.free 6; have hm_f7 := hm.free 7; have hm_l := hm.lt; have hq_0 := hq.cell 0; have hq_f0 := hq.free 0; have hq_l := hq.lt; have hr_0 := hr.cell 0; have hr_1 := hr.cell 1; have hr_f0 := hr.free 0; have hr_f1 := hr.free 1; have hr_l := hr.lt
            simp only [atS, List.getD_cons_succ, List.getD_cons_zero] at e1
            simp only [putAll, e1]
            go_wp2_with fail
            exact ⟨rfl, rfl, G.refl _ none, rfl⟩
          · have e2 := hV 2 (by kernel_rfl); clear hV
            obtain ⟨y2, y3⟩ := HYx.out _ (G.trans HG hg1); replace hm := Hx.kept hm hg1 (by simp); replace hq := Hx.kept hq hg1 (by simp); replace hr := Hx.kept hr hg1 (by simp); have hm_0 := hm.cell 0; have hm_1 := hm.cell 1; have hm_2 := hm.cell 2; have hm_3 := hm.cell 3; have hm_4 := hm.cell 4; have hm_5 := hm.cell 5; have hm_6 := hm.cell 6; have hm_7 := hm.cell 7; have hm_f0 := hm.free 0; have hm_f1 := hm.free 1; have hm_f2 := hm.free 2; have hm_f3 := hm.free 3; have hm_f4 := hm.free 4; have hm_f5 := hm.free 5; have hm_f6 := hm.free 6; have hm_f7 := hm.free 7; have hm_l := hm.lt; have hq_0 := hq.cell 0; have hq_f0 := hq.free 0; have hq_l := hq.lt; have hr_0 := hr.cell 0; have hr_1 := hr.cell 1; have hr_f0 := hr.free 0; have hr_f1 := hr.free 1; have hr_l := hr.lt
            simp only [atS, List.getD_cons_succ, List.getD_cons_zero] at e2
            simp only [putAll, e2]
            go_wp2_with fail
            exact ⟨rfl, rfl, G.refl _ none, rfl⟩
          · have e3 := hV 3 (by kernel_rfl); clear hV
            obtain ⟨y2, y3⟩ := HYx.out _ (G.trans HG hg1); replace hm := Hx.kept hm hg1 (by simp); replace hq := Hx.kept hq hg1 (by simp); replace hr := Hx.kept hr hg1 (by simp); have hm_0 := hm.cell 0; have hm_1 := hm.cell 1; have hm_2 := hm.cell 2; have hm_3 := hm.cell 3; have hm_4 := hm.cell 4; have hm_5 := hm.cell 5; have hm_6 := hm.cell 6; have hm_7 := hm.cell 7; have hm_f0 := hm.free 0; have hm_f1 := hm.free 1; have hm_f2 := hm.free 2; have hm_f3 := hm.free 3; have hm_f4 := hm.free 4; have hm_f5 := hm.free 5; have hm_f6 := hm.free 6; have hm_f7 := hm.free 7; have hm_l := hm.lt; have hq_0 := hq.cell 0; have hq_f0 := hq.free 0; have hq_l := hq.lt; have hr_0 := hr.cell 0; have hr_1 := hr.cell 1; have hr_f0 := hr.free 0; have hr_f1 := hr.free 1; have hr_l := hr.lt
            simp only [atS, List.getD_cons_succ, List.getD_cons_zero] at e3
            simp only [putAll, e3]
            go_wp2_with fail
            exact ⟨rfl, rfl, G.refl _ none, rfl⟩
          · clear hV
            obtain ⟨y2, y3⟩ := HYx.out _ (G.trans HG hg1); replace hm := Hx.kept hm hg1 (by simp); replace hq := Hx.kept hq hg1 (by simp); replace hr := Hx.kept hr hg1 (by simp); have hm_0 := hm.cell 0; have hm_1 := hm.cell 1; have hm_2 := hm.cell 2; have hm_3 := hm.cell 3; have hm_4 := hm.cell 4; have hm_5 := hm.cell 5; have hm_6 := hm.cell 6; have hm_7 := hm.cell 7; have hm_f0 := hm.free 0; have hm_f1 := hm.free 1; have hm_f2 := hm.free 2; have hm_f3 := hm.free 3; have hm_f4 := hm.free 4; have hm_f5 := hm.free 5; have hm_f6 := hm.free 6; have hm_f7 := hm.free 7; have hm_l := hm.lt; have hq_0 := hq.cell 0; have hq_f0 := hq.free 0; have hq_l := hq.lt; have hr_0 := hr.cell 0; have hr_1 := hr.cell 1; have hr_f0 := hr.free 0; have hr_f1 := hr.free 1; have hr_l := hr.lt
            simp only [putAll]
            go_wp2_with fail
            exact ⟨rfl, rfl, G.refl _ none, rfl⟩
          · have e4 := hV 4 (by kernel_rfl); have e5 := hV 5 (by kernel_rfl); clear hV
            obtain ⟨y2, y3⟩ := HYx.out _ (G.trans HG hg1); replace hm := Hx.kept hm hg1 (by simp); replace hq := Hx.kept hq hg1 (by simp); replace hr := Hx.kept hr hg1 (by simp); have hm_0 := hm.cell 0; have hm_1 := hm.cell 1; have hm_2 := hm.cell 2; have hm_3 := hm.cell 3; have hm_4 := hm.cell 4; have hm_5 := hm.cell 5; have hm_6 := hm.cell 6; have hm_7 := hm.cell 7; have hm_f0 := hm.free 0; have hm_f1 := hm.free 1; have hm_f2 := hm.free 2; have hm_f3 := hm.free 3; have hm_f4 := hm.free 4; have hm_f5 := hm.free 5; have hm_f6 := hm.free 6; have hm_f7 := hm.free 7; have hm_l := hm.lt; have hq_0 := hq.cell 0; have hq_f0 := hq.free 0; have hq_l := hq.lt; have hr_0 := hr.cell 0; have hr_1 := hr.cell 1; have hr_f0 := hr.free 0; have hr_f1 := hr.free 1; have hr_l := hr.lt
            simp only [atS, List.getD_cons_succ, List.getD_cons_zero] at e4 e5
            simp only [putAll, e4, e5]
            go_wp2_with fail
            exact ⟨rfl, rfl, G.refl _ none, rfl⟩
          · have e6 := hV 6 (by kernel_rfl); clear hV
            obtain ⟨y2, y3⟩ := HYx.out _ (G.trans HG hg1); replace hm := Hx.kept hm hg1 (by simp); replace hq := Hx.kept hq hg1 (by simp); replace hr := Hx.kept hr hg1 (by simp); have hm_0 := hm.cell 0; have hm_1 := hm.cell 1; have hm_2 := hm.cell 2; have hm_3 := hm.cell 3; have hm_4 := hm.cell 4; have hm_5 := hm.cell 5; have hm_6 := hm.cell 6; have hm_7 := hm.cell 7; have hm_f0 := hm.free 0; have hm_f1 := hm.free 1; have hm_f2 := hm.free 2; have hm_f3 := hm.free 3; have hm_f4 := hm.free 4; have hm_f5 := hm.free 5; have hm_f6 := hm.free 6; have hm_f7 := hm.free 7; have hm_l := hm.lt; have hq_0 := hq.cell 0; have hq_f0 := hq.free 0; have hq_l := hq.lt; have hr_0 := hr.cell 0; have hr_1 := hr.cell 1; have hr_f0 := hr.free 0; have hr_f1 := hr.free 1; have hr_l := hr.lt
            simp only [atS, List.getD_cons_succ, List.getD_cons_zero] at e6
            simp only [putAll, e6]
            go_wp2_with fail
            exact ⟨rfl, rfl, G.refl _ none, rfl⟩
          · clear hV
            obtain ⟨y2, y3⟩ := HYx.out _ (G.trans HG hg1); replace hm := Hx.kept hm hg1 (by simp); replace hq := Hx.kept hq hg1 (by simp); replace hr := Hx.kept hr hg1 (by simp); have hm_0 := hm.cell 0; have hm_1 := hm.cell 1; have hm_2 := hm.cell 2; have hm_3 := hm.cell 3; have hm_4 := hm.cell 4; have hm_5 := hm.cell 5; have hm_6 := hm.cell 6; have hm_7 := hm.cell 7; have hm_f0 := hm.free 0; have hm_f1 := hm.free 1; have hm_f2 := hm.free 2; have hm_f3 := hm.free 3; have hm_f4 := hm.free 4; have hm_f5 := hm.free 5; have hm_f6 := hm.free 6; have hm_f7 := hm.free 7; have hm_l := hm.lt; have hq_0 := hq.cell 0; have hq_f0 := hq.free 0; have hq_l := hq.lt; have hr_0 := hr.cell 0; have hr_1 := hr.cell 1; have hr_f0 := hr.free 0; have hr_f1 := hr.free 1; have hr_l := hr.lt
            simp only [putAll]
            go_wp2_with fail
            exact ⟨rfl, rfl, G.refl _ none, rfl⟩
          · have e8 := hV 8 (by kernel_rfl); clear hV
            obtain ⟨y2, y3⟩ := HYx.out _ (G.trans HG hg1); replace hm := Hx.kept hm hg1 (by simp); replace hq := Hx.kept hq hg1 (by simp); replace hr := Hx.kept hr hg1 (by simp); have hm_0 := hm.cell 0; have hm_1 := hm.cell 1; have hm_2 := hm.cell 2; have hm_3 := hm.cell 3; have hm_4 := hm.cell 4; have hm_5 := hm.cell 5; have hm_6 := hm.cell 6; have hm_7 := hm.cell 7; have hm_f0 := hm.free 0; have hm_f1 := hm.free 1; have hm_f2 := hm.free 2; have hm_f3 := hm.free 3; have hm_f4 := hm.free 4; have hm_f5 := hm.free 5; have hm_f6 := hm.free 6; have hm_f7 := hm.free 7; have hm_l := hm.lt; have hq_0 := hq.cell 0; have hq_f0 := hq.free 0; have hq_l := hq.lt; have hr_0 := hr.cell 0; have hr_1 := hr.cell 1; have hr_f0 := hr.free 0; have hr_f1 := hr.free 1; have hr_l := hr.lt
            simp only [atS, List.getD_cons_succ, List.getD_cons_zero] at e8
            simp only [putAll, e8]
            go_wp2_with (go_at_call 37; (with_reducible refine (HO.out _).mono ?_); rintro e wn ⟨rfl, hgn⟩)
            exact ⟨rfl, rfl, hgn, rfl⟩
          · have e7 := hV 7 (by kernel_rfl); have e9 := hV 9 (by kernel_rfl); clear hV
            obtain ⟨y2, y3⟩ := HYx.out _ (G.trans HG hg1); replace hm := Hx.kept hm hg1 (by simp); replace hq := Hx.kept hq hg1 (by simp); replace hr := Hx.kept hr hg1 (by simp); have hm_0 := hm.cell 0; have hm_1 := hm.cell 1; have hm_2 := hm.cell 2; have hm_3 := hm.cell 3; have hm_4 := hm.cell 4; have hm_5 := hm.cell 5; have hm_6 := hm.cell 6; have hm_7 := hm.cell 7; have hm_f0 := hm.free 0; have hm_f1 := hm.free 1; have hm_f2 := hm.free 2; have hm_f3 := hm.free 3; have hm_f4 := hm.free 4; have hm_f5 := hm.free 5; have hm_f6 := hm.free 6; have hm_f7 := hm.free 7; have hm_l := hm.lt; have hq_0 := hq.cell 0; have hq_f0 := hq.free 0; have hq_l := hq.lt; have hr_0 := hr.cell 0; have hr_1 := hr.cell 1; have hr_f0 := hr.free 0; have hr_f1 := hr.free 1; have hr_l := hr.lt
            simp only [atS, List.getD_cons_succ, List.getD_cons_zero] at e7 e9
            simp only [putAll, e7, e9]
            go_wp2_with fail
            exact ⟨rfl, rfl, G.alloc (G.refl _ _) _, _, rfl, Hx.new _ _ _⟩
          · have e10 := hV 10 (by kernel_rfl); clear hV
            obtain ⟨y2, y3⟩ := HYx.out _ (G.trans HG hg1); replace hm := Hx.kept hm hg1 (by simp); replace hq := Hx.kept hq hg1 (by simp); replace hr := Hx.kept hr hg1 (by simp); have hm_0 := hm.cell 0; have hm_1 := hm.cell 1; have hm_2 := hm.cell 2; have hm_3 := hm.cell 3; have hm_4 := hm.cell 4; have hm_5 := hm.cell 5; have hm_6 := hm.cell 6; have hm_7 := hm.cell 7; have hm_f0 := hm.free 0; have hm_f1 := hm.free 1; have hm_f2 := hm.free 2; have hm_f3 := hm.free 3; have hm_f4 := hm.free 4; have hm_f5 := hm.free 5; have hm_f6 := hm.free 6; have hm_f7 := hm.free 7; have hm_l := hm.lt; have hq_0 := hq.cell 0; have hq_f0 := hq.free 0; have hq_l := hq.lt; have hr_0 := hr.cell 0; have hr_1 := hr.cell 1; have hr_f0 := hr.free 0; have hr_f1 := hr.free 1; have hr_l := hr.lt
            simp only [atS, List.getD_cons_succ, List.getD_cons_zero] at e10
            obtain ⟨Q, e10, hQ⟩ := e10
            simp only [putAll, e10]
            go_wp2_with (go_at_call 44; (with_reducible refine (HAd.out _ _ ?_).mono ?_); (exact ERow.of_hx (ts := [(true, y), (true, n)]) (by simp) (by decide) hQ); rintro e wn ⟨rfl, hgn⟩)
            exact ⟨rfl, rfl, hgn, rfl⟩
        · intro VV y1 hg1 hV
          have e0 := hV 0 (by omega); have e1 := hV 1 (by omega); have e2 := hV 2 (by omega); have e3 := hV 3 (by omega); have e4 := hV 4 (by omega); have e5 := hV 5 (by omega); have e6 := hV 6 (by omega); have e7 := hV 7 (by omega); have e8 := hV 8 (by omega); have e9 := hV 9 (by omega); have e10 := hV 10 (by omega); have e11 := hV 11 (by omega); clear hV
          simp only [atS, List.getD_cons_succ, List.getD_cons_zero] at e0 e1 e2 e3 e4 e5 e6 e7 e8 e9 e10 e11
          simp only [List.take_succ_cons, List.take_zero, List.drop_succ_cons, List.drop_zero, putAll, e0, e1, e2, e3, e4, e5, e6, e7, e8, e9, e11]
          replace hm := Hx.kept hm hg1 (by simp); replace hq := Hx.kept hq hg1 (by simp); replace hr := Hx.kept hr hg1 (by simp); have hm_0 := hm.cell 0; have hm_1 := hm.cell 1; have hm_2 := hm.cell 2; have hm_3 := hm.cell 3; have hm_4 := hm.cell 4; have hm_5 := hm.cell 5; have hm_6 := hm.cell 6; have hm_7 := hm.cell 7; have hm_f0 := hm.free 0; have hm_f1 := hm.free 1; have hm_f2 := hm.free 2; have hm_f3 := hm.free 3; have hm_f4 := hm.free 4; have hm_f5 := hm.free 5; have hm_f6 := hm.free 6; have hm_f7 := hm.free 7; have hm_l := hm.lt; have hq_0 := hq.cell 0; have hq_f0 := hq.free 0; have hq_l := hq.lt; have hr_0 := hr.cell 0; have hr_1 := hr.cell 1; have hr_f0 := hr.free 0; have hr_f1 := hr.free 1; have hr_l := hr.lt
          have hg2 := hg1
          replace HG := G.trans (w := w) HG hg1; clear hg1
          obtain ⟨Q, e10, hQ⟩ := e10
          simp only [e10]
          go_wp2_with fail
          refine ret_cell [.bool (vB V), .int .i64 (vN V)] w.heap.size 28 rfl rfl (Tryd.isAgg28 _) (Tryd.sizeOf28 _) rfl ?_ ⟨by rw [hvv.out], (by exact G.go HG)⟩
          exact (by first | exact Hx.go hr | exact Hx.go2)
set_option maxHeartbeats 8000000 in
set_option maxRecDepth 100000 in
theorem flie_any (w : World) (B : Nat) (W : FWork) (sv : Value) (hm : FAt w B W sv) (h : ERow valE w sv W.S.vals) (hall : W.S.vals.all (fun p => isR p.1 p.2) = true) (hl : W.S.vals.length ≤ 1000000) (hf : Fits W.k) : Calls Tryd.prog 23 #[.pointer (some ⟨B, 0, none⟩)] w fun e w' => FsRow 4 W w e w' := by
  have HG := G.refl w none
  have HV := Lib.hid h
  have HE := Lib.hid (fun w2 q (h1 : Hx w2 B [.string W.S.name, .int .i64 W.S.start, .int .i64 W.S.step, sv, .int .i64 W.S.cons, .bool (vB W.k), .int .i64 (vN W.k), .bool W.has] 44) h2 (hq : Hx w2 q [.pointer (some ⟨B, 0, none⟩)] 42) => each_any 45 #[] #[.pointer (some ⟨q, 0, none⟩)] (enters_of Tryd.func45 (by kernel_rfl) rfl) w2 B W sv h1 h2 hl (fun j => fsV 4 W.S.step W.has W.k W.S.opts j) none (fun c e => by cases e) (fun _ _ => True) trivial (fun _ _ _ _ _ _ _ _ => trivial) (fun j wj hj hg _ => by rw [push_one]; exact (flie1_any wj B W sv (FAt.kept h1 hg (by simp)) (h2.kept0 hg) hall hl hf q (Hx.kept hq hg (by simp)) j hj).mono fun e w3 hh => ⟨hh.1, hh.2, trivial⟩))
  obtain ⟨A, c, rfl, -, -, -⟩ := h
  replace hm := hm.hx
  go_enter Tryd.func23, Tryd.ntmps23
  go_upto_region 0 with (fail)
  go_cut [1, 2] (fun p r wc => p = .pointer (some ⟨w.heap.size, 0, none⟩) ∧ r = .slice none 0 0 ∧ w.grownBy wc none ∧ Hx wc B [.string W.S.name, .int .i64 W.S.start, .int .i64 W.S.step, .slice A W.S.vals.length c, .int .i64 W.S.cons, .bool (vB W.k), .int .i64 (vN W.k), .bool W.has] 44 ∧ Hx wc w.heap.size [.pointer (some ⟨B, 0, none⟩)] 42)
  case first =>
    go_wp2_with fail
    go_meet
    exact ⟨rfl, rfl, (by exact G.go HG), Hx.alloc hm _, Hx.new _ _ _⟩
  obtain ⟨rfl, rfl, HG, hm, hq⟩ := hcut
  have hq_0 := hq.cell 0; have hq_l := hq.lt
  have hsz0 := HG.size
  go_wp2_with (go_at_call 33; (with_reducible refine (HE.out _ _ hm (HV.out.kept0 HG) hq).mono ?_); rintro e wn ⟨u, rfl, hu, hgn, -⟩; replace HG := G.trans (w := w) (by exact G.go HG) hgn; clear hgn)
  go_ret
  exact ⟨u, rfl, EOwn.mono hu hsz0, HG⟩
/-- all eight functions at once -/
theorem fsDoes_any (i : Nat) (hi : i < fsRows.length) (w : World) (B : Nat) (W : FWork) (sv : Value) (hm : FAt w B W sv) (h : ERow valE w sv W.S.vals) (hall : W.S.vals.all (fun p => isR p.1 p.2) = true) (hl : W.S.vals.length ≤ 1000000) (hf : Fits W.k) : Calls Tryd.prog fsRows[i].fn #[.pointer (some ⟨B, 0, none⟩)] w fun e w' => FsRow i W w e w' :=
  match i, hi with
  | 0, _ => fchg_any w B W sv hm h hall hl hf
  | 1, _ => fdelay_any w B W sv hm h hall hl hf
  | 2, _ => fderiv_any w B W sv hm h hall hl
  | 3, _ => fint_any w B W sv hm h hall hl hf
  | 4, _ => flie_any w B W sv hm h hall hl hf
  | 5, _ => fkeep_any w B W sv hm h hall hl hf
  | 6, _ => fnonneg_any w B W sv hm h hall hl hf
  | 7, _ => fper_any w B W sv hm h hall hl hf
  | n + 8, h => by rw [fsRows_len] at h; omega
end Go.Proofs.YtkablhamnepfnaaDoor
