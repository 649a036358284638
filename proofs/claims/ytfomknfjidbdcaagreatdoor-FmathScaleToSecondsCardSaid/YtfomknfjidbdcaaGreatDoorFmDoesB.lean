/-
  The walks of the other functions on single values. Printed by genfmdoesb.py.
-/
import Derived.Test.YtfomknfjidbdcaaGreatDoorFmDoesA
import Derived.Test.YtfomknfjidbdcaaGreatDoorGrowBase
import Derived.Test.YtfomknfjidbdcaaGreatDoorFixSqrt
namespace Go.Proofs.YtfomknfjidbdcaaGreatDoor
open Go.RowKit
def wholeT (k : Option Int) : Int := (vN k).tdiv 1000000
def wholeB (k : Option Int) : Bool := vB k && decide ((vN k).tmod 1000000 = 0)
theorem wholeO_eq (k : Option Int) : wholeO k = if wholeB k then some (wholeT k) else none := by
  cases k with
  | none => rfl
  | some z =>
    show (if z.tmod 1000000 = 0 then some (z.tdiv 1000000) else none) = if (true && decide (z.tmod 1000000 = 0)) then some (z.tdiv 1000000) else none
    simp
theorem wholeT_le {k : Option Int} (h : Fits k) : -4611686018427387904 ≤ wholeT k ∧ wholeT k ≤ 4611686018427387904 := by
  unfold wholeT
  cases k with
  | none => simp [vN]
  | some z =>
    have := h z rfl
    simp only [vN, Option.getD_some]
    rcases Int.le_total 0 z with g | g
    · have h1 := Int.tdiv_nonneg g (show (0 : Int) ≤ 1000000 by omega)
      have h2 := Int.tdiv_le_self 1000000 g
      omega
    · have h1 := Int.tdiv_nonneg (show 0 ≤ -z by omega) (show (0 : Int) ≤ 1000000 by omega)
      have h2 := Int.tdiv_le_self 1000000 (show 0 ≤ -z by omega)
      rw [Int.neg_tdiv] at h1 h2
      omega
theorem sumO_zero {x : Option Int} (h : Fits x) : sumO (some 0) x = x := by
  cases x with
  | none => rfl
  | some x => show ofR (0 + x) = some x; rw [Int.zero_add]; exact ofR_small (h x rfl)
theorem addO_two {x k : Option Int} (h : Fits x) (hk : Fits k) : addO [(vB x, vN x), (vB k, vN k)] = sumO x k := by
  unfold addO addFrom
  simp only [List.map_cons, List.map_nil, List.foldl_cons, List.foldl_nil, vK_form h, vK_form hk, sumO_zero h]

set_option maxHeartbeats 8000000 in
theorem whole19_any (w : World) (B : Nat) (W : Work) (sv : Value) (hw : WorkAt w B W sv) (hf : Fits W.k) : Calls Tryz.prog 98 #[.pointer (some ⟨B, 0, none⟩)] w fun e w' => e = .returned (.tuple #[.int .i64 (wholeT W.k), .bool (wholeB W.k)]) ∧ w.grownBy w' none := by
  replace hw := hw.hx
  have hw_0 := hw.cell 0; have hw_1 := hw.cell 1; have hw_2 := hw.cell 2; have hw_3 := hw.cell 3; have hw_4 := hw.cell 4; have hw_5 := hw.cell 5; have hw_6 := hw.cell 6; have hw_7 := hw.cell 7; have hw_8 := hw.cell 8; have hw_9 := hw.cell 9; have hw_10 := hw.cell 10; have hw_11 := hw.cell 11; have hw_f0 := hw.free 0; have hw_f1 := hw.free 1; have hw_f2 := hw.free 2; have hw_f3 := hw.free 3; have hw_f4 := hw.free 4; have hw_f5 := hw.free 5; have hw_f6 := hw.free 6; have hw_f7 := hw.free 7; have hw_f8 := hw.free 8; have hw_f9 := hw.free 9; have hw_f10 := hw.free 10; have hw_f11 := hw.free 11; have hw_l := hw.lt
  have hT := Lib.hid (show wholeT W.k = (vN W.k).tdiv 1000000 from rfl)
  have hB := Lib.hid (show wholeB W.k = (vB W.k && decide ((vN W.k).tmod 1000000 = 0)) from rfl)
  rw [hT.out, hB.out]
  have hb : -4611686018427387904 ≤ vN W.k ∧ vN W.k ≤ 4611686018427387904 := by
    cases hk : W.k with
    | none => simp [vN]
    | some z => rw [hk] at hf; exact hf z rfl
  clear hT hB hf
  generalize vN W.k = z at *
  generalize vB W.k = b at *
  have hwr : IntKind.i64.wrap (z.tdiv 1000000) = z.tdiv 1000000 := by
    rw [IntKind.wrap_i64]
    rcases Int.le_total 0 z with g | g
    · have h1 := Int.tdiv_nonneg g (show (0 : Int) ≤ 1000000 by omega)
      have h2 := Int.tdiv_le_self 1000000 g
      omega
    · have h1 := Int.tdiv_nonneg (show 0 ≤ -z by omega) (show (0 : Int) ≤ 1000000 by omega)
      have h2 := Int.tdiv_le_self 1000000 (show 0 ≤ -z by omega)
      rw [Int.neg_tdiv] at h1 h2
      omega
  cases b
  · go_enter Tryz.func98, Tryz.ntmps98
    go_upto_region 1 with (fail)
    go_quiet (fail)
    go_wp2_with fail
    go_ret2
    exact ⟨by simp, (by have hb0 := (G.refl w none); (repeat first | with_reducible exact hb0 | with_reducible refine G.drewN ?_ _ | with_reducible refine G.drew ?_ | with_reducible refine G.alloc ?_ _ | with_reducible refine G.set ?_ _ (Or.inr rfl) | (with_reducible refine G.set ?_ _ (Or.inl ?_); rotate_left; focus (first | omega | (simp; done) | (simp; omega)))))⟩
  by_cases hz : z.tmod 1000000 = 0
  · go_enter Tryz.func98, Tryz.ntmps98
    go_upto_region 1 with (fail)
    go_quiet (fail)
    go_wp2_with fail
    go_ret2
    exact ⟨by simp [hz], (by have hb0 := (G.refl w none); (repeat first | with_reducible exact hb0 | with_reducible refine G.drewN ?_ _ | with_reducible refine G.drew ?_ | with_reducible refine G.alloc ?_ _ | with_reducible refine G.set ?_ _ (Or.inr rfl) | (with_reducible refine G.set ?_ _ (Or.inl ?_); rotate_left; focus (first | omega | (simp; done) | (simp; omega)))))⟩
  · go_enter Tryz.func98, Tryz.ntmps98
    go_upto_region 1 with (fail)
    go_quiet (fail)
    go_wp2_with fail
    go_ret2
    exact ⟨by simp [hz], (by have hb0 := (G.refl w none); (repeat first | with_reducible exact hb0 | with_reducible refine G.drewN ?_ _ | with_reducible refine G.drew ?_ | with_reducible refine G.alloc ?_ _ | with_reducible refine G.set ?_ _ (Or.inr rfl) | (with_reducible refine G.set ?_ _ (Or.inl ?_); rotate_left; focus (first | omega | (simp; done) | (simp; omega)))))⟩
set_option maxHeartbeats 8000000 in
theorem does5 (w : World) (B : Nat) (W : Work) (sv : Value) (hw : WorkAt w B W sv) (x : Int) (hx : -4611686018427387904 ≤ x ∧ x ≤ 4611686018427387904) (hf : Fits W.k) : Calls Tryz.prog 53 #[.pointer (some ⟨B, 0, none⟩), .agg #[.bool true, .int .i64 x]] w fun e w' => e = .returned (valV (fm5 W.k (some x))) ∧ w.grownBy w' none := by
  obtain ⟨V, hV⟩ : ∃ V, Hid (fm5 W.k (some x) = V) := ⟨_, Lib.hid rfl⟩
  rw [hV.out]
  have HA := Lib.hid (fun w v h => add_any [(true, x), (vB W.k, vN W.k)] v w h (by simp))
  rw [show addO [(true, x), (vB W.k, vN W.k)] = fm5 W.k (some x) from addO_two (x := some x) (fits_some hx) hf, hV.out, valV_form] at HA
  have HG := G.refl w none
  replace hw := hw.hx
  go_enter Tryz.func53, Tryz.ntmps53
  go_upto_region 0 with (fail)
  go_cut [3, 4] (fun p r wc => p = .pointer (some ⟨w.heap.size, 0, none⟩) ∧ r = .pointer (some ⟨w.heap.size + 1, 0, none⟩) ∧ w.grownBy wc none ∧ Hx wc w.heap.size [.bool true, .int .i64 x] 28 ∧ Hx wc (w.heap.size + 1) [.bool false, .int .i64 0] 28 ∧ Hx wc B [.string W.S.name, .int .i64 W.S.start, .int .i64 W.S.step, sv, .int .i64 W.S.cons, .bool (vB W.k), .int .i64 (vN W.k), .bool W.has, .bool (vB W.low), .int .i64 (vN W.low), .bool (vB W.high), .int .i64 (vN W.high)] 52)
  case first =>
    go_wp2_with fail
    go_meet
    exact ⟨rfl, rfl, (by exact G.go HG), Hx.alloc (Hx.new _ _ _) _, Hx.new' (by simp) rfl, Hx.alloc (Hx.alloc hw _) _⟩
  obtain ⟨rfl, rfl, HG, ha, hr, hw⟩ := hcut
  have ha_0 := ha.cell 0; have ha_1 := ha.cell 1; have ha_2 := ha.free 0; have ha_3 := ha.free 1; have ha_4 := ha.lt; have hr_0 := hr.cell 0; have hr_1 := hr.cell 1; have hr_2 := hr.free 0; have hr_3 := hr.free 1; have hr_4 := hr.lt; have hw_0 := hw.cell 0; have hw_1 := hw.cell 1; have hw_2 := hw.cell 2; have hw_3 := hw.cell 3; have hw_4 := hw.cell 4; have hw_5 := hw.cell 5; have hw_6 := hw.cell 6; have hw_7 := hw.cell 7; have hw_8 := hw.cell 8; have hw_9 := hw.cell 9; have hw_10 := hw.cell 10; have hw_11 := hw.cell 11; have hw_f0 := hw.free 0; have hw_f1 := hw.free 1; have hw_f2 := hw.free 2; have hw_f3 := hw.free 3; have hw_f4 := hw.free 4; have hw_f5 := hw.free 5; have hw_f6 := hw.free 6; have hw_f7 := hw.free 7; have hw_f8 := hw.free 8; have hw_f9 := hw.free 9; have hw_f10 := hw.free 10; have hw_f11 := hw.free 11; have hw_l := hw.lt
  go_upto_region 1 with (fail)
  refine wp_region_rel (n := 5) (S := [fun v _ => v = .agg #[.bool true, .int .i64 x], fun v _ => v = .pointer (some ⟨B, 0, none⟩), fun v _ => v = .pointer (some ⟨B, 0, none⟩), fun v _ => v = .pointer (some ⟨B, 5, none⟩), fun v _ => v = .agg #[.bool (vB W.k), .int .i64 (vN W.k)]]) (G.refl _ none) (by kernel_rfl) (by kernel_rfl) ?_ ?_ ?_
  · intro i v y1 y2 hg12 hS
    match i, hS with
    | 0, h => exact h
    | 1, h => exact h
    | 2, h => exact h
    | 3, h => exact h
    | 4, h => exact h
    | k + 5, h => exact trivial
  · simp only [List.take_succ_cons, List.take_zero, relOps]
    refine ⟨fun VV y1 hg1 hV => ?_, fun VV y1 hg1 hV => ?_, fun VV y1 hg1 hV => ?_, fun VV y1 hg1 hV => ?_, fun VV y1 hg1 hV => ?_, trivial⟩
    · clear hV
      replace ha := Hx.kept ha hg1 (by simp); replace hr := Hx.kept hr hg1 (by simp); replace hw := Hx.kept hw hg1 (by simp); have ha_0 := ha.cell 0; have ha_1 := ha.cell 1; have ha_2 := ha.free 0; have ha_3 := ha.free 1; have ha_4 := ha.lt; have hr_0 := hr.cell 0; have hr_1 := hr.cell 1; have hr_2 := hr.free 0; have hr_3 := hr.free 1; have hr_4 := hr.lt; have hw_0 := hw.cell 0; have hw_1 := hw.cell 1; have hw_2 := hw.cell 2; have hw_3 := hw.cell 3; have hw_4 := hw.cell 4; have hw_5 := hw.cell 5; have hw_6 := hw.cell 6; have hw_7 := hw.cell 7; have hw_8 := hw.cell 8; have hw_9 := hw.cell 9; have hw_10 := hw.cell 10; have hw_11 := hw.cell 11; have hw_f0 := hw.free 0; have hw_f1 := hw.free 1; have hw_f2 := hw.free 2; have hw_f3 := hw.free 3; have hw_f4 := hw.free 4; have hw_f5 := hw.free 5; have hw_f6 := hw.free 6; have hw_f7 := hw.free 7; have hw_f8 := hw.free 8; have hw_f9 := hw.free 9; have hw_f10 := hw.free 10; have hw_f11 := hw.free 11; have hw_l := hw.lt
      simp only [putAll]
      go_wp2_with fail
      exact ⟨rfl, rfl, G.refl _ none, rfl⟩
    · clear hV
      replace ha := Hx.kept ha hg1 (by simp); replace hr := Hx.kept hr hg1 (by simp); replace hw := Hx.kept hw hg1 (by simp); have ha_0 := ha.cell 0; have ha_1 := ha.cell 1; have ha_2 := ha.free 0; have ha_3 := ha.free 1; have ha_4 := ha.lt; have hr_0 := hr.cell 0; have hr_1 := hr.cell 1; have hr_2 := hr.free 0; have hr_3 := hr.free 1; have hr_4 := hr.lt; have hw_0 := hw.cell 0; have hw_1 := hw.cell 1; have hw_2 := hw.cell 2; have hw_3 := hw.cell 3; have hw_4 := hw.cell 4; have hw_5 := hw.cell 5; have hw_6 := hw.cell 6; have hw_7 := hw.cell 7; have hw_8 := hw.cell 8; have hw_9 := hw.cell 9; have hw_10 := hw.cell 10; have hw_11 := hw.cell 11; have hw_f0 := hw.free 0; have hw_f1 := hw.free 1; have hw_f2 := hw.free 2; have hw_f3 := hw.free 3; have hw_f4 := hw.free 4; have hw_f5 := hw.free 5; have hw_f6 := hw.free 6; have hw_f7 := hw.free 7; have hw_f8 := hw.free 8; have hw_f9 := hw.free 9; have hw_f10 := hw.free 10; have hw_f11 := hw.free 11; have hw_l := hw.lt
      simp only [putAll]
      go_wp2_with fail
      exact ⟨rfl, rfl, G.refl _ none, rfl⟩
    · have e1 := hV 1 (by kernel_rfl); clear hV
      replace ha := Hx.kept ha hg1 (by simp); replace hr := Hx.kept hr hg1 (by simp); replace hw := Hx.kept hw hg1 (by simp); have ha_0 := ha.cell 0; have ha_1 := ha.cell 1; have ha_2 := ha.free 0; have ha_3 := ha.free 1; have ha_4 := ha.lt; have hr_0 := hr.cell 0; have hr_1 := hr.cell 1; have hr_2 := hr.free 0; have hr_3 := hr.free 1; have hr_4 := hr.lt; have hw_0 := hw.cell 0; have hw_1 := hw.cell 1; have hw_2 := hw.cell 2; have hw_3 := hw.cell 3; have hw_4 := hw.cell 4; have hw_5 := hw.cell 5; have hw_6 := hw.cell 6; have hw_7 := hw.cell 7; have hw_8 := hw.cell 8; have hw_9 := hw.cell 9; have hw_10 := hw.cell 10; have hw_11 := hw.cell 11; have hw_f0 := hw.free 0; have hw_f1 := hw.free 1; have hw_f2 := hw.free 2; have hw_f3 := hw.free 3; have hw_f4 := hw.free 4; have hw_f5 := hw.free 5; have hw_f6 := hw.free 6; have hw_f7 := hw.free 7; have hw_f8 := hw.free 8; have hw_f9 := hw.free 9; have hw_f10 := hw.free 10; have hw_f11 := hw.free 11; have hw_l := hw.lt
      simp only [atS, List.getD_cons_succ, List.getD_cons_zero] at e1
      simp only [putAll, e1]
      go_wp2_with fail
      exact ⟨rfl, rfl, G.refl _ none, rfl⟩
    · have e2 := hV 2 (by kernel_rfl); clear hV
      replace ha := Hx.kept ha hg1 (by simp); replace hr := Hx.kept hr hg1 (by simp); replace hw := Hx.kept hw hg1 (by simp); have ha_0 := ha.cell 0; have ha_1 := ha.cell 1; have ha_2 := ha.free 0; have ha_3 := ha.free 1; have ha_4 := ha.lt; have hr_0 := hr.cell 0; have hr_1 := hr.cell 1; have hr_2 := hr.free 0; have hr_3 := hr.free 1; have hr_4 := hr.lt; have hw_0 := hw.cell 0; have hw_1 := hw.cell 1; have hw_2 := hw.cell 2; have hw_3 := hw.cell 3; have hw_4 := hw.cell 4; have hw_5 := hw.cell 5; have hw_6 := hw.cell 6; have hw_7 := hw.cell 7; have hw_8 := hw.cell 8; have hw_9 := hw.cell 9; have hw_10 := hw.cell 10; have hw_11 := hw.cell 11; have hw_f0 := hw.free 0; have hw_f1 := hw.free 1; have hw_f2 := hw.free 2; have hw_f3 := hw.free 3; have hw_f4 := hw.free 4; have hw_f5 := hw.free 5; have hw_f6 := hw.free 6; have hw_f7 := hw.free 7; have hw_f8 := hw.free 8; have hw_f9 := hw.free 9; have hw_f10 := hw.free 10; have hw_f11 := hw.free 11; have hw_l := hw.lt
      simp only [atS, List.getD_cons_succ, List.getD_cons_zero] at e2
      simp only [putAll, e2]
      go_wp2_with fail
      exact ⟨rfl, rfl, G.refl _ none, rfl⟩
    · have e3 := hV 3 (by kernel_rfl); clear hV
      replace ha := Hx.kept ha hg1 (by simp); replace hr := Hx.kept hr hg1 (by simp); replace hw := Hx.kept hw hg1 (by simp); have ha_0 := ha.cell 0; have ha_1 := ha.cell 1; have ha_2 := ha.free 0; have ha_3 := ha.free 1; have ha_4 := ha.lt; have hr_0 := hr.cell 0; have hr_1 := hr.cell 1; have hr_2 := hr.free 0; have hr_3 := hr.free 1; have hr_4 := hr.lt; have hw_0 := hw.cell 0; have hw_1 := hw.cell 1; have hw_2 := hw.cell 2; have hw_3 := hw.cell 3; have hw_4 := hw.cell 4; have hw_5 := hw.cell 5; have hw_6 := hw.cell 6; have hw_7 := hw.cell 7; have hw_8 := hw.cell 8; have hw_9 := hw.cell 9; have hw_10 := hw.cell 10; have hw_11 := hw.cell 11; have hw_f0 := hw.free 0; have hw_f1 := hw.free 1; have hw_f2 := hw.free 2; have hw_f3 := hw.free 3; have hw_f4 := hw.free 4; have hw_f5 := hw.free 5; have hw_f6 := hw.free 6; have hw_f7 := hw.free 7; have hw_f8 := hw.free 8; have hw_f9 := hw.free 9; have hw_f10 := hw.free 10; have hw_f11 := hw.free 11; have hw_l := hw.lt
      simp only [atS, List.getD_cons_succ, List.getD_cons_zero] at e3
      simp only [putAll, e3]
      go_wp2_with fail
      exact ⟨rfl, rfl, G.refl _ none, rfl⟩
  · intro VV y1 hg1 hV
    have e0 := hV 0 (by omega); have e1 := hV 1 (by omega); have e2 := hV 2 (by omega); have e3 := hV 3 (by omega); have e4 := hV 4 (by omega); clear hV
    simp only [atS, List.getD_cons_succ, List.getD_cons_zero] at e0 e1 e2 e3 e4
    simp only [List.take_succ_cons, List.take_zero, List.drop_succ_cons, List.drop_zero, putAll, e0, e1, e2, e3, e4]
    replace ha := Hx.kept ha hg1 (by simp); replace hr := Hx.kept hr hg1 (by simp); replace hw := Hx.kept hw hg1 (by simp); have ha_0 := ha.cell 0; have ha_1 := ha.cell 1; have ha_2 := ha.free 0; have ha_3 := ha.free 1; have ha_4 := ha.lt; have hr_0 := hr.cell 0; have hr_1 := hr.cell 1; have hr_2 := hr.free 0; have hr_3 := hr.free 1; have hr_4 := hr.lt; have hw_0 := hw.cell 0; have hw_1 := hw.cell 1; have hw_2 := hw.cell 2; have hw_3 := hw.cell 3; have hw_4 := hw.cell 4; have hw_5 := hw.cell 5; have hw_6 := hw.cell 6; have hw_7 := hw.cell 7; have hw_8 := hw.cell 8; have hw_9 := hw.cell 9; have hw_10 := hw.cell 10; have hw_11 := hw.cell 11; have hw_f0 := hw.free 0; have hw_f1 := hw.free 1; have hw_f2 := hw.free 2; have hw_f3 := hw.free 3; have hw_f4 := hw.free 4; have hw_f5 := hw.free 5; have hw_f6 := hw.free 6; have hw_f7 := hw.free 7; have hw_f8 := hw.free 8; have hw_f9 := hw.free 9; have hw_f10 := hw.free 10; have hw_f11 := hw.free 11; have hw_l := hw.lt
    replace HG := G.trans (w := w) HG hg1; clear hg1
    go_wp2_with (go_at_call 54; (with_reducible refine (HA.out _ _ ?_).mono ?_); (exact ERow.of_hx (ts := [(true, x), (vB W.k, vN W.k)]) (by simp) (by decide) (Hx.new _ _ _)); rintro e wn ⟨rfl, hgn⟩; replace HG := G.trans (w := w) (by exact G.go HG) hgn; replace hr := Hx.via hr (by repeat (first | with_reducible exact G.refl _ _ | with_reducible refine G.drewN ?_ _ | with_reducible refine G.drew ?_ | with_reducible refine G.alloc ?_ _)) hgn; have hr_0 := hr.cell 0; have hr_1 := hr.cell 1; have hr_2 := hr.free 0; have hr_3 := hr.free 1; have hr_4 := hr.lt; clear hgn)
    refine ret_cell [.bool (vB V), .int .i64 (vN V)] (w.heap.size + 1) 28 rfl rfl (Tryz.isAgg28 _) (Tryz.sizeOf28 _) rfl ?_ ⟨by rw [valV_form], (by exact G.go HG)⟩
    exact (by first | exact Hx.go hr | exact Hx.go2)
end Go.Proofs.YtfomknfjidbdcaaGreatDoor
