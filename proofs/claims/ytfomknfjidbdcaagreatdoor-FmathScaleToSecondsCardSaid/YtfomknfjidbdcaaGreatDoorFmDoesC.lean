/-
  The walks of minMax, pow, round, scaleToSeconds. Printed by genfmdoesc.py.
-/
import Derived.Test.YtfomknfjidbdcaaGreatDoorFmDoesB
import Derived.Laws.StructEq
namespace Go.Proofs.YtfomknfjidbdcaaGreatDoor
open Go.RowKit
theorem vP_inj {a b : Option Int} (h1 : vB a = vB b) (h2 : vN a = vN b) : a = b := by
  cases a <;> cases b <;> simp [vB, vN] at h1 h2 ⊢
  exact h2
theorem agg_eq_val (a b : Option Int) : (vB a == vB b && vN a == vN b) = decide (a = b) := by
  by_cases h : a = b
  · subst h; simp
  · rw [decide_eq_false h]
    cases h1 : (vB a == vB b)
    · rfl
    · cases h2 : (vN a == vN b)
      · rfl
      · exact absurd (vP_inj (by simpa using h1) (by simpa using h2)) h

set_option maxHeartbeats 8000000 in
theorem does3 (w : World) (B : Nat) (W : Work) (sv : Value) (hw : WorkAt w B W sv) (x : Int) (hx : -4611686018427387904 ≤ x ∧ x ≤ 4611686018427387904) (hl : Fits W.low) (hh : Fits W.high) : Calls Tryz.prog 49 #[.pointer (some ⟨B, 0, none⟩), .agg #[.bool true, .int .i64 x]] w fun e w' => e = .returned (valV (fm3 W.low W.high (some x))) ∧ w.grownBy w' none := by
  obtain ⟨V, hV⟩ : ∃ V, Hid (fm3 W.low W.high (some x) = V) := ⟨_, Lib.hid rfl⟩
  rw [hV.out]
  have HO := Lib.hid (fun w => fixedOf_any w 0)
  rw [ofR_small (n := 0) (by omega)] at HO
  simp only [valV, valC] at HO
  have HS := Lib.hid (fun w => sub_any w true (vB W.low) x (vN W.low))
  rw [vK_of hx, vK_form hl, valV_form] at HS
  have HT := Lib.hid (fun w => sub_any w (vB W.high) (vB W.low) (vN W.high) (vN W.low))
  rw [vK_form hh, vK_form hl, valV_form] at HT
  have hvv := Lib.hid (valV_form V)
  have hd := agg_eq_val W.low W.high
  by_cases hlh : W.low = W.high
  · rw [decide_eq_true hlh] at hd
    have hfin : Hid (V = some 0) := Lib.hid (by rw [← hV.out]; unfold fm3; rw [hlh]; simp)
    have hq1 : vB W.low = vB W.high := by rw [hlh]
    have hq2 : vN W.low = vN W.high := by rw [hlh]
    clear hlh hV
    have HG := G.refl w none
    replace hw := hw.hx
    go_enter Tryz.func49, Tryz.ntmps49
    go_upto_region 0 with (fail)
    go_cut [3, 4] (fun p r wc => p = .pointer (some ⟨w.heap.size, 0, none⟩) ∧ r = .pointer (some ⟨w.heap.size + 1, 0, none⟩) ∧ w.grownBy wc none ∧ Hx wc w.heap.size [.bool true, .int .i64 x] 28 ∧ Hx wc (w.heap.size + 1) [.bool false, .int .i64 0] 28 ∧ Hx wc B [.string W.S.name, .int .i64 W.S.start, .int .i64 W.S.step, sv, .int .i64 W.S.cons, .bool (vB W.k), .int .i64 (vN W.k), .bool W.has, .bool (vB W.low), .int .i64 (vN W.low), .bool (vB W.high), .int .i64 (vN W.high)] 52)
    case first =>
      go_wp2_with fail
      go_meet
      exact ⟨rfl, rfl, (by exact G.go HG), Hx.alloc (Hx.new _ _ _) _, Hx.new' (by simp) rfl, Hx.alloc (Hx.alloc hw _) _⟩
    obtain ⟨rfl, rfl, HG, ha, hr, hw⟩ := hcut
    have ha_0 := ha.cell 0; have ha_1 := ha.cell 1; have ha_2 := ha.free 0; have ha_3 := ha.free 1; have ha_4 := ha.lt; have hr_0 := hr.cell 0; have hr_1 := hr.cell 1; have hr_2 := hr.free 0; have hr_3 := hr.free 1; have hr_4 := hr.lt; have hw_0 := hw.cell 0; have hw_1 := hw.cell 1; have hw_2 := hw.cell 2; have hw_3 := hw.cell 3; have hw_4 := hw.cell 4; have hw_5 := hw.cell 5; have hw_6 := hw.cell 6; have hw_7 := hw.cell 7; have hw_8 := hw.cell 8; have hw_9 := hw.cell 9; have hw_10 := hw.cell 10; have hw_11 := hw.cell 11; have hw_f0 := hw.free 0; have hw_f1 := hw.free 1; have hw_f2 := hw.free 2; have hw_f3 := hw.free 3; have hw_f4 := hw.free 4; have hw_f5 := hw.free 5; have hw_f6 := hw.free 6; have hw_f7 := hw.free 7; have hw_f8 := hw.free 8; have hw_f9 := hw.free 9; have hw_f10 := hw.free 10; have hw_f11 := hw.free 11; have hw_l := hw.lt
    go_upto_region 1 with (fail)
    go_quiet (fail)
    go_wp2_with (go_at_call 52; (with_reducible refine (HO.out _).mono ?_); rintro e wn ⟨rfl, hgn⟩; replace HG := G.trans (w := w) (by exact G.go HG) hgn; replace ha := Hx.kept (by first | exact Hx.go ha | exact Hx.go2) hgn (by simp); have ha_0 := ha.cell 0; have ha_1 := ha.cell 1; have ha_2 := ha.free 0; have ha_3 := ha.free 1; have ha_4 := ha.lt; replace hr := Hx.kept (by first | exact Hx.go hr | exact Hx.go2) hgn (by simp); have hr_0 := hr.cell 0; have hr_1 := hr.cell 1; have hr_2 := hr.free 0; have hr_3 := hr.free 1; have hr_4 := hr.lt; clear hgn)
    refine ret_cell [.bool true, .int .i64 0] (w.heap.size + 1) 28 rfl rfl (Tryz.isAgg28 _) (Tryz.sizeOf28 _) rfl ?_ ⟨by rw [hfin.out]; rfl, (by exact G.go HG)⟩
    exact (by first | exact Hx.go hr | exact Hx.go2)
  rw [decide_eq_false hlh] at hd
  have HD := Lib.hid (fun w => div_any w (vB (subO (some x) W.low)) (vB (subO W.high W.low)) (vN (subO (some x) W.low)) (vN (subO W.high W.low)))
  rw [vK_form (subO_fits _ _), vK_form (subO_fits _ _), show divO (subO (some x) W.low) (subO W.high W.low) = V from by rw [← hV.out]; unfold fm3; simp [hlh], valV_form] at HD
  clear hlh hV
  cases hqb : (vB W.low == vB W.high)
  · clear hd
    have HG := G.refl w none
    replace hw := hw.hx
    go_enter Tryz.func49, Tryz.ntmps49
    go_upto_region 0 with (fail)
    go_cut [3, 4] (fun p r wc => p = .pointer (some ⟨w.heap.size, 0, none⟩) ∧ r = .pointer (some ⟨w.heap.size + 1, 0, none⟩) ∧ w.grownBy wc none ∧ Hx wc w.heap.size [.bool true, .int .i64 x] 28 ∧ Hx wc (w.heap.size + 1) [.bool false, .int .i64 0] 28 ∧ Hx wc B [.string W.S.name, .int .i64 W.S.start, .int .i64 W.S.step, sv, .int .i64 W.S.cons, .bool (vB W.k), .int .i64 (vN W.k), .bool W.has, .bool (vB W.low), .int .i64 (vN W.low), .bool (vB W.high), .int .i64 (vN W.high)] 52)
    case first =>
      go_wp2_with fail
      go_meet
      exact ⟨rfl, rfl, (by exact G.go HG), Hx.alloc (Hx.new _ _ _) _, Hx.new' (by simp) rfl, Hx.alloc (Hx.alloc hw _) _⟩
    obtain ⟨rfl, rfl, HG, ha, hr, hw⟩ := hcut
    have ha_0 := ha.cell 0; have ha_1 := ha.cell 1; have ha_2 := ha.free 0; have ha_3 := ha.free 1; have ha_4 := ha.lt; have hr_0 := hr.cell 0; have hr_1 := hr.cell 1; have hr_2 := hr.free 0; have hr_3 := hr.free 1; have hr_4 := hr.lt; have hw_0 := hw.cell 0; have hw_1 := hw.cell 1; have hw_2 := hw.cell 2; have hw_3 := hw.cell 3; have hw_4 := hw.cell 4; have hw_5 := hw.cell 5; have hw_6 := hw.cell 6; have hw_7 := hw.cell 7; have hw_8 := hw.cell 8; have hw_9 := hw.cell 9; have hw_10 := hw.cell 10; have hw_11 := hw.cell 11; have hw_f0 := hw.free 0; have hw_f1 := hw.free 1; have hw_f2 := hw.free 2; have hw_f3 := hw.free 3; have hw_f4 := hw.free 4; have hw_f5 := hw.free 5; have hw_f6 := hw.free 6; have hw_f7 := hw.free 7; have hw_f8 := hw.free 8; have hw_f9 := hw.free 9; have hw_f10 := hw.free 10; have hw_f11 := hw.free 11; have hw_l := hw.lt
    go_upto_region 1 with (fail)
    go_quiet (fail)
    go_upto_region 3 with (fail)
    replace ha := Hx.drewN ha nq; replace hr := Hx.drewN hr nq; replace hw := Hx.drewN hw nq; replace HG := G.drewN HG nq
    (have ha_q0 := fun x => (Hx.inG ha x).cell 0; have ha_q1 := fun x => (Hx.inG ha x).cell 1; have hr_q0 := fun x => (Hx.inG hr x).cell 0; have hr_q1 := fun x => (Hx.inG hr x).cell 1; have hw_q0 := fun x => (Hx.inG hw x).cell 0; have hw_q1 := fun x => (Hx.inG hw x).cell 1; have hw_q2 := fun x => (Hx.inG hw x).cell 2; have hw_q3 := fun x => (Hx.inG hw x).cell 3; have hw_q4 := fun x => (Hx.inG hw x).cell 4; have hw_q5 := fun x => (Hx.inG hw x).cell 5; have hw_q6 := fun x => (Hx.inG hw x).cell 6; have hw_q7 := fun x => (Hx.inG hw x).cell 7; have hw_q8 := fun x => (Hx.inG hw x).cell 8; have hw_q9 := fun x => (Hx.inG hw x).cell 9; have hw_q10 := fun x => (Hx.inG hw x).cell 10; have hw_q11 := fun x => (Hx.inG hw x).cell 11; have xq_ := HG; refine wp_region_last (G.refl _ none) (by kernel_rfl) (by kernel_rfl) (by kernel_rfl) ?_; simp only [mapLast, lastOf, idle]; (repeat (refine wpQuiet_step (fun K hK => ?_); go_simp; first | (refine hK _ ?_; clear hK K) | (apply Exists.intro; refine ⟨fun xq => ?_, hK _ ?_⟩; (focus (first | (go_at_call_of 51 (Value.int IntKind.i64 x); with_reducible exact grow_of (HS.out _)) | (go_at_call 51; with_reducible exact grow_of (HT.out _)) | (go_at_call 70; with_reducible exact grow_of (HD.out _)))); clear hK K))); refine wpQuiet_nil ?_; intro wn hgn; replace HG := G.trans (w := w) HG hgn; clear ha_q0 ha_q1; replace ha := Hx.kept ha hgn (by simp); have ha_0 := ha.cell 0; have ha_1 := ha.cell 1; have ha_2 := ha.free 0; have ha_3 := ha.free 1; have ha_4 := ha.lt; clear hr_q0 hr_q1; replace hr := Hx.kept hr hgn (by simp); have hr_0 := hr.cell 0; have hr_1 := hr.cell 1; have hr_2 := hr.free 0; have hr_3 := hr.free 1; have hr_4 := hr.lt; clear hw_q0 hw_q1 hw_q2 hw_q3 hw_q4 hw_q5 hw_q6 hw_q7 hw_q8 hw_q9 hw_q10 hw_q11; replace hw := Hx.kept hw hgn (by simp); have hw_0 := hw.cell 0; have hw_1 := hw.cell 1; have hw_2 := hw.cell 2; have hw_3 := hw.cell 3; have hw_4 := hw.cell 4; have hw_5 := hw.cell 5; have hw_6 := hw.cell 6; have hw_7 := hw.cell 7; have hw_8 := hw.cell 8; have hw_9 := hw.cell 9; have hw_10 := hw.cell 10; have hw_11 := hw.cell 11; have hw_f0 := hw.free 0; have hw_f1 := hw.free 1; have hw_f2 := hw.free 2; have hw_f3 := hw.free 3; have hw_f4 := hw.free 4; have hw_f5 := hw.free 5; have hw_f6 := hw.free 6; have hw_f7 := hw.free 7; have hw_f8 := hw.free 8; have hw_f9 := hw.free 9; have hw_f10 := hw.free 10; have hw_f11 := hw.free 11; have hw_l := hw.lt; clear hgn xq_)
    go_wp2_with fail
    refine ret_cell [.bool (vB V), .int .i64 (vN V)] (w.heap.size + 1) 28 rfl rfl (Tryz.isAgg28 _) (Tryz.sizeOf28 _) rfl ?_ ⟨by rw [valV_form], (by exact G.go HG)⟩
    exact (by first | exact Hx.go hr | exact Hx.go2)
  rw [hqb, Bool.true_and] at hd
  have HG := G.refl w none
  replace hw := hw.hx
  go_enter Tryz.func49, Tryz.ntmps49
  go_upto_region 0 with (fail)
  go_cut [3, 4] (fun p r wc => p = .pointer (some ⟨w.heap.size, 0, none⟩) ∧ r = .pointer (some ⟨w.heap.size + 1, 0, none⟩) ∧ w.grownBy wc none ∧ Hx wc w.heap.size [.bool true, .int .i64 x] 28 ∧ Hx wc (w.heap.size + 1) [.bool false, .int .i64 0] 28 ∧ Hx wc B [.string W.S.name, .int .i64 W.S.start, .int .i64 W.S.step, sv, .int .i64 W.S.cons, .bool (vB W.k), .int .i64 (vN W.k), .bool W.has, .bool (vB W.low), .int .i64 (vN W.low), .bool (vB W.high), .int .i64 (vN W.high)] 52)
  case first =>
    go_wp2_with fail
    go_meet
    exact ⟨rfl, rfl, (by exact G.go HG), Hx.alloc (Hx.new _ _ _) _, Hx.new' (by simp) rfl, Hx.alloc (Hx.alloc hw _) _⟩
  obtain ⟨rfl, rfl, HG, ha, hr, hw⟩ := hcut
  have ha_0 := ha.cell 0; have ha_1 := ha.cell 1; have ha_2 := ha.free 0; have ha_3 := ha.free 1; have ha_4 := ha.lt; have hr_0 := hr.cell 0; have hr_1 := hr.cell 1; have hr_2 := hr.free 0; have hr_3 := hr.free 1; have hr_4 := hr.lt; have hw_0 := hw.cell 0; have hw_1 := hw.cell 1; have hw_2 := hw.cell 2; have hw_3 := hw.cell 3; have hw_4 := hw.cell 4; have hw_5 := hw.cell 5; have hw_6 := hw.cell 6; have hw_7 := hw.cell 7; have hw_8 := hw.cell 8; have hw_9 := hw.cell 9; have hw_10 := hw.cell 10; have hw_11 := hw.cell 11; have hw_f0 := hw.free 0; have hw_f1 := hw.free 1; have hw_f2 := hw.free 2; have hw_f3 := hw.free 3; have hw_f4 := hw.free 4; have hw_f5 := hw.free 5; have hw_f6 := hw.free 6; have hw_f7 := hw.free 7; have hw_f8 := hw.free 8; have hw_f9 := hw.free 9; have hw_f10 := hw.free 10; have hw_f11 := hw.free 11; have hw_l := hw.lt
  go_upto_region 1 with (fail)
  go_quiet (fail)
  go_upto_region 3 with (fail)
  replace ha := Hx.drewN ha nq; replace hr := Hx.drewN hr nq; replace hw := Hx.drewN hw nq; replace HG := G.drewN HG nq
  (have ha_q0 := fun x => (Hx.inG ha x).cell 0; have ha_q1 := fun x => (Hx.inG ha x).cell 1; have hr_q0 := fun x => (Hx.inG hr x).cell 0; have hr_q1 := fun x => (Hx.inG hr x).cell 1; have hw_q0 := fun x => (Hx.inG hw x).cell 0; have hw_q1 := fun x => (Hx.inG hw x).cell 1; have hw_q2 := fun x => (Hx.inG hw x).cell 2; have hw_q3 := fun x => (Hx.inG hw x).cell 3; have hw_q4 := fun x => (Hx.inG hw x).cell 4; have hw_q5 := fun x => (Hx.inG hw x).cell 5; have hw_q6 := fun x => (Hx.inG hw x).cell 6; have hw_q7 := fun x => (Hx.inG hw x).cell 7; have hw_q8 := fun x => (Hx.inG hw x).cell 8; have hw_q9 := fun x => (Hx.inG hw x).cell 9; have hw_q10 := fun x => (Hx.inG hw x).cell 10; have hw_q11 := fun x => (Hx.inG hw x).cell 11; have xq_ := HG; refine wp_region_last (G.refl _ none) (by kernel_rfl) (by kernel_rfl) (by kernel_rfl) ?_; simp only [mapLast, lastOf, idle]; (repeat (refine wpQuiet_step (fun K hK => ?_); go_simp; first | (refine hK _ ?_; clear hK K) | (apply Exists.intro; refine ⟨fun xq => ?_, hK _ ?_⟩; (focus (first | (go_at_call_of 51 (Value.int IntKind.i64 x); with_reducible exact grow_of (HS.out _)) | (go_at_call 51; with_reducible exact grow_of (HT.out _)) | (go_at_call 70; with_reducible exact grow_of (HD.out _)))); clear hK K))); refine wpQuiet_nil ?_; intro wn hgn; replace HG := G.trans (w := w) HG hgn; clear ha_q0 ha_q1; replace ha := Hx.kept ha hgn (by simp); have ha_0 := ha.cell 0; have ha_1 := ha.cell 1; have ha_2 := ha.free 0; have ha_3 := ha.free 1; have ha_4 := ha.lt; clear hr_q0 hr_q1; replace hr := Hx.kept hr hgn (by simp); have hr_0 := hr.cell 0; have hr_1 := hr.cell 1; have hr_2 := hr.free 0; have hr_3 := hr.free 1; have hr_4 := hr.lt; clear hw_q0 hw_q1 hw_q2 hw_q3 hw_q4 hw_q5 hw_q6 hw_q7 hw_q8 hw_q9 hw_q10 hw_q11; replace hw := Hx.kept hw hgn (by simp); have hw_0 := hw.cell 0; have hw_1 := hw.cell 1; have hw_2 := hw.cell 2; have hw_3 := hw.cell 3; have hw_4 := hw.cell 4; have hw_5 := hw.cell 5; have hw_6 := hw.cell 6; have hw_7 := hw.cell 7; have hw_8 := hw.cell 8; have hw_9 := hw.cell 9; have hw_10 := hw.cell 10; have hw_11 := hw.cell 11; have hw_f0 := hw.free 0; have hw_f1 := hw.free 1; have hw_f2 := hw.free 2; have hw_f3 := hw.free 3; have hw_f4 := hw.free 4; have hw_f5 := hw.free 5; have hw_f6 := hw.free 6; have hw_f7 := hw.free 7; have hw_f8 := hw.free 8; have hw_f9 := hw.free 9; have hw_f10 := hw.free 10; have hw_f11 := hw.free 11; have hw_l := hw.lt; clear hgn xq_)
  go_wp2_with fail
  refine ret_cell [.bool (vB V), .int .i64 (vN V)] (w.heap.size + 1) 28 rfl rfl (Tryz.isAgg28 _) (Tryz.sizeOf28 _) rfl ?_ ⟨by rw [valV_form], (by exact G.go HG)⟩
  exact (by first | exact Hx.go hr | exact Hx.go2)
end Go.Proofs.YtfomknfjidbdcaaGreatDoor
