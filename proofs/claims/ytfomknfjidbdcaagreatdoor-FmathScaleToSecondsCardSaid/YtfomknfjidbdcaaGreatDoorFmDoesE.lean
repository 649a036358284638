/-
  The walks of pow and round. Printed by genfmdoese.py.
-/
import Derived.Test.YtfomknfjidbdcaaGreatDoorFmDoesD
namespace Go.Proofs.YtfomknfjidbdcaaGreatDoor
open Go.RowKit

set_option maxHeartbeats 8000000 in
theorem does7 (w : World) (B : Nat) (W : Work) (sv : Value) (hw : WorkAt w B W sv) (x : Int) (hx : -4611686018427387904 ≤ x ∧ x ≤ 4611686018427387904) (hf : Fits W.k) : Calls Tryz.prog 56 #[.pointer (some ⟨B, 0, none⟩), .agg #[.bool true, .int .i64 x]] w fun e w' => e = .returned (valV (fm7 W.k (some x))) ∧ w.grownBy w' none := by
  obtain ⟨V, hV⟩ : ∃ V, Hid (fm7 W.k (some x) = V) := ⟨_, Lib.hid rfl⟩
  rw [hV.out]
  have HW := Lib.hid (fun w (hw : Hx w B [.string W.S.name, .int .i64 W.S.start, .int .i64 W.S.step, sv, .int .i64 W.S.cons, .bool (vB W.k), .int .i64 (vN W.k), .bool W.has, .bool (vB W.low), .int .i64 (vN W.low), .bool (vB W.high), .int .i64 (vN W.high)] 52) => whole19_any w B W sv hw hf)
  have hn := wholeT_le hf
  have hV2 : Hid (V = if wholeB W.k then (if 0 ≤ wholeT W.k ∧ wholeT W.k ≤ 64 then powO (some x) (wholeT W.k).toNat else none) else none) := Lib.hid (by rw [← hV.out]; unfold fm7; rw [wholeO_eq]; cases wholeB W.k <;> rfl)
  clear hV
  have HI := Lib.hid (fun w => int_any w 1)
  rw [intO_small (by omega)] at HI
  simp only [valV, valC, Int.one_mul] at HI
  have hvv := Lib.hid (valV_form V)
  generalize hok : wholeB W.k = ok at *
  generalize hnn : wholeT W.k = n at *
  clear hok hnn
  cases ok
  · have hfin : Hid (V = none) := hV2
    clear hn
    have HG := G.refl w none
    replace hw := hw.hx
    go_enter Tryz.func56, Tryz.ntmps56
    go_upto_region 0 with (fail)
    go_cut [3, 4] (fun p r wc => p = .pointer (some ⟨w.heap.size, 0, none⟩) ∧ r = .pointer (some ⟨w.heap.size + 1, 0, none⟩) ∧ w.grownBy wc none ∧ Hx wc w.heap.size [.bool true, .int .i64 x] 28 ∧ Hx wc (w.heap.size + 1) [.bool false, .int .i64 0] 28 ∧ Hx wc B [.string W.S.name, .int .i64 W.S.start, .int .i64 W.S.step, sv, .int .i64 W.S.cons, .bool (vB W.k), .int .i64 (vN W.k), .bool W.has, .bool (vB W.low), .int .i64 (vN W.low), .bool (vB W.high), .int .i64 (vN W.high)] 52)
    case first =>
      go_wp2_with fail
      go_meet
      exact ⟨rfl, rfl, (by exact G.go HG), Hx.alloc (Hx.new _ _ _) _, Hx.new' (by simp) rfl, Hx.alloc (Hx.alloc hw _) _⟩
    obtain ⟨rfl, rfl, HG, ha, hr, hw⟩ := hcut
    have ha_0 := ha.cell 0; have ha_1 := ha.cell 1; have ha_2 := ha.free 0; have ha_3 := ha.free 1; have ha_4 := ha.lt; have hr_0 := hr.cell 0; have hr_1 := hr.cell 1; have hr_2 := hr.free 0; have hr_3 := hr.free 1; have hr_4 := hr.lt; have hw_0 := hw.cell 0; have hw_1 := hw.cell 1; have hw_2 := hw.cell 2; have hw_3 := hw.cell 3; have hw_4 := hw.cell 4; have hw_5 := hw.cell 5; have hw_6 := hw.cell 6; have hw_7 := hw.cell 7; have hw_8 := hw.cell 8; have hw_9 := hw.cell 9; have hw_10 := hw.cell 10; have hw_11 := hw.cell 11; have hw_f0 := hw.free 0; have hw_f1 := hw.free 1; have hw_f2 := hw.free 2; have hw_f3 := hw.free 3; have hw_f4 := hw.free 4; have hw_f5 := hw.free 5; have hw_f6 := hw.free 6; have hw_f7 := hw.free 7; have hw_f8 := hw.free 8; have hw_f9 := hw.free 9; have hw_f10 := hw.free 10; have hw_f11 := hw.free 11; have hw_l := hw.lt
    go_wp2_with (go_at_call 98; (with_reducible refine (HW.out _ (by first | exact Hx.go hw | exact Hx.go2)).mono ?_); rintro e wn ⟨rfl, hgn⟩; replace HG := G.trans (w := w) (by exact G.go HG) hgn; replace ha := Hx.kept (by first | exact Hx.go ha | exact Hx.go2) hgn (by simp); have ha_0 := ha.cell 0; have ha_1 := ha.cell 1; have ha_2 := ha.free 0; have ha_3 := ha.free 1; have ha_4 := ha.lt; replace hr := Hx.kept (by first | exact Hx.go hr | exact Hx.go2) hgn (by simp); have hr_0 := hr.cell 0; have hr_1 := hr.cell 1; have hr_2 := hr.free 0; have hr_3 := hr.free 1; have hr_4 := hr.lt; replace hw := Hx.kept (by first | exact Hx.go hw | exact Hx.go2) hgn (by simp); have hw_0 := hw.cell 0; have hw_1 := hw.cell 1; have hw_2 := hw.cell 2; have hw_3 := hw.cell 3; have hw_4 := hw.cell 4; have hw_5 := hw.cell 5; have hw_6 := hw.cell 6; have hw_7 := hw.cell 7; have hw_8 := hw.cell 8; have hw_9 := hw.cell 9; have hw_10 := hw.cell 10; have hw_11 := hw.cell 11; have hw_f0 := hw.free 0; have hw_f1 := hw.free 1; have hw_f2 := hw.free 2; have hw_f3 := hw.free 3; have hw_f4 := hw.free 4; have hw_f5 := hw.free 5; have hw_f6 := hw.free 6; have hw_f7 := hw.free 7; have hw_f8 := hw.free 8; have hw_f9 := hw.free 9; have hw_f10 := hw.free 10; have hw_f11 := hw.free 11; have hw_l := hw.lt; clear hgn)
    refine ret_cell [.bool false, .int .i64 0] (w.heap.size + 1) 28 rfl rfl (Tryz.isAgg28 _) (Tryz.sizeOf28 _) rfl ?_ ⟨by rw [hfin.out]; rfl, (by exact G.go HG)⟩
    exact (by first | exact Hx.go hr | exact Hx.go2)
  have hV3 : Hid (V = if 0 ≤ n ∧ n ≤ 64 then powO (some x) n.toNat else none) := hV2
  clear hV2
  by_cases h1 : n < 0
  · have hfin : Hid (V = none) := Lib.hid (by rw [hV3.out, if_neg (by omega)])
    have HG := G.refl w none
    replace hw := hw.hx
    go_enter Tryz.func56, Tryz.ntmps56
    go_upto_region 0 with (fail)
    go_cut [3, 4] (fun p r wc => p = .pointer (some ⟨w.heap.size, 0, none⟩) ∧ r = .pointer (some ⟨w.heap.size + 1, 0, none⟩) ∧ w.grownBy wc none ∧ Hx wc w.heap.size [.bool true, .int .i64 x] 28 ∧ Hx wc (w.heap.size + 1) [.bool false, .int .i64 0] 28 ∧ Hx wc B [.string W.S.name, .int .i64 W.S.start, .int .i64 W.S.step, sv, .int .i64 W.S.cons, .bool (vB W.k), .int .i64 (vN W.k), .bool W.has, .bool (vB W.low), .int .i64 (vN W.low), .bool (vB W.high), .int .i64 (vN W.high)] 52)
    case first =>
      go_wp2_with fail
      go_meet
      exact ⟨rfl, rfl, (by exact G.go HG), Hx.alloc (Hx.new _ _ _) _, Hx.new' (by simp) rfl, Hx.alloc (Hx.alloc hw _) _⟩
    obtain ⟨rfl, rfl, HG, ha, hr, hw⟩ := hcut
    have ha_0 := ha.cell 0; have ha_1 := ha.cell 1; have ha_2 := ha.free 0; have ha_3 := ha.free 1; have ha_4 := ha.lt; have hr_0 := hr.cell 0; have hr_1 := hr.cell 1; have hr_2 := hr.free 0; have hr_3 := hr.free 1; have hr_4 := hr.lt; have hw_0 := hw.cell 0; have hw_1 := hw.cell 1; have hw_2 := hw.cell 2; have hw_3 := hw.cell 3; have hw_4 := hw.cell 4; have hw_5 := hw.cell 5; have hw_6 := hw.cell 6; have hw_7 := hw.cell 7; have hw_8 := hw.cell 8; have hw_9 := hw.cell 9; have hw_10 := hw.cell 10; have hw_11 := hw.cell 11; have hw_f0 := hw.free 0; have hw_f1 := hw.free 1; have hw_f2 := hw.free 2; have hw_f3 := hw.free 3; have hw_f4 := hw.free 4; have hw_f5 := hw.free 5; have hw_f6 := hw.free 6; have hw_f7 := hw.free 7; have hw_f8 := hw.free 8; have hw_f9 := hw.free 9; have hw_f10 := hw.free 10; have hw_f11 := hw.free 11; have hw_l := hw.lt
    go_wp2_with (go_at_call 98; (with_reducible refine (HW.out _ (by first | exact Hx.go hw | exact Hx.go2)).mono ?_); rintro e wn ⟨rfl, hgn⟩; replace HG := G.trans (w := w) (by exact G.go HG) hgn; replace ha := Hx.kept (by first | exact Hx.go ha | exact Hx.go2) hgn (by simp); have ha_0 := ha.cell 0; have ha_1 := ha.cell 1; have ha_2 := ha.free 0; have ha_3 := ha.free 1; have ha_4 := ha.lt; replace hr := Hx.kept (by first | exact Hx.go hr | exact Hx.go2) hgn (by simp); have hr_0 := hr.cell 0; have hr_1 := hr.cell 1; have hr_2 := hr.free 0; have hr_3 := hr.free 1; have hr_4 := hr.lt; replace hw := Hx.kept (by first | exact Hx.go hw | exact Hx.go2) hgn (by simp); have hw_0 := hw.cell 0; have hw_1 := hw.cell 1; have hw_2 := hw.cell 2; have hw_3 := hw.cell 3; have hw_4 := hw.cell 4; have hw_5 := hw.cell 5; have hw_6 := hw.cell 6; have hw_7 := hw.cell 7; have hw_8 := hw.cell 8; have hw_9 := hw.cell 9; have hw_10 := hw.cell 10; have hw_11 := hw.cell 11; have hw_f0 := hw.free 0; have hw_f1 := hw.free 1; have hw_f2 := hw.free 2; have hw_f3 := hw.free 3; have hw_f4 := hw.free 4; have hw_f5 := hw.free 5; have hw_f6 := hw.free 6; have hw_f7 := hw.free 7; have hw_f8 := hw.free 8; have hw_f9 := hw.free 9; have hw_f10 := hw.free 10; have hw_f11 := hw.free 11; have hw_l := hw.lt; clear hgn)
    refine ret_cell [.bool false, .int .i64 0] (w.heap.size + 1) 28 rfl rfl (Tryz.isAgg28 _) (Tryz.sizeOf28 _) rfl ?_ ⟨by rw [hfin.out]; rfl, (by exact G.go HG)⟩
    exact (by first | exact Hx.go hr | exact Hx.go2)
  by_cases h2 : 64 < n
  · have hfin : Hid (V = none) := Lib.hid (by rw [hV3.out, if_neg (by omega)])
    have HG := G.refl w none
    replace hw := hw.hx
    go_enter Tryz.func56, Tryz.ntmps56
    go_upto_region 0 with (fail)
    go_cut [3, 4] (fun p r wc => p = .pointer (some ⟨w.heap.size, 0, none⟩) ∧ r = .pointer (some ⟨w.heap.size + 1, 0, none⟩) ∧ w.grownBy wc none ∧ Hx wc w.heap.size [.bool true, .int .i64 x] 28 ∧ Hx wc (w.heap.size + 1) [.bool false, .int .i64 0] 28 ∧ Hx wc B [.string W.S.name, .int .i64 W.S.start, .int .i64 W.S.step, sv, .int .i64 W.S.cons, .bool (vB W.k), .int .i64 (vN W.k), .bool W.has, .bool (vB W.low), .int .i64 (vN W.low), .bool (vB W.high), .int .i64 (vN W.high)] 52)
    case first =>
      go_wp2_with fail
      go_meet
      exact ⟨rfl, rfl, (by exact G.go HG), Hx.alloc (Hx.new _ _ _) _, Hx.new' (by simp) rfl, Hx.alloc (Hx.alloc hw _) _⟩
    obtain ⟨rfl, rfl, HG, ha, hr, hw⟩ := hcut
    have ha_0 := ha.cell 0; have ha_1 := ha.cell 1; have ha_2 := ha.free 0; have ha_3 := ha.free 1; have ha_4 := ha.lt; have hr_0 := hr.cell 0; have hr_1 := hr.cell 1; have hr_2 := hr.free 0; have hr_3 := hr.free 1; have hr_4 := hr.lt; have hw_0 := hw.cell 0; have hw_1 := hw.cell 1; have hw_2 := hw.cell 2; have hw_3 := hw.cell 3; have hw_4 := hw.cell 4; have hw_5 := hw.cell 5; have hw_6 := hw.cell 6; have hw_7 := hw.cell 7; have hw_8 := hw.cell 8; have hw_9 := hw.cell 9; have hw_10 := hw.cell 10; have hw_11 := hw.cell 11; have hw_f0 := hw.free 0; have hw_f1 := hw.free 1; have hw_f2 := hw.free 2; have hw_f3 := hw.free 3; have hw_f4 := hw.free 4; have hw_f5 := hw.free 5; have hw_f6 := hw.free 6; have hw_f7 := hw.free 7; have hw_f8 := hw.free 8; have hw_f9 := hw.free 9; have hw_f10 := hw.free 10; have hw_f11 := hw.free 11; have hw_l := hw.lt
    go_wp2_with (go_at_call 98; (with_reducible refine (HW.out _ (by first | exact Hx.go hw | exact Hx.go2)).mono ?_); rintro e wn ⟨rfl, hgn⟩; replace HG := G.trans (w := w) (by exact G.go HG) hgn; replace ha := Hx.kept (by first | exact Hx.go ha | exact Hx.go2) hgn (by simp); have ha_0 := ha.cell 0; have ha_1 := ha.cell 1; have ha_2 := ha.free 0; have ha_3 := ha.free 1; have ha_4 := ha.lt; replace hr := Hx.kept (by first | exact Hx.go hr | exact Hx.go2) hgn (by simp); have hr_0 := hr.cell 0; have hr_1 := hr.cell 1; have hr_2 := hr.free 0; have hr_3 := hr.free 1; have hr_4 := hr.lt; replace hw := Hx.kept (by first | exact Hx.go hw | exact Hx.go2) hgn (by simp); have hw_0 := hw.cell 0; have hw_1 := hw.cell 1; have hw_2 := hw.cell 2; have hw_3 := hw.cell 3; have hw_4 := hw.cell 4; have hw_5 := hw.cell 5; have hw_6 := hw.cell 6; have hw_7 := hw.cell 7; have hw_8 := hw.cell 8; have hw_9 := hw.cell 9; have hw_10 := hw.cell 10; have hw_11 := hw.cell 11; have hw_f0 := hw.free 0; have hw_f1 := hw.free 1; have hw_f2 := hw.free 2; have hw_f3 := hw.free 3; have hw_f4 := hw.free 4; have hw_f5 := hw.free 5; have hw_f6 := hw.free 6; have hw_f7 := hw.free 7; have hw_f8 := hw.free 8; have hw_f9 := hw.free 9; have hw_f10 := hw.free 10; have hw_f11 := hw.free 11; have hw_l := hw.lt; clear hgn)
    refine ret_cell [.bool false, .int .i64 0] (w.heap.size + 1) 28 rfl rfl (Tryz.isAgg28 _) (Tryz.sizeOf28 _) rfl ?_ ⟨by rw [hfin.out]; rfl, (by exact G.go HG)⟩
    exact (by first | exact Hx.go hr | exact Hx.go2)
  obtain ⟨N, rfl⟩ : ∃ N : Nat, n = N := ⟨n.toNat, by omega⟩
  have hfin : Hid (V = powO (some x) N) := Lib.hid (by rw [hV3.out, if_pos (by omega)]; rfl)
  clear hV3 h1 hn
  have hN : N ≤ 64 := by omega
  clear h2
  have HG := G.refl w none
  replace hw := hw.hx
  go_enter Tryz.func56, Tryz.ntmps56
  go_upto_region 0 with (fail)
  go_cut [3, 4] (fun p r wc => p = .pointer (some ⟨w.heap.size, 0, none⟩) ∧ r = .pointer (some ⟨w.heap.size + 1, 0, none⟩) ∧ w.grownBy wc none ∧ Hx wc w.heap.size [.bool true, .int .i64 x] 28 ∧ Hx wc (w.heap.size + 1) [.bool false, .int .i64 0] 28 ∧ Hx wc B [.string W.S.name, .int .i64 W.S.start, .int .i64 W.S.step, sv, .int .i64 W.S.cons, .bool (vB W.k), .int .i64 (vN W.k), .bool W.has, .bool (vB W.low), .int .i64 (vN W.low), .bool (vB W.high), .int .i64 (vN W.high)] 52)
  case first =>
    go_wp2_with fail
    go_meet
    exact ⟨rfl, rfl, (by exact G.go HG), Hx.alloc (Hx.new _ _ _) _, Hx.new' (by simp) rfl, Hx.alloc (Hx.alloc hw _) _⟩
  obtain ⟨rfl, rfl, HG, ha, hr, hw⟩ := hcut
  have ha_0 := ha.cell 0; have ha_1 := ha.cell 1; have ha_2 := ha.free 0; have ha_3 := ha.free 1; have ha_4 := ha.lt; have hr_0 := hr.cell 0; have hr_1 := hr.cell 1; have hr_2 := hr.free 0; have hr_3 := hr.free 1; have hr_4 := hr.lt; have hw_0 := hw.cell 0; have hw_1 := hw.cell 1; have hw_2 := hw.cell 2; have hw_3 := hw.cell 3; have hw_4 := hw.cell 4; have hw_5 := hw.cell 5; have hw_6 := hw.cell 6; have hw_7 := hw.cell 7; have hw_8 := hw.cell 8; have hw_9 := hw.cell 9; have hw_10 := hw.cell 10; have hw_11 := hw.cell 11; have hw_f0 := hw.free 0; have hw_f1 := hw.free 1; have hw_f2 := hw.free 2; have hw_f3 := hw.free 3; have hw_f4 := hw.free 4; have hw_f5 := hw.free 5; have hw_f6 := hw.free 6; have hw_f7 := hw.free 7; have hw_f8 := hw.free 8; have hw_f9 := hw.free 9; have hw_f10 := hw.free 10; have hw_f11 := hw.free 11; have hw_l := hw.lt
  go_upto_region 4 with ((go_at_call 98; (with_reducible refine (HW.out _ (by first | exact Hx.go hw | exact Hx.go2)).mono ?_); rintro e wn ⟨rfl, hgn⟩; replace HG := G.trans (w := w) (by exact G.go HG) hgn; replace ha := Hx.kept (by first | exact Hx.go ha | exact Hx.go2) hgn (by simp); have ha_0 := ha.cell 0; have ha_1 := ha.cell 1; have ha_2 := ha.free 0; have ha_3 := ha.free 1; have ha_4 := ha.lt; replace hr := Hx.kept (by first | exact Hx.go hr | exact Hx.go2) hgn (by simp); have hr_0 := hr.cell 0; have hr_1 := hr.cell 1; have hr_2 := hr.free 0; have hr_3 := hr.free 1; have hr_4 := hr.lt; replace hw := Hx.kept (by first | exact Hx.go hw | exact Hx.go2) hgn (by simp); have hw_0 := hw.cell 0; have hw_1 := hw.cell 1; have hw_2 := hw.cell 2; have hw_3 := hw.cell 3; have hw_4 := hw.cell 4; have hw_5 := hw.cell 5; have hw_6 := hw.cell 6; have hw_7 := hw.cell 7; have hw_8 := hw.cell 8; have hw_9 := hw.cell 9; have hw_10 := hw.cell 10; have hw_11 := hw.cell 11; have hw_f0 := hw.free 0; have hw_f1 := hw.free 1; have hw_f2 := hw.free 2; have hw_f3 := hw.free 3; have hw_f4 := hw.free 4; have hw_f5 := hw.free 5; have hw_f6 := hw.free 6; have hw_f7 := hw.free 7; have hw_f8 := hw.free 8; have hw_f9 := hw.free 9; have hw_f10 := hw.free 10; have hw_f11 := hw.free 11; have hw_l := hw.lt; clear hgn))
  go_cut [3, 4, 5, 7] (fun p3 p4 p5 p7 wd => ∃ PB, p3 = .pointer (some ⟨w.heap.size, 0, none⟩) ∧ p4 = .pointer (some ⟨w.heap.size + 1, 0, none⟩) ∧ p5 = .int .i64 N ∧ p7 = .pointer (some ⟨PB, 0, none⟩) ∧ w.heap.size + 1 < PB ∧ w.grownBy wd none ∧ Hx wd w.heap.size [.bool true, .int .i64 x] 28 ∧ Hx wd (w.heap.size + 1) [.bool false, .int .i64 0] 28 ∧ Hx wd PB [.bool true, .int .i64 1000000] 28)
  case first =>
    go_wp2_with (go_at_call 71; (with_reducible refine (HI.out _).mono ?_); rintro e wn ⟨rfl, hgn⟩; replace HG := G.trans (w := w) (by exact G.go HG) hgn; replace ha := Hx.kept (by first | exact Hx.go ha | exact Hx.go2) hgn (by simp); have ha_0 := ha.cell 0; have ha_1 := ha.cell 1; have ha_2 := ha.free 0; have ha_3 := ha.free 1; have ha_4 := ha.lt; replace hr := Hx.kept (by first | exact Hx.go hr | exact Hx.go2) hgn (by simp); have hr_0 := hr.cell 0; have hr_1 := hr.cell 1; have hr_2 := hr.free 0; have hr_3 := hr.free 1; have hr_4 := hr.lt; clear hgn)
    go_meet
    exact ⟨_, rfl, rfl, rfl, rfl, by omega, (by exact G.go HG), (by first | exact Hx.go ha | exact Hx.go2), (by first | exact Hx.go hr | exact Hx.go2), (by first | exact Hx.go hr | exact Hx.go2)⟩
  obtain ⟨PB, rfl, rfl, rfl, rfl, hPB, HG, ha, hr, hb⟩ := hcut
  have hne1 : ¬ w.heap.size = PB := by omega
  have hne2 : ¬ w.heap.size + 1 = PB := by omega
  go_wp2_with fail
  go_loopw [26] (fun iv wr => ∃ (i : Nat), iv = .int .i64 i ∧ i ≤ N ∧ w.grownBy wr none ∧ Hx wr w.heap.size [.bool true, .int .i64 x] 28 ∧ Hx wr (w.heap.size + 1) [.bool false, .int .i64 0] 28 ∧ Hx wr PB [.bool (vB (powO (some x) i)), .int .i64 (vN (powO (some x) i))] 28) (fun iv _ => N - (intOf iv).toNat)
  case atStart => exact ⟨0, rfl, by omega, HG, ha, hr, hb⟩
  case round =>
    clear HG ha hr hb
    obtain ⟨i, rfl, hi, HG, ha, hr, hb⟩ := hrel
    have ha_0 := ha.cell 0; have ha_1 := ha.cell 1; have ha_2 := ha.free 0; have ha_3 := ha.free 1; have ha_4 := ha.lt; have hr_0 := hr.cell 0; have hr_1 := hr.cell 1; have hr_2 := hr.free 0; have hr_3 := hr.free 1; have hr_4 := hr.lt
    by_cases hlt : i < N
    · have HM := Lib.hid (fun w => mul_any w (vB (powO (some x) i)) true (vN (powO (some x) i)) x)
      rw [vK_form (powO_fits _ _), vK_of hx, show mulO (powO (some x) i) (some x) = powO (some x) (i + 1) from rfl, valV_form] at HM
      obtain ⟨q2, hq2⟩ : ∃ q2, Hid (powO (some x) (i + 1) = q2) := ⟨_, Lib.hid rfl⟩
      rw [hq2.out] at HM
      generalize powO (some x) i = q at *
      have hb_0 := hb.cell 0; have hb_1 := hb.cell 1; have hb_2 := hb.free 0; have hb_3 := hb.free 1; have hb_4 := hb.lt
      go_wp2_with (go_at_call 61; (with_reducible refine (HM.out _).mono ?_); rintro e wn ⟨rfl, hgn⟩; replace HG := G.trans (w := w) (by exact G.go HG) hgn; replace ha := Hx.kept (by first | exact Hx.go ha | exact Hx.go2) hgn (by simp); have ha_0 := ha.cell 0; have ha_1 := ha.cell 1; have ha_2 := ha.free 0; have ha_3 := ha.free 1; have ha_4 := ha.lt; replace hr := Hx.kept (by first | exact Hx.go hr | exact Hx.go2) hgn (by simp); have hr_0 := hr.cell 0; have hr_1 := hr.cell 1; have hr_2 := hr.free 0; have hr_3 := hr.free 1; have hr_4 := hr.lt; replace hb := Hx.kept (by first | exact Hx.go hb | exact Hx.go2) hgn (by simp); have hb_0 := hb.cell 0; have hb_1 := hb.cell 1; have hb_2 := hb.free 0; have hb_3 := hb.free 1; have hb_4 := hb.lt; clear hgn)
      refine ⟨?_, by first | (simp [intOf]; done) | (simp [intOf]; omega)⟩
      refine ⟨i + 1, by go_num, by omega, (by exact G.go HG), (by first | exact Hx.go ha | exact Hx.go2), (by first | exact Hx.go hr | exact Hx.go2), ?_⟩
      rw [hq2.out]
      exact (by first | exact Hx.go hb | exact Hx.go2)
    · obtain rfl : i = N := by omega
      rw [← hfin.out] at hb
      have hb_0 := hb.cell 0; have hb_1 := hb.cell 1; have hb_2 := hb.free 0; have hb_3 := hb.free 1; have hb_4 := hb.lt
      go_wp2_with fail
      refine ret_cell [.bool (vB V), .int .i64 (vN V)] (w.heap.size + 1) 28 rfl rfl (Tryz.isAgg28 _) (Tryz.sizeOf28 _) rfl ?_ ⟨by rw [valV_form], (by exact G.go HG)⟩
      exact (by first | exact Hx.go hr | exact Hx.go2)
end Go.Proofs.YtfomknfjidbdcaaGreatDoor
