/-
  The walks of the laws that apply one function: each returns true. Printed by genlaws.py.
-/
import Derived.Test.YtkablhamnepfnaaGreatDoorFsLaw
namespace Go.Proofs.YtkablhamnepfnaaGreatDoor
open Go.RowKit
set_option maxHeartbeats 4000000 in
theorem fstepChanged_any (S : Ser) (sv : Value) (w : World) (h : ERow valE w sv S.vals) (hp : Pow10 w) : Calls Tryz.prog 3 #[.agg #[.string S.name, .int .i64 S.start, .int .i64 S.step, sv, .int .i64 S.cons]] w fun e w' => e = .returned (.bool true) ∧ w.grownBy w' none := by
  have HG := G.refl w none
  have HP := Lib.hid hp; clear hp
  have HV := Lib.hid h
  have HA0 := Lib.hid (fun w2 h hl hpp => applied20_any ⟨#[99, 104, 97, 110, 103, 101, 100]⟩ S sv (.slice none 0 0) [] w2 h hl (by simp) (by decide) hpp)
  obtain ⟨A, c, rfl, -, -, -⟩ := h
  go_enter Tryz.func3, Tryz.ntmps3
  go_upto_region 0 with (fail)
  go_cut [1, 2] (fun p1 p2 wc => p1 = .pointer (some ⟨w.heap.size, 0, none⟩) ∧ p2 = .bool false ∧ w.grownBy wc none ∧ Hx wc w.heap.size [.string S.name, .int .i64 S.start, .int .i64 S.step, .slice A S.vals.length c, .int .i64 S.cons] 24)
  case first =>
    go_wp2_with fail
    go_meet
    exact ⟨rfl, rfl, (by exact G.go HG), Hx.new _ _ _⟩
  obtain ⟨rfl, rfl, HG, hs⟩ := hcut
  have hs_0 := hs.cell 0; have hs_f0 := hs.free 0; have hs_1 := hs.cell 1; have hs_f1 := hs.free 1; have hs_2 := hs.cell 2; have hs_f2 := hs.free 2; have hs_3 := hs.cell 3; have hs_f3 := hs.free 3; have hs_4 := hs.cell 4; have hs_f4 := hs.free 4; have hs_l := hs.lt
  go_wp2_with (go_at_call 12; (with_reducible refine (HA0.out _ (HV.out.kept0 (by exact G.go HG)) (ERow.nil _) (Pow10.kept (w := w) HP.out (by exact G.go HG))).mono ?_); rintro e wn ⟨rfl, hgn⟩; replace HG := G.trans (w := w) (by exact G.go HG) hgn; replace hs := Hx.kept hs hgn (by simp); have hs_0 := hs.cell 0; have hs_f0 := hs.free 0; have hs_1 := hs.cell 1; have hs_f1 := hs.free 1; have hs_2 := hs.cell 2; have hs_f2 := hs.free 2; have hs_3 := hs.cell 3; have hs_f3 := hs.free 3; have hs_4 := hs.cell 4; have hs_f4 := hs.free 4; have hs_l := hs.lt; clear hgn)
  go_ret
  exact ⟨rfl, HG⟩
set_option maxHeartbeats 4000000 in
theorem fstepDerivative_any (S : Ser) (sv : Value) (w : World) (h : ERow valE w sv S.vals) (hp : Pow10 w) : Calls Tryz.prog 5 #[.agg #[.string S.name, .int .i64 S.start, .int .i64 S.step, sv, .int .i64 S.cons]] w fun e w' => e = .returned (.bool true) ∧ w.grownBy w' none := by
  have HG := G.refl w none
  have HP := Lib.hid hp; clear hp
  have HV := Lib.hid h
  have HA0 := Lib.hid (fun w2 h hl hpp => applied20_any ⟨#[100, 101, 114, 105, 118, 97, 116, 105, 118, 101]⟩ S sv (.slice none 0 0) [] w2 h hl (by simp) (by decide) hpp)
  obtain ⟨A, c, rfl, -, -, -⟩ := h
  go_enter Tryz.func5, Tryz.ntmps5
  go_upto_region 0 with (fail)
  go_cut [1, 2] (fun p1 p2 wc => p1 = .pointer (some ⟨w.heap.size, 0, none⟩) ∧ p2 = .bool false ∧ w.grownBy wc none ∧ Hx wc w.heap.size [.string S.name, .int .i64 S.start, .int .i64 S.step, .slice A S.vals.length c, .int .i64 S.cons] 24)
  case first =>
    go_wp2_with fail
    go_meet
    exact ⟨rfl, rfl, (by exact G.go HG), Hx.new _ _ _⟩
  obtain ⟨rfl, rfl, HG, hs⟩ := hcut
  have hs_0 := hs.cell 0; have hs_f0 := hs.free 0; have hs_1 := hs.cell 1; have hs_f1 := hs.free 1; have hs_2 := hs.cell 2; have hs_f2 := hs.free 2; have hs_3 := hs.cell 3; have hs_f3 := hs.free 3; have hs_4 := hs.cell 4; have hs_f4 := hs.free 4; have hs_l := hs.lt
  go_wp2_with (go_at_call 12; (with_reducible refine (HA0.out _ (HV.out.kept0 (by exact G.go HG)) (ERow.nil _) (Pow10.kept (w := w) HP.out (by exact G.go HG))).mono ?_); rintro e wn ⟨rfl, hgn⟩; replace HG := G.trans (w := w) (by exact G.go HG) hgn; replace hs := Hx.kept hs hgn (by simp); have hs_0 := hs.cell 0; have hs_f0 := hs.free 0; have hs_1 := hs.cell 1; have hs_f1 := hs.free 1; have hs_2 := hs.cell 2; have hs_f2 := hs.free 2; have hs_3 := hs.cell 3; have hs_f3 := hs.free 3; have hs_4 := hs.cell 4; have hs_f4 := hs.free 4; have hs_l := hs.lt; clear hgn)
  go_ret
  exact ⟨rfl, HG⟩
set_option maxHeartbeats 4000000 in
theorem fstepIntegral_any (S : Ser) (sv : Value) (w : World) (h : ERow valE w sv S.vals) (hp : Pow10 w) : Calls Tryz.prog 6 #[.agg #[.string S.name, .int .i64 S.start, .int .i64 S.step, sv, .int .i64 S.cons]] w fun e w' => e = .returned (.bool true) ∧ w.grownBy w' none := by
  have HG := G.refl w none
  have HP := Lib.hid hp; clear hp
  have HV := Lib.hid h
  have HA0 := Lib.hid (fun w2 h hl hpp => applied20_any ⟨#[105, 110, 116, 101, 103, 114, 97, 108]⟩ S sv (.slice none 0 0) [] w2 h hl (by simp) (by decide) hpp)
  obtain ⟨A, c, rfl, -, -, -⟩ := h
  go_enter Tryz.func6, Tryz.ntmps6
  go_upto_region 0 with (fail)
  go_cut [1, 2] (fun p1 p2 wc => p1 = .pointer (some ⟨w.heap.size, 0, none⟩) ∧ p2 = .bool false ∧ w.grownBy wc none ∧ Hx wc w.heap.size [.string S.name, .int .i64 S.start, .int .i64 S.step, .slice A S.vals.length c, .int .i64 S.cons] 24)
  case first =>
    go_wp2_with fail
    go_meet
    exact ⟨rfl, rfl, (by exact G.go HG), Hx.new _ _ _⟩
  obtain ⟨rfl, rfl, HG, hs⟩ := hcut
  have hs_0 := hs.cell 0; have hs_f0 := hs.free 0; have hs_1 := hs.cell 1; have hs_f1 := hs.free 1; have hs_2 := hs.cell 2; have hs_f2 := hs.free 2; have hs_3 := hs.cell 3; have hs_f3 := hs.free 3; have hs_4 := hs.cell 4; have hs_f4 := hs.free 4; have hs_l := hs.lt
  go_wp2_with (go_at_call 12; (with_reducible refine (HA0.out _ (HV.out.kept0 (by exact G.go HG)) (ERow.nil _) (Pow10.kept (w := w) HP.out (by exact G.go HG))).mono ?_); rintro e wn ⟨rfl, hgn⟩; replace HG := G.trans (w := w) (by exact G.go HG) hgn; replace hs := Hx.kept hs hgn (by simp); have hs_0 := hs.cell 0; have hs_f0 := hs.free 0; have hs_1 := hs.cell 1; have hs_f1 := hs.free 1; have hs_2 := hs.cell 2; have hs_f2 := hs.free 2; have hs_3 := hs.cell 3; have hs_f3 := hs.free 3; have hs_4 := hs.cell 4; have hs_f4 := hs.free 4; have hs_l := hs.lt; clear hgn)
  go_ret
  exact ⟨rfl, HG⟩
set_option maxHeartbeats 4000000 in
theorem fstepDelay_any (S : Ser) (sv : Value) (kb : Bool) (kn : Int) (w : World) (h : ERow valE w sv S.vals) (hk1 : -9223372036854775808 ≤ kn) (hk2 : kn ≤ 9223372036854775807) (hp : Pow10 w) : Calls Tryz.prog 4 #[.agg #[.string S.name, .int .i64 S.start, .int .i64 S.step, sv, .int .i64 S.cons], .agg #[.bool kb, .int .i64 kn]] w fun e w' => e = .returned (.bool true) ∧ w.grownBy w' none := by
  have HG := G.refl w none
  have HP := Lib.hid hp; clear hp
  have HV := Lib.hid h
  have HA1 := Lib.hid (fun w2 lv h hl hpp => applied20_any ⟨#[100, 101, 108, 97, 121]⟩ S sv lv [(kb, kn)] w2 h hl (by intro p hp; simp only [List.mem_singleton] at hp; subst hp; exact ⟨hk1, hk2⟩) (by decide) hpp)
  obtain ⟨A, c, rfl, -, -, -⟩ := h
  go_enter Tryz.func4, Tryz.ntmps4
  go_upto_region 0 with (fail)
  go_cut [2, 3, 4] (fun p2 p3 p4 wc => p2 = .pointer (some ⟨w.heap.size, 0, none⟩) ∧ p3 = .pointer (some ⟨(w.heap.size + 1), 0, none⟩) ∧ p4 = .bool false ∧ w.grownBy wc none ∧ Hx wc w.heap.size [.string S.name, .int .i64 S.start, .int .i64 S.step, .slice A S.vals.length c, .int .i64 S.cons] 24 ∧ Hx wc (w.heap.size + 1) [.bool kb, .int .i64 kn] 28)
  case first =>
    go_wp2_with fail
    go_meet
    exact ⟨rfl, rfl, rfl, (by exact G.go HG), Hx.alloc (Hx.new _ _ _) _, Hx.new' (by simp) rfl⟩
  obtain ⟨rfl, rfl, rfl, HG, hs, hk⟩ := hcut
  have hs_0 := hs.cell 0; have hs_f0 := hs.free 0; have hs_1 := hs.cell 1; have hs_f1 := hs.free 1; have hs_2 := hs.cell 2; have hs_f2 := hs.free 2; have hs_3 := hs.cell 3; have hs_f3 := hs.free 3; have hs_4 := hs.cell 4; have hs_f4 := hs.free 4; have hs_l := hs.lt; have hk_0 := hk.cell 0; have hk_f0 := hk.free 0; have hk_1 := hk.cell 1; have hk_f1 := hk.free 1; have hk_l := hk.lt
  go_wp2_with (go_at_call 12; (with_reducible refine (HA1.out _ _ (HV.out.kept0 (by exact G.go HG)) ?_ (Pow10.kept (w := w) HP.out (by exact G.go HG))).mono ?_); (exact ERow.of_hx (ts := [(kb, kn)]) (by simp) (by decide) (Hx.new' (by simp) rfl)); rintro e wn ⟨rfl, hgn⟩; replace HG := G.trans (w := w) (by exact G.go HG) hgn; replace hs := Hx.kept (Hx.alloc hs _) hgn (by simp); have hs_0 := hs.cell 0; have hs_f0 := hs.free 0; have hs_1 := hs.cell 1; have hs_f1 := hs.free 1; have hs_2 := hs.cell 2; have hs_f2 := hs.free 2; have hs_3 := hs.cell 3; have hs_f3 := hs.free 3; have hs_4 := hs.cell 4; have hs_f4 := hs.free 4; have hs_l := hs.lt; clear hgn)
  go_ret
  exact ⟨rfl, HG⟩
set_option maxHeartbeats 4000000 in
theorem fstepInterpolate_any (S : Ser) (sv : Value) (kb : Bool) (kn : Int) (w : World) (h : ERow valE w sv S.vals) (hk1 : -9223372036854775808 ≤ kn) (hk2 : kn ≤ 9223372036854775807) (hp : Pow10 w) : Calls Tryz.prog 7 #[.agg #[.string S.name, .int .i64 S.start, .int .i64 S.step, sv, .int .i64 S.cons], .agg #[.bool kb, .int .i64 kn]] w fun e w' => e = .returned (.bool true) ∧ w.grownBy w' none := by
  have HG := G.refl w none
  have HP := Lib.hid hp; clear hp
  have HV := Lib.hid h
  have HA0 := Lib.hid (fun w2 h hl hpp => applied20_any ⟨#[105, 110, 116, 101, 114, 112, 111, 108, 97, 116, 101]⟩ S sv (.slice none 0 0) [] w2 h hl (by simp) (by decide) hpp)
  have HA1 := Lib.hid (fun w2 lv h hl hpp => applied20_any ⟨#[105, 110, 116, 101, 114, 112, 111, 108, 97, 116, 101]⟩ S sv lv [(kb, kn)] w2 h hl (by intro p hp; simp only [List.mem_singleton] at hp; subst hp; exact ⟨hk1, hk2⟩) (by decide) hpp)
  obtain ⟨A, c, rfl, -, -, -⟩ := h
  go_enter Tryz.func7, Tryz.ntmps7
  go_upto_region 0 with (fail)
  go_cut [2, 3, 4] (fun p2 p3 p4 wc => p2 = .pointer (some ⟨w.heap.size, 0, none⟩) ∧ p3 = .pointer (some ⟨(w.heap.size + 1), 0, none⟩) ∧ p4 = .bool false ∧ w.grownBy wc none ∧ Hx wc w.heap.size [.string S.name, .int .i64 S.start, .int .i64 S.step, .slice A S.vals.length c, .int .i64 S.cons] 24 ∧ Hx wc (w.heap.size + 1) [.bool kb, .int .i64 kn] 28)
  case first =>
    go_wp2_with fail
    go_meet
    exact ⟨rfl, rfl, rfl, (by exact G.go HG), Hx.alloc (Hx.new _ _ _) _, Hx.new' (by simp) rfl⟩
  obtain ⟨rfl, rfl, rfl, HG, hs, hk⟩ := hcut
  have hs_0 := hs.cell 0; have hs_f0 := hs.free 0; have hs_1 := hs.cell 1; have hs_f1 := hs.free 1; have hs_2 := hs.cell 2; have hs_f2 := hs.free 2; have hs_3 := hs.cell 3; have hs_f3 := hs.free 3; have hs_4 := hs.cell 4; have hs_f4 := hs.free 4; have hs_l := hs.lt; have hk_0 := hk.cell 0; have hk_f0 := hk.free 0; have hk_1 := hk.cell 1; have hk_f1 := hk.free 1; have hk_l := hk.lt
  go_wp2_with (first | (go_at_call 12; (with_reducible refine (HA1.out _ _ (HV.out.kept0 (by exact G.go HG)) ?_ (Pow10.kept (w := w) HP.out (by exact G.go HG))).mono ?_); (exact ERow.of_hx (ts := [(kb, kn)]) (by simp) (by decide) (Hx.new' (by simp) rfl)); rintro e wn ⟨rfl, hgn⟩; replace HG := G.trans (w := w) (by exact G.go HG) hgn; replace hs := Hx.kept (Hx.alloc hs _) hgn (by simp); have hs_0 := hs.cell 0; have hs_f0 := hs.free 0; have hs_1 := hs.cell 1; have hs_f1 := hs.free 1; have hs_2 := hs.cell 2; have hs_f2 := hs.free 2; have hs_3 := hs.cell 3; have hs_f3 := hs.free 3; have hs_4 := hs.cell 4; have hs_f4 := hs.free 4; have hs_l := hs.lt; clear hgn) | (go_at_call 12; (with_reducible refine (HA0.out _ (HV.out.kept0 (by exact G.go HG)) (ERow.nil _) (Pow10.kept (w := w) HP.out (by exact G.go HG))).mono ?_); rintro e wn ⟨rfl, hgn⟩; replace HG := G.trans (w := w) (by exact G.go HG) hgn; replace hs := Hx.kept hs hgn (by simp); have hs_0 := hs.cell 0; have hs_f0 := hs.free 0; have hs_1 := hs.cell 1; have hs_f1 := hs.free 1; have hs_2 := hs.cell 2; have hs_f2 := hs.free 2; have hs_3 := hs.cell 3; have hs_f3 := hs.free 3; have hs_4 := hs.cell 4; have hs_f4 := hs.free 4; have hs_l := hs.lt; clear hgn))
  go_ret
  exact ⟨rfl, HG⟩
set_option maxHeartbeats 4000000 in
theorem fstepKeepLastValue_any (S : Ser) (sv : Value) (kb : Bool) (kn : Int) (w : World) (h : ERow valE w sv S.vals) (hk1 : -9223372036854775808 ≤ kn) (hk2 : kn ≤ 9223372036854775807) (hp : Pow10 w) : Calls Tryz.prog 8 #[.agg #[.string S.name, .int .i64 S.start, .int .i64 S.step, sv, .int .i64 S.cons], .agg #[.bool kb, .int .i64 kn]] w fun e w' => e = .returned (.bool true) ∧ w.grownBy w' none := by
  have HG := G.refl w none
  have HP := Lib.hid hp; clear hp
  have HV := Lib.hid h
  have HA0 := Lib.hid (fun w2 h hl hpp => applied20_any ⟨#[107, 101, 101, 112, 76, 97, 115, 116, 86, 97, 108, 117, 101]⟩ S sv (.slice none 0 0) [] w2 h hl (by simp) (by decide) hpp)
  have HA1 := Lib.hid (fun w2 lv h hl hpp => applied20_any ⟨#[107, 101, 101, 112, 76, 97, 115, 116, 86, 97, 108, 117, 101]⟩ S sv lv [(kb, kn)] w2 h hl (by intro p hp; simp only [List.mem_singleton] at hp; subst hp; exact ⟨hk1, hk2⟩) (by decide) hpp)
  obtain ⟨A, c, rfl, -, -, -⟩ := h
  go_enter Tryz.func8, Tryz.ntmps8
  go_upto_region 0 with (fail)
  go_cut [2, 3, 4] (fun p2 p3 p4 wc => p2 = .pointer (some ⟨w.heap.size, 0, none⟩) ∧ p3 = .pointer (some ⟨(w.heap.size + 1), 0, none⟩) ∧ p4 = .bool false ∧ w.grownBy wc none ∧ Hx wc w.heap.size [.string S.name, .int .i64 S.start, .int .i64 S.step, .slice A S.vals.length c, .int .i64 S.cons] 24 ∧ Hx wc (w.heap.size + 1) [.bool kb, .int .i64 kn] 28)
  case first =>
    go_wp2_with fail
    go_meet
    exact ⟨rfl, rfl, rfl, (by exact G.go HG), Hx.alloc (Hx.new _ _ _) _, Hx.new' (by simp) rfl⟩
  obtain ⟨rfl, rfl, rfl, HG, hs, hk⟩ := hcut
  have hs_0 := hs.cell 0; have hs_f0 := hs.free 0; have hs_1 := hs.cell 1; have hs_f1 := hs.free 1; have hs_2 := hs.cell 2; have hs_f2 := hs.free 2; have hs_3 := hs.cell 3; have hs_f3 := hs.free 3; have hs_4 := hs.cell 4; have hs_f4 := hs.free 4; have hs_l := hs.lt; have hk_0 := hk.cell 0; have hk_f0 := hk.free 0; have hk_1 := hk.cell 1; have hk_f1 := hk.free 1; have hk_l := hk.lt
  go_wp2_with (first | (go_at_call 12; (with_reducible refine (HA1.out _ _ (HV.out.kept0 (by exact G.go HG)) ?_ (Pow10.kept (w := w) HP.out (by exact G.go HG))).mono ?_); (exact ERow.of_hx (ts := [(kb, kn)]) (by simp) (by decide) (Hx.new' (by simp) rfl)); rintro e wn ⟨rfl, hgn⟩; replace HG := G.trans (w := w) (by exact G.go HG) hgn; replace hs := Hx.kept (Hx.alloc hs _) hgn (by simp); have hs_0 := hs.cell 0; have hs_f0 := hs.free 0; have hs_1 := hs.cell 1; have hs_f1 := hs.free 1; have hs_2 := hs.cell 2; have hs_f2 := hs.free 2; have hs_3 := hs.cell 3; have hs_f3 := hs.free 3; have hs_4 := hs.cell 4; have hs_f4 := hs.free 4; have hs_l := hs.lt; clear hgn) | (go_at_call 12; (with_reducible refine (HA0.out _ (HV.out.kept0 (by exact G.go HG)) (ERow.nil _) (Pow10.kept (w := w) HP.out (by exact G.go HG))).mono ?_); rintro e wn ⟨rfl, hgn⟩; replace HG := G.trans (w := w) (by exact G.go HG) hgn; replace hs := Hx.kept hs hgn (by simp); have hs_0 := hs.cell 0; have hs_f0 := hs.free 0; have hs_1 := hs.cell 1; have hs_f1 := hs.free 1; have hs_2 := hs.cell 2; have hs_f2 := hs.free 2; have hs_3 := hs.cell 3; have hs_f3 := hs.free 3; have hs_4 := hs.cell 4; have hs_f4 := hs.free 4; have hs_l := hs.lt; clear hgn))
  go_ret
  exact ⟨rfl, HG⟩
set_option maxHeartbeats 4000000 in
theorem fstepNonNegativeDerivative_any (S : Ser) (sv : Value) (kb : Bool) (kn : Int) (w : World) (h : ERow valE w sv S.vals) (hk1 : -9223372036854775808 ≤ kn) (hk2 : kn ≤ 9223372036854775807) (hp : Pow10 w) : Calls Tryz.prog 9 #[.agg #[.string S.name, .int .i64 S.start, .int .i64 S.step, sv, .int .i64 S.cons], .agg #[.bool kb, .int .i64 kn]] w fun e w' => e = .returned (.bool true) ∧ w.grownBy w' none := by
  have HG := G.refl w none
  have HP := Lib.hid hp; clear hp
  have HV := Lib.hid h
  have HA0 := Lib.hid (fun w2 h hl hpp => applied20_any ⟨#[110, 111, 110, 78, 101, 103, 97, 116, 105, 118, 101, 68, 101, 114, 105, 118, 97, 116, 105, 118, 101]⟩ S sv (.slice none 0 0) [] w2 h hl (by simp) (by decide) hpp)
  have HA1 := Lib.hid (fun w2 lv h hl hpp => applied20_any ⟨#[110, 111, 110, 78, 101, 103, 97, 116, 105, 118, 101, 68, 101, 114, 105, 118, 97, 116, 105, 118, 101]⟩ S sv lv [(kb, kn)] w2 h hl (by intro p hp; simp only [List.mem_singleton] at hp; subst hp; exact ⟨hk1, hk2⟩) (by decide) hpp)
  obtain ⟨A, c, rfl, -, -, -⟩ := h
  go_enter Tryz.func9, Tryz.ntmps9
  go_upto_region 0 with (fail)
  go_cut [2, 3, 4] (fun p2 p3 p4 wc => p2 = .pointer (some ⟨w.heap.size, 0, none⟩) ∧ p3 = .pointer (some ⟨(w.heap.size + 1), 0, none⟩) ∧ p4 = .bool false ∧ w.grownBy wc none ∧ Hx wc w.heap.size [.string S.name, .int .i64 S.start, .int .i64 S.step, .slice A S.vals.length c, .int .i64 S.cons] 24 ∧ Hx wc (w.heap.size + 1) [.bool kb, .int .i64 kn] 28)
  case first =>
    go_wp2_with fail
    go_meet
    exact ⟨rfl, rfl, rfl, (by exact G.go HG), Hx.alloc (Hx.new _ _ _) _, Hx.new' (by simp) rfl⟩
  obtain ⟨rfl, rfl, rfl, HG, hs, hk⟩ := hcut
  have hs_0 := hs.cell 0; have hs_f0 := hs.free 0; have hs_1 := hs.cell 1; have hs_f1 := hs.free 1; have hs_2 := hs.cell 2; have hs_f2 := hs.free 2; have hs_3 := hs.cell 3; have hs_f3 := hs.free 3; have hs_4 := hs.cell 4; have hs_f4 := hs.free 4; have hs_l := hs.lt; have hk_0 := hk.cell 0; have hk_f0 := hk.free 0; have hk_1 := hk.cell 1; have hk_f1 := hk.free 1; have hk_l := hk.lt
  go_wp2_with (first | (go_at_call 12; (with_reducible refine (HA1.out _ _ (HV.out.kept0 (by exact G.go HG)) ?_ (Pow10.kept (w := w) HP.out (by exact G.go HG))).mono ?_); (exact ERow.of_hx (ts := [(kb, kn)]) (by simp) (by decide) (Hx.new' (by simp) rfl)); rintro e wn ⟨rfl, hgn⟩; replace HG := G.trans (w := w) (by exact G.go HG) hgn; replace hs := Hx.kept (Hx.alloc hs _) hgn (by simp); have hs_0 := hs.cell 0; have hs_f0 := hs.free 0; have hs_1 := hs.cell 1; have hs_f1 := hs.free 1; have hs_2 := hs.cell 2; have hs_f2 := hs.free 2; have hs_3 := hs.cell 3; have hs_f3 := hs.free 3; have hs_4 := hs.cell 4; have hs_f4 := hs.free 4; have hs_l := hs.lt; clear hgn) | (go_at_call 12; (with_reducible refine (HA0.out _ (HV.out.kept0 (by exact G.go HG)) (ERow.nil _) (Pow10.kept (w := w) HP.out (by exact G.go HG))).mono ?_); rintro e wn ⟨rfl, hgn⟩; replace HG := G.trans (w := w) (by exact G.go HG) hgn; replace hs := Hx.kept hs hgn (by simp); have hs_0 := hs.cell 0; have hs_f0 := hs.free 0; have hs_1 := hs.cell 1; have hs_f1 := hs.free 1; have hs_2 := hs.cell 2; have hs_f2 := hs.free 2; have hs_3 := hs.cell 3; have hs_f3 := hs.free 3; have hs_4 := hs.cell 4; have hs_f4 := hs.free 4; have hs_l := hs.lt; clear hgn))
  go_ret
  exact ⟨rfl, HG⟩
set_option maxHeartbeats 4000000 in
theorem fstepPerSecond_any (S : Ser) (sv : Value) (kb : Bool) (kn : Int) (w : World) (h : ERow valE w sv S.vals) (hk1 : -9223372036854775808 ≤ kn) (hk2 : kn ≤ 9223372036854775807) (hp : Pow10 w) : Calls Tryz.prog 10 #[.agg #[.string S.name, .int .i64 S.start, .int .i64 S.step, sv, .int .i64 S.cons], .agg #[.bool kb, .int .i64 kn]] w fun e w' => e = .returned (.bool true) ∧ w.grownBy w' none := by
  have HG := G.refl w none
  have HP := Lib.hid hp; clear hp
  have HV := Lib.hid h
  have HA0 := Lib.hid (fun w2 h hl hpp => applied20_any ⟨#[112, 101, 114, 83, 101, 99, 111, 110, 100]⟩ S sv (.slice none 0 0) [] w2 h hl (by simp) (by decide) hpp)
  have HA1 := Lib.hid (fun w2 lv h hl hpp => applied20_any ⟨#[112, 101, 114, 83, 101, 99, 111, 110, 100]⟩ S sv lv [(kb, kn)] w2 h hl (by intro p hp; simp only [List.mem_singleton] at hp; subst hp; exact ⟨hk1, hk2⟩) (by decide) hpp)
  obtain ⟨A, c, rfl, -, -, -⟩ := h
  go_enter Tryz.func10, Tryz.ntmps10
  go_upto_region 0 with (fail)
  go_cut [2, 3, 4] (fun p2 p3 p4 wc => p2 = .pointer (some ⟨w.heap.size, 0, none⟩) ∧ p3 = .pointer (some ⟨(w.heap.size + 1), 0, none⟩) ∧ p4 = .bool false ∧ w.grownBy wc none ∧ Hx wc w.heap.size [.string S.name, .int .i64 S.start, .int .i64 S.step, .slice A S.vals.length c, .int .i64 S.cons] 24 ∧ Hx wc (w.heap.size + 1) [.bool kb, .int .i64 kn] 28)
  case first =>
    go_wp2_with fail
    go_meet
    exact ⟨rfl, rfl, rfl, (by exact G.go HG), Hx.alloc (Hx.new _ _ _) _, Hx.new' (by simp) rfl⟩
  obtain ⟨rfl, rfl, rfl, HG, hs, hk⟩ := hcut
  have hs_0 := hs.cell 0; have hs_f0 := hs.free 0; have hs_1 := hs.cell 1; have hs_f1 := hs.free 1; have hs_2 := hs.cell 2; have hs_f2 := hs.free 2; have hs_3 := hs.cell 3; have hs_f3 := hs.free 3; have hs_4 := hs.cell 4; have hs_f4 := hs.free 4; have hs_l := hs.lt; have hk_0 := hk.cell 0; have hk_f0 := hk.free 0; have hk_1 := hk.cell 1; have hk_f1 := hk.free 1; have hk_l := hk.lt
  go_wp2_with (first | (go_at_call 12; (with_reducible refine (HA1.out _ _ (HV.out.kept0 (by exact G.go HG)) ?_ (Pow10.kept (w := w) HP.out (by exact G.go HG))).mono ?_); (exact ERow.of_hx (ts := [(kb, kn)]) (by simp) (by decide) (Hx.new' (by simp) rfl)); rintro e wn ⟨rfl, hgn⟩; replace HG := G.trans (w := w) (by exact G.go HG) hgn; replace hs := Hx.kept (Hx.alloc hs _) hgn (by simp); have hs_0 := hs.cell 0; have hs_f0 := hs.free 0; have hs_1 := hs.cell 1; have hs_f1 := hs.free 1; have hs_2 := hs.cell 2; have hs_f2 := hs.free 2; have hs_3 := hs.cell 3; have hs_f3 := hs.free 3; have hs_4 := hs.cell 4; have hs_f4 := hs.free 4; have hs_l := hs.lt; clear hgn) | (go_at_call 12; (with_reducible refine (HA0.out _ (HV.out.kept0 (by exact G.go HG)) (ERow.nil _) (Pow10.kept (w := w) HP.out (by exact G.go HG))).mono ?_); rintro e wn ⟨rfl, hgn⟩; replace HG := G.trans (w := w) (by exact G.go HG) hgn; replace hs := Hx.kept hs hgn (by simp); have hs_0 := hs.cell 0; have hs_f0 := hs.free 0; have hs_1 := hs.cell 1; have hs_f1 := hs.free 1; have hs_2 := hs.cell 2; have hs_f2 := hs.free 2; have hs_3 := hs.cell 3; have hs_f3 := hs.free 3; have hs_4 := hs.cell 4; have hs_f4 := hs.free 4; have hs_l := hs.lt; clear hgn))
  go_ret
  exact ⟨rfl, HG⟩
end Go.Proofs.YtkablhamnepfnaaGreatDoor
