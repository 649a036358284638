/-
  The walk of the reference's Apply. Printed by genfsapr.py.
-/
import Derived.Test.YtkablhamnepfnaaGreatDoorFsRefE
import Derived.Test.YtkablhamnepfnaaGreatDoorFsApply
namespace Go.Proofs.YtkablhamnepfnaaGreatDoor
open Go.RowKit
set_option maxHeartbeats 16000000 in
set_option maxRecDepth 100000 in
theorem refApply20_any (nm : ByteArray) (S : Ser) (sv lv : Value) (L : List (Bool × Int)) (w : World) (h : ERow valE w sv S.vals) (hl : ERow valE w lv L) (hF : ∀ p ∈ L, -9223372036854775808 ≤ p.2 ∧ p.2 ≤ 9223372036854775807) (h1 : nm.size ≤ 100000) (h2 : S.name.size ≤ 100000) (h3 : S.vals.length ≤ 1000000) (h4 : L.length ≤ 100) :
    Calls Tryz.prog 19 #[.string nm, .agg #[.string S.name, .int .i64 S.start, .int .i64 S.step, sv, .int .i64 S.cons], lv] w fun e w' => SerPost (fsApply nm S L) w e w' := by
  have HG := G.refl w none
  have HF := Lib.hid hF; clear hF
  have HV := Lib.hid h
  have HLV := Lib.hid hl
  obtain ⟨A, c, rfl, q1, q2, q3⟩ := h
  have Q3 := Lib.hid q3; clear q3
  obtain ⟨A2, c2, rfl, r1, r2, r3⟩ := hl
  have R3 := Lib.hid r3; clear r3
  obtain ⟨V, hV⟩ : ∃ V, Hid (fsApply nm S L = V) := ⟨_, Lib.hid rfl⟩
  rw [hV.out]
  obtain ⟨ok, hokd⟩ : ∃ ok, Hid (fsOk nm S L.length = ok) := ⟨_, Lib.hid rfl⟩
  have hQ : Hid (V = if ok then some ⟨labelB nm (labTexts S.name L), S.start, S.step, fsVals nm S (kOf L) (decide (0 < L.length)), S.cons⟩ else none) := Lib.hid (by rw [← hV.out, ← hokd.out]; rfl)
  clear hV
  have hOk := Lib.hid (show fsOk nm S L.length = (match fsIdx nm with | none => false | some i => isSer S && (decide (fsNeed i ≤ L.length) && decide (L.length ≤ fsMost i))) from rfl)
  have HAr := Lib.hid (fun w => many_any nm w)
  have HI := Lib.hid (fun w h => refIs18_any S (.slice A S.vals.length c) w h)
  go_enter Tryz.func19, Tryz.ntmps19
  go_upto_region 0 with (fail)
  go_cut [4, 6, 7] (fun p4 p6 p7 wc => p4 = .pointer (some ⟨w.heap.size, 0, none⟩) ∧ p6 = .pointer (some ⟨(w.heap.size + 1), 0, none⟩) ∧ p7 = .bool false ∧ w.grownBy wc none ∧ Hx wc w.heap.size [.string S.name, .int .i64 S.start, .int .i64 S.step, .slice A S.vals.length c, .int .i64 S.cons] 24 ∧ Hx wc (w.heap.size + 1) [.string ⟨#[]⟩, .int .i64 0, .int .i64 0, .slice none 0 0, .int .i64 0] 24)
  case first =>
    go_wp2_with fail
    go_meet
    exact ⟨rfl, rfl, rfl, (by exact G.go HG), Hx.alloc (Hx.new _ _ _) _, Hx.new' (by simp) rfl⟩
  obtain ⟨rfl, rfl, rfl, HG, hs, hr⟩ := hcut
  go_upto_region 1 with (fail)
  go_cut [4, 6, 7, 8, 9, 10] (fun p4 p6 p7 p8 p9 p10 wd => p4 = .pointer (some ⟨w.heap.size, 0, none⟩) ∧ p6 = .pointer (some ⟨(w.heap.size + 1), 0, none⟩) ∧ p7 = .bool false ∧ ((fsIdx nm = none ∧ p8 = .int .i64 0 ∧ p9 = .int .i64 0 ∧ p10 = .bool false) ∨ ∃ i : Nat, fsIdx nm = some i ∧ p8 = .int .i64 (fsNeed i) ∧ p9 = .int .i64 (fsMost i) ∧ p10 = .bool true) ∧ w.grownBy wd none ∧ Hx wd w.heap.size [.string S.name, .int .i64 S.start, .int .i64 S.step, .slice A S.vals.length c, .int .i64 S.cons] 24 ∧ Hx wd (w.heap.size + 1) [.string ⟨#[]⟩, .int .i64 0, .int .i64 0, .slice none 0 0, .int .i64 0] 24)
  case first =>
    cases hx : fsIdx nm with
    | none =>
      rw [hx] at HAr
      simp only [manyT] at HAr
      go_wp2_with (go_at_call 28; (with_reducible refine (HAr.out _).mono ?_); rintro e wn ⟨rfl, hwn⟩; obtain rfl := hwn.symm)
      go_meet
      exact ⟨rfl, rfl, rfl, (by first | (simp; done) | (simp [hx]; done) | exact Or.inl ⟨hx, rfl, rfl, rfl⟩), HG, hs, hr⟩
    | some i =>
      rw [hx] at HAr
      simp only [manyT] at HAr
      go_wp2_with (go_at_call 28; (with_reducible refine (HAr.out _).mono ?_); rintro e wn ⟨rfl, hwn⟩; obtain rfl := hwn.symm)
      go_meet
      exact ⟨rfl, rfl, rfl, (by first | (simp; done) | (simp [hx]; done) | exact Or.inr ⟨i, hx, rfl, rfl, rfl⟩), HG, hs, hr⟩
  obtain ⟨rfl, rfl, rfl, hcase, HG, hs, hr⟩ := hcut
  clear HAr
  go_upto_region 2 with (fail)
  go_cut [4, 6, 7, 37] (fun p4 p6 p7 p37 we => p4 = .pointer (some ⟨w.heap.size, 0, none⟩) ∧ p6 = .pointer (some ⟨(w.heap.size + 1), 0, none⟩) ∧ p7 = .bool false ∧ p37 = .bool (!ok) ∧ w.grownBy we none ∧ Hx we w.heap.size [.string S.name, .int .i64 S.start, .int .i64 S.step, .slice A S.vals.length c, .int .i64 S.cons] 24 ∧ Hx we (w.heap.size + 1) [.string ⟨#[]⟩, .int .i64 0, .int .i64 0, .slice none 0 0, .int .i64 0] 24)
  case first =>
    have hs_0 := hs.cell 0; have hs_f0 := hs.free 0; have hs_1 := hs.cell 1; have hs_f1 := hs.free 1; have hs_2 := hs.cell 2; have hs_f2 := hs.free 2; have hs_3 := hs.cell 3; have hs_f3 := hs.free 3; have hs_4 := hs.cell 4; have hs_f4 := hs.free 4; have hs_l := hs.lt
    rcases hcase with ⟨hx, rfl, rfl, rfl⟩ | ⟨i, hx, rfl, rfl, rfl⟩
    · have hok : ok = false := by rw [← hokd.out, hOk.out, hx]
      subst hok
      go_wp2_with fail
      go_meet
      exact ⟨rfl, rfl, rfl, by simp, HG, hs, hr⟩
    have hok2 : ok = (isSer S && (decide (fsNeed i ≤ L.length) && decide (L.length ≤ fsMost i))) := by rw [← hokd.out, hOk.out, hx]
    generalize fsNeed i = n1 at *
    generalize fsMost i = n2 at *
    cases hS : isSer S
    · rw [hS, Bool.false_and] at hok2
      rw [hS] at HI
      subst hok2
      go_wp2_with (go_at_call 29; (with_reducible refine (HI.out _ (HV.out.kept0 HG)).mono ?_); rintro e wn ⟨rfl, hgn⟩; replace HG := G.trans (w := w) (by exact G.go HG) hgn; replace hs := Hx.kept hs hgn (by simp); replace hr := Hx.kept hr hgn (by simp); clear hgn)
      go_meet
      exact ⟨rfl, rfl, rfl, by simp, HG, hs, hr⟩
    rw [hS, Bool.true_and] at hok2
    rw [hS] at HI
    by_cases g1 : L.length < n1
    · rw [decide_eq_false (show ¬ n1 ≤ L.length by omega), Bool.false_and] at hok2
      subst hok2
      go_wp2_with (go_at_call 29; (with_reducible refine (HI.out _ (HV.out.kept0 HG)).mono ?_); rintro e wn ⟨rfl, hgn⟩; replace HG := G.trans (w := w) (by exact G.go HG) hgn; replace hs := Hx.kept hs hgn (by simp); replace hr := Hx.kept hr hgn (by simp); clear hgn)
      go_meet
      exact ⟨rfl, rfl, rfl, by simp, HG, hs, hr⟩
    by_cases g2 : n2 < L.length
    · rw [decide_eq_true (show n1 ≤ L.length by omega), decide_eq_false (show ¬ L.length ≤ n2 by omega), Bool.true_and] at hok2
      subst hok2
      go_wp2_with (go_at_call 29; (with_reducible refine (HI.out _ (HV.out.kept0 HG)).mono ?_); rintro e wn ⟨rfl, hgn⟩; replace HG := G.trans (w := w) (by exact G.go HG) hgn; replace hs := Hx.kept hs hgn (by simp); replace hr := Hx.kept hr hgn (by simp); clear hgn)
      go_meet
      exact ⟨rfl, rfl, rfl, by simp, HG, hs, hr⟩
    · rw [decide_eq_true (show n1 ≤ L.length by omega), decide_eq_true (show L.length ≤ n2 by omega), Bool.true_and] at hok2
      subst hok2
      go_wp2_with (go_at_call 29; (with_reducible refine (HI.out _ (HV.out.kept0 HG)).mono ?_); rintro e wn ⟨rfl, hgn⟩; replace HG := G.trans (w := w) (by exact G.go HG) hgn; replace hs := Hx.kept hs hgn (by simp); replace hr := Hx.kept hr hgn (by simp); clear hgn)
      go_meet
      exact ⟨rfl, rfl, rfl, by simp, HG, hs, hr⟩
  obtain ⟨rfl, rfl, rfl, rfl, HG, hs, hr⟩ := hcut
  rename World => wf
  clear HI hcase
  cases ok
  · have hfin : Hid (V = none) := Lib.hid (by rw [hQ.out]; rfl)
    have hr_0 := hr.cell 0; have hr_f0 := hr.free 0; have hr_1 := hr.cell 1; have hr_f1 := hr.free 1; have hr_2 := hr.cell 2; have hr_f2 := hr.free 2; have hr_3 := hr.cell 3; have hr_f3 := hr.free 3; have hr_4 := hr.cell 4; have hr_f4 := hr.free 4; have hr_l := hr.lt
    go_wp2_with fail
    refine ret_cell_tmp [.string ⟨#[]⟩, .int .i64 0, .int .i64 0, .slice none 0 0, .int .i64 0] (w.heap.size + 1) 24 rfl rfl (Tryz.isAgg24 _) (Tryz.sizeOf24 _) rfl ?_ (by rw [hfin.out]; exact ⟨.slice none 0 0, rfl, ERow.nil _, (by exact G.go HG)⟩)
    exact (by first | exact Hx.go hr | exact Hx.go2)
  have hfin : Hid (V = some ⟨labelB nm (labTexts S.name L), S.start, S.step, fsVals nm S (kOf L) (decide (0 < L.length)), S.cons⟩) := Lib.hid (by rw [hQ.out]; rfl)
  clear hQ
  have hok := hokd.out
  rw [hOk.out] at hok
  obtain ⟨i, hk⟩ : ∃ i, fsIdx nm = some i := by
    cases hx : fsIdx nm with
    | none => rw [hx] at hok; cases hok
    | some i => exact ⟨i, rfl⟩
  obtain ⟨hi, hnm⟩ := fsIdx_name hk
  have hok : isSer S = true ∧ fsNeed i ≤ L.length ∧ L.length ≤ fsMost i := by
    rw [hk] at hok
    have hok : (isSer S && (decide (fsNeed i ≤ L.length) && decide (L.length ≤ fsMost i))) = true := hok
    simpa [Bool.and_eq_true] using hok
  obtain ⟨hS, hn1, hn2⟩ := hok
  have hL1 : L.length ≤ 1 := Nat.le_trans hn2 (fsMost_le i)
  obtain ⟨hstep, hst1, hst2, hvl, hcn1, hcn2, hall⟩ := isSer_parts hS
  have hall2 := Lib.hid hall
  have hvals : Hid (fsVals nm S (kOf L) (decide (0 < L.length)) = (List.range S.vals.length).map fun j => vP (fsV i S.step (decide (0 < L.length)) (kOf L) S.opts j)) := Lib.hid (by unfold fsVals; rw [hk]; rfl)
  have hnml := Lib.hid hnm
  have hix := Lib.hid hn1
  clear hOk hokd hk hS hall hn1 hn2 hnm
  have HLb := Lib.hid (fun w h => refLabel_any nm S (.slice A S.vals.length c) (.slice A2 L.length c2) L w h HF.out h1 h2 h4 rfl)
  go_upto_region 4 with (fail)
  go_cut [4, 6, 7, 11] (fun p4 p6 p7 p11 wl => ∃ O, p4 = .pointer (some ⟨w.heap.size, 0, none⟩) ∧ p6 = .pointer (some ⟨(w.heap.size + 1), 0, none⟩) ∧ p7 = .bool false ∧ p11 = .pointer (some ⟨O, 0, none⟩) ∧ wf.heap.size ≤ O ∧ wf.grownBy wl none ∧ Hx wl O [.string (labelB nm (labTexts S.name L)), .int .i64 S.start, .int .i64 S.step, .slice none 0 0, .int .i64 S.cons] 24)
  case first =>
    refine wp_region_rel (n := 12) (S := [fun v _ => v = .string nm, fun v _ => v = .agg #[.string S.name, .int .i64 S.start, .int .i64 S.step, .slice A S.vals.length c, .int .i64 S.cons], fun v _ => v = .slice A2 L.length c2, fun v _ => v = .string (labelB nm (labTexts S.name L)), fun v _ => v = .pointer (some ⟨w.heap.size, 1, none⟩), fun v _ => v = .int .i64 S.start, fun v _ => v = .pointer (some ⟨w.heap.size, 2, none⟩), fun v _ => v = .int .i64 S.step, fun v _ => v = .pointer (some ⟨w.heap.size, 4, none⟩), fun v _ => v = .int .i64 S.cons, fun v _ => v = .agg #[.string (labelB nm (labTexts S.name L)), .int .i64 S.start, .int .i64 S.step, .slice none 0 0, .int .i64 S.cons], fun v w => ∃ O, v = .pointer (some ⟨O, 0, none⟩) ∧ wf.heap.size ≤ O ∧ Hx w O [.string ⟨#[]⟩, .int .i64 0, .int .i64 0, .slice none 0 0, .int .i64 0] 24]) (G.refl _ none) (by kernel_rfl) (by kernel_rfl) ?_ ?_ ?_
    · intro i v y1 y2 hg12 hS
      match i, hS with
      | 0, h => exact h
      | 1, h => exact h
      | 2, h => exact h
      | 3, h => exact h
      | 4, h => exact h
      | 5, h => exact h
      | 6, h => exact h
      | 7, h => exact h
      | 8, h => exact h
      | 9, h => exact h
      | 10, h => exact h
      | 11, h => exact (let ⟨O, e1, e2, e3⟩ := h; ⟨O, e1, e2, e3.kept hg12 (by simp)⟩)
      | k + 12, h => exact trivial
    · simp only [List.take_succ_cons, List.take_zero, relOps]
      refine ⟨fun VV y1 hg1 hV => ?_, fun VV y1 hg1 hV => ?_, fun VV y1 hg1 hV => ?_, fun VV y1 hg1 hV => ?_, fun VV y1 hg1 hV => ?_, fun VV y1 hg1 hV => ?_, fun VV y1 hg1 hV => ?_, fun VV y1 hg1 hV => ?_, fun VV y1 hg1 hV => ?_, fun VV y1 hg1 hV => ?_, fun VV y1 hg1 hV => ?_, fun VV y1 hg1 hV => ?_, trivial⟩
      · clear hV
        have hrow := HLV.out.kept0 (G.trans HG hg1); replace hs := Hx.kept hs hg1 (by simp); have hs_0 := hs.cell 0; have hs_f0 := hs.free 0; have hs_1 := hs.cell 1; have hs_f1 := hs.free 1; have hs_2 := hs.cell 2; have hs_f2 := hs.free 2; have hs_3 := hs.cell 3; have hs_f3 := hs.free 3; have hs_4 := hs.cell 4; have hs_f4 := hs.free 4; have hs_l := hs.lt
        simp only [putAll]
        go_wp2_with fail
        exact ⟨rfl, rfl, G.refl _ none, rfl⟩
      · clear hV
        have hrow := HLV.out.kept0 (G.trans HG hg1); replace hs := Hx.kept hs hg1 (by simp); have hs_0 := hs.cell 0; have hs_f0 := hs.free 0; have hs_1 := hs.cell 1; have hs_f1 := hs.free 1; have hs_2 := hs.cell 2; have hs_f2 := hs.free 2; have hs_3 := hs.cell 3; have hs_f3 := hs.free 3; have hs_4 := hs.cell 4; have hs_f4 := hs.free 4; have hs_l := hs.lt
        simp only [putAll]
        go_wp2_with fail
        exact ⟨rfl, rfl, G.refl _ none, rfl⟩
      · clear hV
        have hrow := HLV.out.kept0 (G.trans HG hg1); replace hs := Hx.kept hs hg1 (by simp); have hs_0 := hs.cell 0; have hs_f0 := hs.free 0; have hs_1 := hs.cell 1; have hs_f1 := hs.free 1; have hs_2 := hs.cell 2; have hs_f2 := hs.free 2; have hs_3 := hs.cell 3; have hs_f3 := hs.free 3; have hs_4 := hs.cell 4; have hs_f4 := hs.free 4; have hs_l := hs.lt
        simp only [putAll]
        go_wp2_with fail
        exact ⟨rfl, rfl, G.refl _ none, rfl⟩
      · have e0 := hV 0 (by kernel_rfl); have e1 := hV 1 (by kernel_rfl); have e2 := hV 2 (by kernel_rfl); clear hV
        have hrow := HLV.out.kept0 (G.trans HG hg1); replace hs := Hx.kept hs hg1 (by simp); have hs_0 := hs.cell 0; have hs_f0 := hs.free 0; have hs_1 := hs.cell 1; have hs_f1 := hs.free 1; have hs_2 := hs.cell 2; have hs_f2 := hs.free 2; have hs_3 := hs.cell 3; have hs_f3 := hs.free 3; have hs_4 := hs.cell 4; have hs_f4 := hs.free 4; have hs_l := hs.lt
        simp only [atS, List.getD_cons_succ, List.getD_cons_zero] at e0 e1 e2
        simp only [putAll, e0, e1, e2]
        go_wp2_with (go_at_call 30; (with_reducible refine (HLb.out _ hrow).mono ?_); rintro e wn ⟨rfl, hgn⟩)
        exact ⟨rfl, rfl, hgn, rfl⟩
      · clear hV
        have hrow := HLV.out.kept0 (G.trans HG hg1); replace hs := Hx.kept hs hg1 (by simp); have hs_0 := hs.cell 0; have hs_f0 := hs.free 0; have hs_1 := hs.cell 1; have hs_f1 := hs.free 1; have hs_2 := hs.cell 2; have hs_f2 := hs.free 2; have hs_3 := hs.cell 3; have hs_f3 := hs.free 3; have hs_4 := hs.cell 4; have hs_f4 := hs.free 4; have hs_l := hs.lt
        simp only [putAll]
        go_wp2_with fail
        exact ⟨rfl, rfl, G.refl _ none, rfl⟩
      · have e4 := hV 4 (by kernel_rfl); clear hV
        have hrow := HLV.out.kept0 (G.trans HG hg1); replace hs := Hx.kept hs hg1 (by simp); have hs_0 := hs.cell 0; have hs_f0 := hs.free 0; have hs_1 := hs.cell 1; have hs_f1 := hs.free 1; have hs_2 := hs.cell 2; have hs_f2 := hs.free 2; have hs_3 := hs.cell 3; have hs_f3 := hs.free 3; have hs_4 := hs.cell 4; have hs_f4 := hs.free 4; have hs_l := hs.lt
        simp only [atS, List.getD_cons_succ, List.getD_cons_zero] at e4
        simp only [putAll, e4]
        go_wp2_with fail
        exact ⟨rfl, rfl, G.refl _ none, rfl⟩
      · clear hV
        have hrow := HLV.out.kept0 (G.trans HG hg1); replace hs := Hx.kept hs hg1 (by simp); have hs_0 := hs.cell 0; have hs_f0 := hs.free 0; have hs_1 := hs.cell 1; have hs_f1 := hs.free 1; have hs_2 := hs.cell 2; have hs_f2 := hs.free 2; have hs_3 := hs.cell 3; have hs_f3 := hs.free 3; have hs_4 := hs.cell 4; have hs_f4 := hs.free 4; have hs_l := hs.lt
        simp only [putAll]
        go_wp2_with fail
        exact ⟨rfl, rfl, G.refl _ none, rfl⟩
      · have e6 := hV 6 (by kernel_rfl); clear hV
        have hrow := HLV.out.kept0 (G.trans HG hg1); replace hs := Hx.kept hs hg1 (by simp); have hs_0 := hs.cell 0; have hs_f0 := hs.free 0; have hs_1 := hs.cell 1; have hs_f1 := hs.free 1; have hs_2 := hs.cell 2; have hs_f2 := hs.free 2; have hs_3 := hs.cell 3; have hs_f3 := hs.free 3; have hs_4 := hs.cell 4; have hs_f4 := hs.free 4; have hs_l := hs.lt
        simp only [atS, List.getD_cons_succ, List.getD_cons_zero] at e6
        simp only [putAll, e6]
        go_wp2_with fail
        exact ⟨rfl, rfl, G.refl _ none, rfl⟩
      · clear hV
        have hrow := HLV.out.kept0 (G.trans HG hg1); replace hs := Hx.kept hs hg1 (by simp); have hs_0 := hs.cell 0; have hs_f0 := hs.free 0; have hs_1 := hs.cell 1; have hs_f1 := hs.free 1; have hs_2 := hs.cell 2; have hs_f2 := hs.free 2; have hs_3 := hs.cell 3; have hs_f3 := hs.free 3; have hs_4 := hs.cell 4; have hs_f4 := hs.free 4; have hs_l := hs.lt
        simp only [putAll]
        go_wp2_with fail
        exact ⟨rfl, rfl, G.refl _ none, rfl⟩
      · have e8 := hV 8 (by kernel_rfl); clear hV
        have hrow := HLV.out.kept0 (G.trans HG hg1); replace hs := Hx.kept hs hg1 (by simp); have hs_0 := hs.cell 0; have hs_f0 := hs.free 0; have hs_1 := hs.cell 1; have hs_f1 := hs.free 1; have hs_2 := hs.cell 2; have hs_f2 := hs.free 2; have hs_3 := hs.cell 3; have hs_f3 := hs.free 3; have hs_4 := hs.cell 4; have hs_f4 := hs.free 4; have hs_l := hs.lt
        simp only [atS, List.getD_cons_succ, List.getD_cons_zero] at e8
        simp only [putAll, e8]
        go_wp2_with fail
        exact ⟨rfl, rfl, G.refl _ none, rfl⟩
      · have e3 := hV 3 (by kernel_rfl); have e5 := hV 5 (by kernel_rfl); have e7 := hV 7 (by kernel_rfl); have e9 := hV 9 (by kernel_rfl); clear hV
        have hrow := HLV.out.kept0 (G.trans HG hg1); replace hs := Hx.kept hs hg1 (by simp); have hs_0 := hs.cell 0; have hs_f0 := hs.free 0; have hs_1 := hs.cell 1; have hs_f1 := hs.free 1; have hs_2 := hs.cell 2; have hs_f2 := hs.free 2; have hs_3 := hs.cell 3; have hs_f3 := hs.free 3; have hs_4 := hs.cell 4; have hs_f4 := hs.free 4; have hs_l := hs.lt
        simp only [atS, List.getD_cons_succ, List.getD_cons_zero] at e3 e5 e7 e9
        simp only [putAll, e3, e5, e7, e9]
        go_wp2_with fail
        exact ⟨rfl, rfl, G.refl _ none, rfl⟩
      · clear hV
        have hrow := HLV.out.kept0 (G.trans HG hg1); replace hs := Hx.kept hs hg1 (by simp); have hs_0 := hs.cell 0; have hs_f0 := hs.free 0; have hs_1 := hs.cell 1; have hs_f1 := hs.free 1; have hs_2 := hs.cell 2; have hs_f2 := hs.free 2; have hs_3 := hs.cell 3; have hs_f3 := hs.free 3; have hs_4 := hs.cell 4; have hs_f4 := hs.free 4; have hs_l := hs.lt
        simp only [putAll]
        go_wp2_with fail
        exact ⟨rfl, rfl, G.alloc (G.refl _ _) _, _, rfl, hg1.size, Hx.new _ _ _⟩
    · intro VV y1 hg1 hV
      have e0 := hV 0 (by omega); have e1 := hV 1 (by omega); have e2 := hV 2 (by omega); have e3 := hV 3 (by omega); have e4 := hV 4 (by omega); have e5 := hV 5 (by omega); have e6 := hV 6 (by omega); have e7 := hV 7 (by omega); have e8 := hV 8 (by omega); have e9 := hV 9 (by omega); have e10 := hV 10 (by omega); have e11 := hV 11 (by omega); clear hV
      simp only [atS, List.getD_cons_succ, List.getD_cons_zero] at e0 e1 e2 e3 e4 e5 e6 e7 e8 e9 e10 e11
      simp only [List.take_succ_cons, List.take_zero, List.drop_succ_cons, List.drop_zero, putAll, e0, e1, e2, e3, e4, e5, e6, e7, e8, e9, e10]
      replace hs := Hx.kept hs hg1 (by simp); have hs_0 := hs.cell 0; have hs_f0 := hs.free 0; have hs_1 := hs.cell 1; have hs_f1 := hs.free 1; have hs_2 := hs.cell 2; have hs_f2 := hs.free 2; have hs_3 := hs.cell 3; have hs_f3 := hs.free 3; have hs_4 := hs.cell 4; have hs_f4 := hs.free 4; have hs_l := hs.lt
      have hg2 := hg1
      clear hg1
      obtain ⟨O, e11, hO1, hO2⟩ := e11
      simp only [e11]
      have ho_0 := hO2.cell 0; have ho_f0 := hO2.free 0; have ho_1 := hO2.cell 1; have ho_f1 := hO2.free 1; have ho_2 := hO2.cell 2; have ho_f2 := hO2.free 2; have ho_3 := hO2.cell 3; have ho_f3 := hO2.free 3; have ho_4 := hO2.cell 4; have ho_f4 := hO2.free 4
      go_wp2_with fail
      go_meet
      exact ⟨O, rfl, rfl, rfl, rfl, hO1, (by exact G.go hg2), (by first | exact Hx.go hO2 | exact Hx.go2)⟩
  obtain ⟨O, rfl, rfl, rfl, rfl, hO1, hgl, ho⟩ := hcut
  rename World => wl
  have hOl := ho.lt
  have hwfO : wf.heap.size ≤ O := hO1
  have HONE := Lib.hid (fun w2 h h2 j hj => one20_any i hi w2 S (.slice A S.vals.length c) h hall2.out hvl nm hnml.out (.slice A2 L.length c2) L h2 j hj)
  clear hix hnml HF HLb R3 Q3
  rw [hvals.out] at hfin
  clear hvals
  have hsl := Hx.kept hs hgl (by simp)
  have hsl_0 := hsl.cell 0; have hsl_f0 := hsl.free 0; have hsl_1 := hsl.cell 1; have hsl_f1 := hsl.free 1; have hsl_2 := hsl.cell 2; have hsl_f2 := hsl.free 2; have hsl_3 := hsl.cell 3; have hsl_f3 := hsl.free 3; have hsl_4 := hsl.cell 4; have hsl_f4 := hsl.free 4; have hsl_l := hsl.lt
  have HGf := hgl
  go_wp2_with fail
  go_loopw [12] (fun iv wr => ∃ (j : Nat) (u : Value) (done : List (Bool × Int)), iv = .int .i64 j ∧ j ≤ S.vals.length ∧ Hid (done = (List.range j).map fun q => vP (fsV i S.step (decide (0 < L.length)) (kOf L) S.opts q)) ∧ wl.heap.size ≤ wr.heap.size ∧ wf.grownBy wr none ∧ Hx wr O [.string (labelB nm (labTexts S.name L)), .int .i64 S.start, .int .i64 S.step, u, .int .i64 S.cons] 24 ∧ EOwn valE 28 wr wl.heap.size u done) (fun iv _ => S.vals.length - (intOf iv).toNat)
  case atStart => exact ⟨0, _, [], rfl, by omega, Lib.hid rfl, Nat.le_refl _, HGf, ho, EOwn.nil _ _ _ _⟩
  case round =>
    clear HGf ho hsl_0 hsl_f0 hsl_1 hsl_f1 hsl_2 hsl_f2 hsl_3 hsl_f3 hsl_4 hsl_f4 hsl hsl_l
    obtain ⟨j, u, done, rfl, hj, HT, hsz, HGf, ho, HO⟩ := hrel
    obtain ⟨ua, un, uc, rfl⟩ : ∃ a n c, u = .slice a n c := by rcases HO.form with ⟨e, _⟩ | ⟨_, _, e, _⟩ <;> exact ⟨_, _, _, e⟩
    have hsl := Hx.kept hs HGf (by simp)
    have hsl_0 := hsl.cell 0; have hsl_f0 := hsl.free 0; have hsl_1 := hsl.cell 1; have hsl_f1 := hsl.free 1; have hsl_2 := hsl.cell 2; have hsl_f2 := hsl.free 2; have hsl_3 := hsl.cell 3; have hsl_f3 := hsl.free 3; have hsl_4 := hsl.cell 4; have hsl_f4 := hsl.free 4; have hsl_l := hsl.lt
    by_cases hlt : j < S.vals.length
    · have HGx := G.trans HG HGf
      have HD := Lib.hid (fun w2 h h2 => HONE.out w2 h h2 j hlt)
      have HT2 : Hid (done ++ [vP (fsV i S.step (decide (0 < L.length)) (kOf L) S.opts j)] = (List.range (j + 1)).map fun q => vP (fsV i S.step (decide (0 < L.length)) (kOf L) S.opts q)) := Lib.hid (by rw [HT.out]; exact (range_step _ j).symm)
      have hdl2 : done.length ≤ 131072 := by rw [HT.out]; simp; omega
      clear HT
      generalize fsV i S.step (decide (0 < L.length)) (kOf L) S.opts j = D at *
      rw [valV_form] at HD
      have hT3 : Hid (done ++ [(vB D, vN D)] = (List.range (j + 1)).map fun q => vP (fsV i S.step (decide (0 < L.length)) (kOf L) S.opts q)) := HT2
      clear HT2
      have hwj : IntKind.i64.wrap ((j : Int) + 1) = ((j + 1 : Nat) : Int) := by rw [IntKind.wrap_i64]; omega
      go_upto_region 8 with (fail)
      refine wp_region_rel (n := 8) (S := [fun v _ => v = .pointer (some ⟨O, 3, none⟩), fun v _ => v = .slice ua un uc, fun v _ => v = .string nm, fun v _ => v = .agg #[.string S.name, .int .i64 S.start, .int .i64 S.step, .slice A S.vals.length c, .int .i64 S.cons], fun v _ => v = .int .i64 (j : Int), fun v _ => v = .slice A2 L.length c2, fun v _ => v = .agg #[.bool (vB D), .int .i64 (vN D)], fun v w => ∃ R, v = .slice (some ⟨R, 0, none⟩) 1 1 ∧ Hx w R [.bool (vB D), .int .i64 (vN D)] 28 ∧ wr.heap.size ≤ R]) (G.refl _ none) (by kernel_rfl) (by kernel_rfl) ?_ ?_ ?_
      · intro i v y1 y2 hg12 hS
        match i, hS with
        | 0, h => exact h
        | 1, h => exact h
        | 2, h => exact h
        | 3, h => exact h
        | 4, h => exact h
        | 5, h => exact h
        | 6, h => exact h
        | 7, h => exact (let ⟨R, e1, e2, e3⟩ := h; ⟨R, e1, e2.kept hg12 (by simp), e3⟩)
        | k + 8, h => exact trivial
      · simp only [List.take_succ_cons, List.take_zero, relOps]
        refine ⟨fun VV y1 hg1 hV => ?_, fun VV y1 hg1 hV => ?_, fun VV y1 hg1 hV => ?_, fun VV y1 hg1 hV => ?_, fun VV y1 hg1 hV => ?_, fun VV y1 hg1 hV => ?_, fun VV y1 hg1 hV => ?_, fun VV y1 hg1 hV => ?_, trivial⟩
        · clear hV
          have hvy := HV.out.kept0 (G.trans HGx hg1); have hly := HLV.out.kept0 (G.trans HGx hg1); replace ho := Hx.kept ho hg1 (by simp); replace hsl := Hx.kept hsl hg1 (by simp); have ho_3 := ho.cell 3; have ho_f3 := ho.free 3; have ho_l := ho.lt; have hsl_0 := hsl.cell 0; have hsl_f0 := hsl.free 0; have hsl_1 := hsl.cell 1; have hsl_f1 := hsl.free 1; have hsl_2 := hsl.cell 2; have hsl_f2 := hsl.free 2; have hsl_3 := hsl.cell 3; have hsl_f3 := hsl.free 3; have hsl_4 := hsl.cell 4; have hsl_f4 := hsl.free 4; have hsl_l := hsl.lt
          simp only [putAll]
          go_wp2_with fail
          exact ⟨rfl, rfl, G.refl _ none, rfl⟩
        · have e0 := hV 0 (by kernel_rfl); clear hV
          have hvy := HV.out.kept0 (G.trans HGx hg1); have hly := HLV.out.kept0 (G.trans HGx hg1); replace ho := Hx.kept ho hg1 (by simp); replace hsl := Hx.kept hsl hg1 (by simp); have ho_3 := ho.cell 3; have ho_f3 := ho.free 3; have ho_l := ho.lt; have hsl_0 := hsl.cell 0; have hsl_f0 := hsl.free 0; have hsl_1 := hsl.cell 1; have hsl_f1 := hsl.free 1; have hsl_2 := hsl.cell 2; have hsl_f2 := hsl.free 2; have hsl_3 := hsl.cell 3; have hsl_f3 := hsl.free 3; have hsl_4 := hsl.cell 4; have hsl_f4 := hsl.free 4; have hsl_l := hsl.lt
          simp only [atS, List.getD_cons_zero] at e0
          simp only [putAll, e0]
          go_wp2_with fail
          exact ⟨rfl, rfl, G.refl _ none, rfl⟩
        · clear hV
          have hvy := HV.out.kept0 (G.trans HGx hg1); have hly := HLV.out.kept0 (G.trans HGx hg1); replace ho := Hx.kept ho hg1 (by simp); replace hsl := Hx.kept hsl hg1 (by simp); have ho_3 := ho.cell 3; have ho_f3 := ho.free 3; have ho_l := ho.lt; have hsl_0 := hsl.cell 0; have hsl_f0 := hsl.free 0; have hsl_1 := hsl.cell 1; have hsl_f1 := hsl.free 1; have hsl_2 := hsl.cell 2; have hsl_f2 := hsl.free 2; have hsl_3 := hsl.cell 3; have hsl_f3 := hsl.free 3; have hsl_4 := hsl.cell 4; have hsl_f4 := hsl.free 4; have hsl_l := hsl.lt
          simp only [putAll]
          go_wp2_with fail
          exact ⟨rfl, rfl, G.refl _ none, rfl⟩
        · clear hV
          have hvy := HV.out.kept0 (G.trans HGx hg1); have hly := HLV.out.kept0 (G.trans HGx hg1); replace ho := Hx.kept ho hg1 (by simp); replace hsl := Hx.kept hsl hg1 (by simp); have ho_3 := ho.cell 3; have ho_f3 := ho.free 3; have ho_l := ho.lt; have hsl_0 := hsl.cell 0; have hsl_f0 := hsl.free 0; have hsl_1 := hsl.cell 1; have hsl_f1 := hsl.free 1; have hsl_2 := hsl.cell 2; have hsl_f2 := hsl.free 2; have hsl_3 := hsl.cell 3; have hsl_f3 := hsl.free 3; have hsl_4 := hsl.cell 4; have hsl_f4 := hsl.free 4; have hsl_l := hsl.lt
          simp only [putAll]
          go_wp2_with fail
          exact ⟨rfl, rfl, G.refl _ none, rfl⟩
        · clear hV
          have hvy := HV.out.kept0 (G.trans HGx hg1); have hly := HLV.out.kept0 (G.trans HGx hg1); replace ho := Hx.kept ho hg1 (by simp); replace hsl := Hx.kept hsl hg1 (by simp); have ho_3 := ho.cell 3; have ho_f3 := ho.free 3; have ho_l := ho.lt; have hsl_0 := hsl.cell 0; have hsl_f0 := hsl.free 0; have hsl_1 := hsl.cell 1; have hsl_f1 := hsl.free 1; have hsl_2 := hsl.cell 2; have hsl_f2 := hsl.free 2; have hsl_3 := hsl.cell 3; have hsl_f3 := hsl.free 3; have hsl_4 := hsl.cell 4; have hsl_f4 := hsl.free 4; have hsl_l := hsl.lt
          simp only [putAll]
          go_wp2_with fail
          exact ⟨rfl, rfl, G.refl _ none, rfl⟩
        · clear hV
          have hvy := HV.out.kept0 (G.trans HGx hg1); have hly := HLV.out.kept0 (G.trans HGx hg1); replace ho := Hx.kept ho hg1 (by simp); replace hsl := Hx.kept hsl hg1 (by simp); have ho_3 := ho.cell 3; have ho_f3 := ho.free 3; have ho_l := ho.lt; have hsl_0 := hsl.cell 0; have hsl_f0 := hsl.free 0; have hsl_1 := hsl.cell 1; have hsl_f1 := hsl.free 1; have hsl_2 := hsl.cell 2; have hsl_f2 := hsl.free 2; have hsl_3 := hsl.cell 3; have hsl_f3 := hsl.free 3; have hsl_4 := hsl.cell 4; have hsl_f4 := hsl.free 4; have hsl_l := hsl.lt
          simp only [putAll]
          go_wp2_with fail
          exact ⟨rfl, rfl, G.refl _ none, rfl⟩
        · have e2 := hV 2 (by kernel_rfl); have e3 := hV 3 (by kernel_rfl); have e4 := hV 4 (by kernel_rfl); have e5 := hV 5 (by kernel_rfl); clear hV
          have hvy := HV.out.kept0 (G.trans HGx hg1); have hly := HLV.out.kept0 (G.trans HGx hg1); replace ho := Hx.kept ho hg1 (by simp); replace hsl := Hx.kept hsl hg1 (by simp); have ho_3 := ho.cell 3; have ho_f3 := ho.free 3; have ho_l := ho.lt; have hsl_0 := hsl.cell 0; have hsl_f0 := hsl.free 0; have hsl_1 := hsl.cell 1; have hsl_f1 := hsl.free 1; have hsl_2 := hsl.cell 2; have hsl_f2 := hsl.free 2; have hsl_3 := hsl.cell 3; have hsl_f3 := hsl.free 3; have hsl_4 := hsl.cell 4; have hsl_f4 := hsl.free 4; have hsl_l := hsl.lt
          simp only [atS, List.getD_cons_succ, List.getD_cons_zero] at e2 e3 e4 e5
          simp only [putAll, e2, e3, e4, e5]
          go_wp2_with (go_at_call 31; (with_reducible refine (HD.out _ hvy hly).mono ?_); rintro e wn ⟨rfl, hgn⟩)
          exact ⟨rfl, rfl, hgn, rfl⟩
        · have e6 := hV 6 (by kernel_rfl); clear hV
          have hvy := HV.out.kept0 (G.trans HGx hg1); have hly := HLV.out.kept0 (G.trans HGx hg1); replace ho := Hx.kept ho hg1 (by simp); replace hsl := Hx.kept hsl hg1 (by simp); have ho_3 := ho.cell 3; have ho_f3 := ho.free 3; have ho_l := ho.lt; have hsl_0 := hsl.cell 0; have hsl_f0 := hsl.free 0; have hsl_1 := hsl.cell 1; have hsl_f1 := hsl.free 1; have hsl_2 := hsl.cell 2; have hsl_f2 := hsl.free 2; have hsl_3 := hsl.cell 3; have hsl_f3 := hsl.free 3; have hsl_4 := hsl.cell 4; have hsl_f4 := hsl.free 4; have hsl_l := hsl.lt
          simp only [atS, List.getD_cons_succ, List.getD_cons_zero] at e6
          simp only [putAll, e6]
          go_wp2_with fail
          exact ⟨rfl, rfl, G.alloc (G.refl _ _) _, _, rfl, Hx.new _ _ _, hg1.size⟩
      · intro VV y1 hg1 hV
        have e0 := hV 0 (by omega); have e1 := hV 1 (by omega); have e2 := hV 2 (by omega); have e3 := hV 3 (by omega); have e4 := hV 4 (by omega); have e5 := hV 5 (by omega); have e6 := hV 6 (by omega); have e7 := hV 7 (by omega); clear hV
        simp only [atS, List.getD_cons_succ, List.getD_cons_zero] at e0 e1 e2 e3 e4 e5 e6 e7
        simp only [List.take_succ_cons, List.take_zero, List.drop_succ_cons, List.drop_zero, putAll, e0, e1, e2, e3, e4, e5, e6]
        replace ho := Hx.kept ho hg1 (by simp); replace hsl := Hx.kept hsl hg1 (by simp); have ho_3 := ho.cell 3; have ho_f3 := ho.free 3; have ho_l := ho.lt; have hsl_0 := hsl.cell 0; have hsl_f0 := hsl.free 0; have hsl_1 := hsl.cell 1; have hsl_f1 := hsl.free 1; have hsl_2 := hsl.cell 2; have hsl_f2 := hsl.free 2; have hsl_3 := hsl.cell 3; have hsl_f3 := hsl.free 3; have hsl_4 := hsl.cell 4; have hsl_f4 := hsl.free 4; have hsl_l := hsl.lt
        have hg2 := hg1
        clear hg1
        obtain ⟨R, e7, hR, hRl⟩ := e7
        simp only [e7]
        replace HGf := G.trans HGf hg2
        have HO1 := HO.kept0 hg2
        go_wp2_with (at_builtin; refine stop_of ?_)
        unfold StopP
        go_simp
        refine wpList_append_el valE rfl _ _ 22 28 rfl Tryz.underlying22 info_val wl.heap.size (.slice ua un uc) done rfl _ (vB D, vN D) 28 rfl ?_ ?_
        rotate_left
        exact ⟨HO1, hR, Nat.le_trans hsz hg2.size, by omega⟩
        intro g2 cap2 wa hown hgrow
        have HGa := G.trans' (row := none) HGf hgrow (fun c e => Or.inl (Nat.le_trans hgl.size (HO1.lt c e).1))
        replace ho := Hx.kept ho hgrow (fun e => by have := (HO1.lt O e.symm).1; omega)
        have ho_3 := ho.cell 3; have ho_f3 := ho.free 3; have ho_l := ho.lt
        have hsz3 : wl.heap.size ≤ wa.heap.size := Nat.le_trans hsz (Nat.le_trans hg2.size hgrow.size)
        have hne9 : (Value.slice (some ⟨g2, 0, none⟩) (done.length + 1) cap2).ownBlock ≠ some O := (fun e => by have := (hown.lt O e).1; omega)
        clear hgrow
        clear HD HONE hs hr hsl hsl_0 hsl_1 hsl_2 hsl_3 hsl_4 hsl_f0 hsl_f1 hsl_f2 hsl_f3 hsl_f4 hsl_l HGx
        go_wp2_with fail
        refine ⟨?_, by first | (simp [intOf]; done) | (simp [intOf]; omega)⟩
        exact ⟨j + 1, _, done ++ [(vB D, vN D)], by first | rfl | go_num, by omega, hT3, by simpa [World.setCell] using hsz3, G.set HGa _ (Or.inl hwfO), Hx.set ho _ _, EOwn.set hown hne9 _ _⟩
    · obtain rfl : j = S.vals.length := by omega
      have hr1 := Hx.kept hr HGf (by simp)
      have hrl := hr.lt
      have hneN : (Value.slice ua un uc).ownBlock ≠ some (w.heap.size + 1) := fun e => by have := (HO.lt _ e).1; have := hgl.size; omega
      have hneO2 : ¬ O = w.heap.size + 1 := by omega
      have hneO3 : ¬ w.heap.size + 1 = O := by omega
      rw [← HT.out] at hfin
      have hr1_0 := hr1.cell 0; have hr1_f0 := hr1.free 0; have hr1_1 := hr1.cell 1; have hr1_f1 := hr1.free 1; have hr1_2 := hr1.cell 2; have hr1_f2 := hr1.free 2; have hr1_3 := hr1.cell 3; have hr1_f3 := hr1.free 3; have hr1_4 := hr1.cell 4; have hr1_f4 := hr1.free 4; have hr1_l := hr1.lt; have ho_0 := ho.cell 0; have ho_1 := ho.cell 1; have ho_2 := ho.cell 2; have ho_3 := ho.cell 3; have ho_4 := ho.cell 4
      have HGe := G.trans HG HGf
      clear HT
      go_wp2_with fail
      refine ret_cell_tmp [.string (labelB nm (labTexts S.name L)), .int .i64 S.start, .int .i64 S.step, .slice ua un uc, .int .i64 S.cons] (w.heap.size + 1) 24 rfl rfl (Tryz.isAgg24 _) (Tryz.sizeOf24 _) rfl ?_ ?_
      · exact (by first | exact Hx.go hr1 | exact Hx.go2)
      · rw [hfin.out]
        exact ⟨_, rfl, (show ERow valE _ (.slice ua un uc) done from EOwn.row (E := 28) (base := wl.heap.size) (by have hb0 := (HO); (repeat first | with_reducible exact hb0 | with_reducible apply EOwn.drewN | with_reducible apply EOwn.drew | with_reducible apply EOwn.alloc | (with_reducible apply EOwn.set; (case hne => (first | assumption | omega | (simp; done) | (simp; omega))))))), (by exact G.go HGe)⟩
end Go.Proofs.YtkablhamnepfnaaGreatDoor
