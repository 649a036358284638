/-
  The walk of fstep.Apply. Printed by genfsapply.py.
-/
import Derived.Test.YtkablhamnepfnaaDoorFsClosE
import Derived.Test.YtkablhamnepfnaaDoorFsTab
import Derived.Test.YtkablhamnepfnaaDoorApplyAid
import Derived.Test.YtkablhamnepfnaaDoorSerIs
import Derived.Test.YtkablhamnepfnaaDoorSerLabel
import Derived.Test.YtkablhamnepfnaaDoorRefLabel
import Derived.Test.YtkablhamnepfnaaDoorDecPrint
namespace Go.Proofs.YtkablhamnepfnaaDoor
open Go.RowKit
/-- what a function makes of a series -/
def fsApply (nm : ByteArray) (S : Ser) (L : List (Bool × Int)) : Option Ser := if fsOk nm S L.length then some ⟨labelB nm (labTexts S.name L), S.start, S.step, fsVals nm S (kOf L) (decide (0 < L.length)), S.cons⟩ else none
set_option maxHeartbeats 16000000 in
set_option maxRecDepth 100000 in
theorem fsApply_any (nm : ByteArray) (S : Ser) (sv lv : Value) (L : List (Bool × Int)) (w : World) (h : ERow valE w sv S.vals) (hl : ERow valE w lv L) (hF : ∀ p ∈ L, -9223372036854775808 ≤ p.2 ∧ p.2 ≤ 9223372036854775807) (h1 : nm.size ≤ 100000) (h2 : S.name.size ≤ 100000) (h3 : S.vals.length ≤ 1000000) (h4 : L.length ≤ 100) (hp : Pow10 w) :
    Calls Tryd.prog 6 #[.string nm, .agg #[.string S.name, .int .i64 S.start, .int .i64 S.step, sv, .int .i64 S.cons], lv] w fun e w' => SerPost (fsApply nm S L) w e w' := by
  have HG := G.refl w none
  have HP := Lib.hid hp; clear hp
  have HF := Lib.hid hF; clear hF
  have HV := Lib.hid h
  have HLV := Lib.hid hl
  obtain ⟨A, c, rfl, q1, q2, q3⟩ := h
  clear q3
  obtain ⟨A2, c2, rfl, r1, r2, r3⟩ := hl
  have R3 := Lib.hid r3; clear r3
  obtain ⟨V, hV⟩ : ∃ V, Hid (fsApply nm S L = V) := ⟨_, Lib.hid rfl⟩
  rw [hV.out]
  have hQ : Hid (V = if fsOk nm S L.length then some ⟨labelB nm (labTexts S.name L), S.start, S.step, fsVals nm S (kOf L) (decide (0 < L.length)), S.cons⟩ else none) := Lib.hid hV.out.symm
  clear hV
  obtain ⟨ok, hokd⟩ : ∃ ok, Hid (fsOk nm S L.length = ok) := ⟨_, Lib.hid rfl⟩
  rw [hokd.out] at hQ
  have hOk := Lib.hid (show fsOk nm S L.length = (match fsIdx nm with | none => false | some i => isSer S && (decide (fsNeed i ≤ L.length) && decide (L.length ≤ fsMost i))) from rfl)
  go_enter Tryd.func6, Tryd.ntmps6
  go_upto_region 0 with (fail)
  go_cut [3, 4, 6, 7] (fun p3 p4 p6 p7 wc => p3 = .pointer (some ⟨w.heap.size, 0, none⟩) ∧ p4 = .pointer (some ⟨(w.heap.size + 1), 0, none⟩) ∧ p6 = .pointer (some ⟨(w.heap.size + 1 + 1), 0, none⟩) ∧ p7 = .bool false ∧ w.grownBy wc none ∧ Hx wc w.heap.size [.string nm] 9 ∧ Hx wc (w.heap.size + 1) [.string S.name, .int .i64 S.start, .int .i64 S.step, .slice A S.vals.length c, .int .i64 S.cons] 26 ∧ Hx wc (w.heap.size + 1 + 1) [.string ⟨#[]⟩, .int .i64 0, .int .i64 0, .slice none 0 0, .int .i64 0] 26)
  case first =>
    go_wp2_with fail
    go_meet
    exact ⟨rfl, rfl, rfl, rfl, (by exact G.go HG), Hx.alloc (Hx.alloc (Hx.new _ _ _) _) _, Hx.alloc (Hx.new' (by simp) rfl) _, Hx.new' (by simp) rfl⟩
  obtain ⟨rfl, rfl, rfl, rfl, HG, hn, hs, hr⟩ := hcut
  go_upto_region 1 with (fail)
  go_cut [3, 4, 6, 7, 8] (fun p3 p4 p6 p7 p8 wd => ∃ LB, p3 = .pointer (some ⟨w.heap.size, 0, none⟩) ∧ p4 = .pointer (some ⟨(w.heap.size + 1), 0, none⟩) ∧ p6 = .pointer (some ⟨(w.heap.size + 1 + 1), 0, none⟩) ∧ p7 = .bool false ∧ p8 = .slice (some ⟨LB, 0, none⟩) 8 8 ∧ w.grownBy wd none ∧ Hx wd w.heap.size [.string nm] 9 ∧ Hx wd (w.heap.size + 1) [.string S.name, .int .i64 S.start, .int .i64 S.step, .slice A S.vals.length c, .int .i64 S.cons] 26 ∧ Hx wd (w.heap.size + 1 + 1) [.string ⟨#[]⟩, .int .i64 0, .int .i64 0, .slice none 0 0, .int .i64 0] 26 ∧ Hx wd LB (fsRows.flatMap frowE.cells) 40)
  case first =>
    go_wp2_with (go_at_call 10; (with_reducible refine (fsRows_any _).mono ?_); rintro e wn ⟨LB, rfl, hLB, hgn⟩; replace HG := G.trans (w := w) (by exact G.go HG) hgn; replace hn := Hx.kept hn hgn (by simp); replace hs := Hx.kept hs hgn (by simp); replace hr := Hx.kept hr hgn (by simp); clear hgn)
    go_meet
    exact ⟨_, rfl, rfl, rfl, rfl, rfl, HG, hn, hs, hr, hLB⟩
  obtain ⟨LB, rfl, rfl, rfl, rfl, rfl, HG, hn, hs, hr, hLB⟩ := hcut
  have HR := ERow.of_hx (L := frowE) (ts := fsRows) (cap := 8) (by rw [fsRows_len]; omega) (by decide) hLB
  rw [fsRows_len] at HR
  go_upto_region 2 with (fail)
  go_cut [3, 4, 6, 7, 8, 9] (fun p3 p4 p6 p7 p8 p9 we => ∃ k : Int, p3 = .pointer (some ⟨w.heap.size, 0, none⟩) ∧ p4 = .pointer (some ⟨(w.heap.size + 1), 0, none⟩) ∧ p6 = .pointer (some ⟨(w.heap.size + 1 + 1), 0, none⟩) ∧ p7 = .bool false ∧ p8 = .slice (some ⟨LB, 0, none⟩) 8 8 ∧ p9 = .int .i64 k ∧ ((k = -1 ∧ fsIdx nm = none) ∨ ∃ i : Nat, k = i ∧ i < 8 ∧ fsIdx nm = some i) ∧ w.grownBy we none ∧ Hx we w.heap.size [.string nm] 9 ∧ Hx we (w.heap.size + 1) [.string S.name, .int .i64 S.start, .int .i64 S.step, .slice A S.vals.length c, .int .i64 S.cons] 26 ∧ Hx we (w.heap.size + 1 + 1) [.string ⟨#[]⟩, .int .i64 0, .int .i64 0, .slice none 0 0, .int .i64 0] 26 ∧ Hx we LB (fsRows.flatMap frowE.cells) 40)
  case first =>
    have HK := Lib.hid (fsFind_any fsRows _ nm _ HR _ hn)
    go_wp2_with (go_at_call 11; (with_reducible refine HK.out.mono ?_); rintro e wn hfp; rcases hfp with ⟨rfl, hno, hgn⟩ | ⟨i, hi, rfl, hnm, _, hgn⟩)
    all_goals go_meet
    · exact ⟨_, rfl, rfl, rfl, rfl, rfl, rfl, Or.inl ⟨rfl, fsIdx_none hno⟩, G.trans HG hgn, Hx.kept hn hgn (by simp), Hx.kept hs hgn (by simp), Hx.kept hr hgn (by simp), Hx.kept hLB hgn (by simp)⟩
    · exact ⟨_, rfl, rfl, rfl, rfl, rfl, rfl, Or.inr ⟨i, rfl, by rw [fsRows_len] at hi; omega, fsIdx_some i hi hnm⟩, G.trans HG hgn, Hx.kept hn hgn (by simp), Hx.kept hs hgn (by simp), Hx.kept hr hgn (by simp), Hx.kept hLB hgn (by simp)⟩
  clear HR
  obtain ⟨k, rfl, rfl, rfl, rfl, rfl, rfl, hk, HG, hn, hs, hr, hLB⟩ := hcut
  go_upto_region 3 with (fail)
  go_cut [3, 4, 6, 7, 8, 9, 44] (fun p3 p4 p6 p7 p8 p9 p44 wf => p3 = .pointer (some ⟨w.heap.size, 0, none⟩) ∧ p4 = .pointer (some ⟨(w.heap.size + 1), 0, none⟩) ∧ p6 = .pointer (some ⟨(w.heap.size + 1 + 1), 0, none⟩) ∧ p7 = .bool false ∧ p8 = .slice (some ⟨LB, 0, none⟩) 8 8 ∧ p9 = .int .i64 k ∧ p44 = .bool (!ok) ∧ w.grownBy wf none ∧ Hx wf w.heap.size [.string nm] 9 ∧ Hx wf (w.heap.size + 1) [.string S.name, .int .i64 S.start, .int .i64 S.step, .slice A S.vals.length c, .int .i64 S.cons] 26 ∧ Hx wf (w.heap.size + 1 + 1) [.string ⟨#[]⟩, .int .i64 0, .int .i64 0, .slice none 0 0, .int .i64 0] 26 ∧ Hx wf LB (fsRows.flatMap frowE.cells) 40)
  case first =>
    have HI := Lib.hid (fun w h => serIs_any S (.slice A S.vals.length c) w h)
    have hs_0 := hs.cell 0; have hs_1 := hs.cell 1; have hs_2 := hs.cell 2; have hs_3 := hs.cell 3; have hs_4 := hs.cell 4; have hs_f0 := hs.free 0; have hs_f1 := hs.free 1; have hs_f2 := hs.free 2; have hs_f3 := hs.free 3; have hs_f4 := hs.free 4; have hs_l := hs.lt
    cases hS : isSer S
    · have hok : ok = false := by rw [← hokd.out, hOk.out, hS]; split <;> rfl
      rw [hS] at HI
      subst hok
      clear hS
      rcases hk with ⟨rfl, hk⟩ | ⟨i, rfl, hi, hk⟩ <;>
      · go_wp2_with (go_at_call 13; (with_reducible refine (HI.out _ (HV.out.kept0 HG)).mono ?_); rintro e wn ⟨rfl, hgn⟩; replace HG := G.trans (w := w) (by exact G.go HG) hgn; replace hn := Hx.kept hn hgn (by simp); replace hs := Hx.kept hs hgn (by simp); replace hr := Hx.kept hr hgn (by simp); replace hLB := Hx.kept hLB hgn (by simp); clear hgn)
        go_meet
        exact ⟨rfl, rfl, rfl, rfl, rfl, rfl, by simp, HG, hn, hs, hr, hLB⟩
    rw [hS] at HI
    rcases hk with ⟨rfl, hk⟩ | ⟨i, rfl, hi, hk⟩
    · have hok : ok = false := by rw [← hokd.out, hOk.out, hk]
      subst hok
      clear hS
      go_wp2_with (go_at_call 13; (with_reducible refine (HI.out _ (HV.out.kept0 HG)).mono ?_); rintro e wn ⟨rfl, hgn⟩; replace HG := G.trans (w := w) (by exact G.go HG) hgn; replace hn := Hx.kept hn hgn (by simp); replace hs := Hx.kept hs hgn (by simp); replace hr := Hx.kept hr hgn (by simp); replace hLB := Hx.kept hLB hgn (by simp); clear hgn)
      go_meet
      exact ⟨rfl, rfl, rfl, rfl, rfl, rfl, by simp, HG, hn, hs, hr, hLB⟩
    have hok2 : ok = (decide (fsNeed i ≤ L.length) && decide (L.length ≤ fsMost i)) := by rw [← hokd.out, hOk.out, hk]; show (isSer S && _) = _; rw [hS, Bool.true_and]
    have hfc := Lib.hid (fun W (h : Hx W LB (fsRows.flatMap frowE.cells) 40) => fsCells h hi)
    clear hS hk
    generalize fsNeed i = n1 at *
    generalize fsMost i = n2 at *
    by_cases g1 : L.length < n1
    · rw [decide_eq_false (show ¬ n1 ≤ L.length by omega), Bool.false_and] at hok2
      subst hok2
      go_wp2_with (go_at_call 13; (with_reducible refine (HI.out _ (HV.out.kept0 HG)).mono ?_); rintro e wn ⟨rfl, hgn⟩; replace HG := G.trans (w := w) (by exact G.go HG) hgn; replace hn := Hx.kept hn hgn (by simp); replace hs := Hx.kept hs hgn (by simp); replace hr := Hx.kept hr hgn (by simp); replace hLB := Hx.kept hLB hgn (by simp); obtain ⟨y1, y2, _⟩ := hfc.out _ hLB; clear hgn)
      go_meet
      exact ⟨rfl, rfl, rfl, rfl, rfl, rfl, by simp, HG, hn, hs, hr, hLB⟩
    by_cases g2 : n2 < L.length
    · rw [decide_eq_true (show n1 ≤ L.length by omega), decide_eq_false (show ¬ L.length ≤ n2 by omega), Bool.true_and] at hok2
      subst hok2
      go_wp2_with (go_at_call 13; (with_reducible refine (HI.out _ (HV.out.kept0 HG)).mono ?_); rintro e wn ⟨rfl, hgn⟩; replace HG := G.trans (w := w) (by exact G.go HG) hgn; replace hn := Hx.kept hn hgn (by simp); replace hs := Hx.kept hs hgn (by simp); replace hr := Hx.kept hr hgn (by simp); replace hLB := Hx.kept hLB hgn (by simp); obtain ⟨y1, y2, _⟩ := hfc.out _ hLB; clear hgn)
      go_meet
      exact ⟨rfl, rfl, rfl, rfl, rfl, rfl, by simp, HG, hn, hs, hr, hLB⟩
    · rw [decide_eq_true (show n1 ≤ L.length by omega), decide_eq_true (show L.length ≤ n2 by omega), Bool.true_and] at hok2
      subst hok2
      go_wp2_with (go_at_call 13; (with_reducible refine (HI.out _ (HV.out.kept0 HG)).mono ?_); rintro e wn ⟨rfl, hgn⟩; replace HG := G.trans (w := w) (by exact G.go HG) hgn; replace hn := Hx.kept hn hgn (by simp); replace hs := Hx.kept hs hgn (by simp); replace hr := Hx.kept hr hgn (by simp); replace hLB := Hx.kept hLB hgn (by simp); obtain ⟨y1, y2, _⟩ := hfc.out _ hLB; clear hgn)
      go_meet
      exact ⟨rfl, rfl, rfl, rfl, rfl, rfl, by simp, HG, hn, hs, hr, hLB⟩
  obtain ⟨rfl, rfl, rfl, rfl, rfl, rfl, rfl, HG, hn, hs, hr, hLB⟩ := hcut
  cases ok
  · have hfin : Hid (V = none) := Lib.hid (by rw [hQ.out]; rfl)
    clear hk hOk hQ hokd
    have hr_0 := hr.cell 0; have hr_1 := hr.cell 1; have hr_2 := hr.cell 2; have hr_3 := hr.cell 3; have hr_4 := hr.cell 4; have hr_f0 := hr.free 0; have hr_f1 := hr.free 1; have hr_f2 := hr.free 2; have hr_f3 := hr.free 3; have hr_f4 := hr.free 4; have hr_l := hr.lt
    go_wp2_with fail
    refine ret_cell_tmp [.string ⟨#[]⟩, .int .i64 0, .int .i64 0, .slice none 0 0, .int .i64 0] (w.heap.size + 1 + 1) 26 rfl rfl (Tryd.isAgg26 _) (Tryd.sizeOf26 _) rfl ?_ (by rw [hfin.out]; exact ⟨.slice none 0 0, rfl, ERow.nil _, (by exact G.go HG)⟩)
    exact (by first | exact Hx.go hr | exact Hx.go2)
  have hfin : Hid (V = some ⟨labelB nm (labTexts S.name L), S.start, S.step, fsVals nm S (kOf L) (decide (0 < L.length)), S.cons⟩) := Lib.hid (by rw [hQ.out]; rfl)
  clear hQ
  have hok := hokd.out
  rw [hOk.out] at hok
  rcases hk with ⟨_, hk⟩ | ⟨i, rfl, hi, hk⟩
  · rw [hk] at hok; cases hok
  have hok : isSer S = true ∧ fsNeed i ≤ L.length ∧ L.length ≤ fsMost i := by
    rw [hk] at hok
    have hok : (isSer S && (decide (fsNeed i ≤ L.length) && decide (L.length ≤ fsMost i))) = true := hok
    simpa [Bool.and_eq_true] using hok
  rename World => wf
  obtain ⟨hS, hn1, hn2⟩ := hok
  have hL1 : L.length ≤ 1 := Nat.le_trans hn2 (fsMost_le i)
  obtain ⟨hstep, hst1, hst2, hvl, hcn1, hcn2, hall⟩ := isSer_parts hS
  have hall2 := Lib.hid hall
  have hvals : fsVals nm S (kOf L) (decide (0 < L.length)) = (List.range S.vals.length).map fun j => vP (fsV i S.step (decide (0 < L.length)) (kOf L) S.opts j) := by unfold fsVals; rw [hk]; rfl
  rw [hvals] at hfin
  have HDo := Lib.hid (fun W B (hwk : FAt W B ⟨S, kOf L, decide (0 < L.length)⟩ (.slice A S.vals.length c)) hv => fsDoes_any i (by rw [fsRows_len]; exact hi) W B ⟨S, kOf L, decide (0 < L.length)⟩ (.slice A S.vals.length c) hwk hv hall (by show S.vals.length ≤ 1000000; omega) (kOf_fits L))
  simp only [FsRow] at HDo
  clear hOk hokd hk hS hall hn1 hn2 hvals
  generalize hts0 : ((List.range S.vals.length).map fun j => vP (fsV i S.step (decide (0 < L.length)) (kOf L) S.opts j)) = ts0 at *
  go_upto_region 5 with (fail)
  go_cut [3, 4, 6, 7, 8, 9, 10] (fun p3 p4 p6 p7 p8 p9 p10 wg => ∃ B, p3 = .pointer (some ⟨w.heap.size, 0, none⟩) ∧ p4 = .pointer (some ⟨(w.heap.size + 1), 0, none⟩) ∧ p6 = .pointer (some ⟨(w.heap.size + 1 + 1), 0, none⟩) ∧ p7 = .bool false ∧ p8 = .slice (some ⟨LB, 0, none⟩) 8 8 ∧ p9 = .int .i64 i ∧ p10 = .pointer (some ⟨B, 0, none⟩) ∧ wf.heap.size ≤ B ∧ wf.grownBy wg none ∧ Hx wg B [.string S.name, .int .i64 S.start, .int .i64 S.step, .slice A S.vals.length c, .int .i64 S.cons, .bool false, .int .i64 0, .bool false] 44)
  case first =>
    have HGf := G.refl wf none
    have hs_0 := hs.cell 0; have hs_1 := hs.cell 1; have hs_2 := hs.cell 2; have hs_3 := hs.cell 3; have hs_4 := hs.cell 4; have hs_f0 := hs.free 0; have hs_f1 := hs.free 1; have hs_f2 := hs.free 2; have hs_f3 := hs.free 3; have hs_f4 := hs.free 4; have hs_l := hs.lt
    go_wp2_with fail
    go_meet
    exact ⟨_, rfl, rfl, rfl, rfl, rfl, rfl, rfl, Nat.le_refl _, (by exact G.go HGf), Hx.new _ _ _⟩
  obtain ⟨B, rfl, rfl, rfl, rfl, rfl, rfl, rfl, hB, hgG, hw⟩ := hcut
  rename World => wg
  have hBl := hw.lt
  go_upto_region 6 with (fail)
  go_cut [3, 4, 6, 7, 8, 9, 10, 11] (fun p3 p4 p6 p7 p8 p9 p10 p11 wh => p3 = .pointer (some ⟨w.heap.size, 0, none⟩) ∧ p4 = .pointer (some ⟨(w.heap.size + 1), 0, none⟩) ∧ p6 = .pointer (some ⟨(w.heap.size + 1 + 1), 0, none⟩) ∧ p7 = .bool false ∧ p8 = .slice (some ⟨LB, 0, none⟩) 8 8 ∧ p9 = .int .i64 i ∧ p10 = .pointer (some ⟨B, 0, none⟩) ∧ wg.heap.size ≤ wh.heap.size ∧ wf.grownBy wh none ∧ Hx wh B [.string S.name, .int .i64 S.start, .int .i64 S.step, .slice A S.vals.length c, .int .i64 S.cons, .bool (vB (kAt L 0)), .int .i64 (vN (kAt L 0)), .bool (decide (0 < 0))] 44 ∧ EOwn strE 9 wh wg.heap.size p11 [S.name])
  case first =>
    have hs1 := Hx.kept hs hgG (by simp)
    have hs_0 := hs1.cell 0; have hs_l := hs1.lt
    go_wp2_with fail
    go_meet
    exact ⟨rfl, rfl, rfl, rfl, rfl, rfl, rfl, by simp, (by exact G.go hgG), Hx.alloc hw _, by refine EOwn.of_hx (L := strE) (ts := [S.name]) ?_ (by simp) rfl (by decide); exact Hx.new' (by simp) rfl⟩
  obtain ⟨rfl, rfl, rfl, rfl, rfl, rfl, rfl, hsz, HGf, hw, HO⟩ := hcut
  go_wp2_with fail
  go_loopw [11, 13, 54] (fun tv _ iv wr => ∃ (j : Nat) (ts : List ByteArray), iv = .int .i64 j ∧ j ≤ L.length ∧ Hid (ts = (labTexts S.name L).take (j + 1)) ∧ ts.length ≤ 101 ∧ wg.heap.size ≤ wr.heap.size ∧ wf.grownBy wr none ∧ Hx wr B [.string S.name, .int .i64 S.start, .int .i64 S.step, .slice A S.vals.length c, .int .i64 S.cons, .bool (vB (kAt L j)), .int .i64 (vN (kAt L j)), .bool (decide (0 < j))] 44 ∧ EOwn strE 9 wr wg.heap.size tv ts) (fun _ _ iv _ => L.length - (intOf iv).toNat)
  case atStart => exact ⟨0, _, rfl, by omega, Lib.hid rfl, by simp [labTexts], hsz, HGf, hw, HO⟩
  case round =>
    clear HGf hw HO hsz
    obtain ⟨j, ts, rfl, hj, HT, hts, hsz, HGf, hw, HO⟩ := hrel
    by_cases hlt : j < L.length
    · clear HDo hts0 hfin
      obtain rfl : j = 0 := by omega
      obtain ⟨b2, o2, rfl, hb2, hc2⟩ := R3.out (by omega)
      obtain ⟨x0, x1⟩ := valCells hc2 (G.trans HG HGf) hb2 hlt
      have hfn := HF.out L[0] (List.getElem_mem hlt)
      have HPr := Lib.hid (fun w h => print_any L[0].1 L[0].2 w hfn.1 hfn.2 h)
      have hst := labTexts_take (nm := S.name) hlt
      have HT2 : Hid (ts ++ [printV L[0].1 L[0].2] = (labTexts S.name L).take (1 + 1)) := Lib.hid (by rw [HT.out]; exact hst.symm)
      have hk1 : Hid (kAt L 1 = vK L[0].1 L[0].2) := Lib.hid (by cases L with | nil => simp at hlt | cons p r => rfl)
      have hol : ∀ c, u11.ownBlock = some c → c < wr.heap.size := fun c e => (HO.lt c e).2
      have htl : ts.length ≤ 1 := by rw [HT.out, labTexts_len _ _ _ (by omega)]; omega
      have hneB : ¬ B = wr.heap.size := by omega
      have hneC : ¬ wr.heap.size = B := by omega
      have HIs := Lib.hid (fun w => fixedIs_any w L[0].1 L[0].2)
      rw [show kAt L 0 = none from rfl] at hw
      clear hc2 hst HT hfn
      generalize printV L[0].1 L[0].2 = pr at *
      generalize L[0].1 = vb at *
      generalize L[0].2 = vn at *
      have hw_5 := hw.cell 5; have hw_f5 := hw.free 5; have hw_6 := hw.cell 6; have hw_f6 := hw.free 6; have hw_7 := hw.cell 7; have hw_f7 := hw.free 7; have hw_l := hw.lt
      simp only [Nat.zero_mul, Nat.add_zero] at x0 x1
      cases vb
      · rw [show vK false vn = none from rfl] at hk1
        go_wp2_with (first | (go_at_call 14; (with_reducible refine (HPr.out _ (Pow10.kept (w := w) HP.out (by have hb0 := (G.trans HG HGf); (repeat first | with_reducible exact hb0 | with_reducible refine G.drewN ?_ _ | with_reducible refine G.drew ?_ | with_reducible refine G.alloc ?_ _ | with_reducible refine G.set ?_ _ (Or.inr rfl) | (with_reducible refine G.set ?_ _ (Or.inl ?_); rotate_left; focus (first | omega | (simp; done) | (simp; omega))))))).mono ?_); rintro e wn ⟨rfl, hgn⟩; have hkb := Hx.kept (Hx.new wr #[.bool false, .int .i64 vn] 28) hgn (by simp); replace hw := Hx.kept (Hx.alloc hw _) hgn (by simp); replace HO := EOwn.kept0 (EOwn.alloc HO (.cells #[.bool false, .int .i64 vn] 28)) hgn; replace HGf := G.trans (w := wf) (by exact G.go HGf) hgn; have hsz2 : wg.heap.size ≤ wn.heap.size := Nat.le_trans hsz (Nat.le_trans (by simp) hgn.size); have hw_5 := hw.cell 5; have hw_f5 := hw.free 5; have hw_6 := hw.cell 6; have hw_f6 := hw.free 6; have hw_7 := hw.cell 7; have hw_f7 := hw.free 7; have hw_l := hw.lt; have hkb_0 := hkb.cell 0; have hkb_1 := hkb.cell 1; have hkb_f0 := hkb.free 0; have hkb_f1 := hkb.free 1; have hkb_l := hkb.lt; clear hgn) | (at_builtin; refine wpList_append_el strE rfl _ _ 45 9 rfl Tryd.underlying45 info_strL wg.heap.size u11 ts rfl _ pr 9 rfl ?_ ?_; rotate_left; exact ⟨(by have hb0 := (HO); (repeat first | with_reducible exact hb0 | with_reducible apply EOwn.drewN | with_reducible apply EOwn.drew | with_reducible apply EOwn.alloc | (with_reducible apply EOwn.set; (case hne => (first | assumption | omega | (simp; done) | (simp; omega)))))), (by have hb0 := (Hx.new wn #[.string pr] 9); apply Hx.conv; (case h => (repeat first | with_reducible exact hb0 | with_reducible apply Hx.drewN | with_reducible apply Hx.drew | with_reducible apply Hx.set | with_reducible exact Hx.new _ _ _ | (with_reducible apply Hx.new'; (case hl => rfl); (case hb => (first | omega | (simp; done) | (simp; omega)))) | with_reducible apply Hx.alloc | (with_reducible apply Hx.other; (case hne => (first | omega | (simp; done) | (simp; omega)))))); (case e => (first | rfl | (simp; done) | (simp; omega)))), Nat.le_trans hsz2 (by simp), by omega⟩; intro g2 cap2 wa hown hgrow; have hne9 : (Value.slice (some ⟨g2, 0, none⟩) (ts.length + 1) cap2).ownBlock ≠ some B := (fun e => by have := (hown.lt B e).1; omega); have HGa := G.trans' (row := none) (G.alloc HGf _) hgrow (fun c e => Or.inl (Nat.le_trans hgG.size (HO.lt c e).1)); replace hw := Hx.kept (Hx.alloc hw _) hgrow (fun e => by have := (HO.lt B e.symm).1; omega); replace hkb := Hx.kept (Hx.alloc hkb _) hgrow (fun e => by have := hol _ e.symm; omega); have hsz3 : wg.heap.size ≤ wa.heap.size := Nat.le_trans hsz2 (Nat.le_trans (by simp) hgrow.size); have hw_5 := hw.cell 5; have hw_f5 := hw.free 5; have hw_6 := hw.cell 6; have hw_f6 := hw.free 6; have hw_7 := hw.cell 7; have hw_f7 := hw.free 7; have hw_l := hw.lt; have hkb_0 := hkb.cell 0; have hkb_1 := hkb.cell 1; have hkb_f0 := hkb.free 0; have hkb_f1 := hkb.free 1; have hkb_l := hkb.lt; clear hgrow))
        refine ⟨?_, by first | (simp [intOf]; done) | (simp [intOf]; omega)⟩
        refine ⟨1, ts ++ [pr], rfl, by omega, HT2, by rw [List.length_append, List.length_singleton]; omega, by simpa [World.setCell] using hsz3, (by exact G.go HGa), ?_, (by have hb0 := (hown); (repeat first | with_reducible exact hb0 | with_reducible apply EOwn.drewN | with_reducible apply EOwn.drew | with_reducible apply EOwn.alloc | (with_reducible apply EOwn.set; (case hne => (first | assumption | omega | (simp; done) | (simp; omega))))))⟩
        rw [hk1.out]
        exact (by first | exact Hx.go hw | exact Hx.go2)
      rw [show isR true vn = isR true vn from rfl] at HIs
      have hkk : vK true vn = if isR true vn then some vn else none := rfl
      cases hir : isR true vn
      · rw [hir] at HIs hkk
        rw [show vK true vn = none from hkk] at hk1
        clear hkk hir
        go_wp2_with (first | (go_at_call 14; (with_reducible refine (HPr.out _ (Pow10.kept (w := w) HP.out (by have hb0 := (G.trans HG HGf); (repeat first | with_reducible exact hb0 | with_reducible refine G.drewN ?_ _ | with_reducible refine G.drew ?_ | with_reducible refine G.alloc ?_ _ | with_reducible refine G.set ?_ _ (Or.inr rfl) | (with_reducible refine G.set ?_ _ (Or.inl ?_); rotate_left; focus (first | omega | (simp; done) | (simp; omega))))))).mono ?_); rintro e wn ⟨rfl, hgn⟩; have hkb := Hx.kept (Hx.new wr #[.bool true, .int .i64 vn] 28) hgn (by simp); replace hw := Hx.kept (Hx.alloc hw _) hgn (by simp); replace HO := EOwn.kept0 (EOwn.alloc HO (.cells #[.bool true, .int .i64 vn] 28)) hgn; replace HGf := G.trans (w := wf) (by exact G.go HGf) hgn; have hsz2 : wg.heap.size ≤ wn.heap.size := Nat.le_trans hsz (Nat.le_trans (by simp) hgn.size); have hw_5 := hw.cell 5; have hw_f5 := hw.free 5; have hw_6 := hw.cell 6; have hw_f6 := hw.free 6; have hw_7 := hw.cell 7; have hw_f7 := hw.free 7; have hw_l := hw.lt; have hkb_0 := hkb.cell 0; have hkb_1 := hkb.cell 1; have hkb_f0 := hkb.free 0; have hkb_f1 := hkb.free 1; have hkb_l := hkb.lt; clear hgn) | (at_builtin; refine wpList_append_el strE rfl _ _ 45 9 rfl Tryd.underlying45 info_strL wg.heap.size u11 ts rfl _ pr 9 rfl ?_ ?_; rotate_left; exact ⟨(by have hb0 := (HO); (repeat first | with_reducible exact hb0 | with_reducible apply EOwn.drewN | with_reducible apply EOwn.drew | with_reducible apply EOwn.alloc | (with_reducible apply EOwn.set; (case hne => (first | assumption | omega | (simp; done) | (simp; omega)))))), (by have hb0 := (Hx.new wn #[.string pr] 9); apply Hx.conv; (case h => (repeat first | with_reducible exact hb0 | with_reducible apply Hx.drewN | with_reducible apply Hx.drew | with_reducible apply Hx.set | with_reducible exact Hx.new _ _ _ | (with_reducible apply Hx.new'; (case hl => rfl); (case hb => (first | omega | (simp; done) | (simp; omega)))) | with_reducible apply Hx.alloc | (with_reducible apply Hx.other; (case hne => (first | omega | (simp; done) | (simp; omega)))))); (case e => (first | rfl | (simp; done) | (simp; omega)))), Nat.le_trans hsz2 (by simp), by omega⟩; intro g2 cap2 wa hown hgrow; have hne9 : (Value.slice (some ⟨g2, 0, none⟩) (ts.length + 1) cap2).ownBlock ≠ some B := (fun e => by have := (hown.lt B e).1; omega); have HGa := G.trans' (row := none) (G.alloc HGf _) hgrow (fun c e => Or.inl (Nat.le_trans hgG.size (HO.lt c e).1)); replace hw := Hx.kept (Hx.alloc hw _) hgrow (fun e => by have := (HO.lt B e.symm).1; omega); replace hkb := Hx.kept (Hx.alloc hkb _) hgrow (fun e => by have := hol _ e.symm; omega); have hsz3 : wg.heap.size ≤ wa.heap.size := Nat.le_trans hsz2 (Nat.le_trans (by simp) hgrow.size); have hw_5 := hw.cell 5; have hw_f5 := hw.free 5; have hw_6 := hw.cell 6; have hw_f6 := hw.free 6; have hw_7 := hw.cell 7; have hw_f7 := hw.free 7; have hw_l := hw.lt; have hkb_0 := hkb.cell 0; have hkb_1 := hkb.cell 1; have hkb_f0 := hkb.free 0; have hkb_f1 := hkb.free 1; have hkb_l := hkb.lt; clear hgrow) | (go_at_call 15; (with_reducible refine (HIs.out _).mono ?_); rintro e wb ⟨rfl, hgn⟩; replace hw := Hx.kept (Hx.set hw _ _) hgn (by simp); simp only [List.set_cons_zero, List.set_cons_succ] at hw; replace hkb := Hx.kept (Hx.other hkb hneC _ _) hgn (by simp); replace hown := EOwn.kept0 (EOwn.set hown hne9 _ _) hgn; replace HGa := G.trans (w := wf) (G.set HGa _ (Or.inl hB)) hgn; have hsz4 : wg.heap.size ≤ wb.heap.size := Nat.le_trans hsz3 (Nat.le_trans (by simp [World.setCell]) hgn.size); have hw_5 := hw.cell 5; have hw_f5 := hw.free 5; have hw_6 := hw.cell 6; have hw_f6 := hw.free 6; have hw_7 := hw.cell 7; have hw_f7 := hw.free 7; have hw_l := hw.lt; have hkb_0 := hkb.cell 0; have hkb_1 := hkb.cell 1; have hkb_f0 := hkb.free 0; have hkb_f1 := hkb.free 1; have hkb_l := hkb.lt; clear hgn))
        refine ⟨?_, by first | (simp [intOf]; done) | (simp [intOf]; omega)⟩
        refine ⟨1, ts ++ [pr], rfl, by omega, HT2, by rw [List.length_append, List.length_singleton]; omega, by simpa [World.setCell] using hsz4, (by exact G.go HGa), ?_, (by have hb0 := (hown); (repeat first | with_reducible exact hb0 | with_reducible apply EOwn.drewN | with_reducible apply EOwn.drew | with_reducible apply EOwn.alloc | (with_reducible apply EOwn.set; (case hne => (first | assumption | omega | (simp; done) | (simp; omega))))))⟩
        rw [hk1.out]
        exact (by first | exact Hx.go hw | exact Hx.go2)
      · rw [hir] at HIs hkk
        rw [show vK true vn = some vn from hkk] at hk1
        clear hkk hir
        go_wp2_with (first | (go_at_call 14; (with_reducible refine (HPr.out _ (Pow10.kept (w := w) HP.out (by have hb0 := (G.trans HG HGf); (repeat first | with_reducible exact hb0 | with_reducible refine G.drewN ?_ _ | with_reducible refine G.drew ?_ | with_reducible refine G.alloc ?_ _ | with_reducible refine G.set ?_ _ (Or.inr rfl) | (with_reducible refine G.set ?_ _ (Or.inl ?_); rotate_left; focus (first | omega | (simp; done) | (simp; omega))))))).mono ?_); rintro e wn ⟨rfl, hgn⟩; have hkb := Hx.kept (Hx.new wr #[.bool true, .int .i64 vn] 28) hgn (by simp); replace hw := Hx.kept (Hx.alloc hw _) hgn (by simp); replace HO := EOwn.kept0 (EOwn.alloc HO (.cells #[.bool true, .int .i64 vn] 28)) hgn; replace HGf := G.trans (w := wf) (by exact G.go HGf) hgn; have hsz2 : wg.heap.size ≤ wn.heap.size := Nat.le_trans hsz (Nat.le_trans (by simp) hgn.size); have hw_5 := hw.cell 5; have hw_f5 := hw.free 5; have hw_6 := hw.cell 6; have hw_f6 := hw.free 6; have hw_7 := hw.cell 7; have hw_f7 := hw.free 7; have hw_l := hw.lt; have hkb_0 := hkb.cell 0; have hkb_1 := hkb.cell 1; have hkb_f0 := hkb.free 0; have hkb_f1 := hkb.free 1; have hkb_l := hkb.lt; clear hgn) | (at_builtin; refine wpList_append_el strE rfl _ _ 45 9 rfl Tryd.underlying45 info_strL wg.heap.size u11 ts rfl _ pr 9 rfl ?_ ?_; rotate_left; exact ⟨(by have hb0 := (HO); (repeat first | with_reducible exact hb0 | with_reducible apply EOwn.drewN | with_reducible apply EOwn.drew | with_reducible apply EOwn.alloc | (with_reducible apply EOwn.set; (case hne => (first | assumption | omega | (simp; done) | (simp; omega)))))), (by have hb0 := (Hx.new wn #[.string pr] 9); apply Hx.conv; (case h => (repeat first | with_reducible exact hb0 | with_reducible apply Hx.drewN | with_reducible apply Hx.drew | with_reducible apply Hx.set | with_reducible exact Hx.new _ _ _ | (with_reducible apply Hx.new'; (case hl => rfl); (case hb => (first | omega | (simp; done) | (simp; omega)))) | with_reducible apply Hx.alloc | (with_reducible apply Hx.other; (case hne => (first | omega | (simp; done) | (simp; omega)))))); (case e => (first | rfl | (simp; done) | (simp; omega)))), Nat.le_trans hsz2 (by simp), by omega⟩; intro g2 cap2 wa hown hgrow; have hne9 : (Value.slice (some ⟨g2, 0, none⟩) (ts.length + 1) cap2).ownBlock ≠ some B := (fun e => by have := (hown.lt B e).1; omega); have HGa := G.trans' (row := none) (G.alloc HGf _) hgrow (fun c e => Or.inl (Nat.le_trans hgG.size (HO.lt c e).1)); replace hw := Hx.kept (Hx.alloc hw _) hgrow (fun e => by have := (HO.lt B e.symm).1; omega); replace hkb := Hx.kept (Hx.alloc hkb _) hgrow (fun e => by have := hol _ e.symm; omega); have hsz3 : wg.heap.size ≤ wa.heap.size := Nat.le_trans hsz2 (Nat.le_trans (by simp) hgrow.size); have hw_5 := hw.cell 5; have hw_f5 := hw.free 5; have hw_6 := hw.cell 6; have hw_f6 := hw.free 6; have hw_7 := hw.cell 7; have hw_f7 := hw.free 7; have hw_l := hw.lt; have hkb_0 := hkb.cell 0; have hkb_1 := hkb.cell 1; have hkb_f0 := hkb.free 0; have hkb_f1 := hkb.free 1; have hkb_l := hkb.lt; clear hgrow) | (go_at_call 15; (with_reducible refine (HIs.out _).mono ?_); rintro e wb ⟨rfl, hgn⟩; replace hw := Hx.kept (Hx.set hw _ _) hgn (by simp); simp only [List.set_cons_zero, List.set_cons_succ] at hw; replace hkb := Hx.kept (Hx.other hkb hneC _ _) hgn (by simp); replace hown := EOwn.kept0 (EOwn.set hown hne9 _ _) hgn; replace HGa := G.trans (w := wf) (G.set HGa _ (Or.inl hB)) hgn; have hsz4 : wg.heap.size ≤ wb.heap.size := Nat.le_trans hsz3 (Nat.le_trans (by simp [World.setCell]) hgn.size); have hw_5 := hw.cell 5; have hw_f5 := hw.free 5; have hw_6 := hw.cell 6; have hw_f6 := hw.free 6; have hw_7 := hw.cell 7; have hw_f7 := hw.free 7; have hw_l := hw.lt; have hkb_0 := hkb.cell 0; have hkb_1 := hkb.cell 1; have hkb_f0 := hkb.free 0; have hkb_f1 := hkb.free 1; have hkb_l := hkb.lt; clear hgn))
        refine ⟨?_, by first | (simp [intOf]; done) | (simp [intOf]; omega)⟩
        refine ⟨1, ts ++ [pr], rfl, by omega, HT2, by rw [List.length_append, List.length_singleton]; omega, by simpa [World.setCell] using hsz4, (by exact G.go HGa), ?_, (by have hb0 := (hown); (repeat first | with_reducible exact hb0 | with_reducible apply EOwn.drewN | with_reducible apply EOwn.drew | with_reducible apply EOwn.alloc | (with_reducible apply EOwn.set; (case hne => (first | assumption | omega | (simp; done) | (simp; omega))))))⟩
        rw [hk1.out]
        exact (by first | exact Hx.go hw | exact Hx.go2)
    · have hjl : j = L.length := by omega
      subst hjl
      have hts2 : ts = labTexts S.name L := by rw [HT.out, labTexts_all (by omega)]
      rw [kAt_end rfl] at hw
      have hjc := joinC_labTexts S.name L
      subst hts2
      have HLb := Lib.hid (fun w v h => label18_any nm v (labTexts S.name L) w h (by simp [labTexts]) (by omega) (by simp [labTexts]; omega))
      have hs1 := Hx.kept hs HGf (by simp)
      have hn1 := Hx.kept hn HGf (by simp)
      have hr1 := Hx.kept hr HGf (by simp)
      have hir2 : i < fsRows.length := by rw [fsRows_len]; exact hi
      have eg := (fsRow_at i hir2).2.2
      have hcr := (fsCells hLB hi).2.2
      rw [show (fsRows[i]'hir2).f = Value.func (.func (fsRows[i]'hir2).fn) #[] #[] from rfl] at hcr
      generalize (fsRows[i]'hir2).fn = g at *
      have hwF : FAt wr B ⟨S, kOf L, decide (0 < L.length)⟩ (.slice A S.vals.length c) := hw
      have HGw := G.trans HG HGf
      have HT0 := Lib.hid hts0
      have hrlt := hr.lt
      have hszwr := HGf.size
      clear HT hts hjc hlt hj hs hn hr hts0 HF HLV R3 HP
      go_upto_region 15 with (fail)
      refine wp_region_rel (n := 17) (S := [fun v _ => v = .string nm, fun v _ => v = u11, fun v _ => v = .string (labelB nm (labTexts S.name L)), fun v _ => v = .pointer (some ⟨(w.heap.size + 1), 1, none⟩), fun v _ => v = .int .i64 S.start, fun v _ => v = .pointer (some ⟨(w.heap.size + 1), 2, none⟩), fun v _ => v = .int .i64 S.step, fun v _ => v = .slice (some ⟨LB, 0, none⟩) 8 8, fun v _ => v = .int .i64 i, fun v _ => v = .pointer (some ⟨LB, i * 4, none⟩), fun v _ => v = .pointer (some ⟨LB, i * 4 + 3, none⟩), fun v _ => v = .func (.func g) #[] #[], fun v _ => v = .pointer (some ⟨B, 0, none⟩), fun v w => ∃ ua uc, v = .slice ua ts0.length uc ∧ EOwn valE 28 w wr.heap.size (.slice ua ts0.length uc) ts0, fun v _ => v = .pointer (some ⟨(w.heap.size + 1), 4, none⟩), fun v _ => v = .int .i64 S.cons, fun v w => ∃ ua uc, v = .agg #[.string (labelB nm (labTexts S.name L)), .int .i64 S.start, .int .i64 S.step, .slice ua ts0.length uc, .int .i64 S.cons] ∧ EOwn valE 28 w wr.heap.size (.slice ua ts0.length uc) ts0]) (G.refl _ none) (by kernel_rfl) (by kernel_rfl) ?_ ?_ ?_
      · intro i v y1 y2 hg12 hS
        match i, hS with
        | 0, h => exact h
        | 1, h => exact h
        | 2, h => exact h
        | 3, h => exact h
        | 4, h => exact h
        | 5, h => exact h
        | 6, h => exact h
        | 7, h => exact h
        | 8, h => exact h
        | 9, h => exact h
        | 10, h => exact h
        | 11, h => exact h
        | 12, h => exact h
        | 13, h => exact (let ⟨ua, uc, e1, e2⟩ := h; ⟨ua, uc, e1, e2.kept0 hg12⟩)
        | 14, h => exact h
        | 15, h => exact h
        | 16, h => exact (let ⟨ua, uc, e1, e2⟩ := h; ⟨ua, uc, e1, e2.kept0 hg12⟩)
        | k + 17, h => exact trivial
      · simp only [List.take_succ_cons, List.take_zero, relOps]
        refine ⟨fun VV y1 hg1 hV => ?_, fun VV y1 hg1 hV => ?_, fun VV y1 hg1 hV => ?_, fun VV y1 hg1 hV => ?_, fun VV y1 hg1 hV => ?_, fun VV y1 hg1 hV => ?_, fun VV y1 hg1 hV => ?_, fun VV y1 hg1 hV => ?_, fun VV y1 hg1 hV => ?_, fun VV y1 hg1 hV => ?_, fun VV y1 hg1 hV => ?_, fun VV y1 hg1 hV => ?_, fun VV y1 hg1 hV => ?_, fun VV y1 hg1 hV => ?_, fun VV y1 hg1 hV => ?_, fun VV y1 hg1 hV => ?_, fun VV y1 hg1 hV => ?_, trivial⟩
        · clear hV
          have hrow := HO.row.kept0 hg1; have hvy := HV.out.kept0 (G.trans HGw hg1); have hwk := FAt.kept hwF hg1 (by simp); have hcy := (G.cell (G.trans HGf hg1) (a := ⟨LB, i * 4 + 3, none⟩) hLB.lt (by simp)).trans hcr; replace hs1 := Hx.kept hs1 hg1 (by simp); replace hn1 := Hx.kept hn1 hg1 (by simp); replace hr1 := Hx.kept hr1 hg1 (by simp); have hs1_0 := hs1.cell 0; have hs1_1 := hs1.cell 1; have hs1_2 := hs1.cell 2; have hs1_3 := hs1.cell 3; have hs1_4 := hs1.cell 4; have hs1_f0 := hs1.free 0; have hs1_f1 := hs1.free 1; have hs1_f2 := hs1.free 2; have hs1_f3 := hs1.free 3; have hs1_f4 := hs1.free 4; have hs1_l := hs1.lt; have hn1_0 := hn1.cell 0; have hn1_f0 := hn1.free 0; have hn1_l := hn1.lt; have hr1_0 := hr1.cell 0; have hr1_1 := hr1.cell 1; have hr1_2 := hr1.cell 2; have hr1_3 := hr1.cell 3; have hr1_4 := hr1.cell 4; have hr1_f0 := hr1.free 0; have hr1_f1 := hr1.free 1; have hr1_f2 := hr1.free 2; have hr1_f3 := hr1.free 3; have hr1_f4 := hr1.free 4; have hr1_l := hr1.lt
          simp only [putAll]
          go_wp2_with fail
          exact ⟨rfl, rfl, G.refl _ none, rfl⟩
        · clear hV
          have hrow := HO.row.kept0 hg1; have hvy := HV.out.kept0 (G.trans HGw hg1); have hwk := FAt.kept hwF hg1 (by simp); have hcy := (G.cell (G.trans HGf hg1) (a := ⟨LB, i * 4 + 3, none⟩) hLB.lt (by simp)).trans hcr; replace hs1 := Hx.kept hs1 hg1 (by simp); replace hn1 := Hx.kept hn1 hg1 (by simp); replace hr1 := Hx.kept hr1 hg1 (by simp); have hs1_0 := hs1.cell 0; have hs1_1 := hs1.cell 1; have hs1_2 := hs1.cell 2; have hs1_3 := hs1.cell 3; have hs1_4 := hs1.cell 4; have hs1_f0 := hs1.free 0; have hs1_f1 := hs1.free 1; have hs1_f2 := hs1.free 2; have hs1_f3 := hs1.free 3; have hs1_f4 := hs1.free 4; have hs1_l := hs1.lt; have hn1_0 := hn1.cell 0; have hn1_f0 := hn1.free 0; have hn1_l := hn1.lt; have hr1_0 := hr1.cell 0; have hr1_1 := hr1.cell 1; have hr1_2 := hr1.cell 2; have hr1_3 := hr1.cell 3; have hr1_4 := hr1.cell 4; have hr1_f0 := hr1.free 0; have hr1_f1 := hr1.free 1; have hr1_f2 := hr1.free 2; have hr1_f3 := hr1.free 3; have hr1_f4 := hr1.free 4; have hr1_l := hr1.lt
          simp only [putAll]
          go_wp2_with fail
          exact ⟨rfl, rfl, G.refl _ none, rfl⟩
        · have e0 := hV 0 (by kernel_rfl); have e1 := hV 1 (by kernel_rfl); clear hV
          have hrow := HO.row.kept0 hg1; have hvy := HV.out.kept0 (G.trans HGw hg1); have hwk := FAt.kept hwF hg1 (by simp); have hcy := (G.cell (G.trans HGf hg1) (a := ⟨LB, i * 4 + 3, none⟩) hLB.lt (by simp)).trans hcr; replace hs1 := Hx.kept hs1 hg1 (by simp); replace hn1 := Hx.kept hn1 hg1 (by simp); replace hr1 := Hx.kept hr1 hg1 (by simp); have hs1_0 := hs1.cell 0; have hs1_1 := hs1.cell 1; have hs1_2 := hs1.cell 2; have hs1_3 := hs1.cell 3; have hs1_4 := hs1.cell 4; have hs1_f0 := hs1.free 0; have hs1_f1 := hs1.free 1; have hs1_f2 := hs1.free 2; have hs1_f3 := hs1.free 3; have hs1_f4 := hs1.free 4; have hs1_l := hs1.lt; have hn1_0 := hn1.cell 0; have hn1_f0 := hn1.free 0; have hn1_l := hn1.lt; have hr1_0 := hr1.cell 0; have hr1_1 := hr1.cell 1; have hr1_2 := hr1.cell 2; have hr1_3 := hr1.cell 3; have hr1_4 := hr1.cell 4; have hr1_f0 := hr1.free 0; have hr1_f1 := hr1.free 1; have hr1_f2 := hr1.free 2; have hr1_f3 := hr1.free 3; have hr1_f4 := hr1.free 4; have hr1_l := hr1.lt
          simp only [atS, List.getD_cons_succ, List.getD_cons_zero] at e0 e1
          simp only [putAll, e0, e1]
          go_wp2_with (go_at_call 16; (with_reducible refine (HLb.out _ _ hrow).mono ?_); rintro e wn ⟨rfl, hgn⟩)
          exact ⟨rfl, rfl, hgn, rfl⟩
        · clear hV
          have hrow := HO.row.kept0 hg1; have hvy := HV.out.kept0 (G.trans HGw hg1); have hwk := FAt.kept hwF hg1 (by simp); have hcy := (G.cell (G.trans HGf hg1) (a := ⟨LB, i * 4 + 3, none⟩) hLB.lt (by simp)).trans hcr; replace hs1 := Hx.kept hs1 hg1 (by simp); replace hn1 := Hx.kept hn1 hg1 (by simp); replace hr1 := Hx.kept hr1 hg1 (by simp); have hs1_0 := hs1.cell 0; have hs1_1 := hs1.cell 1; have hs1_2 := hs1.cell 2; have hs1_3 := hs1.cell 3; have hs1_4 := hs1.cell 4; have hs1_f0 := hs1.free 0; have hs1_f1 := hs1.free 1; have hs1_f2 := hs1.free 2; have hs1_f3 := hs1.free 3; have hs1_f4 := hs1.free 4; have hs1_l := hs1.lt; have hn1_0 := hn1.cell 0; have hn1_f0 := hn1.free 0; have hn1_l := hn1.lt; have hr1_0 := hr1.cell 0; have hr1_1 := hr1.cell 1; have hr1_2 := hr1.cell 2; have hr1_3 := hr1.cell 3; have hr1_4 := hr1.cell 4; have hr1_f0 := hr1.free 0; have hr1_f1 := hr1.free 1; have hr1_f2 := hr1.free 2; have hr1_f3 := hr1.free 3; have hr1_f4 := hr1.free 4; have hr1_l := hr1.lt
          simp only [putAll]
          go_wp2_with fail
          exact ⟨rfl, rfl, G.refl _ none, rfl⟩
        · have e3 := hV 3 (by kernel_rfl); clear hV
          have hrow := HO.row.kept0 hg1; have hvy := HV.out.kept0 (G.trans HGw hg1); have hwk := FAt.kept hwF hg1 (by simp); have hcy := (G.cell (G.trans HGf hg1) (a := ⟨LB, i * 4 + 3, none⟩) hLB.lt (by simp)).trans hcr; replace hs1 := Hx.kept hs1 hg1 (by simp); replace hn1 := Hx.kept hn1 hg1 (by simp); replace hr1 := Hx.kept hr1 hg1 (by simp); have hs1_0 := hs1.cell 0; have hs1_1 := hs1.cell 1; have hs1_2 := hs1.cell 2; have hs1_3 := hs1.cell 3; have hs1_4 := hs1.cell 4; have hs1_f0 := hs1.free 0; have hs1_f1 := hs1.free 1; have hs1_f2 := hs1.free 2; have hs1_f3 := hs1.free 3; have hs1_f4 := hs1.free 4; have hs1_l := hs1.lt; have hn1_0 := hn1.cell 0; have hn1_f0 := hn1.free 0; have hn1_l := hn1.lt; have hr1_0 := hr1.cell 0; have hr1_1 := hr1.cell 1; have hr1_2 := hr1.cell 2; have hr1_3 := hr1.cell 3; have hr1_4 := hr1.cell 4; have hr1_f0 := hr1.free 0; have hr1_f1 := hr1.free 1; have hr1_f2 := hr1.free 2; have hr1_f3 := hr1.free 3; have hr1_f4 := hr1.free 4; have hr1_l := hr1.lt
          simp only [atS, List.getD_cons_succ, List.getD_cons_zero] at e3
          simp only [putAll, e3]
          go_wp2_with fail
          exact ⟨rfl, rfl, G.refl _ none, rfl⟩
        · clear hV
          have hrow := HO.row.kept0 hg1; have hvy := HV.out.kept0 (G.trans HGw hg1); have hwk := FAt.kept hwF hg1 (by simp); have hcy := (G.cell (G.trans HGf hg1) (a := ⟨LB, i * 4 + 3, none⟩) hLB.lt (by simp)).trans hcr; replace hs1 := Hx.kept hs1 hg1 (by simp); replace hn1 := Hx.kept hn1 hg1 (by simp); replace hr1 := Hx.kept hr1 hg1 (by simp); have hs1_0 := hs1.cell 0; have hs1_1 := hs1.cell 1; have hs1_2 := hs1.cell 2; have hs1_3 := hs1.cell 3; have hs1_4 := hs1.cell 4; have hs1_f0 := hs1.free 0; have hs1_f1 := hs1.free 1; have hs1_f2 := hs1.free 2; have hs1_f3 := hs1.free 3; have hs1_f4 := hs1.free 4; have hs1_l := hs1.lt; have hn1_0 := hn1.cell 0; have hn1_f0 := hn1.free 0; have hn1_l := hn1.lt; have hr1_0 := hr1.cell 0; have hr1_1 := hr1.cell 1; have hr1_2 := hr1.cell 2; have hr1_3 := hr1.cell 3; have hr1_4 := hr1.cell 4; have hr1_f0 := hr1.free 0; have hr1_f1 := hr1.free 1; have hr1_f2 := hr1.free 2; have hr1_f3 := hr1.free 3; have hr1_f4 := hr1.free 4; have hr1_l := hr1.lt
          simp only [putAll]
          go_wp2_with fail
          exact ⟨rfl, rfl, G.refl _ none, rfl⟩
        · have e5 := hV 5 (by kernel_rfl); clear hV
          have hrow := HO.row.kept0 hg1; have hvy := HV.out.kept0 (G.trans HGw hg1); have hwk := FAt.kept hwF hg1 (by simp); have hcy := (G.cell (G.trans HGf hg1) (a := ⟨LB, i * 4 + 3, none⟩) hLB.lt (by simp)).trans hcr; replace hs1 := Hx.kept hs1 hg1 (by simp); replace hn1 := Hx.kept hn1 hg1 (by simp); replace hr1 := Hx.kept hr1 hg1 (by simp); have hs1_0 := hs1.cell 0; have hs1_1 := hs1.cell 1; have hs1_2 := hs1.cell 2; have hs1_3 := hs1.cell 3; have hs1_4 := hs1.cell 4; have hs1_f0 := hs1.free 0; have hs1_f1 := hs1.free 1; have hs1_f2 := hs1.free 2; have hs1_f3 := hs1.free 3; have hs1_f4 := hs1.free 4; have hs1_l := hs1.lt; have hn1_0 := hn1.cell 0; have hn1_f0 := hn1.free 0; have hn1_l := hn1.lt; have hr1_0 := hr1.cell 0; have hr1_1 := hr1.cell 1; have hr1_2 := hr1.cell 2; have hr1_3 := hr1.cell 3; have hr1_4 := hr1.cell 4; have hr1_f0 := hr1.free 0; have hr1_f1 := hr1.free 1; have hr1_f2 := hr1.free 2; have hr1_f3 := hr1.free 3; have hr1_f4 := hr1.free 4; have hr1_l := hr1.lt
          simp only [atS, List.getD_cons_succ, List.getD_cons_zero] at e5
          simp only [putAll, e5]
          go_wp2_with fail
          exact ⟨rfl, rfl, G.refl _ none, rfl⟩
        · clear hV
          have hrow := HO.row.kept0 hg1; have hvy := HV.out.kept0 (G.trans HGw hg1); have hwk := FAt.kept hwF hg1 (by simp); have hcy := (G.cell (G.trans HGf hg1) (a := ⟨LB, i * 4 + 3, none⟩) hLB.lt (by simp)).trans hcr; replace hs1 := Hx.kept hs1 hg1 (by simp); replace hn1 := Hx.kept hn1 hg1 (by simp); replace hr1 := Hx.kept hr1 hg1 (by simp); have hs1_0 := hs1.cell 0; have hs1_1 := hs1.cell 1; have hs1_2 := hs1.cell 2; have hs1_3 := hs1.cell 3; have hs1_4 := hs1.cell 4; have hs1_f0 := hs1.free 0; have hs1_f1 := hs1.free 1; have hs1_f2 := hs1.free 2; have hs1_f3 := hs1.free 3; have hs1_f4 := hs1.free 4; have hs1_l := hs1.lt; have hn1_0 := hn1.cell 0; have hn1_f0 := hn1.free 0; have hn1_l := hn1.lt; have hr1_0 := hr1.cell 0; have hr1_1 := hr1.cell 1; have hr1_2 := hr1.cell 2; have hr1_3 := hr1.cell 3; have hr1_4 := hr1.cell 4; have hr1_f0 := hr1.free 0; have hr1_f1 := hr1.free 1; have hr1_f2 := hr1.free 2; have hr1_f3 := hr1.free 3; have hr1_f4 := hr1.free 4; have hr1_l := hr1.lt
          simp only [putAll]
          go_wp2_with fail
          exact ⟨rfl, rfl, G.refl _ none, rfl⟩
        · clear hV
          have hrow := HO.row.kept0 hg1; have hvy := HV.out.kept0 (G.trans HGw hg1); have hwk := FAt.kept hwF hg1 (by simp); have hcy := (G.cell (G.trans HGf hg1) (a := ⟨LB, i * 4 + 3, none⟩) hLB.lt (by simp)).trans hcr; replace hs1 := Hx.kept hs1 hg1 (by simp); replace hn1 := Hx.kept hn1 hg1 (by simp); replace hr1 := Hx.kept hr1 hg1 (by simp); have hs1_0 := hs1.cell 0; have hs1_1 := hs1.cell 1; have hs1_2 := hs1.cell 2; have hs1_3 := hs1.cell 3; have hs1_4 := hs1.cell 4; have hs1_f0 := hs1.free 0; have hs1_f1 := hs1.free 1; have hs1_f2 := hs1.free 2; have hs1_f3 := hs1.free 3; have hs1_f4 := hs1.free 4; have hs1_l := hs1.lt; have hn1_0 := hn1.cell 0; have hn1_f0 := hn1.free 0; have hn1_l := hn1.lt; have hr1_0 := hr1.cell 0; have hr1_1 := hr1.cell 1; have hr1_2 := hr1.cell 2; have hr1_3 := hr1.cell 3; have hr1_4 := hr1.cell 4; have hr1_f0 := hr1.free 0; have hr1_f1 := hr1.free 1; have hr1_f2 := hr1.free 2; have hr1_f3 := hr1.free 3; have hr1_f4 := hr1.free 4; have hr1_l := hr1.lt
          simp only [putAll]
          go_wp2_with fail
          exact ⟨rfl, rfl, G.refl _ none, rfl⟩
        · have e7 := hV 7 (by kernel_rfl); have e8 := hV 8 (by kernel_rfl); clear hV
          have hrow := HO.row.kept0 hg1; have hvy := HV.out.kept0 (G.trans HGw hg1); have hwk := FAt.kept hwF hg1 (by simp); have hcy := (G.cell (G.trans HGf hg1) (a := ⟨LB, i * 4 + 3, none⟩) hLB.lt (by simp)).trans hcr; replace hs1 := Hx.kept hs1 hg1 (by simp); replace hn1 := Hx.kept hn1 hg1 (by simp); replace hr1 := Hx.kept hr1 hg1 (by simp); have hs1_0 := hs1.cell 0; have hs1_1 := hs1.cell 1; have hs1_2 := hs1.cell 2; have hs1_3 := hs1.cell 3; have hs1_4 := hs1.cell 4; have hs1_f0 := hs1.free 0; have hs1_f1 := hs1.free 1; have hs1_f2 := hs1.free 2; have hs1_f3 := hs1.free 3; have hs1_f4 := hs1.free 4; have hs1_l := hs1.lt; have hn1_0 := hn1.cell 0; have hn1_f0 := hn1.free 0; have hn1_l := hn1.lt; have hr1_0 := hr1.cell 0; have hr1_1 := hr1.cell 1; have hr1_2 := hr1.cell 2; have hr1_3 := hr1.cell 3; have hr1_4 := hr1.cell 4; have hr1_f0 := hr1.free 0; have hr1_f1 := hr1.free 1; have hr1_f2 := hr1.free 2; have hr1_f3 := hr1.free 3; have hr1_f4 := hr1.free 4; have hr1_l := hr1.lt
          simp only [atS, List.getD_cons_succ, List.getD_cons_zero] at e7 e8
          simp only [putAll, e7, e8]
          go_wp2_with fail
          exact ⟨rfl, rfl, G.refl _ none, rfl⟩
        · have e9 := hV 9 (by kernel_rfl); clear hV
          have hrow := HO.row.kept0 hg1; have hvy := HV.out.kept0 (G.trans HGw hg1); have hwk := FAt.kept hwF hg1 (by simp); have hcy := (G.cell (G.trans HGf hg1) (a := ⟨LB, i * 4 + 3, none⟩) hLB.lt (by simp)).trans hcr; replace hs1 := Hx.kept hs1 hg1 (by simp); replace hn1 := Hx.kept hn1 hg1 (by simp); replace hr1 := Hx.kept hr1 hg1 (by simp); have hs1_0 := hs1.cell 0; have hs1_1 := hs1.cell 1; have hs1_2 := hs1.cell 2; have hs1_3 := hs1.cell 3; have hs1_4 := hs1.cell 4; have hs1_f0 := hs1.free 0; have hs1_f1 := hs1.free 1; have hs1_f2 := hs1.free 2; have hs1_f3 := hs1.free 3; have hs1_f4 := hs1.free 4; have hs1_l := hs1.lt; have hn1_0 := hn1.cell 0; have hn1_f0 := hn1.free 0; have hn1_l := hn1.lt; have hr1_0 := hr1.cell 0; have hr1_1 := hr1.cell 1; have hr1_2 := hr1.cell 2; have hr1_3 := hr1.cell 3; have hr1_4 := hr1.cell 4; have hr1_f0 := hr1.free 0; have hr1_f1 := hr1.free 1; have hr1_f2 := hr1.free 2; have hr1_f3 := hr1.free 3; have hr1_f4 := hr1.free 4; have hr1_l := hr1.lt
          simp only [atS, List.getD_cons_succ, List.getD_cons_zero] at e9
          simp only [putAll, e9]
          go_wp2_with fail
          exact ⟨rfl, rfl, G.refl _ none, rfl⟩
        · have e10 := hV 10 (by kernel_rfl); clear hV
          have hrow := HO.row.kept0 hg1; have hvy := HV.out.kept0 (G.trans HGw hg1); have hwk := FAt.kept hwF hg1 (by simp); have hcy := (G.cell (G.trans HGf hg1) (a := ⟨LB, i * 4 + 3, none⟩) hLB.lt (by simp)).trans hcr; replace hs1 := Hx.kept hs1 hg1 (by simp); replace hn1 := Hx.kept hn1 hg1 (by simp); replace hr1 := Hx.kept hr1 hg1 (by simp); have hs1_0 := hs1.cell 0; have hs1_1 := hs1.cell 1; have hs1_2 := hs1.cell 2; have hs1_3 := hs1.cell 3; have hs1_4 := hs1.cell 4; have hs1_f0 := hs1.free 0; have hs1_f1 := hs1.free 1; have hs1_f2 := hs1.free 2; have hs1_f3 := hs1.free 3; have hs1_f4 := hs1.free 4; have hs1_l := hs1.lt; have hn1_0 := hn1.cell 0; have hn1_f0 := hn1.free 0; have hn1_l := hn1.lt; have hr1_0 := hr1.cell 0; have hr1_1 := hr1.cell 1; have hr1_2 := hr1.cell 2; have hr1_3 := hr1.cell 3; have hr1_4 := hr1.cell 4; have hr1_f0 := hr1.free 0; have hr1_f1 := hr1.free 1; have hr1_f2 := hr1.free 2; have hr1_f3 := hr1.free 3; have hr1_f4 := hr1.free 4; have hr1_l := hr1.lt
          simp only [atS, List.getD_cons_succ, List.getD_cons_zero] at e10
          simp only [putAll, e10]
          go_wp2_with fail
          exact ⟨rfl, rfl, G.refl _ none, rfl⟩
        · clear hV
          have hrow := HO.row.kept0 hg1; have hvy := HV.out.kept0 (G.trans HGw hg1); have hwk := FAt.kept hwF hg1 (by simp); have hcy := (G.cell (G.trans HGf hg1) (a := ⟨LB, i * 4 + 3, none⟩) hLB.lt (by simp)).trans hcr; replace hs1 := Hx.kept hs1 hg1 (by simp); replace hn1 := Hx.kept hn1 hg1 (by simp); replace hr1 := Hx.kept hr1 hg1 (by simp); have hs1_0 := hs1.cell 0; have hs1_1 := hs1.cell 1; have hs1_2 := hs1.cell 2; have hs1_3 := hs1.cell 3; have hs1_4 := hs1.cell 4; have hs1_f0 := hs1.free 0; have hs1_f1 := hs1.free 1; have hs1_f2 := hs1.free 2; have hs1_f3 := hs1.free 3; have hs1_f4 := hs1.free 4; have hs1_l := hs1.lt; have hn1_0 := hn1.cell 0; have hn1_f0 := hn1.free 0; have hn1_l := hn1.lt; have hr1_0 := hr1.cell 0; have hr1_1 := hr1.cell 1; have hr1_2 := hr1.cell 2; have hr1_3 := hr1.cell 3; have hr1_4 := hr1.cell 4; have hr1_f0 := hr1.free 0; have hr1_f1 := hr1.free 1; have hr1_f2 := hr1.free 2; have hr1_f3 := hr1.free 3; have hr1_f4 := hr1.free 4; have hr1_l := hr1.lt
          simp only [putAll]
          go_wp2_with fail
          exact ⟨rfl, rfl, G.refl _ none, rfl⟩
        · have e11 := hV 11 (by kernel_rfl); have e12 := hV 12 (by kernel_rfl); clear hV
          have hrow := HO.row.kept0 hg1; have hvy := HV.out.kept0 (G.trans HGw hg1); have hwk := FAt.kept hwF hg1 (by simp); have hcy := (G.cell (G.trans HGf hg1) (a := ⟨LB, i * 4 + 3, none⟩) hLB.lt (by simp)).trans hcr; replace hs1 := Hx.kept hs1 hg1 (by simp); replace hn1 := Hx.kept hn1 hg1 (by simp); replace hr1 := Hx.kept hr1 hg1 (by simp); have hs1_0 := hs1.cell 0; have hs1_1 := hs1.cell 1; have hs1_2 := hs1.cell 2; have hs1_3 := hs1.cell 3; have hs1_4 := hs1.cell 4; have hs1_f0 := hs1.free 0; have hs1_f1 := hs1.free 1; have hs1_f2 := hs1.free 2; have hs1_f3 := hs1.free 3; have hs1_f4 := hs1.free 4; have hs1_l := hs1.lt; have hn1_0 := hn1.cell 0; have hn1_f0 := hn1.free 0; have hn1_l := hn1.lt; have hr1_0 := hr1.cell 0; have hr1_1 := hr1.cell 1; have hr1_2 := hr1.cell 2; have hr1_3 := hr1.cell 3; have hr1_4 := hr1.cell 4; have hr1_f0 := hr1.free 0; have hr1_f1 := hr1.free 1; have hr1_f2 := hr1.free 2; have hr1_f3 := hr1.free 3; have hr1_f4 := hr1.free 4; have hr1_l := hr1.lt
          simp only [atS, List.getD_cons_succ, List.getD_cons_zero] at e11 e12
          simp only [putAll, e11, e12]
          go_wp2_with (go_at_fn g; (with_reducible refine (HDo.out _ B hwk hvy).mono ?_); rintro e wn ⟨u, rfl, hu, hgn⟩; obtain ⟨ua, uc, eu, -, -, -⟩ := hu.row; subst eu)
          exact ⟨rfl, rfl, hgn, _, _, rfl, EOwn.mono hu hg1.size⟩
        · clear hV
          have hrow := HO.row.kept0 hg1; have hvy := HV.out.kept0 (G.trans HGw hg1); have hwk := FAt.kept hwF hg1 (by simp); have hcy := (G.cell (G.trans HGf hg1) (a := ⟨LB, i * 4 + 3, none⟩) hLB.lt (by simp)).trans hcr; replace hs1 := Hx.kept hs1 hg1 (by simp); replace hn1 := Hx.kept hn1 hg1 (by simp); replace hr1 := Hx.kept hr1 hg1 (by simp); have hs1_0 := hs1.cell 0; have hs1_1 := hs1.cell 1; have hs1_2 := hs1.cell 2; have hs1_3 := hs1.cell 3; have hs1_4 := hs1.cell 4; have hs1_f0 := hs1.free 0; have hs1_f1 := hs1.free 1; have hs1_f2 := hs1.free 2; have hs1_f3 := hs1.free 3; have hs1_f4 := hs1.free 4; have hs1_l := hs1.lt; have hn1_0 := hn1.cell 0; have hn1_f0 := hn1.free 0; have hn1_l := hn1.lt; have hr1_0 := hr1.cell 0; have hr1_1 := hr1.cell 1; have hr1_2 := hr1.cell 2; have hr1_3 := hr1.cell 3; have hr1_4 := hr1.cell 4; have hr1_f0 := hr1.free 0; have hr1_f1 := hr1.free 1; have hr1_f2 := hr1.free 2; have hr1_f3 := hr1.free 3; have hr1_f4 := hr1.free 4; have hr1_l := hr1.lt
          simp only [putAll]
          go_wp2_with fail
          exact ⟨rfl, rfl, G.refl _ none, rfl⟩
        · have e14 := hV 14 (by kernel_rfl); clear hV
          have hrow := HO.row.kept0 hg1; have hvy := HV.out.kept0 (G.trans HGw hg1); have hwk := FAt.kept hwF hg1 (by simp); have hcy := (G.cell (G.trans HGf hg1) (a := ⟨LB, i * 4 + 3, none⟩) hLB.lt (by simp)).trans hcr; replace hs1 := Hx.kept hs1 hg1 (by simp); replace hn1 := Hx.kept hn1 hg1 (by simp); replace hr1 := Hx.kept hr1 hg1 (by simp); have hs1_0 := hs1.cell 0; have hs1_1 := hs1.cell 1; have hs1_2 := hs1.cell 2; have hs1_3 := hs1.cell 3; have hs1_4 := hs1.cell 4; have hs1_f0 := hs1.free 0; have hs1_f1 := hs1.free 1; have hs1_f2 := hs1.free 2; have hs1_f3 := hs1.free 3; have hs1_f4 := hs1.free 4; have hs1_l := hs1.lt; have hn1_0 := hn1.cell 0; have hn1_f0 := hn1.free 0; have hn1_l := hn1.lt; have hr1_0 := hr1.cell 0; have hr1_1 := hr1.cell 1; have hr1_2 := hr1.cell 2; have hr1_3 := hr1.cell 3; have hr1_4 := hr1.cell 4; have hr1_f0 := hr1.free 0; have hr1_f1 := hr1.free 1; have hr1_f2 := hr1.free 2; have hr1_f3 := hr1.free 3; have hr1_f4 := hr1.free 4; have hr1_l := hr1.lt
          simp only [atS, List.getD_cons_succ, List.getD_cons_zero] at e14
          simp only [putAll, e14]
          go_wp2_with fail
          exact ⟨rfl, rfl, G.refl _ none, rfl⟩
        · have e2 := hV 2 (by kernel_rfl); have e4 := hV 4 (by kernel_rfl); have e6 := hV 6 (by kernel_rfl); have e13 := hV 13 (by kernel_rfl); have e15 := hV 15 (by kernel_rfl); clear hV
          have hrow := HO.row.kept0 hg1; have hvy := HV.out.kept0 (G.trans HGw hg1); have hwk := FAt.kept hwF hg1 (by simp); have hcy := (G.cell (G.trans HGf hg1) (a := ⟨LB, i * 4 + 3, none⟩) hLB.lt (by simp)).trans hcr; replace hs1 := Hx.kept hs1 hg1 (by simp); replace hn1 := Hx.kept hn1 hg1 (by simp); replace hr1 := Hx.kept hr1 hg1 (by simp); have hs1_0 := hs1.cell 0; have hs1_1 := hs1.cell 1; have hs1_2 := hs1.cell 2; have hs1_3 := hs1.cell 3; have hs1_4 := hs1.cell 4; have hs1_f0 := hs1.free 0; have hs1_f1 := hs1.free 1; have hs1_f2 := hs1.free 2; have hs1_f3 := hs1.free 3; have hs1_f4 := hs1.free 4; have hs1_l := hs1.lt; have hn1_0 := hn1.cell 0; have hn1_f0 := hn1.free 0; have hn1_l := hn1.lt; have hr1_0 := hr1.cell 0; have hr1_1 := hr1.cell 1; have hr1_2 := hr1.cell 2; have hr1_3 := hr1.cell 3; have hr1_4 := hr1.cell 4; have hr1_f0 := hr1.free 0; have hr1_f1 := hr1.free 1; have hr1_f2 := hr1.free 2; have hr1_f3 := hr1.free 3; have hr1_f4 := hr1.free 4; have hr1_l := hr1.lt
          simp only [atS, List.getD_cons_succ, List.getD_cons_zero] at e2 e4 e6 e13 e15
          obtain ⟨ua, uc, e13, hu13⟩ := e13
          simp only [putAll, e2, e4, e6, e13, e15]
          go_wp2_with fail
          exact ⟨rfl, rfl, G.refl _ none, _, _, rfl, hu13⟩
      · intro VV y1 hg1 hV
        have e0 := hV 0 (by omega); have e1 := hV 1 (by omega); have e2 := hV 2 (by omega); have e3 := hV 3 (by omega); have e4 := hV 4 (by omega); have e5 := hV 5 (by omega); have e6 := hV 6 (by omega); have e7 := hV 7 (by omega); have e8 := hV 8 (by omega); have e9 := hV 9 (by omega); have e10 := hV 10 (by omega); have e11 := hV 11 (by omega); have e12 := hV 12 (by omega); have e13 := hV 13 (by omega); have e14 := hV 14 (by omega); have e15 := hV 15 (by omega); have e16 := hV 16 (by omega); clear hV
        simp only [atS, List.getD_cons_succ, List.getD_cons_zero] at e0 e1 e2 e3 e4 e5 e6 e7 e8 e9 e10 e11 e12 e13 e14 e15 e16
        simp only [List.take_succ_cons, List.take_zero, List.drop_succ_cons, List.drop_zero, putAll, e0, e1, e2, e3, e4, e5, e6, e7, e8, e9, e10, e11, e12, e14, e15]
        replace hs1 := Hx.kept hs1 hg1 (by simp); replace hn1 := Hx.kept hn1 hg1 (by simp); replace hr1 := Hx.kept hr1 hg1 (by simp); have hs1_0 := hs1.cell 0; have hs1_1 := hs1.cell 1; have hs1_2 := hs1.cell 2; have hs1_3 := hs1.cell 3; have hs1_4 := hs1.cell 4; have hs1_f0 := hs1.free 0; have hs1_f1 := hs1.free 1; have hs1_f2 := hs1.free 2; have hs1_f3 := hs1.free 3; have hs1_f4 := hs1.free 4; have hs1_l := hs1.lt; have hn1_0 := hn1.cell 0; have hn1_f0 := hn1.free 0; have hn1_l := hn1.lt; have hr1_0 := hr1.cell 0; have hr1_1 := hr1.cell 1; have hr1_2 := hr1.cell 2; have hr1_3 := hr1.cell 3; have hr1_4 := hr1.cell 4; have hr1_f0 := hr1.free 0; have hr1_f1 := hr1.free 1; have hr1_f2 := hr1.free 2; have hr1_f3 := hr1.free 3; have hr1_f4 := hr1.free 4; have hr1_l := hr1.lt
        have hg2 := hg1
        clear hg1
        obtain ⟨ua, uc, e16, hu⟩ := e16
        simp only [e16]
        have HGe := G.trans HGw hg2
        have hneN : (Value.slice ua ts0.length uc).ownBlock ≠ some (w.heap.size + 1 + 1) := fun e => by have := (hu.lt _ e).1; omega
        go_wp2_with fail
        refine ret_cell_tmp [.string (labelB nm (labTexts S.name L)), .int .i64 S.start, .int .i64 S.step, .slice ua ts0.length uc, .int .i64 S.cons] (w.heap.size + 1 + 1) 26 rfl rfl (Tryd.isAgg26 _) (Tryd.sizeOf26 _) rfl ?_ ?_
        · exact (by first | exact Hx.go hr1 | exact Hx.go2)
        · rw [hfin.out]
          exact ⟨_, rfl, (show ERow valE _ (.slice ua ts0.length uc) ts0 from EOwn.row (E := 28) (base := wr.heap.size) (by have hb0 := (hu); (repeat first | with_reducible exact hb0 | with_reducible apply EOwn.drewN | with_reducible apply EOwn.drew | with_reducible apply EOwn.alloc | (with_reducible apply EOwn.set; (case hne => (first | assumption | omega | (simp; done) | (simp; omega))))))), (by exact G.go HGe)⟩
end Go.Proofs.YtkablhamnepfnaaDoor
