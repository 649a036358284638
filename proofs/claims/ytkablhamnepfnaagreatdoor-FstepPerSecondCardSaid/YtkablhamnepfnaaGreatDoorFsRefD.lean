/-
  The walk of the reference's fill. Printed by genfsrefd.py.
-/
import Derived.Test.YtkablhamnepfnaaGreatDoorFsRefC
import Derived.Test.YtkablhamnepfnaaGreatDoorFsClosE
namespace Go.Proofs.YtkablhamnepfnaaGreatDoor
open Go.RowKit
theorem lim_fill (L : List (Bool × Int)) (many : Int) (hm : many ≤ 131072) : (limB L && decide (many ≤ limT L)) = fillsB (decide (0 < L.length)) (kOf L) many := by
  unfold limB limT fillsB
  by_cases h0 : L.length = 0
  · rw [if_pos h0, decide_eq_true h0, decide_eq_false (show ¬ 0 < L.length by omega), decide_eq_true hm]
    rfl
  · rw [if_neg h0, decide_eq_false h0, decide_eq_true (show 0 < L.length by omega), wholeO_eq]
    cases wholeB (kOf L) <;> simp
set_option maxHeartbeats 16000000 in
set_option maxRecDepth 100000 in
theorem fillK_any (w : World) (S : Ser) (sv : Value) (h : ERow valE w sv S.vals) (hall : S.vals.all (fun p => isR p.1 p.2) = true) (hl : S.vals.length ≤ 131072) (step : Int) (nm : ByteArray) (hnm : nm = fs5) (lv : Value) (L : List (Bool × Int)) (hlv : ERow valE w lv L) (j : Nat) (hj : j < S.vals.length) (hv : S.opts.getD j none = none) : Calls Tryz.prog 58 #[.string nm, sv, .int .i64 (j : Int), lv] w fun e w' => e = .returned (valV (fsV 5 step (decide (0 < L.length)) (kOf L) S.opts j)) ∧ w.grownBy w' none := by
  have HG := G.refl w none
  have hol := opts_len S
  have hLV := Lib.hid hlv
  have HLm := Lib.hid (fun w2 h2 => limit1_any w2 lv L h2)
  have HA := Lib.hid (fun w2 h2 => left1_any w2 S sv h2 hall (j : Int) (by omega) (by omega) (by omega))
  have HB := Lib.hid (fun w2 h2 => right1_any w2 S sv h2 hall j (by omega) (by omega))
  rw [show ((j : Int) + 1).toNat = j + 1 by omega, aheadI_skip hv] at HA
  rw [behindN_skip (by omega) hv] at HB
  have hab := aheadI_bound S.opts j
  have has2 := aheadI_some S.opts j
  have hbb := behindN_bound S.opts (S.opts.length - (j + 1)) (j + 1)
  have hbs := behindN_some S.opts (S.opts.length - (j + 1)) (j + 1)
  have hlf := lim_fill L ((behindN S.opts (S.opts.length - (j + 1)) (j + 1) : Nat) - aheadI S.opts j - 1) (by omega)
  obtain ⟨V, hV⟩ : ∃ V, Hid (fsV 5 step (decide (0 < L.length)) (kOf L) S.opts j = V) := ⟨_, Lib.hid rfl⟩
  rw [hV.out]
  have hvv := Lib.hid (valV_form V)
  have hV2 : Hid (V = match S.opts.getD j none with | some x => some x | none => if 0 ≤ aheadI S.opts j ∧ fillsB (decide (0 < L.length)) (kOf L) ((behindN S.opts (S.opts.length - (j + 1)) (j + 1) : Nat) - aheadI S.opts j - 1) = true then S.opts.getD (aheadI S.opts j).toNat none else none) := Lib.hid (by rw [← hV.out]; rfl)
  rw [hv] at hV2
  have hV3 : Hid (V = if 0 ≤ aheadI S.opts j ∧ fillsB (decide (0 < L.length)) (kOf L) ((behindN S.opts (S.opts.length - (j + 1)) (j + 1) : Nat) - aheadI S.opts j - 1) = true then S.opts.getD (aheadI S.opts j).toNat none else none) := Lib.hid hV2.out
  clear hV hV2
  have HV := Lib.hid h
  obtain ⟨A, c, rfl, -, -, q3⟩ := h
  obtain ⟨b, o, rfl, hbl, hc⟩ := q3 (by omega)
  have HC := Lib.hid (fun (m : Nat) (hm : m < S.vals.length) (wr : World) (hg : w.grownBy wr none) => rowCells hall hc hg hbl hm)
  clear hc q3
  obtain ⟨A2, c2, rfl, -, -, -⟩ := hlv
  generalize aheadI S.opts j = a at *
  generalize behindN S.opts (S.opts.length - (j + 1)) (j + 1) = bn at *
  rw [← hlf] at hV3
  generalize limT L = T at *
  generalize limB L = Bq at *
  clear hlf
  have e0 : (nm.toList == ([99, 104, 97, 110, 103, 101, 100] : List UInt8)) = false := eqFsNo (by rw [hnm]; decide)
  have e1 : (nm.toList == ([100, 101, 108, 97, 121] : List UInt8)) = false := eqFsNo (by rw [hnm]; decide)
  have e2 : (nm.toList == ([100, 101, 114, 105, 118, 97, 116, 105, 118, 101] : List UInt8)) = false := eqFsNo (by rw [hnm]; decide)
  have e3 : (nm.toList == ([105, 110, 116, 101, 103, 114, 97, 108] : List UInt8)) = false := eqFsNo (by rw [hnm]; decide)
  have e4 : (nm.toList == ([105, 110, 116, 101, 114, 112, 111, 108, 97, 116, 101] : List UInt8)) = false := eqFsNo (by rw [hnm]; decide)
  have e5 : (nm.toList == ([107, 101, 101, 112, 76, 97, 115, 116, 86, 97, 108, 117, 101] : List UInt8)) = true := eqFsYes hnm
  have e6 : (nm.toList == ([110, 111, 110, 78, 101, 103, 97, 116, 105, 118, 101, 68, 101, 114, 105, 118, 97, 116, 105, 118, 101] : List UInt8)) = false := eqFsNo (by rw [hnm]; decide)
  have e7 : (nm.toList == ([112, 101, 114, 83, 101, 99, 111, 110, 100] : List UInt8)) = false := eqFsNo (by rw [hnm]; decide)
  clear hnm
  have hwr1 : IntKind.i64.wrap ((bn : Int) - a) = (bn : Int) - a := by rw [IntKind.wrap_i64]; omega
  have hwr2 : IntKind.i64.wrap ((bn : Int) - a - 1) = (bn : Int) - a - 1 := by rw [IntKind.wrap_i64]; omega
  have hwr3 : IntKind.i64.wrap ((j : Int) - a) = (j : Int) - a := by rw [IntKind.wrap_i64]; omega
  have hwr4 : IntKind.i64.wrap ((bn : Int) - a - 1 + 1) = (bn : Int) - a := by rw [IntKind.wrap_i64]; omega
  cases Bq
  · have hfin : Hid (V = none) := Lib.hid (by rw [hV3.out]; exact if_neg (by simp))
    clear hV3
    go_enter Tryz.func58, Tryz.ntmps58
    go_upto_region 0 with (fail)
    go_cut [8] (fun p8 wc => p8 = .pointer (some ⟨w.heap.size, 0, none⟩) ∧ w.grownBy wc none ∧ Hx wc w.heap.size [.bool false, .int .i64 0] 28)
    case first =>
      go_wp2_with fail
      go_meet
      exact ⟨rfl, (by exact G.go HG), Hx.new _ _ _⟩
    obtain ⟨rfl, HG, hr⟩ := hcut
    rename World => wx
    go_upto_region 1 with (fail)
    go_cut [8, 9, 10] (fun p8 p9 p10 wd => p8 = .pointer (some ⟨w.heap.size, 0, none⟩) ∧ p9 = .int .i64 T ∧ p10 = .bool false ∧ w.grownBy wd none ∧ Hx wd w.heap.size [.bool false, .int .i64 0] 28)
    case first =>
      go_wp2_with (go_at_call 94; (with_reducible refine (HLm.out _ (hLV.out.kept0 (by exact G.go HG))).mono ?_); rintro e wn ⟨rfl, hgn⟩; replace HG := G.trans (w := w) (by exact G.go HG) hgn; replace hr := Hx.kept (by first | exact Hx.go hr | exact Hx.go2) hgn (by simp); have hr_0 := hr.cell 0; have hr_1 := hr.cell 1; have hr_f0 := hr.free 0; have hr_f1 := hr.free 1; have hr_l := hr.lt; clear hgn)
      go_meet
      exact ⟨rfl, rfl, rfl, (by exact G.go HG), (by first | exact Hx.go hr | exact Hx.go2)⟩
    obtain ⟨rfl, rfl, rfl, HG, hr⟩ := hcut
    rename World => wy
    go_upto_region 2 with (fail)
    go_cut [8, 9, 10, 11, 12] (fun p8 p9 p10 p11 p12 wd => p8 = .pointer (some ⟨w.heap.size, 0, none⟩) ∧ p9 = .int .i64 T ∧ p10 = .bool false ∧ p11 = .int .i64 a ∧ p12 = .int .i64 (bn : Int) ∧ w.grownBy wd none ∧ Hx wd w.heap.size [.bool false, .int .i64 0] 28)
    case first =>
      go_wp2_with (first | (go_at_call 93; (with_reducible refine (HA.out _ (HV.out.kept0 (by exact G.go HG))).mono ?_); rintro e wn ⟨rfl, hgn⟩; replace HG := G.trans (w := w) (by exact G.go HG) hgn; replace hr := Hx.kept (by first | exact Hx.go hr | exact Hx.go2) hgn (by simp); have hr_0 := hr.cell 0; have hr_1 := hr.cell 1; have hr_f0 := hr.free 0; have hr_f1 := hr.free 1; have hr_l := hr.lt; clear hgn) | (go_at_call 95; (with_reducible refine (HB.out _ (HV.out.kept0 (by exact G.go HG))).mono ?_); rintro e wn ⟨rfl, hgn⟩; replace HG := G.trans (w := w) (by exact G.go HG) hgn; replace hr := Hx.kept (by first | exact Hx.go hr | exact Hx.go2) hgn (by simp); have hr_0 := hr.cell 0; have hr_1 := hr.cell 1; have hr_f0 := hr.free 0; have hr_f1 := hr.free 1; have hr_l := hr.lt; clear hgn))
      go_meet
      exact ⟨rfl, rfl, rfl, rfl, by first | rfl | rw [hend], (by exact G.go HG), (by first | exact Hx.go hr | exact Hx.go2)⟩
    obtain ⟨rfl, rfl, rfl, rfl, rfl, HG, hr⟩ := hcut
    rename World => wz
    have hr_0 := hr.cell 0; have hr_1 := hr.cell 1; have hr_f0 := hr.free 0; have hr_f1 := hr.free 1; have hr_l := hr.lt
    go_wp2_with fail
    refine ret_cell [.bool false, .int .i64 0] w.heap.size 28 rfl rfl (Tryz.isAgg28 _) (Tryz.sizeOf28 _) rfl ?_ ⟨by rw [hfin.out]; rfl, (by exact G.go HG)⟩
    exact (by first | exact Hx.go hr | exact Hx.go2)
  by_cases hneg : a < 0
  · have hd : decide (a < 0) = true := decide_eq_true hneg
    have hfin : Hid (V = none) := Lib.hid (by rw [hV3.out]; exact if_neg (by omega))
    clear hV3
    go_enter Tryz.func58, Tryz.ntmps58
    go_upto_region 0 with (fail)
    go_cut [8] (fun p8 wc => p8 = .pointer (some ⟨w.heap.size, 0, none⟩) ∧ w.grownBy wc none ∧ Hx wc w.heap.size [.bool false, .int .i64 0] 28)
    case first =>
      go_wp2_with fail
      go_meet
      exact ⟨rfl, (by exact G.go HG), Hx.new _ _ _⟩
    obtain ⟨rfl, HG, hr⟩ := hcut
    rename World => wx
    go_upto_region 1 with (fail)
    go_cut [8, 9, 10] (fun p8 p9 p10 wd => p8 = .pointer (some ⟨w.heap.size, 0, none⟩) ∧ p9 = .int .i64 T ∧ p10 = .bool true ∧ w.grownBy wd none ∧ Hx wd w.heap.size [.bool false, .int .i64 0] 28)
    case first =>
      go_wp2_with (go_at_call 94; (with_reducible refine (HLm.out _ (hLV.out.kept0 (by exact G.go HG))).mono ?_); rintro e wn ⟨rfl, hgn⟩; replace HG := G.trans (w := w) (by exact G.go HG) hgn; replace hr := Hx.kept (by first | exact Hx.go hr | exact Hx.go2) hgn (by simp); have hr_0 := hr.cell 0; have hr_1 := hr.cell 1; have hr_f0 := hr.free 0; have hr_f1 := hr.free 1; have hr_l := hr.lt; clear hgn)
      go_meet
      exact ⟨rfl, rfl, rfl, (by exact G.go HG), (by first | exact Hx.go hr | exact Hx.go2)⟩
    obtain ⟨rfl, rfl, rfl, HG, hr⟩ := hcut
    rename World => wy
    go_upto_region 2 with (fail)
    go_cut [8, 9, 10, 11, 12] (fun p8 p9 p10 p11 p12 wd => p8 = .pointer (some ⟨w.heap.size, 0, none⟩) ∧ p9 = .int .i64 T ∧ p10 = .bool true ∧ p11 = .int .i64 a ∧ p12 = .int .i64 (bn : Int) ∧ w.grownBy wd none ∧ Hx wd w.heap.size [.bool false, .int .i64 0] 28)
    case first =>
      go_wp2_with (first | (go_at_call 93; (with_reducible refine (HA.out _ (HV.out.kept0 (by exact G.go HG))).mono ?_); rintro e wn ⟨rfl, hgn⟩; replace HG := G.trans (w := w) (by exact G.go HG) hgn; replace hr := Hx.kept (by first | exact Hx.go hr | exact Hx.go2) hgn (by simp); have hr_0 := hr.cell 0; have hr_1 := hr.cell 1; have hr_f0 := hr.free 0; have hr_f1 := hr.free 1; have hr_l := hr.lt; clear hgn) | (go_at_call 95; (with_reducible refine (HB.out _ (HV.out.kept0 (by exact G.go HG))).mono ?_); rintro e wn ⟨rfl, hgn⟩; replace HG := G.trans (w := w) (by exact G.go HG) hgn; replace hr := Hx.kept (by first | exact Hx.go hr | exact Hx.go2) hgn (by simp); have hr_0 := hr.cell 0; have hr_1 := hr.cell 1; have hr_f0 := hr.free 0; have hr_f1 := hr.free 1; have hr_l := hr.lt; clear hgn))
      go_meet
      exact ⟨rfl, rfl, rfl, rfl, by first | rfl | rw [hend], (by exact G.go HG), (by first | exact Hx.go hr | exact Hx.go2)⟩
    obtain ⟨rfl, rfl, rfl, rfl, rfl, HG, hr⟩ := hcut
    rename World => wz
    have hr_0 := hr.cell 0; have hr_1 := hr.cell 1; have hr_f0 := hr.free 0; have hr_f1 := hr.free 1; have hr_l := hr.lt
    go_wp2_with fail
    refine ret_cell [.bool false, .int .i64 0] w.heap.size 28 rfl rfl (Tryz.isAgg28 _) (Tryz.sizeOf28 _) rfl ?_ ⟨by rw [hfin.out]; rfl, (by exact G.go HG)⟩
    exact (by first | exact Hx.go hr | exact Hx.go2)
  obtain ⟨m, rfl⟩ : ∃ m : Nat, a = m := ⟨a.toNat, by omega⟩
  have hml : m < S.vals.length := by omega
  have hd : decide ((m : Int) < 0) = false := decide_eq_false (by omega)
  by_cases hmo : T < (bn : Int) - (m : Int) - 1
  · have hdm : decide (T < (bn : Int) - (m : Int) - 1) = true := decide_eq_true hmo
    have hfin : Hid (V = none) := Lib.hid (by rw [hV3.out]; exact if_neg (by rw [decide_eq_false (show ¬ (bn : Int) - (m : Int) - 1 ≤ T by omega)]; simp))
    clear hV3
    go_enter Tryz.func58, Tryz.ntmps58
    go_upto_region 0 with (fail)
    go_cut [8] (fun p8 wc => p8 = .pointer (some ⟨w.heap.size, 0, none⟩) ∧ w.grownBy wc none ∧ Hx wc w.heap.size [.bool false, .int .i64 0] 28)
    case first =>
      go_wp2_with fail
      go_meet
      exact ⟨rfl, (by exact G.go HG), Hx.new _ _ _⟩
    obtain ⟨rfl, HG, hr⟩ := hcut
    rename World => wx
    go_upto_region 1 with (fail)
    go_cut [8, 9, 10] (fun p8 p9 p10 wd => p8 = .pointer (some ⟨w.heap.size, 0, none⟩) ∧ p9 = .int .i64 T ∧ p10 = .bool true ∧ w.grownBy wd none ∧ Hx wd w.heap.size [.bool false, .int .i64 0] 28)
    case first =>
      go_wp2_with (go_at_call 94; (with_reducible refine (HLm.out _ (hLV.out.kept0 (by exact G.go HG))).mono ?_); rintro e wn ⟨rfl, hgn⟩; replace HG := G.trans (w := w) (by exact G.go HG) hgn; replace hr := Hx.kept (by first | exact Hx.go hr | exact Hx.go2) hgn (by simp); have hr_0 := hr.cell 0; have hr_1 := hr.cell 1; have hr_f0 := hr.free 0; have hr_f1 := hr.free 1; have hr_l := hr.lt; clear hgn)
      go_meet
      exact ⟨rfl, rfl, rfl, (by exact G.go HG), (by first | exact Hx.go hr | exact Hx.go2)⟩
    obtain ⟨rfl, rfl, rfl, HG, hr⟩ := hcut
    rename World => wy
    go_upto_region 2 with (fail)
    go_cut [8, 9, 10, 11, 12] (fun p8 p9 p10 p11 p12 wd => p8 = .pointer (some ⟨w.heap.size, 0, none⟩) ∧ p9 = .int .i64 T ∧ p10 = .bool true ∧ p11 = .int .i64 (m : Int) ∧ p12 = .int .i64 (bn : Int) ∧ w.grownBy wd none ∧ Hx wd w.heap.size [.bool false, .int .i64 0] 28)
    case first =>
      go_wp2_with (first | (go_at_call 93; (with_reducible refine (HA.out _ (HV.out.kept0 (by exact G.go HG))).mono ?_); rintro e wn ⟨rfl, hgn⟩; replace HG := G.trans (w := w) (by exact G.go HG) hgn; replace hr := Hx.kept (by first | exact Hx.go hr | exact Hx.go2) hgn (by simp); have hr_0 := hr.cell 0; have hr_1 := hr.cell 1; have hr_f0 := hr.free 0; have hr_f1 := hr.free 1; have hr_l := hr.lt; clear hgn) | (go_at_call 95; (with_reducible refine (HB.out _ (HV.out.kept0 (by exact G.go HG))).mono ?_); rintro e wn ⟨rfl, hgn⟩; replace HG := G.trans (w := w) (by exact G.go HG) hgn; replace hr := Hx.kept (by first | exact Hx.go hr | exact Hx.go2) hgn (by simp); have hr_0 := hr.cell 0; have hr_1 := hr.cell 1; have hr_f0 := hr.free 0; have hr_f1 := hr.free 1; have hr_l := hr.lt; clear hgn))
      go_meet
      exact ⟨rfl, rfl, rfl, rfl, by first | rfl | rw [hend], (by exact G.go HG), (by first | exact Hx.go hr | exact Hx.go2)⟩
    obtain ⟨rfl, rfl, rfl, rfl, rfl, HG, hr⟩ := hcut
    rename World => wz
    have hr_0 := hr.cell 0; have hr_1 := hr.cell 1; have hr_f0 := hr.free 0; have hr_f1 := hr.free 1; have hr_l := hr.lt
    go_wp2_with fail
    refine ret_cell [.bool false, .int .i64 0] w.heap.size 28 rfl rfl (Tryz.isAgg28 _) (Tryz.sizeOf28 _) rfl ?_ ⟨by rw [hfin.out]; rfl, (by exact G.go HG)⟩
    exact (by first | exact Hx.go hr | exact Hx.go2)
  have hdm : decide (T < (bn : Int) - (m : Int) - 1) = false := decide_eq_false hmo
  have hle : decide ((bn : Int) - (m : Int) - 1 ≤ T) = true := decide_eq_true (by omega)
  have hfin : Hid (V = S.opts.getD m none) := Lib.hid (by rw [hV3.out, hle, if_pos ⟨by omega, rfl⟩]; rfl)
  clear hV3
  have HM := Lib.hid (fun wr hg => HC.out m hml wr hg)
  rw [← hfin.out] at HM
  go_enter Tryz.func58, Tryz.ntmps58
  go_upto_region 0 with (fail)
  go_cut [8] (fun p8 wc => p8 = .pointer (some ⟨w.heap.size, 0, none⟩) ∧ w.grownBy wc none ∧ Hx wc w.heap.size [.bool false, .int .i64 0] 28)
  case first =>
    go_wp2_with fail
    go_meet
    exact ⟨rfl, (by exact G.go HG), Hx.new _ _ _⟩
  obtain ⟨rfl, HG, hr⟩ := hcut
  rename World => wx
  go_upto_region 1 with (fail)
  go_cut [8, 9, 10] (fun p8 p9 p10 wd => p8 = .pointer (some ⟨w.heap.size, 0, none⟩) ∧ p9 = .int .i64 T ∧ p10 = .bool true ∧ w.grownBy wd none ∧ Hx wd w.heap.size [.bool false, .int .i64 0] 28)
  case first =>
    go_wp2_with (go_at_call 94; (with_reducible refine (HLm.out _ (hLV.out.kept0 (by exact G.go HG))).mono ?_); rintro e wn ⟨rfl, hgn⟩; replace HG := G.trans (w := w) (by exact G.go HG) hgn; replace hr := Hx.kept (by first | exact Hx.go hr | exact Hx.go2) hgn (by simp); have hr_0 := hr.cell 0; have hr_1 := hr.cell 1; have hr_f0 := hr.free 0; have hr_f1 := hr.free 1; have hr_l := hr.lt; clear hgn)
    go_meet
    exact ⟨rfl, rfl, rfl, (by exact G.go HG), (by first | exact Hx.go hr | exact Hx.go2)⟩
  obtain ⟨rfl, rfl, rfl, HG, hr⟩ := hcut
  rename World => wy
  go_upto_region 2 with (fail)
  go_cut [8, 9, 10, 11, 12] (fun p8 p9 p10 p11 p12 wd => p8 = .pointer (some ⟨w.heap.size, 0, none⟩) ∧ p9 = .int .i64 T ∧ p10 = .bool true ∧ p11 = .int .i64 (m : Int) ∧ p12 = .int .i64 (bn : Int) ∧ w.grownBy wd none ∧ Hx wd w.heap.size [.bool false, .int .i64 0] 28)
  case first =>
    go_wp2_with (first | (go_at_call 93; (with_reducible refine (HA.out _ (HV.out.kept0 (by exact G.go HG))).mono ?_); rintro e wn ⟨rfl, hgn⟩; replace HG := G.trans (w := w) (by exact G.go HG) hgn; replace hr := Hx.kept (by first | exact Hx.go hr | exact Hx.go2) hgn (by simp); have hr_0 := hr.cell 0; have hr_1 := hr.cell 1; have hr_f0 := hr.free 0; have hr_f1 := hr.free 1; have hr_l := hr.lt; clear hgn) | (go_at_call 95; (with_reducible refine (HB.out _ (HV.out.kept0 (by exact G.go HG))).mono ?_); rintro e wn ⟨rfl, hgn⟩; replace HG := G.trans (w := w) (by exact G.go HG) hgn; replace hr := Hx.kept (by first | exact Hx.go hr | exact Hx.go2) hgn (by simp); have hr_0 := hr.cell 0; have hr_1 := hr.cell 1; have hr_f0 := hr.free 0; have hr_f1 := hr.free 1; have hr_l := hr.lt; clear hgn))
    go_meet
    exact ⟨rfl, rfl, rfl, rfl, by first | rfl | rw [hend], (by exact G.go HG), (by first | exact Hx.go hr | exact Hx.go2)⟩
  obtain ⟨rfl, rfl, rfl, rfl, rfl, HG, hr⟩ := hcut
  rename World => wz
  have hr_0 := hr.cell 0; have hr_1 := hr.cell 1; have hr_f0 := hr.free 0; have hr_f1 := hr.free 1; have hr_l := hr.lt
  obtain ⟨y0, y1⟩ := HM.out _ HG
  go_wp2_with fail
  refine ret_cell [.bool (vB V), .int .i64 (vN V)] w.heap.size 28 rfl rfl (Tryz.isAgg28 _) (Tryz.sizeOf28 _) rfl ?_ ⟨by rw [hvv.out], (by exact G.go HG)⟩
  exact (by first | exact Hx.go hr | exact Hx.go2)
set_option maxHeartbeats 16000000 in
set_option maxRecDepth 100000 in
theorem fillL_any (w : World) (S : Ser) (sv : Value) (h : ERow valE w sv S.vals) (hall : S.vals.all (fun p => isR p.1 p.2) = true) (hl : S.vals.length ≤ 131072) (step : Int) (nm : ByteArray) (hnm : nm = fs4) (lv : Value) (L : List (Bool × Int)) (hlv : ERow valE w lv L) (j : Nat) (hj : j < S.vals.length) (hv : S.opts.getD j none = none) : Calls Tryz.prog 58 #[.string nm, sv, .int .i64 (j : Int), lv] w fun e w' => e = .returned (valV (fsV 4 step (decide (0 < L.length)) (kOf L) S.opts j)) ∧ w.grownBy w' none := by
  have HG := G.refl w none
  have hol := opts_len S
  have hLV := Lib.hid hlv
  have HLm := Lib.hid (fun w2 h2 => limit1_any w2 lv L h2)
  have HA := Lib.hid (fun w2 h2 => left1_any w2 S sv h2 hall (j : Int) (by omega) (by omega) (by omega))
  have HB := Lib.hid (fun w2 h2 => right1_any w2 S sv h2 hall j (by omega) (by omega))
  rw [show ((j : Int) + 1).toNat = j + 1 by omega, aheadI_skip hv] at HA
  rw [behindN_skip (by omega) hv] at HB
  have hab := aheadI_bound S.opts j
  have has2 := aheadI_some S.opts j
  have hbb := behindN_bound S.opts (S.opts.length - (j + 1)) (j + 1)
  have hbs := behindN_some S.opts (S.opts.length - (j + 1)) (j + 1)
  have hlf := lim_fill L ((behindN S.opts (S.opts.length - (j + 1)) (j + 1) : Nat) - aheadI S.opts j - 1) (by omega)
  obtain ⟨V, hV⟩ : ∃ V, Hid (fsV 4 step (decide (0 < L.length)) (kOf L) S.opts j = V) := ⟨_, Lib.hid rfl⟩
  rw [hV.out]
  have hvv := Lib.hid (valV_form V)
  have hV2 : Hid (V = match S.opts.getD j none with | some x => some x | none => if 0 ≤ aheadI S.opts j ∧ behindN S.opts (S.opts.length - (j + 1)) (j + 1) < S.opts.length ∧ fillsB (decide (0 < L.length)) (kOf L) ((behindN S.opts (S.opts.length - (j + 1)) (j + 1) : Nat) - aheadI S.opts j - 1) = true then lieO (S.opts.getD (aheadI S.opts j).toNat none) (S.opts.getD (behindN S.opts (S.opts.length - (j + 1)) (j + 1)) none) ((j : Int) - aheadI S.opts j) ((behindN S.opts (S.opts.length - (j + 1)) (j + 1) : Nat) - aheadI S.opts j) else none) := Lib.hid (by rw [← hV.out]; rfl)
  rw [hv] at hV2
  have hV3 : Hid (V = if 0 ≤ aheadI S.opts j ∧ behindN S.opts (S.opts.length - (j + 1)) (j + 1) < S.opts.length ∧ fillsB (decide (0 < L.length)) (kOf L) ((behindN S.opts (S.opts.length - (j + 1)) (j + 1) : Nat) - aheadI S.opts j - 1) = true then lieO (S.opts.getD (aheadI S.opts j).toNat none) (S.opts.getD (behindN S.opts (S.opts.length - (j + 1)) (j + 1)) none) ((j : Int) - aheadI S.opts j) ((behindN S.opts (S.opts.length - (j + 1)) (j + 1) : Nat) - aheadI S.opts j) else none) := Lib.hid hV2.out
  clear hV hV2
  have HV := Lib.hid h
  obtain ⟨A, c, rfl, -, -, q3⟩ := h
  obtain ⟨b, o, rfl, hbl, hc⟩ := q3 (by omega)
  have HC := Lib.hid (fun (m : Nat) (hm : m < S.vals.length) (wr : World) (hg : w.grownBy wr none) => rowCells hall hc hg hbl hm)
  clear hc q3
  obtain ⟨A2, c2, rfl, -, -, -⟩ := hlv
  generalize aheadI S.opts j = a at *
  generalize behindN S.opts (S.opts.length - (j + 1)) (j + 1) = bn at *
  rw [← hlf] at hV3
  generalize limT L = T at *
  generalize limB L = Bq at *
  clear hlf
  have e0 : (nm.toList == ([99, 104, 97, 110, 103, 101, 100] : List UInt8)) = false := eqFsNo (by rw [hnm]; decide)
  have e1 : (nm.toList == ([100, 101, 108, 97, 121] : List UInt8)) = false := eqFsNo (by rw [hnm]; decide)
  have e2 : (nm.toList == ([100, 101, 114, 105, 118, 97, 116, 105, 118, 101] : List UInt8)) = false := eqFsNo (by rw [hnm]; decide)
  have e3 : (nm.toList == ([105, 110, 116, 101, 103, 114, 97, 108] : List UInt8)) = false := eqFsNo (by rw [hnm]; decide)
  have e4 : (nm.toList == ([105, 110, 116, 101, 114, 112, 111, 108, 97, 116, 101] : List UInt8)) = true := eqFsYes hnm
  have e5 : (nm.toList == ([107, 101, 101, 112, 76, 97, 115, 116, 86, 97, 108, 117, 101] : List UInt8)) = false := eqFsNo (by rw [hnm]; decide)
  have e6 : (nm.toList == ([110, 111, 110, 78, 101, 103, 97, 116, 105, 118, 101, 68, 101, 114, 105, 118, 97, 116, 105, 118, 101] : List UInt8)) = false := eqFsNo (by rw [hnm]; decide)
  have e7 : (nm.toList == ([112, 101, 114, 83, 101, 99, 111, 110, 100] : List UInt8)) = false := eqFsNo (by rw [hnm]; decide)
  clear hnm
  have hwr1 : IntKind.i64.wrap ((bn : Int) - a) = (bn : Int) - a := by rw [IntKind.wrap_i64]; omega
  have hwr2 : IntKind.i64.wrap ((bn : Int) - a - 1) = (bn : Int) - a - 1 := by rw [IntKind.wrap_i64]; omega
  have hwr3 : IntKind.i64.wrap ((j : Int) - a) = (j : Int) - a := by rw [IntKind.wrap_i64]; omega
  have hwr4 : IntKind.i64.wrap ((bn : Int) - a - 1 + 1) = (bn : Int) - a := by rw [IntKind.wrap_i64]; omega
  cases Bq
  · have hfin : Hid (V = none) := Lib.hid (by rw [hV3.out]; exact if_neg (by simp))
    clear hV3
    go_enter Tryz.func58, Tryz.ntmps58
    go_upto_region 0 with (fail)
    go_cut [8] (fun p8 wc => p8 = .pointer (some ⟨w.heap.size, 0, none⟩) ∧ w.grownBy wc none ∧ Hx wc w.heap.size [.bool false, .int .i64 0] 28)
    case first =>
      go_wp2_with fail
      go_meet
      exact ⟨rfl, (by exact G.go HG), Hx.new _ _ _⟩
    obtain ⟨rfl, HG, hr⟩ := hcut
    rename World => wx
    go_upto_region 1 with (fail)
    go_cut [8, 9, 10] (fun p8 p9 p10 wd => p8 = .pointer (some ⟨w.heap.size, 0, none⟩) ∧ p9 = .int .i64 T ∧ p10 = .bool false ∧ w.grownBy wd none ∧ Hx wd w.heap.size [.bool false, .int .i64 0] 28)
    case first =>
      go_wp2_with (go_at_call 94; (with_reducible refine (HLm.out _ (hLV.out.kept0 (by exact G.go HG))).mono ?_); rintro e wn ⟨rfl, hgn⟩; replace HG := G.trans (w := w) (by exact G.go HG) hgn; replace hr := Hx.kept (by first | exact Hx.go hr | exact Hx.go2) hgn (by simp); have hr_0 := hr.cell 0; have hr_1 := hr.cell 1; have hr_f0 := hr.free 0; have hr_f1 := hr.free 1; have hr_l := hr.lt; clear hgn)
      go_meet
      exact ⟨rfl, rfl, rfl, (by exact G.go HG), (by first | exact Hx.go hr | exact Hx.go2)⟩
    obtain ⟨rfl, rfl, rfl, HG, hr⟩ := hcut
    rename World => wy
    go_upto_region 2 with (fail)
    go_cut [8, 9, 10, 11, 12] (fun p8 p9 p10 p11 p12 wd => p8 = .pointer (some ⟨w.heap.size, 0, none⟩) ∧ p9 = .int .i64 T ∧ p10 = .bool false ∧ p11 = .int .i64 a ∧ p12 = .int .i64 (bn : Int) ∧ w.grownBy wd none ∧ Hx wd w.heap.size [.bool false, .int .i64 0] 28)
    case first =>
      go_wp2_with (first | (go_at_call 93; (with_reducible refine (HA.out _ (HV.out.kept0 (by exact G.go HG))).mono ?_); rintro e wn ⟨rfl, hgn⟩; replace HG := G.trans (w := w) (by exact G.go HG) hgn; replace hr := Hx.kept (by first | exact Hx.go hr | exact Hx.go2) hgn (by simp); have hr_0 := hr.cell 0; have hr_1 := hr.cell 1; have hr_f0 := hr.free 0; have hr_f1 := hr.free 1; have hr_l := hr.lt; clear hgn) | (go_at_call 95; (with_reducible refine (HB.out _ (HV.out.kept0 (by exact G.go HG))).mono ?_); rintro e wn ⟨rfl, hgn⟩; replace HG := G.trans (w := w) (by exact G.go HG) hgn; replace hr := Hx.kept (by first | exact Hx.go hr | exact Hx.go2) hgn (by simp); have hr_0 := hr.cell 0; have hr_1 := hr.cell 1; have hr_f0 := hr.free 0; have hr_f1 := hr.free 1; have hr_l := hr.lt; clear hgn))
      go_meet
      exact ⟨rfl, rfl, rfl, rfl, by first | rfl | rw [hend], (by exact G.go HG), (by first | exact Hx.go hr | exact Hx.go2)⟩
    obtain ⟨rfl, rfl, rfl, rfl, rfl, HG, hr⟩ := hcut
    rename World => wz
    have hr_0 := hr.cell 0; have hr_1 := hr.cell 1; have hr_f0 := hr.free 0; have hr_f1 := hr.free 1; have hr_l := hr.lt
    go_wp2_with fail
    refine ret_cell [.bool false, .int .i64 0] w.heap.size 28 rfl rfl (Tryz.isAgg28 _) (Tryz.sizeOf28 _) rfl ?_ ⟨by rw [hfin.out]; rfl, (by exact G.go HG)⟩
    exact (by first | exact Hx.go hr | exact Hx.go2)
  by_cases hneg : a < 0
  · have hd : decide (a < 0) = true := decide_eq_true hneg
    have hfin : Hid (V = none) := Lib.hid (by rw [hV3.out]; exact if_neg (by omega))
    clear hV3
    go_enter Tryz.func58, Tryz.ntmps58
    go_upto_region 0 with (fail)
    go_cut [8] (fun p8 wc => p8 = .pointer (some ⟨w.heap.size, 0, none⟩) ∧ w.grownBy wc none ∧ Hx wc w.heap.size [.bool false, .int .i64 0] 28)
    case first =>
      go_wp2_with fail
      go_meet
      exact ⟨rfl, (by exact G.go HG), Hx.new _ _ _⟩
    obtain ⟨rfl, HG, hr⟩ := hcut
    rename World => wx
    go_upto_region 1 with (fail)
    go_cut [8, 9, 10] (fun p8 p9 p10 wd => p8 = .pointer (some ⟨w.heap.size, 0, none⟩) ∧ p9 = .int .i64 T ∧ p10 = .bool true ∧ w.grownBy wd none ∧ Hx wd w.heap.size [.bool false, .int .i64 0] 28)
    case first =>
      go_wp2_with (go_at_call 94; (with_reducible refine (HLm.out _ (hLV.out.kept0 (by exact G.go HG))).mono ?_); rintro e wn ⟨rfl, hgn⟩; replace HG := G.trans (w := w) (by exact G.go HG) hgn; replace hr := Hx.kept (by first | exact Hx.go hr | exact Hx.go2) hgn (by simp); have hr_0 := hr.cell 0; have hr_1 := hr.cell 1; have hr_f0 := hr.free 0; have hr_f1 := hr.free 1; have hr_l := hr.lt; clear hgn)
      go_meet
      exact ⟨rfl, rfl, rfl, (by exact G.go HG), (by first | exact Hx.go hr | exact Hx.go2)⟩
    obtain ⟨rfl, rfl, rfl, HG, hr⟩ := hcut
    rename World => wy
    go_upto_region 2 with (fail)
    go_cut [8, 9, 10, 11, 12] (fun p8 p9 p10 p11 p12 wd => p8 = .pointer (some ⟨w.heap.size, 0, none⟩) ∧ p9 = .int .i64 T ∧ p10 = .bool true ∧ p11 = .int .i64 a ∧ p12 = .int .i64 (bn : Int) ∧ w.grownBy wd none ∧ Hx wd w.heap.size [.bool false, .int .i64 0] 28)
    case first =>
      go_wp2_with (first | (go_at_call 93; (with_reducible refine (HA.out _ (HV.out.kept0 (by exact G.go HG))).mono ?_); rintro e wn ⟨rfl, hgn⟩; replace HG := G.trans (w := w) (by exact G.go HG) hgn; replace hr := Hx.kept (by first | exact Hx.go hr | exact Hx.go2) hgn (by simp); have hr_0 := hr.cell 0; have hr_1 := hr.cell 1; have hr_f0 := hr.free 0; have hr_f1 := hr.free 1; have hr_l := hr.lt; clear hgn) | (go_at_call 95; (with_reducible refine (HB.out _ (HV.out.kept0 (by exact G.go HG))).mono ?_); rintro e wn ⟨rfl, hgn⟩; replace HG := G.trans (w := w) (by exact G.go HG) hgn; replace hr := Hx.kept (by first | exact Hx.go hr | exact Hx.go2) hgn (by simp); have hr_0 := hr.cell 0; have hr_1 := hr.cell 1; have hr_f0 := hr.free 0; have hr_f1 := hr.free 1; have hr_l := hr.lt; clear hgn))
      go_meet
      exact ⟨rfl, rfl, rfl, rfl, by first | rfl | rw [hend], (by exact G.go HG), (by first | exact Hx.go hr | exact Hx.go2)⟩
    obtain ⟨rfl, rfl, rfl, rfl, rfl, HG, hr⟩ := hcut
    rename World => wz
    have hr_0 := hr.cell 0; have hr_1 := hr.cell 1; have hr_f0 := hr.free 0; have hr_f1 := hr.free 1; have hr_l := hr.lt
    go_wp2_with fail
    refine ret_cell [.bool false, .int .i64 0] w.heap.size 28 rfl rfl (Tryz.isAgg28 _) (Tryz.sizeOf28 _) rfl ?_ ⟨by rw [hfin.out]; rfl, (by exact G.go HG)⟩
    exact (by first | exact Hx.go hr | exact Hx.go2)
  obtain ⟨m, rfl⟩ : ∃ m : Nat, a = m := ⟨a.toNat, by omega⟩
  have hml : m < S.vals.length := by omega
  have hd : decide ((m : Int) < 0) = false := decide_eq_false (by omega)
  by_cases hmo : T < (bn : Int) - (m : Int) - 1
  · have hdm : decide (T < (bn : Int) - (m : Int) - 1) = true := decide_eq_true hmo
    have hfin : Hid (V = none) := Lib.hid (by rw [hV3.out]; exact if_neg (by rw [decide_eq_false (show ¬ (bn : Int) - (m : Int) - 1 ≤ T by omega)]; simp))
    clear hV3
    go_enter Tryz.func58, Tryz.ntmps58
    go_upto_region 0 with (fail)
    go_cut [8] (fun p8 wc => p8 = .pointer (some ⟨w.heap.size, 0, none⟩) ∧ w.grownBy wc none ∧ Hx wc w.heap.size [.bool false, .int .i64 0] 28)
    case first =>
      go_wp2_with fail
      go_meet
      exact ⟨rfl, (by exact G.go HG), Hx.new _ _ _⟩
    obtain ⟨rfl, HG, hr⟩ := hcut
    rename World => wx
    go_upto_region 1 with (fail)
    go_cut [8, 9, 10] (fun p8 p9 p10 wd => p8 = .pointer (some ⟨w.heap.size, 0, none⟩) ∧ p9 = .int .i64 T ∧ p10 = .bool true ∧ w.grownBy wd none ∧ Hx wd w.heap.size [.bool false, .int .i64 0] 28)
    case first =>
      go_wp2_with (go_at_call 94; (with_reducible refine (HLm.out _ (hLV.out.kept0 (by exact G.go HG))).mono ?_); rintro e wn ⟨rfl, hgn⟩; replace HG := G.trans (w := w) (by exact G.go HG) hgn; replace hr := Hx.kept (by first | exact Hx.go hr | exact Hx.go2) hgn (by simp); have hr_0 := hr.cell 0; have hr_1 := hr.cell 1; have hr_f0 := hr.free 0; have hr_f1 := hr.free 1; have hr_l := hr.lt; clear hgn)
      go_meet
      exact ⟨rfl, rfl, rfl, (by exact G.go HG), (by first | exact Hx.go hr | exact Hx.go2)⟩
    obtain ⟨rfl, rfl, rfl, HG, hr⟩ := hcut
    rename World => wy
    go_upto_region 2 with (fail)
    go_cut [8, 9, 10, 11, 12] (fun p8 p9 p10 p11 p12 wd => p8 = .pointer (some ⟨w.heap.size, 0, none⟩) ∧ p9 = .int .i64 T ∧ p10 = .bool true ∧ p11 = .int .i64 (m : Int) ∧ p12 = .int .i64 (bn : Int) ∧ w.grownBy wd none ∧ Hx wd w.heap.size [.bool false, .int .i64 0] 28)
    case first =>
      go_wp2_with (first | (go_at_call 93; (with_reducible refine (HA.out _ (HV.out.kept0 (by exact G.go HG))).mono ?_); rintro e wn ⟨rfl, hgn⟩; replace HG := G.trans (w := w) (by exact G.go HG) hgn; replace hr := Hx.kept (by first | exact Hx.go hr | exact Hx.go2) hgn (by simp); have hr_0 := hr.cell 0; have hr_1 := hr.cell 1; have hr_f0 := hr.free 0; have hr_f1 := hr.free 1; have hr_l := hr.lt; clear hgn) | (go_at_call 95; (with_reducible refine (HB.out _ (HV.out.kept0 (by exact G.go HG))).mono ?_); rintro e wn ⟨rfl, hgn⟩; replace HG := G.trans (w := w) (by exact G.go HG) hgn; replace hr := Hx.kept (by first | exact Hx.go hr | exact Hx.go2) hgn (by simp); have hr_0 := hr.cell 0; have hr_1 := hr.cell 1; have hr_f0 := hr.free 0; have hr_f1 := hr.free 1; have hr_l := hr.lt; clear hgn))
      go_meet
      exact ⟨rfl, rfl, rfl, rfl, by first | rfl | rw [hend], (by exact G.go HG), (by first | exact Hx.go hr | exact Hx.go2)⟩
    obtain ⟨rfl, rfl, rfl, rfl, rfl, HG, hr⟩ := hcut
    rename World => wz
    have hr_0 := hr.cell 0; have hr_1 := hr.cell 1; have hr_f0 := hr.free 0; have hr_f1 := hr.free 1; have hr_l := hr.lt
    go_wp2_with fail
    refine ret_cell [.bool false, .int .i64 0] w.heap.size 28 rfl rfl (Tryz.isAgg28 _) (Tryz.sizeOf28 _) rfl ?_ ⟨by rw [hfin.out]; rfl, (by exact G.go HG)⟩
    exact (by first | exact Hx.go hr | exact Hx.go2)
  have hdm : decide (T < (bn : Int) - (m : Int) - 1) = false := decide_eq_false hmo
  have hle : decide ((bn : Int) - (m : Int) - 1 ≤ T) = true := decide_eq_true (by omega)
  by_cases hend : bn = S.vals.length
  · have hde : decide ((bn : Int) = (S.vals.length : Int)) = true := decide_eq_true (by omega)
    have hfin : Hid (V = none) := Lib.hid (by rw [hV3.out]; exact if_neg (by omega))
    clear hV3
    go_enter Tryz.func58, Tryz.ntmps58
    go_upto_region 0 with (fail)
    go_cut [8] (fun p8 wc => p8 = .pointer (some ⟨w.heap.size, 0, none⟩) ∧ w.grownBy wc none ∧ Hx wc w.heap.size [.bool false, .int .i64 0] 28)
    case first =>
      go_wp2_with fail
      go_meet
      exact ⟨rfl, (by exact G.go HG), Hx.new _ _ _⟩
    obtain ⟨rfl, HG, hr⟩ := hcut
    rename World => wx
    go_upto_region 1 with (fail)
    go_cut [8, 9, 10] (fun p8 p9 p10 wd => p8 = .pointer (some ⟨w.heap.size, 0, none⟩) ∧ p9 = .int .i64 T ∧ p10 = .bool true ∧ w.grownBy wd none ∧ Hx wd w.heap.size [.bool false, .int .i64 0] 28)
    case first =>
      go_wp2_with (go_at_call 94; (with_reducible refine (HLm.out _ (hLV.out.kept0 (by exact G.go HG))).mono ?_); rintro e wn ⟨rfl, hgn⟩; replace HG := G.trans (w := w) (by exact G.go HG) hgn; replace hr := Hx.kept (by first | exact Hx.go hr | exact Hx.go2) hgn (by simp); have hr_0 := hr.cell 0; have hr_1 := hr.cell 1; have hr_f0 := hr.free 0; have hr_f1 := hr.free 1; have hr_l := hr.lt; clear hgn)
      go_meet
      exact ⟨rfl, rfl, rfl, (by exact G.go HG), (by first | exact Hx.go hr | exact Hx.go2)⟩
    obtain ⟨rfl, rfl, rfl, HG, hr⟩ := hcut
    rename World => wy
    go_upto_region 2 with (fail)
    go_cut [8, 9, 10, 11, 12] (fun p8 p9 p10 p11 p12 wd => p8 = .pointer (some ⟨w.heap.size, 0, none⟩) ∧ p9 = .int .i64 T ∧ p10 = .bool true ∧ p11 = .int .i64 (m : Int) ∧ p12 = .int .i64 (bn : Int) ∧ w.grownBy wd none ∧ Hx wd w.heap.size [.bool false, .int .i64 0] 28)
    case first =>
      go_wp2_with (first | (go_at_call 93; (with_reducible refine (HA.out _ (HV.out.kept0 (by exact G.go HG))).mono ?_); rintro e wn ⟨rfl, hgn⟩; replace HG := G.trans (w := w) (by exact G.go HG) hgn; replace hr := Hx.kept (by first | exact Hx.go hr | exact Hx.go2) hgn (by simp); have hr_0 := hr.cell 0; have hr_1 := hr.cell 1; have hr_f0 := hr.free 0; have hr_f1 := hr.free 1; have hr_l := hr.lt; clear hgn) | (go_at_call 95; (with_reducible refine (HB.out _ (HV.out.kept0 (by exact G.go HG))).mono ?_); rintro e wn ⟨rfl, hgn⟩; replace HG := G.trans (w := w) (by exact G.go HG) hgn; replace hr := Hx.kept (by first | exact Hx.go hr | exact Hx.go2) hgn (by simp); have hr_0 := hr.cell 0; have hr_1 := hr.cell 1; have hr_f0 := hr.free 0; have hr_f1 := hr.free 1; have hr_l := hr.lt; clear hgn))
      go_meet
      exact ⟨rfl, rfl, rfl, rfl, by first | rfl | rw [hend], (by exact G.go HG), (by first | exact Hx.go hr | exact Hx.go2)⟩
    obtain ⟨rfl, rfl, rfl, rfl, rfl, HG, hr⟩ := hcut
    rename World => wz
    have hr_0 := hr.cell 0; have hr_1 := hr.cell 1; have hr_f0 := hr.free 0; have hr_f1 := hr.free 1; have hr_l := hr.lt
    go_wp2_with fail
    refine ret_cell [.bool false, .int .i64 0] w.heap.size 28 rfl rfl (Tryz.isAgg28 _) (Tryz.sizeOf28 _) rfl ?_ ⟨by rw [hfin.out]; rfl, (by exact G.go HG)⟩
    exact (by first | exact Hx.go hr | exact Hx.go2)
  have hbl2 : bn < S.vals.length := by omega
  have hde : decide ((bn : Int) = (S.vals.length : Int)) = false := decide_eq_false (by omega)
  obtain ⟨y, hy⟩ := has2 (by omega)
  have hy : S.opts.getD m none = some y := hy
  obtain ⟨z, hz⟩ := hbs (by omega)
  have hfy := opts_fits S m
  have hfz := opts_fits S bn
  rw [hy] at hfy
  rw [hz] at hfz
  have hV5 : Hid (V = lieO (some y) (some z) ((j : Int) - m) ((bn : Int) - m)) := Lib.hid (by rw [hV3.out, show S.opts.getD (m : Int).toNat none = some y from hy, hz, hle, if_pos ⟨by omega, by omega, rfl⟩])
  clear hV3 has2 hbs
  have HSb := Lib.hid (fun w2 => sub1_any w2 true true z y)
  rw [show vK true z = some z from vK_form hfz, show vK true y = some y from vK_form hfy] at HSb
  obtain ⟨D, hD⟩ : ∃ D, Hid (subO (some z) (some y) = D) := ⟨_, Lib.hid rfl⟩
  rw [hD.out, valV_form] at HSb
  have hDf : Fits D := by rw [← hD.out]; exact subO_fits _ _
  have HY := Lib.hid (fun wr hg => HC.out m hml wr hg)
  rw [hy] at HY
  have HZ := Lib.hid (fun wr hg => HC.out bn hbl2 wr hg)
  rw [hz] at HZ
  have HYx : Hid (∀ wr, w.grownBy wr none → wr.cell? ⟨b, o + m * 2, none⟩ = some (.bool true) ∧ wr.cell? ⟨b, o + m * 2 + 1, none⟩ = some (.int .i64 y)) := HY
  have HZx : Hid (∀ wr, w.grownBy wr none → wr.cell? ⟨b, o + bn * 2, none⟩ = some (.bool true) ∧ wr.cell? ⟨b, o + bn * 2 + 1, none⟩ = some (.int .i64 z)) := HZ
  clear HY HZ HC
  go_enter Tryz.func58, Tryz.ntmps58
  go_upto_region 0 with (fail)
  go_cut [8] (fun p8 wc => p8 = .pointer (some ⟨w.heap.size, 0, none⟩) ∧ w.grownBy wc none ∧ Hx wc w.heap.size [.bool false, .int .i64 0] 28)
  case first =>
    go_wp2_with fail
    go_meet
    exact ⟨rfl, (by exact G.go HG), Hx.new _ _ _⟩
  obtain ⟨rfl, HG, hr⟩ := hcut
  rename World => wx
  go_upto_region 1 with (fail)
  go_cut [8, 9, 10] (fun p8 p9 p10 wd => p8 = .pointer (some ⟨w.heap.size, 0, none⟩) ∧ p9 = .int .i64 T ∧ p10 = .bool true ∧ w.grownBy wd none ∧ Hx wd w.heap.size [.bool false, .int .i64 0] 28)
  case first =>
    go_wp2_with (go_at_call 94; (with_reducible refine (HLm.out _ (hLV.out.kept0 (by exact G.go HG))).mono ?_); rintro e wn ⟨rfl, hgn⟩; replace HG := G.trans (w := w) (by exact G.go HG) hgn; replace hr := Hx.kept (by first | exact Hx.go hr | exact Hx.go2) hgn (by simp); have hr_0 := hr.cell 0; have hr_1 := hr.cell 1; have hr_f0 := hr.free 0; have hr_f1 := hr.free 1; have hr_l := hr.lt; clear hgn)
    go_meet
    exact ⟨rfl, rfl, rfl, (by exact G.go HG), (by first | exact Hx.go hr | exact Hx.go2)⟩
  obtain ⟨rfl, rfl, rfl, HG, hr⟩ := hcut
  rename World => wy
  go_upto_region 2 with (fail)
  go_cut [8, 9, 10, 11, 12] (fun p8 p9 p10 p11 p12 wd => p8 = .pointer (some ⟨w.heap.size, 0, none⟩) ∧ p9 = .int .i64 T ∧ p10 = .bool true ∧ p11 = .int .i64 (m : Int) ∧ p12 = .int .i64 (bn : Int) ∧ w.grownBy wd none ∧ Hx wd w.heap.size [.bool false, .int .i64 0] 28)
  case first =>
    go_wp2_with (first | (go_at_call 93; (with_reducible refine (HA.out _ (HV.out.kept0 (by exact G.go HG))).mono ?_); rintro e wn ⟨rfl, hgn⟩; replace HG := G.trans (w := w) (by exact G.go HG) hgn; replace hr := Hx.kept (by first | exact Hx.go hr | exact Hx.go2) hgn (by simp); have hr_0 := hr.cell 0; have hr_1 := hr.cell 1; have hr_f0 := hr.free 0; have hr_f1 := hr.free 1; have hr_l := hr.lt; clear hgn) | (go_at_call 95; (with_reducible refine (HB.out _ (HV.out.kept0 (by exact G.go HG))).mono ?_); rintro e wn ⟨rfl, hgn⟩; replace HG := G.trans (w := w) (by exact G.go HG) hgn; replace hr := Hx.kept (by first | exact Hx.go hr | exact Hx.go2) hgn (by simp); have hr_0 := hr.cell 0; have hr_1 := hr.cell 1; have hr_f0 := hr.free 0; have hr_f1 := hr.free 1; have hr_l := hr.lt; clear hgn))
    go_meet
    exact ⟨rfl, rfl, rfl, rfl, by first | rfl | rw [hend], (by exact G.go HG), (by first | exact Hx.go hr | exact Hx.go2)⟩
  obtain ⟨rfl, rfl, rfl, rfl, rfl, HG, hr⟩ := hcut
  rename World => wz
  have hr_0 := hr.cell 0; have hr_1 := hr.cell 1; have hr_f0 := hr.free 0; have hr_f1 := hr.free 1; have hr_l := hr.lt
  clear hr_0 hr_1 hr_f0 hr_f1 hr_l HA HB HLm
  go_upto_region 10 with (fail)
  go_cut [8, 11, 12, 13, 14] (fun p8 p11 p12 p13 p14 wd => ∃ O, p8 = .pointer (some ⟨w.heap.size, 0, none⟩) ∧ p11 = .int .i64 (m : Int) ∧ p12 = .int .i64 (bn : Int) ∧ p13 = .int .i64 ((bn : Int) - (m : Int) - 1) ∧ p14 = .pointer (some ⟨O, 0, none⟩) ∧ wz.heap.size ≤ O ∧ wz.grownBy wd none ∧ Hx wd O [.bool (vB D), .int .i64 (vN D)] 28)
  case first =>
    refine wp_region_rel (n := 10) (S := [fun v _ => v = .slice (some ⟨b, o, none⟩) S.vals.length c, fun v _ => v = .int .i64 (bn : Int), fun v _ => v = .pointer (some ⟨b, o + bn * 2, none⟩), fun v _ => v = .agg #[.bool true, .int .i64 z], fun v _ => v = .slice (some ⟨b, o, none⟩) S.vals.length c, fun v _ => v = .int .i64 (m : Int), fun v _ => v = .pointer (some ⟨b, o + m * 2, none⟩), fun v _ => v = .agg #[.bool true, .int .i64 y], fun v _ => v = .agg #[.bool (vB D), .int .i64 (vN D)], fun v w => ∃ O, v = .pointer (some ⟨O, 0, none⟩) ∧ wz.heap.size ≤ O ∧ Hx w O [.bool false, .int .i64 0] 28]) (G.refl _ none) (by kernel_rfl) (by kernel_rfl) ?_ ?_ ?_
    · intro i v y1 y2 hg12 hS
      match i, hS with
      | 0, h => exact h
      | 1, h => exact h
      | 2, h => exact h
      | 3, h => exact h
      | 4, h => exact h
      | 5, h => exact h
      | 6, h => exact h
      | 7, h => exact h
      | 8, h => exact h
      | 9, h => exact (let ⟨O, e1, e2, e3⟩ := h; ⟨O, e1, e2, e3.kept hg12 (by simp)⟩)
      | k + 10, h => exact trivial
    · simp only [List.take_succ_cons, List.take_zero, relOps]
      refine ⟨fun VV y1 hg1 hV => ?_, fun VV y1 hg1 hV => ?_, fun VV y1 hg1 hV => ?_, fun VV y1 hg1 hV => ?_, fun VV y1 hg1 hV => ?_, fun VV y1 hg1 hV => ?_, fun VV y1 hg1 hV => ?_, fun VV y1 hg1 hV => ?_, fun VV y1 hg1 hV => ?_, fun VV y1 hg1 hV => ?_, trivial⟩
      · clear hV
        obtain ⟨y2, y3⟩ := HYx.out _ (G.trans HG hg1); obtain ⟨z2, z3⟩ := HZx.out _ (G.trans HG hg1)
        simp only [putAll]
        go_wp2_with fail
        exact ⟨rfl, rfl, G.refl _ none, rfl⟩
      · clear hV
        obtain ⟨y2, y3⟩ := HYx.out _ (G.trans HG hg1); obtain ⟨z2, z3⟩ := HZx.out _ (G.trans HG hg1)
        simp only [putAll]
        go_wp2_with fail
        exact ⟨rfl, rfl, G.refl _ none, rfl⟩
      · have e0 := hV 0 (by kernel_rfl); have e1 := hV 1 (by kernel_rfl); clear hV
        obtain ⟨y2, y3⟩ := HYx.out _ (G.trans HG hg1); obtain ⟨z2, z3⟩ := HZx.out _ (G.trans HG hg1)
        simp only [atS, List.getD_cons_succ, List.getD_cons_zero] at e0 e1
        simp only [putAll, e0, e1]
        go_wp2_with fail
        exact ⟨rfl, rfl, G.refl _ none, rfl⟩
      · have e2 := hV 2 (by kernel_rfl); clear hV
        obtain ⟨y2, y3⟩ := HYx.out _ (G.trans HG hg1); obtain ⟨z2, z3⟩ := HZx.out _ (G.trans HG hg1)
        simp only [atS, List.getD_cons_succ, List.getD_cons_zero] at e2
        simp only [putAll, e2]
        go_wp2_with fail
        exact ⟨rfl, rfl, G.refl _ none, rfl⟩
      · clear hV
        obtain ⟨y2, y3⟩ := HYx.out _ (G.trans HG hg1); obtain ⟨z2, z3⟩ := HZx.out _ (G.trans HG hg1)
        simp only [putAll]
        go_wp2_with fail
        exact ⟨rfl, rfl, G.refl _ none, rfl⟩
      · clear hV
        obtain ⟨y2, y3⟩ := HYx.out _ (G.trans HG hg1); obtain ⟨z2, z3⟩ := HZx.out _ (G.trans HG hg1)
        simp only [putAll]
        go_wp2_with fail
        exact ⟨rfl, rfl, G.refl _ none, rfl⟩
      · have e4 := hV 4 (by kernel_rfl); have e5 := hV 5 (by kernel_rfl); clear hV
        obtain ⟨y2, y3⟩ := HYx.out _ (G.trans HG hg1); obtain ⟨z2, z3⟩ := HZx.out _ (G.trans HG hg1)
        simp only [atS, List.getD_cons_succ, List.getD_cons_zero] at e4 e5
        simp only [putAll, e4, e5]
        go_wp2_with fail
        exact ⟨rfl, rfl, G.refl _ none, rfl⟩
      · have e6 := hV 6 (by kernel_rfl); clear hV
        obtain ⟨y2, y3⟩ := HYx.out _ (G.trans HG hg1); obtain ⟨z2, z3⟩ := HZx.out _ (G.trans HG hg1)
        simp only [atS, List.getD_cons_succ, List.getD_cons_zero] at e6
        simp only [putAll, e6]
        go_wp2_with fail
        exact ⟨rfl, rfl, G.refl _ none, rfl⟩
      · have e3 := hV 3 (by kernel_rfl); have e7 := hV 7 (by kernel_rfl); clear hV
        obtain ⟨y2, y3⟩ := HYx.out _ (G.trans HG hg1); obtain ⟨z2, z3⟩ := HZx.out _ (G.trans HG hg1)
        simp only [atS, List.getD_cons_succ, List.getD_cons_zero] at e3 e7
        simp only [putAll, e3, e7]
        go_wp2_with (go_at_call 49; (with_reducible refine (HSb.out _).mono ?_); rintro e wn ⟨rfl, hgn⟩)
        exact ⟨rfl, rfl, hgn, rfl⟩
      · clear hV
        obtain ⟨y2, y3⟩ := HYx.out _ (G.trans HG hg1); obtain ⟨z2, z3⟩ := HZx.out _ (G.trans HG hg1)
        simp only [putAll]
        go_wp2_with fail
        exact ⟨rfl, rfl, G.alloc (G.refl _ _) _, _, rfl, hg1.size, Hx.new _ _ _⟩
    · intro VV y1 hg1 hV
      have e0 := hV 0 (by omega); have e1 := hV 1 (by omega); have e2 := hV 2 (by omega); have e3 := hV 3 (by omega); have e4 := hV 4 (by omega); have e5 := hV 5 (by omega); have e6 := hV 6 (by omega); have e7 := hV 7 (by omega); have e8 := hV 8 (by omega); have e9 := hV 9 (by omega); clear hV
      simp only [atS, List.getD_cons_succ, List.getD_cons_zero] at e0 e1 e2 e3 e4 e5 e6 e7 e8 e9
      simp only [List.take_succ_cons, List.take_zero, List.drop_succ_cons, List.drop_zero, putAll, e0, e1, e2, e3, e4, e5, e6, e7, e8]
      have hg2 := hg1
      clear hg1
      obtain ⟨O, e9, hO1, hO2⟩ := e9
      simp only [e9]
      have ho_0 := hO2.cell 0; have ho_1 := hO2.cell 1; have ho_f0 := hO2.free 0; have ho_f1 := hO2.free 1; have ho_l := hO2.lt
      go_wp2_with fail
      go_meet
      exact ⟨O, rfl, rfl, rfl, rfl, rfl, hO1, (by exact G.go hg2), (by first | exact Hx.go hO2 | exact Hx.go2)⟩
  obtain ⟨O, rfl, rfl, rfl, rfl, rfl, hO1, hgo, ho⟩ := hcut
  have hrl := hr.lt
  have hnO : ¬ w.heap.size = O := by omega
  have hnO2 : ¬ O = w.heap.size := by omega
  replace HG := G.trans HG hgo
  replace hr := Hx.kept hr hgo (by simp)
  clear hgo
  rename World => wu
  have hvn : -4611686018427387904 ≤ vN D ∧ vN D ≤ 4611686018427387904 := by
    cases D with
    | none => simp [vN]
    | some d => exact hDf d rfl
  have HMd := Lib.hid (fun w2 => mulDiv1_any (vN D) ((j : Int) - m) ((bn : Int) - m) w2 (by omega) (by omega) (by omega) (by omega) (by omega) (by omega))
  obtain ⟨M, hM⟩ : ∃ M, Hid (mulDivO (vN D) ((j : Int) - m) ((bn : Int) - m) = M) := ⟨_, Lib.hid rfl⟩
  rw [hM.out, mulDivV_form] at HMd
  cases D with
  | none =>
    have hfin : Hid (V = none) := Lib.hid (by rw [hV5.out]; exact lie_sub hD.out)
    have ho : Hx wu O [.bool false, .int .i64 0] 28 := ho
    have HMd : Hid (∀ w2, Calls Tryz.prog 92 #[.int .i64 0, .int .i64 ((j : Int) - m), .int .i64 ((bn : Int) - m)] w2 fun e w' => e = .returned (.tuple #[.int .i64 (vN M), .bool (vB M)]) ∧ w2.grownBy w' none) := HMd
    have ho_0 := ho.cell 0; have ho_1 := ho.cell 1; have ho_f0 := ho.free 0; have ho_f1 := ho.free 1; have ho_l := ho.lt; have hr_0 := hr.cell 0; have hr_1 := hr.cell 1; have hr_f0 := hr.free 0; have hr_f1 := hr.free 1; have hr_l := hr.lt
    go_wp2_with (go_at_call 92; (with_reducible refine (HMd.out _).mono ?_); rintro e wn ⟨rfl, hgn⟩; replace HG := G.trans (w := w) (by exact G.go HG) hgn; replace ho := Hx.kept (by first | exact Hx.go ho | exact Hx.go2) hgn (by simp); have ho_0 := ho.cell 0; have ho_1 := ho.cell 1; have ho_f0 := ho.free 0; have ho_f1 := ho.free 1; have ho_l := ho.lt; replace hr := Hx.kept (by first | exact Hx.go hr | exact Hx.go2) hgn (by simp); have hr_0 := hr.cell 0; have hr_1 := hr.cell 1; have hr_f0 := hr.free 0; have hr_f1 := hr.free 1; have hr_l := hr.lt; clear hgn)
    refine ret_cell [.bool false, .int .i64 0] w.heap.size 28 rfl rfl (Tryz.isAgg28 _) (Tryz.sizeOf28 _) rfl ?_ ⟨by rw [hfin.out]; rfl, (by exact G.go HG)⟩
    exact (by first | exact Hx.go hr | exact Hx.go2)
  | some d =>
    have ho : Hx wu O [.bool true, .int .i64 d] 28 := ho
    have HMd : Hid (∀ w2, Calls Tryz.prog 92 #[.int .i64 d, .int .i64 ((j : Int) - m), .int .i64 ((bn : Int) - m)] w2 fun e w' => e = .returned (.tuple #[.int .i64 (vN M), .bool (vB M)]) ∧ w2.grownBy w' none) := HMd
    have hM : Hid (mulDivO d ((j : Int) - m) ((bn : Int) - m) = M) := hM
    cases M with
    | none =>
      have hfin : Hid (V = none) := Lib.hid (by rw [hV5.out]; exact lie_mul hD.out hM.out)
      have HMd : Hid (∀ w2, Calls Tryz.prog 92 #[.int .i64 d, .int .i64 ((j : Int) - m), .int .i64 ((bn : Int) - m)] w2 fun e w' => e = .returned (.tuple #[.int .i64 0, .bool false]) ∧ w2.grownBy w' none) := HMd
      have ho_0 := ho.cell 0; have ho_1 := ho.cell 1; have ho_f0 := ho.free 0; have ho_f1 := ho.free 1; have ho_l := ho.lt; have hr_0 := hr.cell 0; have hr_1 := hr.cell 1; have hr_f0 := hr.free 0; have hr_f1 := hr.free 1; have hr_l := hr.lt
      go_wp2_with (go_at_call 92; (with_reducible refine (HMd.out _).mono ?_); rintro e wn ⟨rfl, hgn⟩; replace HG := G.trans (w := w) (by exact G.go HG) hgn; replace ho := Hx.kept (by first | exact Hx.go ho | exact Hx.go2) hgn (by simp); have ho_0 := ho.cell 0; have ho_1 := ho.cell 1; have ho_f0 := ho.free 0; have ho_f1 := ho.free 1; have ho_l := ho.lt; replace hr := Hx.kept (by first | exact Hx.go hr | exact Hx.go2) hgn (by simp); have hr_0 := hr.cell 0; have hr_1 := hr.cell 1; have hr_f0 := hr.free 0; have hr_f1 := hr.free 1; have hr_l := hr.lt; clear hgn)
      refine ret_cell [.bool false, .int .i64 0] w.heap.size 28 rfl rfl (Tryz.isAgg28 _) (Tryz.sizeOf28 _) rfl ?_ ⟨by rw [hfin.out]; rfl, (by exact G.go HG)⟩
      exact (by first | exact Hx.go hr | exact Hx.go2)
    | some n =>
      have hnf := mulDivO_fits d ((j : Int) - m) ((bn : Int) - m) n hM.out
      have HMd : Hid (∀ w2, Calls Tryz.prog 92 #[.int .i64 d, .int .i64 ((j : Int) - m), .int .i64 ((bn : Int) - m)] w2 fun e w' => e = .returned (.tuple #[.int .i64 n, .bool true]) ∧ w2.grownBy w' none) := HMd
      have hV6 : Hid (V = sumO (sumO (some 0) (some y)) (some n)) := Lib.hid (by rw [hV5.out]; exact lie_hit hD.out hM.out)
      have HO := Lib.hid (fun w2 : World => refOf_any (w := w2) n)
      rw [ofR_small hnf] at HO
      simp only [valV, valC] at HO
      have HAd := Lib.hid (fun v w2 h => add1_any [(true, y), (true, n)] v w2 h (by simp))
      rw [show addO [(true, y), (true, n)] = V from (add2_fit (some y) (some n) hfy (fits_some hnf)).trans hV6.out.symm, valV_form] at HAd
      clear hV5 hV6 hD hM HSb
      have ho_0 := ho.cell 0; have ho_1 := ho.cell 1; have ho_f0 := ho.free 0; have ho_f1 := ho.free 1; have ho_l := ho.lt; have hr_0 := hr.cell 0; have hr_1 := hr.cell 1; have hr_f0 := hr.free 0; have hr_f1 := hr.free 1; have hr_l := hr.lt
      go_upto_region 14 with (go_at_call 92; (with_reducible refine (HMd.out _).mono ?_); rintro e wn ⟨rfl, hgn⟩; replace HG := G.trans (w := w) (by exact G.go HG) hgn; replace ho := Hx.kept (by first | exact Hx.go ho | exact Hx.go2) hgn (by simp); have ho_0 := ho.cell 0; have ho_1 := ho.cell 1; have ho_f0 := ho.free 0; have ho_f1 := ho.free 1; have ho_l := ho.lt; replace hr := Hx.kept (by first | exact Hx.go hr | exact Hx.go2) hgn (by simp); have hr_0 := hr.cell 0; have hr_1 := hr.cell 1; have hr_f0 := hr.free 0; have hr_f1 := hr.free 1; have hr_l := hr.lt; clear hgn)
      clear ho_0 ho_1 ho_f0 ho_f1 ho_l hr_0 hr_1 hr_f0 hr_f1 hr_l
      refine wp_region_rel (n := 8) (S := [fun v _ => v = .slice (some ⟨b, o, none⟩) S.vals.length c, fun v _ => v = .int .i64 (m : Int), fun v _ => v = .pointer (some ⟨b, o + m * 2, none⟩), fun v _ => v = .agg #[.bool true, .int .i64 y], fun v _ => v = .int .i64 n, fun v _ => v = .agg #[.bool true, .int .i64 n], fun v w => ∃ Q, v = .slice (some ⟨Q, 0, none⟩) 2 2 ∧ Hx w Q [.bool true, .int .i64 y, .bool true, .int .i64 n] 28, fun v _ => v = .agg #[.bool (vB V), .int .i64 (vN V)]]) (G.refl _ none) (by kernel_rfl) (by kernel_rfl) ?_ ?_ ?_
      · intro i v y1 y2 hg12 hS
        match i, hS with
        | 0, h => exact h
        | 1, h => exact h
        | 2, h => exact h
        | 3, h => exact h
        | 4, h => exact h
        | 5, h => exact h
        | 6, h => exact (let ⟨Q, e1, e2⟩ := h; ⟨Q, e1, e2.kept hg12 (by simp)⟩)
        | 7, h => exact h
        | k + 8, h => exact trivial
      · simp only [List.take_succ_cons, List.take_zero, relOps]
        refine ⟨fun VV y1 hg1 hV => ?_, fun VV y1 hg1 hV => ?_, fun VV y1 hg1 hV => ?_, fun VV y1 hg1 hV => ?_, fun VV y1 hg1 hV => ?_, fun VV y1 hg1 hV => ?_, fun VV y1 hg1 hV => ?_, fun VV y1 hg1 hV => ?_, trivial⟩
        · clear hV
          obtain ⟨y2, y3⟩ := HYx.out _ (G.trans HG hg1); replace hr := Hx.kept hr hg1 (by simp); have hr_0 := hr.cell 0; have hr_1 := hr.cell 1; have hr_f0 := hr.free 0; have hr_f1 := hr.free 1; have hr_l := hr.lt
          simp only [putAll]
          go_wp2_with fail
          exact ⟨rfl, rfl, G.refl _ none, rfl⟩
        · clear hV
          obtain ⟨y2, y3⟩ := HYx.out _ (G.trans HG hg1); replace hr := Hx.kept hr hg1 (by simp); have hr_0 := hr.cell 0; have hr_1 := hr.cell 1; have hr_f0 := hr.free 0; have hr_f1 := hr.free 1; have hr_l := hr.lt
          simp only [putAll]
          go_wp2_with fail
          exact ⟨rfl, rfl, G.refl _ none, rfl⟩
        · have e0 := hV 0 (by kernel_rfl); have e1 := hV 1 (by kernel_rfl); clear hV
          obtain ⟨y2, y3⟩ := HYx.out _ (G.trans HG hg1); replace hr := Hx.kept hr hg1 (by simp); have hr_0 := hr.cell 0; have hr_1 := hr.cell 1; have hr_f0 := hr.free 0; have hr_f1 := hr.free 1; have hr_l := hr.lt
          simp only [atS, List.getD_cons_succ, List.getD_cons_zero] at e0 e1
          simp only [putAll, e0, e1]
          go_wp2_with fail
          exact ⟨rfl, rfl, G.refl _ none, rfl⟩
        · have e2 := hV 2 (by kernel_rfl); clear hV
          obtain ⟨y2, y3⟩ := HYx.out _ (G.trans HG hg1); replace hr := Hx.kept hr hg1 (by simp); have hr_0 := hr.cell 0; have hr_1 := hr.cell 1; have hr_f0 := hr.free 0; have hr_f1 := hr.free 1; have hr_l := hr.lt
          simp only [atS, List.getD_cons_succ, List.getD_cons_zero] at e2
          simp only [putAll, e2]
          go_wp2_with fail
          exact ⟨rfl, rfl, G.refl _ none, rfl⟩
        · clear hV
          obtain ⟨y2, y3⟩ := HYx.out _ (G.trans HG hg1); replace hr := Hx.kept hr hg1 (by simp); have hr_0 := hr.cell 0; have hr_1 := hr.cell 1; have hr_f0 := hr.free 0; have hr_f1 := hr.free 1; have hr_l := hr.lt
          simp only [putAll]
          go_wp2_with fail
          exact ⟨rfl, rfl, G.refl _ none, rfl⟩
        · have e4 := hV 4 (by kernel_rfl); clear hV
          obtain ⟨y2, y3⟩ := HYx.out _ (G.trans HG hg1); replace hr := Hx.kept hr hg1 (by simp); have hr_0 := hr.cell 0; have hr_1 := hr.cell 1; have hr_f0 := hr.free 0; have hr_f1 := hr.free 1; have hr_l := hr.lt
          simp only [atS, List.getD_cons_succ, List.getD_cons_zero] at e4
          simp only [putAll, e4]
          go_wp2_with (go_at_call 54; (with_reducible refine (HO.out _).mono ?_); rintro e wn ⟨rfl, hgn⟩)
          exact ⟨rfl, rfl, hgn, rfl⟩
        · have e3 := hV 3 (by kernel_rfl); have e5 := hV 5 (by kernel_rfl); clear hV
          obtain ⟨y2, y3⟩ := HYx.out _ (G.trans HG hg1); replace hr := Hx.kept hr hg1 (by simp); have hr_0 := hr.cell 0; have hr_1 := hr.cell 1; have hr_f0 := hr.free 0; have hr_f1 := hr.free 1; have hr_l := hr.lt
          simp only [atS, List.getD_cons_succ, List.getD_cons_zero] at e3 e5
          simp only [putAll, e3, e5]
          go_wp2_with fail
          exact ⟨rfl, rfl, G.alloc (G.refl _ _) _, _, rfl, Hx.new _ _ _⟩
        · have e6 := hV 6 (by kernel_rfl); clear hV
          obtain ⟨y2, y3⟩ := HYx.out _ (G.trans HG hg1); replace hr := Hx.kept hr hg1 (by simp); have hr_0 := hr.cell 0; have hr_1 := hr.cell 1; have hr_f0 := hr.free 0; have hr_f1 := hr.free 1; have hr_l := hr.lt
          simp only [atS, List.getD_cons_succ, List.getD_cons_zero] at e6
          obtain ⟨Q, e6, hQ⟩ := e6
          simp only [putAll, e6]
          go_wp2_with (go_at_call 55; (with_reducible refine (HAd.out _ _ ?_).mono ?_); (exact ERow.of_hx (ts := [(true, y), (true, n)]) (by simp) (by decide) hQ); rintro e wn ⟨rfl, hgn⟩)
          exact ⟨rfl, rfl, hgn, rfl⟩
      · intro VV y1 hg1 hV
        have e0 := hV 0 (by omega); have e1 := hV 1 (by omega); have e2 := hV 2 (by omega); have e3 := hV 3 (by omega); have e4 := hV 4 (by omega); have e5 := hV 5 (by omega); have e6 := hV 6 (by omega); have e7 := hV 7 (by omega); clear hV
        simp only [atS, List.getD_cons_succ, List.getD_cons_zero] at e0 e1 e2 e3 e4 e5 e6 e7
        simp only [List.take_succ_cons, List.take_zero, List.drop_succ_cons, List.drop_zero, putAll, e0, e1, e2, e3, e4, e5, e7]
        replace hr := Hx.kept hr hg1 (by simp); have hr_0 := hr.cell 0; have hr_1 := hr.cell 1; have hr_f0 := hr.free 0; have hr_f1 := hr.free 1; have hr_l := hr.lt
        have hg2 := hg1
        replace HG := G.trans (w := w) HG hg1; clear hg1
        obtain ⟨Q, e6, hQ⟩ := e6
        simp only [e6]
        go_wp2_with fail
        refine ret_cell [.bool (vB V), .int .i64 (vN V)] w.heap.size 28 rfl rfl (Tryz.isAgg28 _) (Tryz.sizeOf28 _) rfl ?_ ⟨by rw [hvv.out], (by exact G.go HG)⟩
        exact (by first | exact Hx.go hr | exact Hx.go2)
end Go.Proofs.YtkablhamnepfnaaGreatDoor
