/-
  The walk of the reference's one. Printed by genfsrefe.py.
-/
import Derived.Test.YtkablhamnepfnaaGreatDoorFsRefD
namespace Go.Proofs.YtkablhamnepfnaaGreatDoor
open Go.RowKit
theorem opts_val {S : Ser} (m : Nat) : Fits (S.opts.getD m none) := opts_fits S m
set_option maxHeartbeats 16000000 in
set_option maxRecDepth 100000 in
theorem one2_any (w : World) (S : Ser) (sv : Value) (h : ERow valE w sv S.vals) (hall : S.vals.all (fun p => isR p.1 p.2) = true) (hl : S.vals.length ≤ 131072) (nm : ByteArray) (hnm : nm = fs2) (lv : Value) (L : List (Bool × Int)) (hlv : ERow valE w lv L) (j : Nat) (hj : j < S.vals.length) : Calls Tryz.prog 31 #[.string nm, .agg #[.string S.name, .int .i64 S.start, .int .i64 S.step, sv, .int .i64 S.cons], .int .i64 (j : Int), lv] w fun e w' => e = .returned (valV (fsV 2 S.step (decide (0 < L.length)) (kOf L) S.opts j)) ∧ w.grownBy w' none := by
  have HG := G.refl w none
  have hLV := Lib.hid hlv
  obtain ⟨V, hV⟩ : ∃ V, Hid (fsV 2 S.step (decide (0 < L.length)) (kOf L) S.opts j = V) := ⟨_, Lib.hid rfl⟩
  rw [hV.out]
  have hvv := Lib.hid (valV_form V)
  have e0 : (nm.toList == ([99, 104, 97, 110, 103, 101, 100] : List UInt8)) = false := eqFsNo (by rw [hnm]; decide)
  have e1 : (nm.toList == ([100, 101, 108, 97, 121] : List UInt8)) = false := eqFsNo (by rw [hnm]; decide)
  have e2 : (nm.toList == ([100, 101, 114, 105, 118, 97, 116, 105, 118, 101] : List UInt8)) = true := eqFsYes hnm
  have e3 : (nm.toList == ([105, 110, 116, 101, 103, 114, 97, 108] : List UInt8)) = false := eqFsNo (by rw [hnm]; decide)
  have e4 : (nm.toList == ([105, 110, 116, 101, 114, 112, 111, 108, 97, 116, 101] : List UInt8)) = false := eqFsNo (by rw [hnm]; decide)
  have e5 : (nm.toList == ([107, 101, 101, 112, 76, 97, 115, 116, 86, 97, 108, 117, 101] : List UInt8)) = false := eqFsNo (by rw [hnm]; decide)
  have e6 : (nm.toList == ([110, 111, 110, 78, 101, 103, 97, 116, 105, 118, 101, 68, 101, 114, 105, 118, 97, 116, 105, 118, 101] : List UInt8)) = false := eqFsNo (by rw [hnm]; decide)
  have e7 : (nm.toList == ([112, 101, 114, 83, 101, 99, 111, 110, 100] : List UInt8)) = false := eqFsNo (by rw [hnm]; decide)
  have HAh := Lib.hid (fun w2 h2 => ahead1_any w2 S sv h2 hall hl j hj)
  clear hnm
  have HV := Lib.hid h
  obtain ⟨A, c, rfl, -, -, q3⟩ := h
  obtain ⟨b, o, rfl, hbl, hc⟩ := q3 (by omega)
  have HC := Lib.hid (fun (m : Nat) (hm : m < S.vals.length) (wr : World) (hg : w.grownBy wr none) => rowCells hall hc hg hbl hm)
  clear hc q3
  obtain ⟨A2, c2, rfl, -, -, l3⟩ := hlv
  have L3 := Lib.hid l3; clear l3
  have HJ := Lib.hid (fun wr hg => HC.out j hj wr hg)
  have hfj := opts_fits S j
  have hfa := atO_fits S ((j : Int) - 1)
  have hV2 : Hid (V = subO (S.opts.getD j none) (atO S.opts ((j : Int) - 1))) := Lib.hid (by rw [← hV.out]; rfl)
  clear hV
  generalize S.opts.getD j none = va at *
  generalize atO S.opts ((j : Int) - 1) = vb at *
  have HSb := Lib.hid (fun w2 => sub1_any w2 (vB va) (vB vb) (vN va) (vN vb))
  rw [vK_form hfj, vK_form hfa, ← hV2.out, valV_form] at HSb
  rw [valV_form] at HAh
  have HJ0 := Lib.hid (fun wr hg => (HJ.out wr hg).1)
  have HJ1 := Lib.hid (fun wr hg => (HJ.out wr hg).2)
  go_enter Tryz.func31, Tryz.ntmps31
  go_upto_region 0 with (fail)
  go_cut [5, 8] (fun p5 p8 wc => p5 = .pointer (some ⟨w.heap.size, 0, none⟩) ∧ p8 = .pointer (some ⟨(w.heap.size + 1), 0, none⟩) ∧ w.grownBy wc none ∧ Hx wc w.heap.size [.string S.name, .int .i64 S.start, .int .i64 S.step, .slice (some ⟨b, o, none⟩) S.vals.length c, .int .i64 S.cons] 24 ∧ Hx wc (w.heap.size + 1) [.bool false, .int .i64 0] 28)
  case first =>
    go_wp2_with fail
    go_meet
    exact ⟨rfl, rfl, (by exact G.go HG), Hx.alloc (Hx.new _ _ _) _, Hx.new' (by simp) rfl⟩
  obtain ⟨rfl, rfl, HG, hs, hr⟩ := hcut
  rename World => wx
  have hs_0 := hs.cell 0; have hs_1 := hs.cell 1; have hs_2 := hs.cell 2; have hs_3 := hs.cell 3; have hs_4 := hs.cell 4; have hs_f0 := hs.free 0; have hs_f1 := hs.free 1; have hs_f2 := hs.free 2; have hs_f3 := hs.free 3; have hs_f4 := hs.free 4; have hs_l := hs.lt; have hr_0 := hr.cell 0; have hr_1 := hr.cell 1; have hr_f0 := hr.free 0; have hr_f1 := hr.free 1; have hr_l := hr.lt
  go_upto_region 2 with (fail)
  go_cut [5, 8, 9, 10] (fun p5 p8 p9 p10 wd => ∃ K, p5 = .pointer (some ⟨w.heap.size, 0, none⟩) ∧ p8 = .pointer (some ⟨(w.heap.size + 1), 0, none⟩) ∧ p9 = .slice (some ⟨b, o, none⟩) S.vals.length c ∧ p10 = .pointer (some ⟨K, 0, none⟩) ∧ w.grownBy wd none ∧ (w.heap.size + 1) < K ∧ Hx wd w.heap.size [.string S.name, .int .i64 S.start, .int .i64 S.step, .slice (some ⟨b, o, none⟩) S.vals.length c, .int .i64 S.cons] 24 ∧ Hx wd (w.heap.size + 1) [.bool false, .int .i64 0] 28 ∧ Hx wd K [.bool false, .int .i64 0] 28)
  case first =>
    go_wp2_with fail
    go_meet
    exact ⟨_, rfl, rfl, rfl, rfl, (by exact G.go HG), hr_l, (by first | exact Hx.go hs | exact Hx.go2), (by first | exact Hx.go hr | exact Hx.go2), (by first | exact Hx.go hr | exact Hx.go2)⟩
  clear hs_0 hs_f0 hs_1 hs_f1 hs_2 hs_f2 hs_3 hs_f3 hs_4 hs_f4 hs_l hr_0 hr_1 hr_f0 hr_f1 hr_l
  obtain ⟨K, rfl, rfl, rfl, rfl, HG, hK, hs, hr, hk⟩ := hcut
  rename World => wu
  have hkl := hk.lt
  have hnK : ¬ (w.heap.size + 1) = K := by omega
  have hnK2 : ¬ K = (w.heap.size + 1) := by omega
  have hnK3 : ¬ w.heap.size = K := by omega
  go_upto_if 18 with (fail)
  go_cut [5, 8, 9, 10] (fun p5 p8 p9 p10 wd => ∃ kb kn, p5 = .pointer (some ⟨w.heap.size, 0, none⟩) ∧ p8 = .pointer (some ⟨(w.heap.size + 1), 0, none⟩) ∧ p9 = .slice (some ⟨b, o, none⟩) S.vals.length c ∧ p10 = .pointer (some ⟨K, 0, none⟩) ∧ vK kb kn = kOf L ∧ w.grownBy wd none ∧ Hx wd w.heap.size [.string S.name, .int .i64 S.start, .int .i64 S.step, .slice (some ⟨b, o, none⟩) S.vals.length c, .int .i64 S.cons] 24 ∧ Hx wd (w.heap.size + 1) [.bool false, .int .i64 0] 28 ∧ Hx wd K [.bool kb, .int .i64 kn] 28)
  case first =>
    have hk_0 := hk.cell 0; have hk_1 := hk.cell 1; have hk_f0 := hk.free 0; have hk_f1 := hk.free 1; have hk_l := hk.lt
    by_cases h0 : L.length = 0
    · go_wp2_with fail
      go_meet
      exact ⟨false, 0, rfl, rfl, rfl, rfl, by cases L with | nil => rfl | cons p r => simp at h0, (by exact G.go HG), (by first | exact Hx.go hs | exact Hx.go2), (by first | exact Hx.go hr | exact Hx.go2), (by first | exact Hx.go hk | exact Hx.go2)⟩
    · have hp : 0 < L.length := by omega
      obtain ⟨b2, o2, rfl, hb2, hc2⟩ := L3.out hp
      obtain ⟨x0, x1⟩ := valCells hc2 HG hb2 hp
      simp only [Nat.zero_mul, Nat.add_zero] at x0 x1
      have hkk : Hid (vK L[0].1 L[0].2 = kOf L) := Lib.hid (by cases L with | nil => simp at hp | cons p r => rfl)
      clear hc2
      generalize L[0].1 = vb at *
      generalize L[0].2 = vn at *
      go_wp2_with fail
      go_meet
      exact ⟨vb, vn, rfl, rfl, rfl, rfl, hkk.out, (by exact G.go HG), (by first | exact Hx.go hs | exact Hx.go2), (by first | exact Hx.go hr | exact Hx.go2), (by first | exact Hx.go hk | exact Hx.go2)⟩
  clear hkl
  obtain ⟨kb, kn, rfl, rfl, rfl, rfl, hkk, HG, hs, hr, hk⟩ := hcut
  rename World => wy
  clear hkk hk
  have HVx := Lib.hid (HV.out.kept0 HG)
  go_upto_region 7 with (fail)
  have hr_q0 := fun x => (Hx.inG hr x).cell 0; have hr_q1 := fun x => (Hx.inG hr x).cell 1; have HJ0_q := fun x => inGc HJ0.out HG x; have HJ1_q := fun x => inGc HJ1.out HG x; have HG0 := HG
  refine wp_region_last (G.refl _ none) (by kernel_rfl) (by kernel_rfl) (by kernel_rfl) ?_
  simp only [mapLast, lastOf, idle]
  repeat (refine wpQuiet_step (fun K hK => ?_); go_simp; first | (refine hK _ ?_; clear hK K) | (apply Exists.intro; refine ⟨fun xq => ?_, hK _ ?_⟩; (focus (first | (go_at_call 50; have h0 := HAh.out xq.1 (HVx.out.kept0 xq.2); with_reducible exact grow_of h0) | (go_at_call 49; have h0 := HSb.out xq.1; with_reducible exact grow_of h0))); clear hK K))
  refine wpQuiet_nil ?_
  intro wn hgn
  clear hr_q0 hr_q1 HJ0_q HJ1_q
  replace HG := G.trans (w := w) HG0 hgn
  clear HG0
  replace hr := Hx.kept hr hgn (by simp); have hr_0 := hr.cell 0; have hr_1 := hr.cell 1; have hr_f0 := hr.free 0; have hr_f1 := hr.free 1; have hr_l := hr.lt
  clear hgn
  go_wp2_with fail
  refine ret_cell [.bool (vB V), .int .i64 (vN V)] (w.heap.size + 1) 28 rfl rfl (Tryz.isAgg28 _) (Tryz.sizeOf28 _) rfl ?_ ⟨by rw [hvv.out], (by exact G.go HG)⟩
  exact (by first | exact Hx.go hr | exact Hx.go2)
set_option maxHeartbeats 16000000 in
set_option maxRecDepth 100000 in
theorem one6_any (w : World) (S : Ser) (sv : Value) (h : ERow valE w sv S.vals) (hall : S.vals.all (fun p => isR p.1 p.2) = true) (hl : S.vals.length ≤ 131072) (nm : ByteArray) (hnm : nm = fs6) (lv : Value) (L : List (Bool × Int)) (hlv : ERow valE w lv L) (j : Nat) (hj : j < S.vals.length) : Calls Tryz.prog 31 #[.string nm, .agg #[.string S.name, .int .i64 S.start, .int .i64 S.step, sv, .int .i64 S.cons], .int .i64 (j : Int), lv] w fun e w' => e = .returned (valV (fsV 6 S.step (decide (0 < L.length)) (kOf L) S.opts j)) ∧ w.grownBy w' none := by
  have HG := G.refl w none
  have hLV := Lib.hid hlv
  obtain ⟨V, hV⟩ : ∃ V, Hid (fsV 6 S.step (decide (0 < L.length)) (kOf L) S.opts j = V) := ⟨_, Lib.hid rfl⟩
  rw [hV.out]
  have hvv := Lib.hid (valV_form V)
  have e0 : (nm.toList == ([99, 104, 97, 110, 103, 101, 100] : List UInt8)) = false := eqFsNo (by rw [hnm]; decide)
  have e1 : (nm.toList == ([100, 101, 108, 97, 121] : List UInt8)) = false := eqFsNo (by rw [hnm]; decide)
  have e2 : (nm.toList == ([100, 101, 114, 105, 118, 97, 116, 105, 118, 101] : List UInt8)) = false := eqFsNo (by rw [hnm]; decide)
  have e3 : (nm.toList == ([105, 110, 116, 101, 103, 114, 97, 108] : List UInt8)) = false := eqFsNo (by rw [hnm]; decide)
  have e4 : (nm.toList == ([105, 110, 116, 101, 114, 112, 111, 108, 97, 116, 101] : List UInt8)) = false := eqFsNo (by rw [hnm]; decide)
  have e5 : (nm.toList == ([107, 101, 101, 112, 76, 97, 115, 116, 86, 97, 108, 117, 101] : List UInt8)) = false := eqFsNo (by rw [hnm]; decide)
  have e6 : (nm.toList == ([110, 111, 110, 78, 101, 103, 97, 116, 105, 118, 101, 68, 101, 114, 105, 118, 97, 116, 105, 118, 101] : List UInt8)) = true := eqFsYes hnm
  have e7 : (nm.toList == ([112, 101, 114, 83, 101, 99, 111, 110, 100] : List UInt8)) = false := eqFsNo (by rw [hnm]; decide)
  have HAh := Lib.hid (fun w2 h2 => ahead1_any w2 S sv h2 hall hl j hj)
  clear hnm
  have HV := Lib.hid h
  obtain ⟨A, c, rfl, -, -, q3⟩ := h
  obtain ⟨b, o, rfl, hbl, hc⟩ := q3 (by omega)
  have HC := Lib.hid (fun (m : Nat) (hm : m < S.vals.length) (wr : World) (hg : w.grownBy wr none) => rowCells hall hc hg hbl hm)
  clear hc q3
  obtain ⟨A2, c2, rfl, -, -, l3⟩ := hlv
  have L3 := Lib.hid l3; clear l3
  have HJ := Lib.hid (fun wr hg => HC.out j hj wr hg)
  have hfj := opts_fits S j
  have hfa := atO_fits S ((j : Int) - 1)
  have hrf := riseO_fits hfj hfa (kOf L)
  have hV2 : Hid (V = riseO (S.opts.getD j none) (atO S.opts ((j : Int) - 1)) (kOf L)) := Lib.hid (by rw [← hV.out]; rfl)
  clear hV
  generalize S.opts.getD j none = va at *
  generalize atO S.opts ((j : Int) - 1) = vb at *
  rw [valV_form] at HAh
  have HJ0 := Lib.hid (fun wr hg => (HJ.out wr hg).1)
  have HJ1 := Lib.hid (fun wr hg => (HJ.out wr hg).2)
  go_enter Tryz.func31, Tryz.ntmps31
  go_upto_region 0 with (fail)
  go_cut [5, 8] (fun p5 p8 wc => p5 = .pointer (some ⟨w.heap.size, 0, none⟩) ∧ p8 = .pointer (some ⟨(w.heap.size + 1), 0, none⟩) ∧ w.grownBy wc none ∧ Hx wc w.heap.size [.string S.name, .int .i64 S.start, .int .i64 S.step, .slice (some ⟨b, o, none⟩) S.vals.length c, .int .i64 S.cons] 24 ∧ Hx wc (w.heap.size + 1) [.bool false, .int .i64 0] 28)
  case first =>
    go_wp2_with fail
    go_meet
    exact ⟨rfl, rfl, (by exact G.go HG), Hx.alloc (Hx.new _ _ _) _, Hx.new' (by simp) rfl⟩
  obtain ⟨rfl, rfl, HG, hs, hr⟩ := hcut
  rename World => wx
  have hs_0 := hs.cell 0; have hs_1 := hs.cell 1; have hs_2 := hs.cell 2; have hs_3 := hs.cell 3; have hs_4 := hs.cell 4; have hs_f0 := hs.free 0; have hs_f1 := hs.free 1; have hs_f2 := hs.free 2; have hs_f3 := hs.free 3; have hs_f4 := hs.free 4; have hs_l := hs.lt; have hr_0 := hr.cell 0; have hr_1 := hr.cell 1; have hr_f0 := hr.free 0; have hr_f1 := hr.free 1; have hr_l := hr.lt
  go_upto_region 2 with (fail)
  go_cut [5, 8, 9, 10] (fun p5 p8 p9 p10 wd => ∃ K, p5 = .pointer (some ⟨w.heap.size, 0, none⟩) ∧ p8 = .pointer (some ⟨(w.heap.size + 1), 0, none⟩) ∧ p9 = .slice (some ⟨b, o, none⟩) S.vals.length c ∧ p10 = .pointer (some ⟨K, 0, none⟩) ∧ w.grownBy wd none ∧ (w.heap.size + 1) < K ∧ Hx wd w.heap.size [.string S.name, .int .i64 S.start, .int .i64 S.step, .slice (some ⟨b, o, none⟩) S.vals.length c, .int .i64 S.cons] 24 ∧ Hx wd (w.heap.size + 1) [.bool false, .int .i64 0] 28 ∧ Hx wd K [.bool false, .int .i64 0] 28)
  case first =>
    go_wp2_with fail
    go_meet
    exact ⟨_, rfl, rfl, rfl, rfl, (by exact G.go HG), hr_l, (by first | exact Hx.go hs | exact Hx.go2), (by first | exact Hx.go hr | exact Hx.go2), (by first | exact Hx.go hr | exact Hx.go2)⟩
  clear hs_0 hs_f0 hs_1 hs_f1 hs_2 hs_f2 hs_3 hs_f3 hs_4 hs_f4 hs_l hr_0 hr_1 hr_f0 hr_f1 hr_l
  obtain ⟨K, rfl, rfl, rfl, rfl, HG, hK, hs, hr, hk⟩ := hcut
  rename World => wu
  have hkl := hk.lt
  have hnK : ¬ (w.heap.size + 1) = K := by omega
  have hnK2 : ¬ K = (w.heap.size + 1) := by omega
  have hnK3 : ¬ w.heap.size = K := by omega
  go_upto_if 18 with (fail)
  go_cut [5, 8, 9, 10] (fun p5 p8 p9 p10 wd => ∃ kb kn, p5 = .pointer (some ⟨w.heap.size, 0, none⟩) ∧ p8 = .pointer (some ⟨(w.heap.size + 1), 0, none⟩) ∧ p9 = .slice (some ⟨b, o, none⟩) S.vals.length c ∧ p10 = .pointer (some ⟨K, 0, none⟩) ∧ vK kb kn = kOf L ∧ w.grownBy wd none ∧ Hx wd w.heap.size [.string S.name, .int .i64 S.start, .int .i64 S.step, .slice (some ⟨b, o, none⟩) S.vals.length c, .int .i64 S.cons] 24 ∧ Hx wd (w.heap.size + 1) [.bool false, .int .i64 0] 28 ∧ Hx wd K [.bool kb, .int .i64 kn] 28)
  case first =>
    have hk_0 := hk.cell 0; have hk_1 := hk.cell 1; have hk_f0 := hk.free 0; have hk_f1 := hk.free 1; have hk_l := hk.lt
    by_cases h0 : L.length = 0
    · go_wp2_with fail
      go_meet
      exact ⟨false, 0, rfl, rfl, rfl, rfl, by cases L with | nil => rfl | cons p r => simp at h0, (by exact G.go HG), (by first | exact Hx.go hs | exact Hx.go2), (by first | exact Hx.go hr | exact Hx.go2), (by first | exact Hx.go hk | exact Hx.go2)⟩
    · have hp : 0 < L.length := by omega
      obtain ⟨b2, o2, rfl, hb2, hc2⟩ := L3.out hp
      obtain ⟨x0, x1⟩ := valCells hc2 HG hb2 hp
      simp only [Nat.zero_mul, Nat.add_zero] at x0 x1
      have hkk : Hid (vK L[0].1 L[0].2 = kOf L) := Lib.hid (by cases L with | nil => simp at hp | cons p r => rfl)
      clear hc2
      generalize L[0].1 = vb at *
      generalize L[0].2 = vn at *
      go_wp2_with fail
      go_meet
      exact ⟨vb, vn, rfl, rfl, rfl, rfl, hkk.out, (by exact G.go HG), (by first | exact Hx.go hs | exact Hx.go2), (by first | exact Hx.go hr | exact Hx.go2), (by first | exact Hx.go hk | exact Hx.go2)⟩
  clear hkl
  obtain ⟨kb, kn, rfl, rfl, rfl, rfl, hkk, HG, hs, hr, hk⟩ := hcut
  rename World => wy
  have HRi := Lib.hid (fun w2 => rise1_any w2 va vb hfj hfa kb kn)
  rw [hkk] at HRi
  generalize riseO va vb (kOf L) = Rv at *
  obtain rfl : V = Rv := hV2.out
  rw [valV_form] at HRi
  clear hkk
  have HVx := Lib.hid (HV.out.kept0 HG)
  go_upto_region 9 with (fail)
  have hr_q0 := fun x => (Hx.inG hr x).cell 0; have hr_q1 := fun x => (Hx.inG hr x).cell 1; have hk_q0 := fun x => (Hx.inG hk x).cell 0; have hk_q1 := fun x => (Hx.inG hk x).cell 1; have HJ0_q := fun x => inGc HJ0.out HG x; have HJ1_q := fun x => inGc HJ1.out HG x; have HG0 := HG
  refine wp_region_last (G.refl _ none) (by kernel_rfl) (by kernel_rfl) (by kernel_rfl) ?_
  simp only [mapLast, lastOf, idle]
  repeat (refine wpQuiet_step (fun K hK => ?_); go_simp; first | (refine hK _ ?_; clear hK K) | (apply Exists.intro; refine ⟨fun xq => ?_, hK _ ?_⟩; (focus (first | (go_at_call 50; have h0 := HAh.out xq.1 (HVx.out.kept0 xq.2); with_reducible exact grow_of h0) | (go_at_call 51; have h0 := HRi.out xq.1; with_reducible exact grow_of h0))); clear hK K))
  refine wpQuiet_nil ?_
  intro wn hgn
  clear hr_q0 hr_q1 hk_q0 hk_q1 HJ0_q HJ1_q
  replace HG := G.trans (w := w) HG0 hgn
  clear HG0
  replace hr := Hx.kept hr hgn (by simp); have hr_0 := hr.cell 0; have hr_1 := hr.cell 1; have hr_f0 := hr.free 0; have hr_f1 := hr.free 1; have hr_l := hr.lt; replace hk := Hx.kept hk hgn (by simp); have hk_0 := hk.cell 0; have hk_1 := hk.cell 1; have hk_f0 := hk.free 0; have hk_f1 := hk.free 1; have hk_l := hk.lt
  clear hgn
  go_wp2_with fail
  refine ret_cell [.bool (vB V), .int .i64 (vN V)] (w.heap.size + 1) 28 rfl rfl (Tryz.isAgg28 _) (Tryz.sizeOf28 _) rfl ?_ ⟨by rw [hvv.out], (by exact G.go HG)⟩
  exact (by first | exact Hx.go hr | exact Hx.go2)
set_option maxHeartbeats 16000000 in
set_option maxRecDepth 100000 in
theorem one7_any (w : World) (S : Ser) (sv : Value) (h : ERow valE w sv S.vals) (hall : S.vals.all (fun p => isR p.1 p.2) = true) (hl : S.vals.length ≤ 131072) (nm : ByteArray) (hnm : nm = fs7) (lv : Value) (L : List (Bool × Int)) (hlv : ERow valE w lv L) (j : Nat) (hj : j < S.vals.length) : Calls Tryz.prog 31 #[.string nm, .agg #[.string S.name, .int .i64 S.start, .int .i64 S.step, sv, .int .i64 S.cons], .int .i64 (j : Int), lv] w fun e w' => e = .returned (valV (fsV 7 S.step (decide (0 < L.length)) (kOf L) S.opts j)) ∧ w.grownBy w' none := by
  have HG := G.refl w none
  have hLV := Lib.hid hlv
  obtain ⟨V, hV⟩ : ∃ V, Hid (fsV 7 S.step (decide (0 < L.length)) (kOf L) S.opts j = V) := ⟨_, Lib.hid rfl⟩
  rw [hV.out]
  have hvv := Lib.hid (valV_form V)
  have e0 : (nm.toList == ([99, 104, 97, 110, 103, 101, 100] : List UInt8)) = false := eqFsNo (by rw [hnm]; decide)
  have e1 : (nm.toList == ([100, 101, 108, 97, 121] : List UInt8)) = false := eqFsNo (by rw [hnm]; decide)
  have e2 : (nm.toList == ([100, 101, 114, 105, 118, 97, 116, 105, 118, 101] : List UInt8)) = false := eqFsNo (by rw [hnm]; decide)
  have e3 : (nm.toList == ([105, 110, 116, 101, 103, 114, 97, 108] : List UInt8)) = false := eqFsNo (by rw [hnm]; decide)
  have e4 : (nm.toList == ([105, 110, 116, 101, 114, 112, 111, 108, 97, 116, 101] : List UInt8)) = false := eqFsNo (by rw [hnm]; decide)
  have e5 : (nm.toList == ([107, 101, 101, 112, 76, 97, 115, 116, 86, 97, 108, 117, 101] : List UInt8)) = false := eqFsNo (by rw [hnm]; decide)
  have e6 : (nm.toList == ([110, 111, 110, 78, 101, 103, 97, 116, 105, 118, 101, 68, 101, 114, 105, 118, 97, 116, 105, 118, 101] : List UInt8)) = false := eqFsNo (by rw [hnm]; decide)
  have e7 : (nm.toList == ([112, 101, 114, 83, 101, 99, 111, 110, 100] : List UInt8)) = true := eqFsYes hnm
  have HAh := Lib.hid (fun w2 h2 => ahead1_any w2 S sv h2 hall hl j hj)
  clear hnm
  have HV := Lib.hid h
  obtain ⟨A, c, rfl, -, -, q3⟩ := h
  obtain ⟨b, o, rfl, hbl, hc⟩ := q3 (by omega)
  have HC := Lib.hid (fun (m : Nat) (hm : m < S.vals.length) (wr : World) (hg : w.grownBy wr none) => rowCells hall hc hg hbl hm)
  clear hc q3
  obtain ⟨A2, c2, rfl, -, -, l3⟩ := hlv
  have L3 := Lib.hid l3; clear l3
  have HJ := Lib.hid (fun wr hg => HC.out j hj wr hg)
  have hfj := opts_fits S j
  have hfa := atO_fits S ((j : Int) - 1)
  have hrf := riseO_fits hfj hfa (kOf L)
  have hV2 : Hid (V = divO (riseO (S.opts.getD j none) (atO S.opts ((j : Int) - 1)) (kOf L)) (intO S.step)) := Lib.hid (by rw [← hV.out]; rfl)
  clear hV
  generalize S.opts.getD j none = va at *
  generalize atO S.opts ((j : Int) - 1) = vb at *
  rw [valV_form] at HAh
  have HJ0 := Lib.hid (fun wr hg => (HJ.out wr hg).1)
  have HJ1 := Lib.hid (fun wr hg => (HJ.out wr hg).2)
  go_enter Tryz.func31, Tryz.ntmps31
  go_upto_region 0 with (fail)
  go_cut [5, 8] (fun p5 p8 wc => p5 = .pointer (some ⟨w.heap.size, 0, none⟩) ∧ p8 = .pointer (some ⟨(w.heap.size + 1), 0, none⟩) ∧ w.grownBy wc none ∧ Hx wc w.heap.size [.string S.name, .int .i64 S.start, .int .i64 S.step, .slice (some ⟨b, o, none⟩) S.vals.length c, .int .i64 S.cons] 24 ∧ Hx wc (w.heap.size + 1) [.bool false, .int .i64 0] 28)
  case first =>
    go_wp2_with fail
    go_meet
    exact ⟨rfl, rfl, (by exact G.go HG), Hx.alloc (Hx.new _ _ _) _, Hx.new' (by simp) rfl⟩
  obtain ⟨rfl, rfl, HG, hs, hr⟩ := hcut
  rename World => wx
  have hs_0 := hs.cell 0; have hs_1 := hs.cell 1; have hs_2 := hs.cell 2; have hs_3 := hs.cell 3; have hs_4 := hs.cell 4; have hs_f0 := hs.free 0; have hs_f1 := hs.free 1; have hs_f2 := hs.free 2; have hs_f3 := hs.free 3; have hs_f4 := hs.free 4; have hs_l := hs.lt; have hr_0 := hr.cell 0; have hr_1 := hr.cell 1; have hr_f0 := hr.free 0; have hr_f1 := hr.free 1; have hr_l := hr.lt
  go_upto_region 2 with (fail)
  go_cut [5, 8, 9, 10] (fun p5 p8 p9 p10 wd => ∃ K, p5 = .pointer (some ⟨w.heap.size, 0, none⟩) ∧ p8 = .pointer (some ⟨(w.heap.size + 1), 0, none⟩) ∧ p9 = .slice (some ⟨b, o, none⟩) S.vals.length c ∧ p10 = .pointer (some ⟨K, 0, none⟩) ∧ w.grownBy wd none ∧ (w.heap.size + 1) < K ∧ Hx wd w.heap.size [.string S.name, .int .i64 S.start, .int .i64 S.step, .slice (some ⟨b, o, none⟩) S.vals.length c, .int .i64 S.cons] 24 ∧ Hx wd (w.heap.size + 1) [.bool false, .int .i64 0] 28 ∧ Hx wd K [.bool false, .int .i64 0] 28)
  case first =>
    go_wp2_with fail
    go_meet
    exact ⟨_, rfl, rfl, rfl, rfl, (by exact G.go HG), hr_l, (by first | exact Hx.go hs | exact Hx.go2), (by first | exact Hx.go hr | exact Hx.go2), (by first | exact Hx.go hr | exact Hx.go2)⟩
  clear hs_0 hs_f0 hs_1 hs_f1 hs_2 hs_f2 hs_3 hs_f3 hs_4 hs_f4 hs_l hr_0 hr_1 hr_f0 hr_f1 hr_l
  obtain ⟨K, rfl, rfl, rfl, rfl, HG, hK, hs, hr, hk⟩ := hcut
  rename World => wu
  have hkl := hk.lt
  have hnK : ¬ (w.heap.size + 1) = K := by omega
  have hnK2 : ¬ K = (w.heap.size + 1) := by omega
  have hnK3 : ¬ w.heap.size = K := by omega
  go_upto_if 18 with (fail)
  go_cut [5, 8, 9, 10] (fun p5 p8 p9 p10 wd => ∃ kb kn, p5 = .pointer (some ⟨w.heap.size, 0, none⟩) ∧ p8 = .pointer (some ⟨(w.heap.size + 1), 0, none⟩) ∧ p9 = .slice (some ⟨b, o, none⟩) S.vals.length c ∧ p10 = .pointer (some ⟨K, 0, none⟩) ∧ vK kb kn = kOf L ∧ w.grownBy wd none ∧ Hx wd w.heap.size [.string S.name, .int .i64 S.start, .int .i64 S.step, .slice (some ⟨b, o, none⟩) S.vals.length c, .int .i64 S.cons] 24 ∧ Hx wd (w.heap.size + 1) [.bool false, .int .i64 0] 28 ∧ Hx wd K [.bool kb, .int .i64 kn] 28)
  case first =>
    have hk_0 := hk.cell 0; have hk_1 := hk.cell 1; have hk_f0 := hk.free 0; have hk_f1 := hk.free 1; have hk_l := hk.lt
    by_cases h0 : L.length = 0
    · go_wp2_with fail
      go_meet
      exact ⟨false, 0, rfl, rfl, rfl, rfl, by cases L with | nil => rfl | cons p r => simp at h0, (by exact G.go HG), (by first | exact Hx.go hs | exact Hx.go2), (by first | exact Hx.go hr | exact Hx.go2), (by first | exact Hx.go hk | exact Hx.go2)⟩
    · have hp : 0 < L.length := by omega
      obtain ⟨b2, o2, rfl, hb2, hc2⟩ := L3.out hp
      obtain ⟨x0, x1⟩ := valCells hc2 HG hb2 hp
      simp only [Nat.zero_mul, Nat.add_zero] at x0 x1
      have hkk : Hid (vK L[0].1 L[0].2 = kOf L) := Lib.hid (by cases L with | nil => simp at hp | cons p r => rfl)
      clear hc2
      generalize L[0].1 = vb at *
      generalize L[0].2 = vn at *
      go_wp2_with fail
      go_meet
      exact ⟨vb, vn, rfl, rfl, rfl, rfl, hkk.out, (by exact G.go HG), (by first | exact Hx.go hs | exact Hx.go2), (by first | exact Hx.go hr | exact Hx.go2), (by first | exact Hx.go hk | exact Hx.go2)⟩
  clear hkl
  obtain ⟨kb, kn, rfl, rfl, rfl, rfl, hkk, HG, hs, hr, hk⟩ := hcut
  rename World => wy
  have HRi := Lib.hid (fun w2 => rise1_any w2 va vb hfj hfa kb kn)
  rw [hkk] at HRi
  generalize riseO va vb (kOf L) = Rv at *
  have HI := Lib.hid (fun w2 => int1_any w2 S.step)
  have hif := intO_fits S.step
  have HDv := Lib.hid (fun w2 => div1_any w2 (vB Rv) (vB (intO S.step)) (vN Rv) (vN (intO S.step)))
  rw [vK_form hrf, vK_form hif, ← hV2.out, valV_form] at HDv
  rw [valV_form] at HRi HI
  generalize intO S.step = Iv at *
  clear hkk
  have HVx := Lib.hid (HV.out.kept0 HG)
  go_upto_region 11 with (fail)
  have hr_q0 := fun x => (Hx.inG hr x).cell 0; have hr_q1 := fun x => (Hx.inG hr x).cell 1; have hk_q0 := fun x => (Hx.inG hk x).cell 0; have hk_q1 := fun x => (Hx.inG hk x).cell 1; have hs_q0 := fun x => (Hx.inG hs x).cell 0; have hs_q1 := fun x => (Hx.inG hs x).cell 1; have hs_q2 := fun x => (Hx.inG hs x).cell 2; have hs_q3 := fun x => (Hx.inG hs x).cell 3; have hs_q4 := fun x => (Hx.inG hs x).cell 4; have HJ0_q := fun x => inGc HJ0.out HG x; have HJ1_q := fun x => inGc HJ1.out HG x; have HG0 := HG
  refine wp_region_last (G.refl _ none) (by kernel_rfl) (by kernel_rfl) (by kernel_rfl) ?_
  simp only [mapLast, lastOf, idle]
  repeat (refine wpQuiet_step (fun K hK => ?_); go_simp; first | (refine hK _ ?_; clear hK K) | (apply Exists.intro; refine ⟨fun xq => ?_, hK _ ?_⟩; (focus (first | (go_at_call 50; have h0 := HAh.out xq.1 (HVx.out.kept0 xq.2); with_reducible exact grow_of h0) | (go_at_call 51; have h0 := HRi.out xq.1; with_reducible exact grow_of h0) | (go_at_call 53; have h0 := HI.out xq.1; with_reducible exact grow_of h0) | (go_at_call 52; have h0 := HDv.out xq.1; with_reducible exact grow_of h0))); clear hK K))
  refine wpQuiet_nil ?_
  intro wn hgn
  clear hr_q0 hr_q1 hk_q0 hk_q1 hs_q0 hs_q1 hs_q2 hs_q3 hs_q4 HJ0_q HJ1_q
  replace HG := G.trans (w := w) HG0 hgn
  clear HG0
  replace hr := Hx.kept hr hgn (by simp); have hr_0 := hr.cell 0; have hr_1 := hr.cell 1; have hr_f0 := hr.free 0; have hr_f1 := hr.free 1; have hr_l := hr.lt; replace hk := Hx.kept hk hgn (by simp); have hk_0 := hk.cell 0; have hk_1 := hk.cell 1; have hk_f0 := hk.free 0; have hk_f1 := hk.free 1; have hk_l := hk.lt; replace hs := Hx.kept hs hgn (by simp); have hs_0 := hs.cell 0; have hs_1 := hs.cell 1; have hs_2 := hs.cell 2; have hs_3 := hs.cell 3; have hs_4 := hs.cell 4; have hs_f0 := hs.free 0; have hs_f1 := hs.free 1; have hs_f2 := hs.free 2; have hs_f3 := hs.free 3; have hs_f4 := hs.free 4; have hs_l := hs.lt
  clear hgn
  go_wp2_with fail
  refine ret_cell [.bool (vB V), .int .i64 (vN V)] (w.heap.size + 1) 28 rfl rfl (Tryz.isAgg28 _) (Tryz.sizeOf28 _) rfl ?_ ⟨by rw [hvv.out], (by exact G.go HG)⟩
  exact (by first | exact Hx.go hr | exact Hx.go2)
set_option maxHeartbeats 16000000 in
set_option maxRecDepth 100000 in
theorem oneD_any (w : World) (S : Ser) (sv : Value) (h : ERow valE w sv S.vals) (hall : S.vals.all (fun p => isR p.1 p.2) = true) (hl : S.vals.length ≤ 131072) (nm : ByteArray) (hnm : nm = fs1) (lv : Value) (L : List (Bool × Int)) (hlv : ERow valE w lv L) (j : Nat) (hj : j < S.vals.length) : Calls Tryz.prog 31 #[.string nm, .agg #[.string S.name, .int .i64 S.start, .int .i64 S.step, sv, .int .i64 S.cons], .int .i64 (j : Int), lv] w fun e w' => e = .returned (valV (fsV 1 S.step (decide (0 < L.length)) (kOf L) S.opts j)) ∧ w.grownBy w' none := by
  have HG := G.refl w none
  have hLV := Lib.hid hlv
  obtain ⟨V, hV⟩ : ∃ V, Hid (fsV 1 S.step (decide (0 < L.length)) (kOf L) S.opts j = V) := ⟨_, Lib.hid rfl⟩
  rw [hV.out]
  have hvv := Lib.hid (valV_form V)
  have e0 : (nm.toList == ([99, 104, 97, 110, 103, 101, 100] : List UInt8)) = false := eqFsNo (by rw [hnm]; decide)
  have e1 : (nm.toList == ([100, 101, 108, 97, 121] : List UInt8)) = true := eqFsYes hnm
  have e2 : (nm.toList == ([100, 101, 114, 105, 118, 97, 116, 105, 118, 101] : List UInt8)) = false := eqFsNo (by rw [hnm]; decide)
  have e3 : (nm.toList == ([105, 110, 116, 101, 103, 114, 97, 108] : List UInt8)) = false := eqFsNo (by rw [hnm]; decide)
  have e4 : (nm.toList == ([105, 110, 116, 101, 114, 112, 111, 108, 97, 116, 101] : List UInt8)) = false := eqFsNo (by rw [hnm]; decide)
  have e5 : (nm.toList == ([107, 101, 101, 112, 76, 97, 115, 116, 86, 97, 108, 117, 101] : List UInt8)) = false := eqFsNo (by rw [hnm]; decide)
  have e6 : (nm.toList == ([110, 111, 110, 78, 101, 103, 97, 116, 105, 118, 101, 68, 101, 114, 105, 118, 97, 116, 105, 118, 101] : List UInt8)) = false := eqFsNo (by rw [hnm]; decide)
  have e7 : (nm.toList == ([112, 101, 114, 83, 101, 99, 111, 110, 100] : List UInt8)) = false := eqFsNo (by rw [hnm]; decide)
  have HDl := Lib.hid (fun w2 kb kn h2 => delay1_any w2 S sv h2 hall hl j hj kb kn)
  clear hnm
  have HV := Lib.hid h
  obtain ⟨A, c, rfl, -, -, q3⟩ := h
  obtain ⟨b, o, rfl, hbl, hc⟩ := q3 (by omega)
  have HC := Lib.hid (fun (m : Nat) (hm : m < S.vals.length) (wr : World) (hg : w.grownBy wr none) => rowCells hall hc hg hbl hm)
  clear hc q3
  obtain ⟨A2, c2, rfl, -, -, l3⟩ := hlv
  have L3 := Lib.hid l3; clear l3
  have hV2 : Hid (V = delayO (kOf L) S.opts j) := Lib.hid (by rw [← hV.out]; exact delay_eq S.step _ (kOf L) S hl j hj)
  clear hV
  go_enter Tryz.func31, Tryz.ntmps31
  go_upto_region 0 with (fail)
  go_cut [5, 8] (fun p5 p8 wc => p5 = .pointer (some ⟨w.heap.size, 0, none⟩) ∧ p8 = .pointer (some ⟨(w.heap.size + 1), 0, none⟩) ∧ w.grownBy wc none ∧ Hx wc w.heap.size [.string S.name, .int .i64 S.start, .int .i64 S.step, .slice (some ⟨b, o, none⟩) S.vals.length c, .int .i64 S.cons] 24 ∧ Hx wc (w.heap.size + 1) [.bool false, .int .i64 0] 28)
  case first =>
    go_wp2_with fail
    go_meet
    exact ⟨rfl, rfl, (by exact G.go HG), Hx.alloc (Hx.new _ _ _) _, Hx.new' (by simp) rfl⟩
  obtain ⟨rfl, rfl, HG, hs, hr⟩ := hcut
  rename World => wx
  have hs_0 := hs.cell 0; have hs_1 := hs.cell 1; have hs_2 := hs.cell 2; have hs_3 := hs.cell 3; have hs_4 := hs.cell 4; have hs_f0 := hs.free 0; have hs_f1 := hs.free 1; have hs_f2 := hs.free 2; have hs_f3 := hs.free 3; have hs_f4 := hs.free 4; have hs_l := hs.lt; have hr_0 := hr.cell 0; have hr_1 := hr.cell 1; have hr_f0 := hr.free 0; have hr_f1 := hr.free 1; have hr_l := hr.lt
  go_upto_region 2 with (fail)
  go_cut [5, 8, 9, 10] (fun p5 p8 p9 p10 wd => ∃ K, p5 = .pointer (some ⟨w.heap.size, 0, none⟩) ∧ p8 = .pointer (some ⟨(w.heap.size + 1), 0, none⟩) ∧ p9 = .slice (some ⟨b, o, none⟩) S.vals.length c ∧ p10 = .pointer (some ⟨K, 0, none⟩) ∧ w.grownBy wd none ∧ (w.heap.size + 1) < K ∧ Hx wd w.heap.size [.string S.name, .int .i64 S.start, .int .i64 S.step, .slice (some ⟨b, o, none⟩) S.vals.length c, .int .i64 S.cons] 24 ∧ Hx wd (w.heap.size + 1) [.bool false, .int .i64 0] 28 ∧ Hx wd K [.bool false, .int .i64 0] 28)
  case first =>
    go_wp2_with fail
    go_meet
    exact ⟨_, rfl, rfl, rfl, rfl, (by exact G.go HG), hr_l, (by first | exact Hx.go hs | exact Hx.go2), (by first | exact Hx.go hr | exact Hx.go2), (by first | exact Hx.go hr | exact Hx.go2)⟩
  clear hs_0 hs_f0 hs_1 hs_f1 hs_2 hs_f2 hs_3 hs_f3 hs_4 hs_f4 hs_l hr_0 hr_1 hr_f0 hr_f1 hr_l
  obtain ⟨K, rfl, rfl, rfl, rfl, HG, hK, hs, hr, hk⟩ := hcut
  rename World => wu
  have hkl := hk.lt
  have hnK : ¬ (w.heap.size + 1) = K := by omega
  have hnK2 : ¬ K = (w.heap.size + 1) := by omega
  have hnK3 : ¬ w.heap.size = K := by omega
  go_upto_if 18 with (fail)
  go_cut [5, 8, 9, 10] (fun p5 p8 p9 p10 wd => ∃ kb kn, p5 = .pointer (some ⟨w.heap.size, 0, none⟩) ∧ p8 = .pointer (some ⟨(w.heap.size + 1), 0, none⟩) ∧ p9 = .slice (some ⟨b, o, none⟩) S.vals.length c ∧ p10 = .pointer (some ⟨K, 0, none⟩) ∧ vK kb kn = kOf L ∧ w.grownBy wd none ∧ Hx wd w.heap.size [.string S.name, .int .i64 S.start, .int .i64 S.step, .slice (some ⟨b, o, none⟩) S.vals.length c, .int .i64 S.cons] 24 ∧ Hx wd (w.heap.size + 1) [.bool false, .int .i64 0] 28 ∧ Hx wd K [.bool kb, .int .i64 kn] 28)
  case first =>
    have hk_0 := hk.cell 0; have hk_1 := hk.cell 1; have hk_f0 := hk.free 0; have hk_f1 := hk.free 1; have hk_l := hk.lt
    by_cases h0 : L.length = 0
    · go_wp2_with fail
      go_meet
      exact ⟨false, 0, rfl, rfl, rfl, rfl, by cases L with | nil => rfl | cons p r => simp at h0, (by exact G.go HG), (by first | exact Hx.go hs | exact Hx.go2), (by first | exact Hx.go hr | exact Hx.go2), (by first | exact Hx.go hk | exact Hx.go2)⟩
    · have hp : 0 < L.length := by omega
      obtain ⟨b2, o2, rfl, hb2, hc2⟩ := L3.out hp
      obtain ⟨x0, x1⟩ := valCells hc2 HG hb2 hp
      simp only [Nat.zero_mul, Nat.add_zero] at x0 x1
      have hkk : Hid (vK L[0].1 L[0].2 = kOf L) := Lib.hid (by cases L with | nil => simp at hp | cons p r => rfl)
      clear hc2
      generalize L[0].1 = vb at *
      generalize L[0].2 = vn at *
      go_wp2_with fail
      go_meet
      exact ⟨vb, vn, rfl, rfl, rfl, rfl, hkk.out, (by exact G.go HG), (by first | exact Hx.go hs | exact Hx.go2), (by first | exact Hx.go hr | exact Hx.go2), (by first | exact Hx.go hk | exact Hx.go2)⟩
  clear hkl
  obtain ⟨kb, kn, rfl, rfl, rfl, rfl, hkk, HG, hs, hr, hk⟩ := hcut
  rename World => wy
  have HD2 := Lib.hid (fun w2 h2 => HDl.out w2 kb kn h2)
  rw [hkk, ← hV2.out, valV_form] at HD2
  clear hkk HDl
  have hr_0 := hr.cell 0; have hr_1 := hr.cell 1; have hr_f0 := hr.free 0; have hr_f1 := hr.free 1; have hr_l := hr.lt; have hk_0 := hk.cell 0; have hk_1 := hk.cell 1; have hk_f0 := hk.free 0; have hk_f1 := hk.free 1; have hk_l := hk.lt
  go_wp2_with (go_at_call 56; (with_reducible refine (HD2.out _ (HV.out.kept0 (by exact G.go HG))).mono ?_); rintro e wn ⟨rfl, hgn⟩; replace HG := G.trans (w := w) (by exact G.go HG) hgn; replace hr := Hx.kept (by first | exact Hx.go hr | exact Hx.go2) hgn (by simp); have hr_0 := hr.cell 0; have hr_1 := hr.cell 1; have hr_f0 := hr.free 0; have hr_f1 := hr.free 1; have hr_l := hr.lt; clear hgn)
  refine ret_cell [.bool (vB V), .int .i64 (vN V)] (w.heap.size + 1) 28 rfl rfl (Tryz.isAgg28 _) (Tryz.sizeOf28 _) rfl ?_ ⟨by rw [hvv.out], (by exact G.go HG)⟩
  exact (by first | exact Hx.go hr | exact Hx.go2)
set_option maxHeartbeats 16000000 in
set_option maxRecDepth 100000 in
theorem one0_any (w : World) (S : Ser) (sv : Value) (h : ERow valE w sv S.vals) (hall : S.vals.all (fun p => isR p.1 p.2) = true) (hl : S.vals.length ≤ 131072) (nm : ByteArray) (hnm : nm = fs0) (lv : Value) (L : List (Bool × Int)) (hlv : ERow valE w lv L) (j : Nat) (hj : j < S.vals.length) : Calls Tryz.prog 31 #[.string nm, .agg #[.string S.name, .int .i64 S.start, .int .i64 S.step, sv, .int .i64 S.cons], .int .i64 (j : Int), lv] w fun e w' => e = .returned (valV (fsV 0 S.step (decide (0 < L.length)) (kOf L) S.opts j)) ∧ w.grownBy w' none := by
  have HG := G.refl w none
  have hLV := Lib.hid hlv
  obtain ⟨V, hV⟩ : ∃ V, Hid (fsV 0 S.step (decide (0 < L.length)) (kOf L) S.opts j = V) := ⟨_, Lib.hid rfl⟩
  rw [hV.out]
  have hvv := Lib.hid (valV_form V)
  have e0 : (nm.toList == ([99, 104, 97, 110, 103, 101, 100] : List UInt8)) = true := eqFsYes hnm
  have e1 : (nm.toList == ([100, 101, 108, 97, 121] : List UInt8)) = false := eqFsNo (by rw [hnm]; decide)
  have e2 : (nm.toList == ([100, 101, 114, 105, 118, 97, 116, 105, 118, 101] : List UInt8)) = false := eqFsNo (by rw [hnm]; decide)
  have e3 : (nm.toList == ([105, 110, 116, 101, 103, 114, 97, 108] : List UInt8)) = false := eqFsNo (by rw [hnm]; decide)
  have e4 : (nm.toList == ([105, 110, 116, 101, 114, 112, 111, 108, 97, 116, 101] : List UInt8)) = false := eqFsNo (by rw [hnm]; decide)
  have e5 : (nm.toList == ([107, 101, 101, 112, 76, 97, 115, 116, 86, 97, 108, 117, 101] : List UInt8)) = false := eqFsNo (by rw [hnm]; decide)
  have e6 : (nm.toList == ([110, 111, 110, 78, 101, 103, 97, 116, 105, 118, 101, 68, 101, 114, 105, 118, 97, 116, 105, 118, 101] : List UInt8)) = false := eqFsNo (by rw [hnm]; decide)
  have e7 : (nm.toList == ([112, 101, 114, 83, 101, 99, 111, 110, 100] : List UInt8)) = false := eqFsNo (by rw [hnm]; decide)
  have HCg := Lib.hid (fun w2 h2 => changed1_any w2 S sv h2 hall hl S.step (decide (0 < L.length)) (kOf L) j hj)
  clear hnm
  have HV := Lib.hid h
  obtain ⟨A, c, rfl, -, -, q3⟩ := h
  obtain ⟨b, o, rfl, hbl, hc⟩ := q3 (by omega)
  have HC := Lib.hid (fun (m : Nat) (hm : m < S.vals.length) (wr : World) (hg : w.grownBy wr none) => rowCells hall hc hg hbl hm)
  clear hc q3
  obtain ⟨A2, c2, rfl, -, -, l3⟩ := hlv
  have L3 := Lib.hid l3; clear l3
  rw [hV.out, valV_form] at HCg
  clear hV
  go_enter Tryz.func31, Tryz.ntmps31
  go_upto_region 0 with (fail)
  go_cut [5, 8] (fun p5 p8 wc => p5 = .pointer (some ⟨w.heap.size, 0, none⟩) ∧ p8 = .pointer (some ⟨(w.heap.size + 1), 0, none⟩) ∧ w.grownBy wc none ∧ Hx wc w.heap.size [.string S.name, .int .i64 S.start, .int .i64 S.step, .slice (some ⟨b, o, none⟩) S.vals.length c, .int .i64 S.cons] 24 ∧ Hx wc (w.heap.size + 1) [.bool false, .int .i64 0] 28)
  case first =>
    go_wp2_with fail
    go_meet
    exact ⟨rfl, rfl, (by exact G.go HG), Hx.alloc (Hx.new _ _ _) _, Hx.new' (by simp) rfl⟩
  obtain ⟨rfl, rfl, HG, hs, hr⟩ := hcut
  rename World => wx
  have hs_0 := hs.cell 0; have hs_1 := hs.cell 1; have hs_2 := hs.cell 2; have hs_3 := hs.cell 3; have hs_4 := hs.cell 4; have hs_f0 := hs.free 0; have hs_f1 := hs.free 1; have hs_f2 := hs.free 2; have hs_f3 := hs.free 3; have hs_f4 := hs.free 4; have hs_l := hs.lt; have hr_0 := hr.cell 0; have hr_1 := hr.cell 1; have hr_f0 := hr.free 0; have hr_f1 := hr.free 1; have hr_l := hr.lt
  go_upto_region 2 with (fail)
  go_cut [5, 8, 9, 10] (fun p5 p8 p9 p10 wd => ∃ K, p5 = .pointer (some ⟨w.heap.size, 0, none⟩) ∧ p8 = .pointer (some ⟨(w.heap.size + 1), 0, none⟩) ∧ p9 = .slice (some ⟨b, o, none⟩) S.vals.length c ∧ p10 = .pointer (some ⟨K, 0, none⟩) ∧ w.grownBy wd none ∧ (w.heap.size + 1) < K ∧ Hx wd w.heap.size [.string S.name, .int .i64 S.start, .int .i64 S.step, .slice (some ⟨b, o, none⟩) S.vals.length c, .int .i64 S.cons] 24 ∧ Hx wd (w.heap.size + 1) [.bool false, .int .i64 0] 28 ∧ Hx wd K [.bool false, .int .i64 0] 28)
  case first =>
    go_wp2_with fail
    go_meet
    exact ⟨_, rfl, rfl, rfl, rfl, (by exact G.go HG), hr_l, (by first | exact Hx.go hs | exact Hx.go2), (by first | exact Hx.go hr | exact Hx.go2), (by first | exact Hx.go hr | exact Hx.go2)⟩
  clear hs_0 hs_f0 hs_1 hs_f1 hs_2 hs_f2 hs_3 hs_f3 hs_4 hs_f4 hs_l hr_0 hr_1 hr_f0 hr_f1 hr_l
  obtain ⟨K, rfl, rfl, rfl, rfl, HG, hK, hs, hr, hk⟩ := hcut
  rename World => wu
  have hkl := hk.lt
  have hnK : ¬ (w.heap.size + 1) = K := by omega
  have hnK2 : ¬ K = (w.heap.size + 1) := by omega
  have hnK3 : ¬ w.heap.size = K := by omega
  go_upto_if 18 with (fail)
  go_cut [5, 8, 9, 10] (fun p5 p8 p9 p10 wd => ∃ kb kn, p5 = .pointer (some ⟨w.heap.size, 0, none⟩) ∧ p8 = .pointer (some ⟨(w.heap.size + 1), 0, none⟩) ∧ p9 = .slice (some ⟨b, o, none⟩) S.vals.length c ∧ p10 = .pointer (some ⟨K, 0, none⟩) ∧ vK kb kn = kOf L ∧ w.grownBy wd none ∧ Hx wd w.heap.size [.string S.name, .int .i64 S.start, .int .i64 S.step, .slice (some ⟨b, o, none⟩) S.vals.length c, .int .i64 S.cons] 24 ∧ Hx wd (w.heap.size + 1) [.bool false, .int .i64 0] 28 ∧ Hx wd K [.bool kb, .int .i64 kn] 28)
  case first =>
    have hk_0 := hk.cell 0; have hk_1 := hk.cell 1; have hk_f0 := hk.free 0; have hk_f1 := hk.free 1; have hk_l := hk.lt
    by_cases h0 : L.length = 0
    · go_wp2_with fail
      go_meet
      exact ⟨false, 0, rfl, rfl, rfl, rfl, by cases L with | nil => rfl | cons p r => simp at h0, (by exact G.go HG), (by first | exact Hx.go hs | exact Hx.go2), (by first | exact Hx.go hr | exact Hx.go2), (by first | exact Hx.go hk | exact Hx.go2)⟩
    · have hp : 0 < L.length := by omega
      obtain ⟨b2, o2, rfl, hb2, hc2⟩ := L3.out hp
      obtain ⟨x0, x1⟩ := valCells hc2 HG hb2 hp
      simp only [Nat.zero_mul, Nat.add_zero] at x0 x1
      have hkk : Hid (vK L[0].1 L[0].2 = kOf L) := Lib.hid (by cases L with | nil => simp at hp | cons p r => rfl)
      clear hc2
      generalize L[0].1 = vb at *
      generalize L[0].2 = vn at *
      go_wp2_with fail
      go_meet
      exact ⟨vb, vn, rfl, rfl, rfl, rfl, hkk.out, (by exact G.go HG), (by first | exact Hx.go hs | exact Hx.go2), (by first | exact Hx.go hr | exact Hx.go2), (by first | exact Hx.go hk | exact Hx.go2)⟩
  clear hkl
  obtain ⟨kb, kn, rfl, rfl, rfl, rfl, hkk, HG, hs, hr, hk⟩ := hcut
  rename World => wy
  have hr_0 := hr.cell 0; have hr_1 := hr.cell 1; have hr_f0 := hr.free 0; have hr_f1 := hr.free 1; have hr_l := hr.lt
  go_wp2_with (go_at_call 57; (with_reducible refine (HCg.out _ (HV.out.kept0 (by exact G.go HG))).mono ?_); rintro e wn ⟨rfl, hgn⟩; replace HG := G.trans (w := w) (by exact G.go HG) hgn; replace hr := Hx.kept (by first | exact Hx.go hr | exact Hx.go2) hgn (by simp); have hr_0 := hr.cell 0; have hr_1 := hr.cell 1; have hr_f0 := hr.free 0; have hr_f1 := hr.free 1; have hr_l := hr.lt; clear hgn)
  refine ret_cell [.bool (vB V), .int .i64 (vN V)] (w.heap.size + 1) 28 rfl rfl (Tryz.isAgg28 _) (Tryz.sizeOf28 _) rfl ?_ ⟨by rw [hvv.out], (by exact G.go HG)⟩
  exact (by first | exact Hx.go hr | exact Hx.go2)
set_option maxHeartbeats 16000000 in
set_option maxRecDepth 100000 in
theorem one4_any (w : World) (S : Ser) (sv : Value) (h : ERow valE w sv S.vals) (hall : S.vals.all (fun p => isR p.1 p.2) = true) (hl : S.vals.length ≤ 131072) (nm : ByteArray) (hnm : nm = fs4) (lv : Value) (L : List (Bool × Int)) (hlv : ERow valE w lv L) (j : Nat) (hj : j < S.vals.length) : Calls Tryz.prog 31 #[.string nm, .agg #[.string S.name, .int .i64 S.start, .int .i64 S.step, sv, .int .i64 S.cons], .int .i64 (j : Int), lv] w fun e w' => e = .returned (valV (fsV 4 S.step (decide (0 < L.length)) (kOf L) S.opts j)) ∧ w.grownBy w' none := by
  have HG := G.refl w none
  have hLV := Lib.hid hlv
  obtain ⟨V, hV⟩ : ∃ V, Hid (fsV 4 S.step (decide (0 < L.length)) (kOf L) S.opts j = V) := ⟨_, Lib.hid rfl⟩
  rw [hV.out]
  have hvv := Lib.hid (valV_form V)
  have e0 : (nm.toList == ([99, 104, 97, 110, 103, 101, 100] : List UInt8)) = false := eqFsNo (by rw [hnm]; decide)
  have e1 : (nm.toList == ([100, 101, 108, 97, 121] : List UInt8)) = false := eqFsNo (by rw [hnm]; decide)
  have e2 : (nm.toList == ([100, 101, 114, 105, 118, 97, 116, 105, 118, 101] : List UInt8)) = false := eqFsNo (by rw [hnm]; decide)
  have e3 : (nm.toList == ([105, 110, 116, 101, 103, 114, 97, 108] : List UInt8)) = false := eqFsNo (by rw [hnm]; decide)
  have e4 : (nm.toList == ([105, 110, 116, 101, 114, 112, 111, 108, 97, 116, 101] : List UInt8)) = true := eqFsYes hnm
  have e5 : (nm.toList == ([107, 101, 101, 112, 76, 97, 115, 116, 86, 97, 108, 117, 101] : List UInt8)) = false := eqFsNo (by rw [hnm]; decide)
  have e6 : (nm.toList == ([110, 111, 110, 78, 101, 103, 97, 116, 105, 118, 101, 68, 101, 114, 105, 118, 97, 116, 105, 118, 101] : List UInt8)) = false := eqFsNo (by rw [hnm]; decide)
  have e7 : (nm.toList == ([112, 101, 114, 83, 101, 99, 111, 110, 100] : List UInt8)) = false := eqFsNo (by rw [hnm]; decide)
  have HFl := Lib.hid (fun w2 h2 hv h3 => fillL_any w2 S sv h2 hall hl S.step nm hnm lv L h3 j hj hv)
  clear hnm
  have HV := Lib.hid h
  obtain ⟨A, c, rfl, -, -, q3⟩ := h
  obtain ⟨b, o, rfl, hbl, hc⟩ := q3 (by omega)
  have HC := Lib.hid (fun (m : Nat) (hm : m < S.vals.length) (wr : World) (hg : w.grownBy wr none) => rowCells hall hc hg hbl hm)
  clear hc q3
  obtain ⟨A2, c2, rfl, -, -, l3⟩ := hlv
  have L3 := Lib.hid l3; clear l3
  rw [hV.out, valV_form] at HFl
  cases hv : S.opts.getD j none with
  | some x =>
    have hfin : Hid (V = some x) := Lib.hid (by rw [← hV.out]; unfold fsV; simp only [hv])
    clear hV HFl
    go_enter Tryz.func31, Tryz.ntmps31
    go_upto_region 0 with (fail)
    go_cut [5, 8] (fun p5 p8 wc => p5 = .pointer (some ⟨w.heap.size, 0, none⟩) ∧ p8 = .pointer (some ⟨(w.heap.size + 1), 0, none⟩) ∧ w.grownBy wc none ∧ Hx wc w.heap.size [.string S.name, .int .i64 S.start, .int .i64 S.step, .slice (some ⟨b, o, none⟩) S.vals.length c, .int .i64 S.cons] 24 ∧ Hx wc (w.heap.size + 1) [.bool false, .int .i64 0] 28)
    case first =>
      go_wp2_with fail
      go_meet
      exact ⟨rfl, rfl, (by exact G.go HG), Hx.alloc (Hx.new _ _ _) _, Hx.new' (by simp) rfl⟩
    obtain ⟨rfl, rfl, HG, hs, hr⟩ := hcut
    rename World => wx
    have hs_0 := hs.cell 0; have hs_1 := hs.cell 1; have hs_2 := hs.cell 2; have hs_3 := hs.cell 3; have hs_4 := hs.cell 4; have hs_f0 := hs.free 0; have hs_f1 := hs.free 1; have hs_f2 := hs.free 2; have hs_f3 := hs.free 3; have hs_f4 := hs.free 4; have hs_l := hs.lt; have hr_0 := hr.cell 0; have hr_1 := hr.cell 1; have hr_f0 := hr.free 0; have hr_f1 := hr.free 1; have hr_l := hr.lt
    go_upto_region 2 with (fail)
    go_cut [5, 8, 9, 10] (fun p5 p8 p9 p10 wd => ∃ K, p5 = .pointer (some ⟨w.heap.size, 0, none⟩) ∧ p8 = .pointer (some ⟨(w.heap.size + 1), 0, none⟩) ∧ p9 = .slice (some ⟨b, o, none⟩) S.vals.length c ∧ p10 = .pointer (some ⟨K, 0, none⟩) ∧ w.grownBy wd none ∧ (w.heap.size + 1) < K ∧ Hx wd w.heap.size [.string S.name, .int .i64 S.start, .int .i64 S.step, .slice (some ⟨b, o, none⟩) S.vals.length c, .int .i64 S.cons] 24 ∧ Hx wd (w.heap.size + 1) [.bool false, .int .i64 0] 28 ∧ Hx wd K [.bool false, .int .i64 0] 28)
    case first =>
      go_wp2_with fail
      go_meet
      exact ⟨_, rfl, rfl, rfl, rfl, (by exact G.go HG), hr_l, (by first | exact Hx.go hs | exact Hx.go2), (by first | exact Hx.go hr | exact Hx.go2), (by first | exact Hx.go hr | exact Hx.go2)⟩
    clear hs_0 hs_f0 hs_1 hs_f1 hs_2 hs_f2 hs_3 hs_f3 hs_4 hs_f4 hs_l hr_0 hr_1 hr_f0 hr_f1 hr_l
    obtain ⟨K, rfl, rfl, rfl, rfl, HG, hK, hs, hr, hk⟩ := hcut
    rename World => wu
    have hkl := hk.lt
    have hnK : ¬ (w.heap.size + 1) = K := by omega
    have hnK2 : ¬ K = (w.heap.size + 1) := by omega
    have hnK3 : ¬ w.heap.size = K := by omega
    go_upto_if 18 with (fail)
    go_cut [5, 8, 9, 10] (fun p5 p8 p9 p10 wd => ∃ kb kn, p5 = .pointer (some ⟨w.heap.size, 0, none⟩) ∧ p8 = .pointer (some ⟨(w.heap.size + 1), 0, none⟩) ∧ p9 = .slice (some ⟨b, o, none⟩) S.vals.length c ∧ p10 = .pointer (some ⟨K, 0, none⟩) ∧ vK kb kn = kOf L ∧ w.grownBy wd none ∧ Hx wd w.heap.size [.string S.name, .int .i64 S.start, .int .i64 S.step, .slice (some ⟨b, o, none⟩) S.vals.length c, .int .i64 S.cons] 24 ∧ Hx wd (w.heap.size + 1) [.bool false, .int .i64 0] 28 ∧ Hx wd K [.bool kb, .int .i64 kn] 28)
    case first =>
      have hk_0 := hk.cell 0; have hk_1 := hk.cell 1; have hk_f0 := hk.free 0; have hk_f1 := hk.free 1; have hk_l := hk.lt
      by_cases h0 : L.length = 0
      · go_wp2_with fail
        go_meet
        exact ⟨false, 0, rfl, rfl, rfl, rfl, by cases L with | nil => rfl | cons p r => simp at h0, (by exact G.go HG), (by first | exact Hx.go hs | exact Hx.go2), (by first | exact Hx.go hr | exact Hx.go2), (by first | exact Hx.go hk | exact Hx.go2)⟩
      · have hp : 0 < L.length := by omega
        obtain ⟨b2, o2, rfl, hb2, hc2⟩ := L3.out hp
        obtain ⟨x0, x1⟩ := valCells hc2 HG hb2 hp
        simp only [Nat.zero_mul, Nat.add_zero] at x0 x1
        have hkk : Hid (vK L[0].1 L[0].2 = kOf L) := Lib.hid (by cases L with | nil => simp at hp | cons p r => rfl)
        clear hc2
        generalize L[0].1 = vb at *
        generalize L[0].2 = vn at *
        go_wp2_with fail
        go_meet
        exact ⟨vb, vn, rfl, rfl, rfl, rfl, hkk.out, (by exact G.go HG), (by first | exact Hx.go hs | exact Hx.go2), (by first | exact Hx.go hr | exact Hx.go2), (by first | exact Hx.go hk | exact Hx.go2)⟩
    clear hkl
    obtain ⟨kb, kn, rfl, rfl, rfl, rfl, hkk, HG, hs, hr, hk⟩ := hcut
    rename World => wy
    obtain ⟨x0, x1⟩ := HC.out j hj _ HG
    rw [hv] at x0 x1
    have x2 : wy.cell? ⟨b, o + j * 2, none⟩ = some (.bool true) := x0
    have x3 : wy.cell? ⟨b, o + j * 2 + 1, none⟩ = some (.int .i64 x) := x1
    clear x0 x1
    have hr_0 := hr.cell 0; have hr_1 := hr.cell 1; have hr_f0 := hr.free 0; have hr_f1 := hr.free 1; have hr_l := hr.lt
    go_wp2_with fail
    refine ret_cell [.bool true, .int .i64 x] (w.heap.size + 1) 28 rfl rfl (Tryz.isAgg28 _) (Tryz.sizeOf28 _) rfl ?_ ⟨by rw [hfin.out]; rfl, (by exact G.go HG)⟩
    exact (by first | exact Hx.go hr | exact Hx.go2)
  | none =>
    clear hV
    go_enter Tryz.func31, Tryz.ntmps31
    go_upto_region 0 with (fail)
    go_cut [5, 8] (fun p5 p8 wc => p5 = .pointer (some ⟨w.heap.size, 0, none⟩) ∧ p8 = .pointer (some ⟨(w.heap.size + 1), 0, none⟩) ∧ w.grownBy wc none ∧ Hx wc w.heap.size [.string S.name, .int .i64 S.start, .int .i64 S.step, .slice (some ⟨b, o, none⟩) S.vals.length c, .int .i64 S.cons] 24 ∧ Hx wc (w.heap.size + 1) [.bool false, .int .i64 0] 28)
    case first =>
      go_wp2_with fail
      go_meet
      exact ⟨rfl, rfl, (by exact G.go HG), Hx.alloc (Hx.new _ _ _) _, Hx.new' (by simp) rfl⟩
    obtain ⟨rfl, rfl, HG, hs, hr⟩ := hcut
    rename World => wx
    have hs_0 := hs.cell 0; have hs_1 := hs.cell 1; have hs_2 := hs.cell 2; have hs_3 := hs.cell 3; have hs_4 := hs.cell 4; have hs_f0 := hs.free 0; have hs_f1 := hs.free 1; have hs_f2 := hs.free 2; have hs_f3 := hs.free 3; have hs_f4 := hs.free 4; have hs_l := hs.lt; have hr_0 := hr.cell 0; have hr_1 := hr.cell 1; have hr_f0 := hr.free 0; have hr_f1 := hr.free 1; have hr_l := hr.lt
    go_upto_region 2 with (fail)
    go_cut [5, 8, 9, 10] (fun p5 p8 p9 p10 wd => ∃ K, p5 = .pointer (some ⟨w.heap.size, 0, none⟩) ∧ p8 = .pointer (some ⟨(w.heap.size + 1), 0, none⟩) ∧ p9 = .slice (some ⟨b, o, none⟩) S.vals.length c ∧ p10 = .pointer (some ⟨K, 0, none⟩) ∧ w.grownBy wd none ∧ (w.heap.size + 1) < K ∧ Hx wd w.heap.size [.string S.name, .int .i64 S.start, .int .i64 S.step, .slice (some ⟨b, o, none⟩) S.vals.length c, .int .i64 S.cons] 24 ∧ Hx wd (w.heap.size + 1) [.bool false, .int .i64 0] 28 ∧ Hx wd K [.bool false, .int .i64 0] 28)
    case first =>
      go_wp2_with fail
      go_meet
      exact ⟨_, rfl, rfl, rfl, rfl, (by exact G.go HG), hr_l, (by first | exact Hx.go hs | exact Hx.go2), (by first | exact Hx.go hr | exact Hx.go2), (by first | exact Hx.go hr | exact Hx.go2)⟩
    clear hs_0 hs_f0 hs_1 hs_f1 hs_2 hs_f2 hs_3 hs_f3 hs_4 hs_f4 hs_l hr_0 hr_1 hr_f0 hr_f1 hr_l
    obtain ⟨K, rfl, rfl, rfl, rfl, HG, hK, hs, hr, hk⟩ := hcut
    rename World => wu
    have hkl := hk.lt
    have hnK : ¬ (w.heap.size + 1) = K := by omega
    have hnK2 : ¬ K = (w.heap.size + 1) := by omega
    have hnK3 : ¬ w.heap.size = K := by omega
    go_upto_if 18 with (fail)
    go_cut [5, 8, 9, 10] (fun p5 p8 p9 p10 wd => ∃ kb kn, p5 = .pointer (some ⟨w.heap.size, 0, none⟩) ∧ p8 = .pointer (some ⟨(w.heap.size + 1), 0, none⟩) ∧ p9 = .slice (some ⟨b, o, none⟩) S.vals.length c ∧ p10 = .pointer (some ⟨K, 0, none⟩) ∧ vK kb kn = kOf L ∧ w.grownBy wd none ∧ Hx wd w.heap.size [.string S.name, .int .i64 S.start, .int .i64 S.step, .slice (some ⟨b, o, none⟩) S.vals.length c, .int .i64 S.cons] 24 ∧ Hx wd (w.heap.size + 1) [.bool false, .int .i64 0] 28 ∧ Hx wd K [.bool kb, .int .i64 kn] 28)
    case first =>
      have hk_0 := hk.cell 0; have hk_1 := hk.cell 1; have hk_f0 := hk.free 0; have hk_f1 := hk.free 1; have hk_l := hk.lt
      by_cases h0 : L.length = 0
      · go_wp2_with fail
        go_meet
        exact ⟨false, 0, rfl, rfl, rfl, rfl, by cases L with | nil => rfl | cons p r => simp at h0, (by exact G.go HG), (by first | exact Hx.go hs | exact Hx.go2), (by first | exact Hx.go hr | exact Hx.go2), (by first | exact Hx.go hk | exact Hx.go2)⟩
      · have hp : 0 < L.length := by omega
        obtain ⟨b2, o2, rfl, hb2, hc2⟩ := L3.out hp
        obtain ⟨x0, x1⟩ := valCells hc2 HG hb2 hp
        simp only [Nat.zero_mul, Nat.add_zero] at x0 x1
        have hkk : Hid (vK L[0].1 L[0].2 = kOf L) := Lib.hid (by cases L with | nil => simp at hp | cons p r => rfl)
        clear hc2
        generalize L[0].1 = vb at *
        generalize L[0].2 = vn at *
        go_wp2_with fail
        go_meet
        exact ⟨vb, vn, rfl, rfl, rfl, rfl, hkk.out, (by exact G.go HG), (by first | exact Hx.go hs | exact Hx.go2), (by first | exact Hx.go hr | exact Hx.go2), (by first | exact Hx.go hk | exact Hx.go2)⟩
    clear hkl
    obtain ⟨kb, kn, rfl, rfl, rfl, rfl, hkk, HG, hs, hr, hk⟩ := hcut
    rename World => wy
    obtain ⟨x0, x1⟩ := HC.out j hj _ HG
    rw [hv] at x0 x1
    have x2 : wy.cell? ⟨b, o + j * 2, none⟩ = some (.bool false) := x0
    clear x0 x1
    have hr_0 := hr.cell 0; have hr_1 := hr.cell 1; have hr_f0 := hr.free 0; have hr_f1 := hr.free 1; have hr_l := hr.lt
    go_wp2_with (go_at_call 58; (with_reducible refine (HFl.out _ (HV.out.kept0 (by exact G.go HG)) hv (hLV.out.kept0 (by exact G.go HG))).mono ?_); rintro e wn ⟨rfl, hgn⟩; replace HG := G.trans (w := w) (by exact G.go HG) hgn; replace hr := Hx.kept (by first | exact Hx.go hr | exact Hx.go2) hgn (by simp); have hr_0 := hr.cell 0; have hr_1 := hr.cell 1; have hr_f0 := hr.free 0; have hr_f1 := hr.free 1; have hr_l := hr.lt; clear hgn)
    refine ret_cell [.bool (vB V), .int .i64 (vN V)] (w.heap.size + 1) 28 rfl rfl (Tryz.isAgg28 _) (Tryz.sizeOf28 _) rfl ?_ ⟨by rw [hvv.out], (by exact G.go HG)⟩
    exact (by first | exact Hx.go hr | exact Hx.go2)
set_option maxHeartbeats 16000000 in
set_option maxRecDepth 100000 in
theorem one5_any (w : World) (S : Ser) (sv : Value) (h : ERow valE w sv S.vals) (hall : S.vals.all (fun p => isR p.1 p.2) = true) (hl : S.vals.length ≤ 131072) (nm : ByteArray) (hnm : nm = fs5) (lv : Value) (L : List (Bool × Int)) (hlv : ERow valE w lv L) (j : Nat) (hj : j < S.vals.length) : Calls Tryz.prog 31 #[.string nm, .agg #[.string S.name, .int .i64 S.start, .int .i64 S.step, sv, .int .i64 S.cons], .int .i64 (j : Int), lv] w fun e w' => e = .returned (valV (fsV 5 S.step (decide (0 < L.length)) (kOf L) S.opts j)) ∧ w.grownBy w' none := by
  have HG := G.refl w none
  have hLV := Lib.hid hlv
  obtain ⟨V, hV⟩ : ∃ V, Hid (fsV 5 S.step (decide (0 < L.length)) (kOf L) S.opts j = V) := ⟨_, Lib.hid rfl⟩
  rw [hV.out]
  have hvv := Lib.hid (valV_form V)
  have e0 : (nm.toList == ([99, 104, 97, 110, 103, 101, 100] : List UInt8)) = false := eqFsNo (by rw [hnm]; decide)
  have e1 : (nm.toList == ([100, 101, 108, 97, 121] : List UInt8)) = false := eqFsNo (by rw [hnm]; decide)
  have e2 : (nm.toList == ([100, 101, 114, 105, 118, 97, 116, 105, 118, 101] : List UInt8)) = false := eqFsNo (by rw [hnm]; decide)
  have e3 : (nm.toList == ([105, 110, 116, 101, 103, 114, 97, 108] : List UInt8)) = false := eqFsNo (by rw [hnm]; decide)
  have e4 : (nm.toList == ([105, 110, 116, 101, 114, 112, 111, 108, 97, 116, 101] : List UInt8)) = false := eqFsNo (by rw [hnm]; decide)
  have e5 : (nm.toList == ([107, 101, 101, 112, 76, 97, 115, 116, 86, 97, 108, 117, 101] : List UInt8)) = true := eqFsYes hnm
  have e6 : (nm.toList == ([110, 111, 110, 78, 101, 103, 97, 116, 105, 118, 101, 68, 101, 114, 105, 118, 97, 116, 105, 118, 101] : List UInt8)) = false := eqFsNo (by rw [hnm]; decide)
  have e7 : (nm.toList == ([112, 101, 114, 83, 101, 99, 111, 110, 100] : List UInt8)) = false := eqFsNo (by rw [hnm]; decide)
  have HFl := Lib.hid (fun w2 h2 hv h3 => fillK_any w2 S sv h2 hall hl S.step nm hnm lv L h3 j hj hv)
  clear hnm
  have HV := Lib.hid h
  obtain ⟨A, c, rfl, -, -, q3⟩ := h
  obtain ⟨b, o, rfl, hbl, hc⟩ := q3 (by omega)
  have HC := Lib.hid (fun (m : Nat) (hm : m < S.vals.length) (wr : World) (hg : w.grownBy wr none) => rowCells hall hc hg hbl hm)
  clear hc q3
  obtain ⟨A2, c2, rfl, -, -, l3⟩ := hlv
  have L3 := Lib.hid l3; clear l3
  rw [hV.out, valV_form] at HFl
  cases hv : S.opts.getD j none with
  | some x =>
    have hfin : Hid (V = some x) := Lib.hid (by rw [← hV.out]; unfold fsV; simp only [hv])
    clear hV HFl
    go_enter Tryz.func31, Tryz.ntmps31
    go_upto_region 0 with (fail)
    go_cut [5, 8] (fun p5 p8 wc => p5 = .pointer (some ⟨w.heap.size, 0, none⟩) ∧ p8 = .pointer (some ⟨(w.heap.size + 1), 0, none⟩) ∧ w.grownBy wc none ∧ Hx wc w.heap.size [.string S.name, .int .i64 S.start, .int .i64 S.step, .slice (some ⟨b, o, none⟩) S.vals.length c, .int .i64 S.cons] 24 ∧ Hx wc (w.heap.size + 1) [.bool false, .int .i64 0] 28)
    case first =>
      go_wp2_with fail
      go_meet
      exact ⟨rfl, rfl, (by exact G.go HG), Hx.alloc (Hx.new _ _ _) _, Hx.new' (by simp) rfl⟩
    obtain ⟨rfl, rfl, HG, hs, hr⟩ := hcut
    rename World => wx
    have hs_0 := hs.cell 0; have hs_1 := hs.cell 1; have hs_2 := hs.cell 2; have hs_3 := hs.cell 3; have hs_4 := hs.cell 4; have hs_f0 := hs.free 0; have hs_f1 := hs.free 1; have hs_f2 := hs.free 2; have hs_f3 := hs.free 3; have hs_f4 := hs.free 4; have hs_l := hs.lt; have hr_0 := hr.cell 0; have hr_1 := hr.cell 1; have hr_f0 := hr.free 0; have hr_f1 := hr.free 1; have hr_l := hr.lt
    go_upto_region 2 with (fail)
    go_cut [5, 8, 9, 10] (fun p5 p8 p9 p10 wd => ∃ K, p5 = .pointer (some ⟨w.heap.size, 0, none⟩) ∧ p8 = .pointer (some ⟨(w.heap.size + 1), 0, none⟩) ∧ p9 = .slice (some ⟨b, o, none⟩) S.vals.length c ∧ p10 = .pointer (some ⟨K, 0, none⟩) ∧ w.grownBy wd none ∧ (w.heap.size + 1) < K ∧ Hx wd w.heap.size [.string S.name, .int .i64 S.start, .int .i64 S.step, .slice (some ⟨b, o, none⟩) S.vals.length c, .int .i64 S.cons] 24 ∧ Hx wd (w.heap.size + 1) [.bool false, .int .i64 0] 28 ∧ Hx wd K [.bool false, .int .i64 0] 28)
    case first =>
      go_wp2_with fail
      go_meet
      exact ⟨_, rfl, rfl, rfl, rfl, (by exact G.go HG), hr_l, (by first | exact Hx.go hs | exact Hx.go2), (by first | exact Hx.go hr | exact Hx.go2), (by first | exact Hx.go hr | exact Hx.go2)⟩
    clear hs_0 hs_f0 hs_1 hs_f1 hs_2 hs_f2 hs_3 hs_f3 hs_4 hs_f4 hs_l hr_0 hr_1 hr_f0 hr_f1 hr_l
    obtain ⟨K, rfl, rfl, rfl, rfl, HG, hK, hs, hr, hk⟩ := hcut
    rename World => wu
    have hkl := hk.lt
    have hnK : ¬ (w.heap.size + 1) = K := by omega
    have hnK2 : ¬ K = (w.heap.size + 1) := by omega
    have hnK3 : ¬ w.heap.size = K := by omega
    go_upto_if 18 with (fail)
    go_cut [5, 8, 9, 10] (fun p5 p8 p9 p10 wd => ∃ kb kn, p5 = .pointer (some ⟨w.heap.size, 0, none⟩) ∧ p8 = .pointer (some ⟨(w.heap.size + 1), 0, none⟩) ∧ p9 = .slice (some ⟨b, o, none⟩) S.vals.length c ∧ p10 = .pointer (some ⟨K, 0, none⟩) ∧ vK kb kn = kOf L ∧ w.grownBy wd none ∧ Hx wd w.heap.size [.string S.name, .int .i64 S.start, .int .i64 S.step, .slice (some ⟨b, o, none⟩) S.vals.length c, .int .i64 S.cons] 24 ∧ Hx wd (w.heap.size + 1) [.bool false, .int .i64 0] 28 ∧ Hx wd K [.bool kb, .int .i64 kn] 28)
    case first =>
      have hk_0 := hk.cell 0; have hk_1 := hk.cell 1; have hk_f0 := hk.free 0; have hk_f1 := hk.free 1; have hk_l := hk.lt
      by_cases h0 : L.length = 0
      · go_wp2_with fail
        go_meet
        exact ⟨false, 0, rfl, rfl, rfl, rfl, by cases L with | nil => rfl | cons p r => simp at h0, (by exact G.go HG), (by first | exact Hx.go hs | exact Hx.go2), (by first | exact Hx.go hr | exact Hx.go2), (by first | exact Hx.go hk | exact Hx.go2)⟩
      · have hp : 0 < L.length := by omega
        obtain ⟨b2, o2, rfl, hb2, hc2⟩ := L3.out hp
        obtain ⟨x0, x1⟩ := valCells hc2 HG hb2 hp
        simp only [Nat.zero_mul, Nat.add_zero] at x0 x1
        have hkk : Hid (vK L[0].1 L[0].2 = kOf L) := Lib.hid (by cases L with | nil => simp at hp | cons p r => rfl)
        clear hc2
        generalize L[0].1 = vb at *
        generalize L[0].2 = vn at *
        go_wp2_with fail
        go_meet
        exact ⟨vb, vn, rfl, rfl, rfl, rfl, hkk.out, (by exact G.go HG), (by first | exact Hx.go hs | exact Hx.go2), (by first | exact Hx.go hr | exact Hx.go2), (by first | exact Hx.go hk | exact Hx.go2)⟩
    clear hkl
    obtain ⟨kb, kn, rfl, rfl, rfl, rfl, hkk, HG, hs, hr, hk⟩ := hcut
    rename World => wy
    obtain ⟨x0, x1⟩ := HC.out j hj _ HG
    rw [hv] at x0 x1
    have x2 : wy.cell? ⟨b, o + j * 2, none⟩ = some (.bool true) := x0
    have x3 : wy.cell? ⟨b, o + j * 2 + 1, none⟩ = some (.int .i64 x) := x1
    clear x0 x1
    have hr_0 := hr.cell 0; have hr_1 := hr.cell 1; have hr_f0 := hr.free 0; have hr_f1 := hr.free 1; have hr_l := hr.lt
    go_wp2_with fail
    refine ret_cell [.bool true, .int .i64 x] (w.heap.size + 1) 28 rfl rfl (Tryz.isAgg28 _) (Tryz.sizeOf28 _) rfl ?_ ⟨by rw [hfin.out]; rfl, (by exact G.go HG)⟩
    exact (by first | exact Hx.go hr | exact Hx.go2)
  | none =>
    clear hV
    go_enter Tryz.func31, Tryz.ntmps31
    go_upto_region 0 with (fail)
    go_cut [5, 8] (fun p5 p8 wc => p5 = .pointer (some ⟨w.heap.size, 0, none⟩) ∧ p8 = .pointer (some ⟨(w.heap.size + 1), 0, none⟩) ∧ w.grownBy wc none ∧ Hx wc w.heap.size [.string S.name, .int .i64 S.start, .int .i64 S.step, .slice (some ⟨b, o, none⟩) S.vals.length c, .int .i64 S.cons] 24 ∧ Hx wc (w.heap.size + 1) [.bool false, .int .i64 0] 28)
    case first =>
      go_wp2_with fail
      go_meet
      exact ⟨rfl, rfl, (by exact G.go HG), Hx.alloc (Hx.new _ _ _) _, Hx.new' (by simp) rfl⟩
    obtain ⟨rfl, rfl, HG, hs, hr⟩ := hcut
    rename World => wx
    have hs_0 := hs.cell 0; have hs_1 := hs.cell 1; have hs_2 := hs.cell 2; have hs_3 := hs.cell 3; have hs_4 := hs.cell 4; have hs_f0 := hs.free 0; have hs_f1 := hs.free 1; have hs_f2 := hs.free 2; have hs_f3 := hs.free 3; have hs_f4 := hs.free 4; have hs_l := hs.lt; have hr_0 := hr.cell 0; have hr_1 := hr.cell 1; have hr_f0 := hr.free 0; have hr_f1 := hr.free 1; have hr_l := hr.lt
    go_upto_region 2 with (fail)
    go_cut [5, 8, 9, 10] (fun p5 p8 p9 p10 wd => ∃ K, p5 = .pointer (some ⟨w.heap.size, 0, none⟩) ∧ p8 = .pointer (some ⟨(w.heap.size + 1), 0, none⟩) ∧ p9 = .slice (some ⟨b, o, none⟩) S.vals.length c ∧ p10 = .pointer (some ⟨K, 0, none⟩) ∧ w.grownBy wd none ∧ (w.heap.size + 1) < K ∧ Hx wd w.heap.size [.string S.name, .int .i64 S.start, .int .i64 S.step, .slice (some ⟨b, o, none⟩) S.vals.length c, .int .i64 S.cons] 24 ∧ Hx wd (w.heap.size + 1) [.bool false, .int .i64 0] 28 ∧ Hx wd K [.bool false, .int .i64 0] 28)
    case first =>
      go_wp2_with fail
      go_meet
      exact ⟨_, rfl, rfl, rfl, rfl, (by exact G.go HG), hr_l, (by first | exact Hx.go hs | exact Hx.go2), (by first | exact Hx.go hr | exact Hx.go2), (by first | exact Hx.go hr | exact Hx.go2)⟩
    clear hs_0 hs_f0 hs_1 hs_f1 hs_2 hs_f2 hs_3 hs_f3 hs_4 hs_f4 hs_l hr_0 hr_1 hr_f0 hr_f1 hr_l
    obtain ⟨K, rfl, rfl, rfl, rfl, HG, hK, hs, hr, hk⟩ := hcut
    rename World => wu
    have hkl := hk.lt
    have hnK : ¬ (w.heap.size + 1) = K := by omega
    have hnK2 : ¬ K = (w.heap.size + 1) := by omega
    have hnK3 : ¬ w.heap.size = K := by omega
    go_upto_if 18 with (fail)
    go_cut [5, 8, 9, 10] (fun p5 p8 p9 p10 wd => ∃ kb kn, p5 = .pointer (some ⟨w.heap.size, 0, none⟩) ∧ p8 = .pointer (some ⟨(w.heap.size + 1), 0, none⟩) ∧ p9 = .slice (some ⟨b, o, none⟩) S.vals.length c ∧ p10 = .pointer (some ⟨K, 0, none⟩) ∧ vK kb kn = kOf L ∧ w.grownBy wd none ∧ Hx wd w.heap.size [.string S.name, .int .i64 S.start, .int .i64 S.step, .slice (some ⟨b, o, none⟩) S.vals.length c, .int .i64 S.cons] 24 ∧ Hx wd (w.heap.size + 1) [.bool false, .int .i64 0] 28 ∧ Hx wd K [.bool kb, .int .i64 kn] 28)
    case first =>
      have hk_0 := hk.cell 0; have hk_1 := hk.cell 1; have hk_f0 := hk.free 0; have hk_f1 := hk.free 1; have hk_l := hk.lt
      by_cases h0 : L.length = 0
      · go_wp2_with fail
        go_meet
        exact ⟨false, 0, rfl, rfl, rfl, rfl, by cases L with | nil => rfl | cons p r => simp at h0, (by exact G.go HG), (by first | exact Hx.go hs | exact Hx.go2), (by first | exact Hx.go hr | exact Hx.go2), (by first | exact Hx.go hk | exact Hx.go2)⟩
      · have hp : 0 < L.length := by omega
        obtain ⟨b2, o2, rfl, hb2, hc2⟩ := L3.out hp
        obtain ⟨x0, x1⟩ := valCells hc2 HG hb2 hp
        simp only [Nat.zero_mul, Nat.add_zero] at x0 x1
        have hkk : Hid (vK L[0].1 L[0].2 = kOf L) := Lib.hid (by cases L with | nil => simp at hp | cons p r => rfl)
        clear hc2
        generalize L[0].1 = vb at *
        generalize L[0].2 = vn at *
        go_wp2_with fail
        go_meet
        exact ⟨vb, vn, rfl, rfl, rfl, rfl, hkk.out, (by exact G.go HG), (by first | exact Hx.go hs | exact Hx.go2), (by first | exact Hx.go hr | exact Hx.go2), (by first | exact Hx.go hk | exact Hx.go2)⟩
    clear hkl
    obtain ⟨kb, kn, rfl, rfl, rfl, rfl, hkk, HG, hs, hr, hk⟩ := hcut
    rename World => wy
    obtain ⟨x0, x1⟩ := HC.out j hj _ HG
    rw [hv] at x0 x1
    have x2 : wy.cell? ⟨b, o + j * 2, none⟩ = some (.bool false) := x0
    clear x0 x1
    have hr_0 := hr.cell 0; have hr_1 := hr.cell 1; have hr_f0 := hr.free 0; have hr_f1 := hr.free 1; have hr_l := hr.lt
    go_wp2_with (go_at_call 58; (with_reducible refine (HFl.out _ (HV.out.kept0 (by exact G.go HG)) hv (hLV.out.kept0 (by exact G.go HG))).mono ?_); rintro e wn ⟨rfl, hgn⟩; replace HG := G.trans (w := w) (by exact G.go HG) hgn; replace hr := Hx.kept (by first | exact Hx.go hr | exact Hx.go2) hgn (by simp); have hr_0 := hr.cell 0; have hr_1 := hr.cell 1; have hr_f0 := hr.free 0; have hr_f1 := hr.free 1; have hr_l := hr.lt; clear hgn)
    refine ret_cell [.bool (vB V), .int .i64 (vN V)] (w.heap.size + 1) 28 rfl rfl (Tryz.isAgg28 _) (Tryz.sizeOf28 _) rfl ?_ ⟨by rw [hvv.out], (by exact G.go HG)⟩
    exact (by first | exact Hx.go hr | exact Hx.go2)
set_option maxHeartbeats 16000000 in
set_option maxRecDepth 100000 in
theorem one3_any (w : World) (S : Ser) (sv : Value) (h : ERow valE w sv S.vals) (hall : S.vals.all (fun p => isR p.1 p.2) = true) (hl : S.vals.length ≤ 131072) (nm : ByteArray) (hnm : nm = fs3) (lv : Value) (L : List (Bool × Int)) (hlv : ERow valE w lv L) (j : Nat) (hj : j < S.vals.length) : Calls Tryz.prog 31 #[.string nm, .agg #[.string S.name, .int .i64 S.start, .int .i64 S.step, sv, .int .i64 S.cons], .int .i64 (j : Int), lv] w fun e w' => e = .returned (valV (fsV 3 S.step (decide (0 < L.length)) (kOf L) S.opts j)) ∧ w.grownBy w' none := by
  have HG := G.refl w none
  have hLV := Lib.hid hlv
  obtain ⟨V, hV⟩ : ∃ V, Hid (fsV 3 S.step (decide (0 < L.length)) (kOf L) S.opts j = V) := ⟨_, Lib.hid rfl⟩
  rw [hV.out]
  have hvv := Lib.hid (valV_form V)
  have e0 : (nm.toList == ([99, 104, 97, 110, 103, 101, 100] : List UInt8)) = false := eqFsNo (by rw [hnm]; decide)
  have e1 : (nm.toList == ([100, 101, 108, 97, 121] : List UInt8)) = false := eqFsNo (by rw [hnm]; decide)
  have e2 : (nm.toList == ([100, 101, 114, 105, 118, 97, 116, 105, 118, 101] : List UInt8)) = false := eqFsNo (by rw [hnm]; decide)
  have e3 : (nm.toList == ([105, 110, 116, 101, 103, 114, 97, 108] : List UInt8)) = true := eqFsYes hnm
  have e4 : (nm.toList == ([105, 110, 116, 101, 114, 112, 111, 108, 97, 116, 101] : List UInt8)) = false := eqFsNo (by rw [hnm]; decide)
  have e5 : (nm.toList == ([107, 101, 101, 112, 76, 97, 115, 116, 86, 97, 108, 117, 101] : List UInt8)) = false := eqFsNo (by rw [hnm]; decide)
  have e6 : (nm.toList == ([110, 111, 110, 78, 101, 103, 97, 116, 105, 118, 101, 68, 101, 114, 105, 118, 97, 116, 105, 118, 101] : List UInt8)) = false := eqFsNo (by rw [hnm]; decide)
  have e7 : (nm.toList == ([112, 101, 114, 83, 101, 99, 111, 110, 100] : List UInt8)) = false := eqFsNo (by rw [hnm]; decide)
  clear hnm
  have HV := Lib.hid h
  obtain ⟨A, c, rfl, -, -, q3⟩ := h
  obtain ⟨b, o, rfl, hbl, hc⟩ := q3 (by omega)
  have HC := Lib.hid (fun (m : Nat) (hm : m < S.vals.length) (wr : World) (hg : w.grownBy wr none) => rowCells hall hc hg hbl hm)
  clear hc q3
  obtain ⟨A2, c2, rfl, -, -, l3⟩ := hlv
  have L3 := Lib.hid l3; clear l3
  have hV2 : Hid (V = if (S.opts.getD j none).isSome then sumTo S.opts (j + 1) else none) := Lib.hid (by rw [← hV.out]; rfl)
  clear hV
  cases hv : S.opts.getD j none with
  | none =>
    have hfin : Hid (V = none) := Lib.hid (by rw [hV2.out, hv]; rfl)
    clear hV2
    go_enter Tryz.func31, Tryz.ntmps31
    go_upto_region 0 with (fail)
    go_cut [5, 8] (fun p5 p8 wc => p5 = .pointer (some ⟨w.heap.size, 0, none⟩) ∧ p8 = .pointer (some ⟨(w.heap.size + 1), 0, none⟩) ∧ w.grownBy wc none ∧ Hx wc w.heap.size [.string S.name, .int .i64 S.start, .int .i64 S.step, .slice (some ⟨b, o, none⟩) S.vals.length c, .int .i64 S.cons] 24 ∧ Hx wc (w.heap.size + 1) [.bool false, .int .i64 0] 28)
    case first =>
      go_wp2_with fail
      go_meet
      exact ⟨rfl, rfl, (by exact G.go HG), Hx.alloc (Hx.new _ _ _) _, Hx.new' (by simp) rfl⟩
    obtain ⟨rfl, rfl, HG, hs, hr⟩ := hcut
    rename World => wx
    have hs_0 := hs.cell 0; have hs_1 := hs.cell 1; have hs_2 := hs.cell 2; have hs_3 := hs.cell 3; have hs_4 := hs.cell 4; have hs_f0 := hs.free 0; have hs_f1 := hs.free 1; have hs_f2 := hs.free 2; have hs_f3 := hs.free 3; have hs_f4 := hs.free 4; have hs_l := hs.lt; have hr_0 := hr.cell 0; have hr_1 := hr.cell 1; have hr_f0 := hr.free 0; have hr_f1 := hr.free 1; have hr_l := hr.lt
    go_upto_region 2 with (fail)
    go_cut [5, 8, 9, 10] (fun p5 p8 p9 p10 wd => ∃ K, p5 = .pointer (some ⟨w.heap.size, 0, none⟩) ∧ p8 = .pointer (some ⟨(w.heap.size + 1), 0, none⟩) ∧ p9 = .slice (some ⟨b, o, none⟩) S.vals.length c ∧ p10 = .pointer (some ⟨K, 0, none⟩) ∧ w.grownBy wd none ∧ (w.heap.size + 1) < K ∧ Hx wd w.heap.size [.string S.name, .int .i64 S.start, .int .i64 S.step, .slice (some ⟨b, o, none⟩) S.vals.length c, .int .i64 S.cons] 24 ∧ Hx wd (w.heap.size + 1) [.bool false, .int .i64 0] 28 ∧ Hx wd K [.bool false, .int .i64 0] 28)
    case first =>
      go_wp2_with fail
      go_meet
      exact ⟨_, rfl, rfl, rfl, rfl, (by exact G.go HG), hr_l, (by first | exact Hx.go hs | exact Hx.go2), (by first | exact Hx.go hr | exact Hx.go2), (by first | exact Hx.go hr | exact Hx.go2)⟩
    clear hs_0 hs_f0 hs_1 hs_f1 hs_2 hs_f2 hs_3 hs_f3 hs_4 hs_f4 hs_l hr_0 hr_1 hr_f0 hr_f1 hr_l
    obtain ⟨K, rfl, rfl, rfl, rfl, HG, hK, hs, hr, hk⟩ := hcut
    rename World => wu
    have hkl := hk.lt
    have hnK : ¬ (w.heap.size + 1) = K := by omega
    have hnK2 : ¬ K = (w.heap.size + 1) := by omega
    have hnK3 : ¬ w.heap.size = K := by omega
    go_upto_if 18 with (fail)
    go_cut [5, 8, 9, 10] (fun p5 p8 p9 p10 wd => ∃ kb kn, p5 = .pointer (some ⟨w.heap.size, 0, none⟩) ∧ p8 = .pointer (some ⟨(w.heap.size + 1), 0, none⟩) ∧ p9 = .slice (some ⟨b, o, none⟩) S.vals.length c ∧ p10 = .pointer (some ⟨K, 0, none⟩) ∧ vK kb kn = kOf L ∧ w.grownBy wd none ∧ Hx wd w.heap.size [.string S.name, .int .i64 S.start, .int .i64 S.step, .slice (some ⟨b, o, none⟩) S.vals.length c, .int .i64 S.cons] 24 ∧ Hx wd (w.heap.size + 1) [.bool false, .int .i64 0] 28 ∧ Hx wd K [.bool kb, .int .i64 kn] 28)
    case first =>
      have hk_0 := hk.cell 0; have hk_1 := hk.cell 1; have hk_f0 := hk.free 0; have hk_f1 := hk.free 1; have hk_l := hk.lt
      by_cases h0 : L.length = 0
      · go_wp2_with fail
        go_meet
        exact ⟨false, 0, rfl, rfl, rfl, rfl, by cases L with | nil => rfl | cons p r => simp at h0, (by exact G.go HG), (by first | exact Hx.go hs | exact Hx.go2), (by first | exact Hx.go hr | exact Hx.go2), (by first | exact Hx.go hk | exact Hx.go2)⟩
      · have hp : 0 < L.length := by omega
        obtain ⟨b2, o2, rfl, hb2, hc2⟩ := L3.out hp
        obtain ⟨x0, x1⟩ := valCells hc2 HG hb2 hp
        simp only [Nat.zero_mul, Nat.add_zero] at x0 x1
        have hkk : Hid (vK L[0].1 L[0].2 = kOf L) := Lib.hid (by cases L with | nil => simp at hp | cons p r => rfl)
        clear hc2
        generalize L[0].1 = vb at *
        generalize L[0].2 = vn at *
        go_wp2_with fail
        go_meet
        exact ⟨vb, vn, rfl, rfl, rfl, rfl, hkk.out, (by exact G.go HG), (by first | exact Hx.go hs | exact Hx.go2), (by first | exact Hx.go hr | exact Hx.go2), (by first | exact Hx.go hk | exact Hx.go2)⟩
    clear hkl
    obtain ⟨kb, kn, rfl, rfl, rfl, rfl, hkk, HG, hs, hr, hk⟩ := hcut
    rename World => wy
    obtain ⟨x0, x1⟩ := HC.out j hj _ HG
    rw [hv] at x0 x1
    have x2 : wy.cell? ⟨b, o + j * 2, none⟩ = some (.bool false) := x0
    clear x0 x1
    have hr_0 := hr.cell 0; have hr_1 := hr.cell 1; have hr_f0 := hr.free 0; have hr_f1 := hr.free 1; have hr_l := hr.lt
    go_wp2_with fail
    refine ret_cell [.bool false, .int .i64 0] (w.heap.size + 1) 28 rfl rfl (Tryz.isAgg28 _) (Tryz.sizeOf28 _) rfl ?_ ⟨by rw [hfin.out]; rfl, (by exact G.go HG)⟩
    exact (by first | exact Hx.go hr | exact Hx.go2)
  | some x =>
    have hfin : Hid (V = sumTo S.opts (j + 1)) := Lib.hid (by rw [hV2.out, hv]; rfl)
    clear hV2
    have HO := Lib.hid (fun w2 : World => refOf_any (w := w2) 0)
    rw [ofR_small (by omega)] at HO
    simp only [valV, valC] at HO
    go_enter Tryz.func31, Tryz.ntmps31
    go_upto_region 0 with (fail)
    go_cut [5, 8] (fun p5 p8 wc => p5 = .pointer (some ⟨w.heap.size, 0, none⟩) ∧ p8 = .pointer (some ⟨(w.heap.size + 1), 0, none⟩) ∧ w.grownBy wc none ∧ Hx wc w.heap.size [.string S.name, .int .i64 S.start, .int .i64 S.step, .slice (some ⟨b, o, none⟩) S.vals.length c, .int .i64 S.cons] 24 ∧ Hx wc (w.heap.size + 1) [.bool false, .int .i64 0] 28)
    case first =>
      go_wp2_with fail
      go_meet
      exact ⟨rfl, rfl, (by exact G.go HG), Hx.alloc (Hx.new _ _ _) _, Hx.new' (by simp) rfl⟩
    obtain ⟨rfl, rfl, HG, hs, hr⟩ := hcut
    rename World => wx
    have hs_0 := hs.cell 0; have hs_1 := hs.cell 1; have hs_2 := hs.cell 2; have hs_3 := hs.cell 3; have hs_4 := hs.cell 4; have hs_f0 := hs.free 0; have hs_f1 := hs.free 1; have hs_f2 := hs.free 2; have hs_f3 := hs.free 3; have hs_f4 := hs.free 4; have hs_l := hs.lt; have hr_0 := hr.cell 0; have hr_1 := hr.cell 1; have hr_f0 := hr.free 0; have hr_f1 := hr.free 1; have hr_l := hr.lt
    go_upto_region 2 with (fail)
    go_cut [5, 8, 9, 10] (fun p5 p8 p9 p10 wd => ∃ K, p5 = .pointer (some ⟨w.heap.size, 0, none⟩) ∧ p8 = .pointer (some ⟨(w.heap.size + 1), 0, none⟩) ∧ p9 = .slice (some ⟨b, o, none⟩) S.vals.length c ∧ p10 = .pointer (some ⟨K, 0, none⟩) ∧ w.grownBy wd none ∧ (w.heap.size + 1) < K ∧ Hx wd w.heap.size [.string S.name, .int .i64 S.start, .int .i64 S.step, .slice (some ⟨b, o, none⟩) S.vals.length c, .int .i64 S.cons] 24 ∧ Hx wd (w.heap.size + 1) [.bool false, .int .i64 0] 28 ∧ Hx wd K [.bool false, .int .i64 0] 28)
    case first =>
      go_wp2_with fail
      go_meet
      exact ⟨_, rfl, rfl, rfl, rfl, (by exact G.go HG), hr_l, (by first | exact Hx.go hs | exact Hx.go2), (by first | exact Hx.go hr | exact Hx.go2), (by first | exact Hx.go hr | exact Hx.go2)⟩
    clear hs_0 hs_f0 hs_1 hs_f1 hs_2 hs_f2 hs_3 hs_f3 hs_4 hs_f4 hs_l hr_0 hr_1 hr_f0 hr_f1 hr_l
    obtain ⟨K, rfl, rfl, rfl, rfl, HG, hK, hs, hr, hk⟩ := hcut
    rename World => wu
    have hkl := hk.lt
    have hnK : ¬ (w.heap.size + 1) = K := by omega
    have hnK2 : ¬ K = (w.heap.size + 1) := by omega
    have hnK3 : ¬ w.heap.size = K := by omega
    go_upto_if 18 with (fail)
    go_cut [5, 8, 9, 10] (fun p5 p8 p9 p10 wd => ∃ kb kn, p5 = .pointer (some ⟨w.heap.size, 0, none⟩) ∧ p8 = .pointer (some ⟨(w.heap.size + 1), 0, none⟩) ∧ p9 = .slice (some ⟨b, o, none⟩) S.vals.length c ∧ p10 = .pointer (some ⟨K, 0, none⟩) ∧ vK kb kn = kOf L ∧ w.grownBy wd none ∧ Hx wd w.heap.size [.string S.name, .int .i64 S.start, .int .i64 S.step, .slice (some ⟨b, o, none⟩) S.vals.length c, .int .i64 S.cons] 24 ∧ Hx wd (w.heap.size + 1) [.bool false, .int .i64 0] 28 ∧ Hx wd K [.bool kb, .int .i64 kn] 28)
    case first =>
      have hk_0 := hk.cell 0; have hk_1 := hk.cell 1; have hk_f0 := hk.free 0; have hk_f1 := hk.free 1; have hk_l := hk.lt
      by_cases h0 : L.length = 0
      · go_wp2_with fail
        go_meet
        exact ⟨false, 0, rfl, rfl, rfl, rfl, by cases L with | nil => rfl | cons p r => simp at h0, (by exact G.go HG), (by first | exact Hx.go hs | exact Hx.go2), (by first | exact Hx.go hr | exact Hx.go2), (by first | exact Hx.go hk | exact Hx.go2)⟩
      · have hp : 0 < L.length := by omega
        obtain ⟨b2, o2, rfl, hb2, hc2⟩ := L3.out hp
        obtain ⟨x0, x1⟩ := valCells hc2 HG hb2 hp
        simp only [Nat.zero_mul, Nat.add_zero] at x0 x1
        have hkk : Hid (vK L[0].1 L[0].2 = kOf L) := Lib.hid (by cases L with | nil => simp at hp | cons p r => rfl)
        clear hc2
        generalize L[0].1 = vb at *
        generalize L[0].2 = vn at *
        go_wp2_with fail
        go_meet
        exact ⟨vb, vn, rfl, rfl, rfl, rfl, hkk.out, (by exact G.go HG), (by first | exact Hx.go hs | exact Hx.go2), (by first | exact Hx.go hr | exact Hx.go2), (by first | exact Hx.go hk | exact Hx.go2)⟩
    clear hkl
    obtain ⟨kb, kn, rfl, rfl, rfl, rfl, hkk, HG, hs, hr, hk⟩ := hcut
    rename World => wy
    obtain ⟨x0, x1⟩ := HC.out j hj _ HG
    rw [hv] at x0 x1
    have x2 : wy.cell? ⟨b, o + j * 2, none⟩ = some (.bool true) := x0
    clear x0 x1
    clear hkk hk L3
    go_upto_region 15 with (fail)
    go_cut [8, 9, 11] (fun p8 p9 p11 wd => ∃ O, p8 = .pointer (some ⟨(w.heap.size + 1), 0, none⟩) ∧ p9 = .slice (some ⟨b, o, none⟩) S.vals.length c ∧ p11 = .pointer (some ⟨O, 0, none⟩) ∧ (w.heap.size + 1) < O ∧ w.grownBy wd none ∧ Hx wd (w.heap.size + 1) [.bool false, .int .i64 0] 28 ∧ Hx wd O [.bool (vB (sumTo S.opts 0)), .int .i64 (vN (sumTo S.opts 0))] 28)
    case first =>
      have hr_0 := hr.cell 0; have hr_1 := hr.cell 1; have hr_f0 := hr.free 0; have hr_f1 := hr.free 1; have hr_l := hr.lt
      go_wp2_with (go_at_call 54; (with_reducible refine (HO.out _).mono ?_); rintro e wn ⟨rfl, hgn⟩; replace HG := G.trans (w := w) (by exact G.go HG) hgn; replace hr := Hx.kept (by first | exact Hx.go hr | exact Hx.go2) hgn (by simp); have hr_0 := hr.cell 0; have hr_1 := hr.cell 1; have hr_f0 := hr.free 0; have hr_f1 := hr.free 1; have hr_l := hr.lt; clear hgn)
      go_meet
      exact ⟨_, rfl, rfl, rfl, hr_l, (by exact G.go HG), (by first | exact Hx.go hr | exact Hx.go2), (by first | exact Hx.go hr | exact Hx.go2)⟩
    clear x2
    obtain ⟨O, rfl, rfl, rfl, hRO, HG, hr, ho⟩ := hcut
    rename World => wz
    have hnO : ¬ (w.heap.size + 1) = O := by omega
    have hnO2 : ¬ O = (w.heap.size + 1) := by omega
    clear HO hs
    go_wp2_with fail
    go_loopw [12] (fun iv wr => ∃ z : Nat, iv = .int .i64 (z : Int) ∧ z ≤ j + 1 ∧ w.grownBy wr none ∧ Hx wr (w.heap.size + 1) [.bool false, .int .i64 0] 28 ∧ Hx wr O [.bool (vB (sumTo S.opts z)), .int .i64 (vN (sumTo S.opts z))] 28) (fun iv _ => j + 1 - (intOf iv).toNat)
    case atStart => exact ⟨0, rfl, by omega, HG, hr, ho⟩
    case round =>
      clear HG hr ho
      obtain ⟨z, rfl, hz, HG, hr, ho⟩ := hrel
      by_cases hlt : z ≤ j
      · have hzl : z < S.vals.length := by omega
        have hwz : IntKind.i64.wrap ((z : Int) + 1) = ((z + 1 : Nat) : Int) := by rw [IntKind.wrap_i64]; omega
        have hdz : decide ((z : Int) ≤ (j : Int)) = true := decide_eq_true (by omega)
        have hfs := sumTo_fits S.opts z
        have hfy := opts_fits S z
        cases hy : S.opts.getD z none with
        | none =>
          have ho : Hx wr O [.bool (vB (sumTo S.opts (z + 1))), .int .i64 (vN (sumTo S.opts (z + 1)))] 28 := by rw [sumTo_none hy]; exact ho
          obtain ⟨x0, x1⟩ := HC.out z hzl _ HG
          rw [hy] at x0 x1
          have x2 : wr.cell? ⟨b, o + z * 2, none⟩ = some (.bool false) := x0
          clear x0 x1
          go_wp2_with fail
          refine ⟨?_, by first | (simp [intOf]; done) | (simp [intOf]; omega)⟩
          exact ⟨z + 1, by first | rfl | go_num, by omega, (by exact G.go HG), (by first | exact Hx.go hr | exact Hx.go2), (by first | exact Hx.go ho | exact Hx.go2)⟩
        | some y =>
          rw [hy] at hfy
          obtain ⟨s, hs0⟩ : ∃ s, sumTo S.opts z = s := ⟨_, rfl⟩
          obtain ⟨s2, hs2⟩ : ∃ s, Hid (sumTo S.opts (z + 1) = s) := ⟨_, Lib.hid rfl⟩
          have hs3 := hs2.out
          rw [sumTo_some hy, hs0] at hs3
          rw [hs0] at ho hfs
          clear hs0
          have HAd := Lib.hid (fun v w2 h => add1_any [(vB s, vN s), (true, y)] v w2 h (by simp))
          rw [show addO [(vB s, vN s), (true, y)] = s2 from (add2_fit s (some y) hfs hfy).trans hs3, valV_form] at HAd
          clear hs3
          have HYx0 := Lib.hid (fun wr hg => HC.out z hzl wr hg)
          rw [hy] at HYx0
          have HYx : Hid (∀ wr, w.grownBy wr none → wr.cell? ⟨b, o + z * 2, none⟩ = some (.bool true) ∧ wr.cell? ⟨b, o + z * 2 + 1, none⟩ = some (.int .i64 y)) := HYx0
          clear HYx0
          obtain ⟨x2, x3⟩ := HYx.out _ HG
          go_upto_region 20 with (fail)
          clear x2 x3
          refine wp_region_rel (n := 7) (S := [fun v _ => v = .agg #[.bool (vB s), .int .i64 (vN s)], fun v _ => v = .slice (some ⟨b, o, none⟩) S.vals.length c, fun v _ => v = .int .i64 (z : Int), fun v _ => v = .pointer (some ⟨b, o + z * 2, none⟩), fun v _ => v = .agg #[.bool true, .int .i64 y], fun v w => ∃ Q, v = .slice (some ⟨Q, 0, none⟩) 2 2 ∧ Hx w Q [.bool (vB s), .int .i64 (vN s), .bool true, .int .i64 y] 28, fun v _ => v = .agg #[.bool (vB s2), .int .i64 (vN s2)]]) (G.refl _ none) (by kernel_rfl) (by kernel_rfl) ?_ ?_ ?_
          · intro i v y1 y2 hg12 hS
            match i, hS with
            | 0, h => exact h
            | 1, h => exact h
            | 2, h => exact h
            | 3, h => exact h
            | 4, h => exact h
            | 5, h => exact (let ⟨Q, e1, e2⟩ := h; ⟨Q, e1, e2.kept hg12 (by simp)⟩)
            | 6, h => exact h
            | k + 7, h => exact trivial
          · simp only [List.take_succ_cons, List.take_zero, relOps]
            refine ⟨fun VV y1 hg1 hV => ?_, fun VV y1 hg1 hV => ?_, fun VV y1 hg1 hV => ?_, fun VV y1 hg1 hV => ?_, fun VV y1 hg1 hV => ?_, fun VV y1 hg1 hV => ?_, fun VV y1 hg1 hV => ?_, trivial⟩
            · clear hV
              obtain ⟨y2, y3⟩ := HYx.out _ (G.trans HG hg1); replace ho := Hx.kept ho hg1 (by simp); replace hr := Hx.kept hr hg1 (by simp); have ho_0 := ho.cell 0; have ho_1 := ho.cell 1; have ho_f0 := ho.free 0; have ho_f1 := ho.free 1; have ho_l := ho.lt; have hr_0 := hr.cell 0; have hr_1 := hr.cell 1; have hr_f0 := hr.free 0; have hr_f1 := hr.free 1; have hr_l := hr.lt
              simp only [putAll]
              go_wp2_with fail
              exact ⟨rfl, rfl, G.refl _ none, rfl⟩
            · clear hV
              obtain ⟨y2, y3⟩ := HYx.out _ (G.trans HG hg1); replace ho := Hx.kept ho hg1 (by simp); replace hr := Hx.kept hr hg1 (by simp); have ho_0 := ho.cell 0; have ho_1 := ho.cell 1; have ho_f0 := ho.free 0; have ho_f1 := ho.free 1; have ho_l := ho.lt; have hr_0 := hr.cell 0; have hr_1 := hr.cell 1; have hr_f0 := hr.free 0; have hr_f1 := hr.free 1; have hr_l := hr.lt
              simp only [putAll]
              go_wp2_with fail
              exact ⟨rfl, rfl, G.refl _ none, rfl⟩
            · clear hV
              obtain ⟨y2, y3⟩ := HYx.out _ (G.trans HG hg1); replace ho := Hx.kept ho hg1 (by simp); replace hr := Hx.kept hr hg1 (by simp); have ho_0 := ho.cell 0; have ho_1 := ho.cell 1; have ho_f0 := ho.free 0; have ho_f1 := ho.free 1; have ho_l := ho.lt; have hr_0 := hr.cell 0; have hr_1 := hr.cell 1; have hr_f0 := hr.free 0; have hr_f1 := hr.free 1; have hr_l := hr.lt
              simp only [putAll]
              go_wp2_with fail
              exact ⟨rfl, rfl, G.refl _ none, rfl⟩
            · have e1 := hV 1 (by kernel_rfl); have e2 := hV 2 (by kernel_rfl); clear hV
              obtain ⟨y2, y3⟩ := HYx.out _ (G.trans HG hg1); replace ho := Hx.kept ho hg1 (by simp); replace hr := Hx.kept hr hg1 (by simp); have ho_0 := ho.cell 0; have ho_1 := ho.cell 1; have ho_f0 := ho.free 0; have ho_f1 := ho.free 1; have ho_l := ho.lt; have hr_0 := hr.cell 0; have hr_1 := hr.cell 1; have hr_f0 := hr.free 0; have hr_f1 := hr.free 1; have hr_l := hr.lt
              simp only [atS, List.getD_cons_succ, List.getD_cons_zero] at e1 e2
              simp only [putAll, e1, e2]
              go_wp2_with fail
              exact ⟨rfl, rfl, G.refl _ none, rfl⟩
            · have e3 := hV 3 (by kernel_rfl); clear hV
              obtain ⟨y2, y3⟩ := HYx.out _ (G.trans HG hg1); replace ho := Hx.kept ho hg1 (by simp); replace hr := Hx.kept hr hg1 (by simp); have ho_0 := ho.cell 0; have ho_1 := ho.cell 1; have ho_f0 := ho.free 0; have ho_f1 := ho.free 1; have ho_l := ho.lt; have hr_0 := hr.cell 0; have hr_1 := hr.cell 1; have hr_f0 := hr.free 0; have hr_f1 := hr.free 1; have hr_l := hr.lt
              simp only [atS, List.getD_cons_succ, List.getD_cons_zero] at e3
              simp only [putAll, e3]
              go_wp2_with fail
              exact ⟨rfl, rfl, G.refl _ none, rfl⟩
            · have e0 := hV 0 (by kernel_rfl); have e4 := hV 4 (by kernel_rfl); clear hV
              obtain ⟨y2, y3⟩ := HYx.out _ (G.trans HG hg1); replace ho := Hx.kept ho hg1 (by simp); replace hr := Hx.kept hr hg1 (by simp); have ho_0 := ho.cell 0; have ho_1 := ho.cell 1; have ho_f0 := ho.free 0; have ho_f1 := ho.free 1; have ho_l := ho.lt; have hr_0 := hr.cell 0; have hr_1 := hr.cell 1; have hr_f0 := hr.free 0; have hr_f1 := hr.free 1; have hr_l := hr.lt
              simp only [atS, List.getD_cons_succ, List.getD_cons_zero] at e0 e4
              simp only [putAll, e0, e4]
              go_wp2_with fail
              exact ⟨rfl, rfl, G.alloc (G.refl _ _) _, _, rfl, Hx.new _ _ _⟩
            · have e5 := hV 5 (by kernel_rfl); clear hV
              obtain ⟨y2, y3⟩ := HYx.out _ (G.trans HG hg1); replace ho := Hx.kept ho hg1 (by simp); replace hr := Hx.kept hr hg1 (by simp); have ho_0 := ho.cell 0; have ho_1 := ho.cell 1; have ho_f0 := ho.free 0; have ho_f1 := ho.free 1; have ho_l := ho.lt; have hr_0 := hr.cell 0; have hr_1 := hr.cell 1; have hr_f0 := hr.free 0; have hr_f1 := hr.free 1; have hr_l := hr.lt
              simp only [atS, List.getD_cons_succ, List.getD_cons_zero] at e5
              obtain ⟨Q, e5, hQ⟩ := e5
              simp only [putAll, e5]
              go_wp2_with (go_at_call 55; (with_reducible refine (HAd.out _ _ ?_).mono ?_); (exact ERow.of_hx (ts := [(vB s, vN s), (true, y)]) (by simp) (by decide) hQ); rintro e wn ⟨rfl, hgn⟩)
              exact ⟨rfl, rfl, hgn, rfl⟩
          · intro VV y1 hg1 hV
            have e0 := hV 0 (by omega); have e1 := hV 1 (by omega); have e2 := hV 2 (by omega); have e3 := hV 3 (by omega); have e4 := hV 4 (by omega); have e5 := hV 5 (by omega); have e6 := hV 6 (by omega); clear hV
            simp only [atS, List.getD_cons_succ, List.getD_cons_zero] at e0 e1 e2 e3 e4 e5 e6
            simp only [List.take_succ_cons, List.take_zero, List.drop_succ_cons, List.drop_zero, putAll, e0, e1, e2, e3, e4, e6]
            replace ho := Hx.kept ho hg1 (by simp); replace hr := Hx.kept hr hg1 (by simp); have ho_0 := ho.cell 0; have ho_1 := ho.cell 1; have ho_f0 := ho.free 0; have ho_f1 := ho.free 1; have ho_l := ho.lt; have hr_0 := hr.cell 0; have hr_1 := hr.cell 1; have hr_f0 := hr.free 0; have hr_f1 := hr.free 1; have hr_l := hr.lt
            have hg2 := hg1
            replace HG := G.trans (w := w) HG hg1; clear hg1
            obtain ⟨Q, e5, hQ⟩ := e5
            simp only [e5]
            go_wp2_with fail
            refine ⟨?_, by first | (simp [intOf]; done) | (simp [intOf]; omega)⟩
            refine ⟨z + 1, by first | rfl | go_num, by omega, (by exact G.go HG), (by first | exact Hx.go hr | exact Hx.go2), ?_⟩
            rw [hs2.out]
            exact (by first | exact Hx.go ho | exact Hx.go2)
      · obtain rfl : z = j + 1 := by omega
        have hdz : decide (((j + 1 : Nat) : Int) ≤ (j : Int)) = false := decide_eq_false (by omega)
        rw [← hfin.out] at ho
        have hr_0 := hr.cell 0; have hr_1 := hr.cell 1; have hr_f0 := hr.free 0; have hr_f1 := hr.free 1; have hr_l := hr.lt; have ho_0 := ho.cell 0; have ho_1 := ho.cell 1; have ho_f0 := ho.free 0; have ho_f1 := ho.free 1; have ho_l := ho.lt
        go_wp2_with fail
        refine ret_cell [.bool (vB V), .int .i64 (vN V)] (w.heap.size + 1) 28 rfl rfl (Tryz.isAgg28 _) (Tryz.sizeOf28 _) rfl ?_ ⟨by rw [hvv.out], (by exact G.go HG)⟩
        exact (by first | exact Hx.go hr | exact Hx.go2)
/-- all eight at once -/
theorem one20_any (i : Nat) (hi : i < 8) (w : World) (S : Ser) (sv : Value) (h : ERow valE w sv S.vals) (hall : S.vals.all (fun p => isR p.1 p.2) = true) (hl : S.vals.length ≤ 131072) (nm : ByteArray) (hnm : nm = fsN i) (lv : Value) (L : List (Bool × Int)) (hlv : ERow valE w lv L) (j : Nat) (hj : j < S.vals.length) : Calls Tryz.prog 31 #[.string nm, .agg #[.string S.name, .int .i64 S.start, .int .i64 S.step, sv, .int .i64 S.cons], .int .i64 (j : Int), lv] w fun e w' => e = .returned (valV (fsV i S.step (decide (0 < L.length)) (kOf L) S.opts j)) ∧ w.grownBy w' none :=
  match i, hi, hnm with
  | 0, _, hnm => one0_any w S sv h hall hl nm hnm lv L hlv j hj
  | 1, _, hnm => oneD_any w S sv h hall hl nm hnm lv L hlv j hj
  | 2, _, hnm => one2_any w S sv h hall hl nm hnm lv L hlv j hj
  | 3, _, hnm => one3_any w S sv h hall hl nm hnm lv L hlv j hj
  | 4, _, hnm => one4_any w S sv h hall hl nm hnm lv L hlv j hj
  | 5, _, hnm => one5_any w S sv h hall hl nm hnm lv L hlv j hj
  | 6, _, hnm => one6_any w S sv h hall hl nm hnm lv L hlv j hj
  | 7, _, hnm => one7_any w S sv h hall hl nm hnm lv L hlv j hj
  | n + 8, h, _ => by omega
end Go.Proofs.YtkablhamnepfnaaGreatDoor
