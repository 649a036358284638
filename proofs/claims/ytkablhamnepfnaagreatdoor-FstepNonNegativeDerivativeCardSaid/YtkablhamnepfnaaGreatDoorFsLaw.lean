/-
  The walks of the law's heavy, same, known and applied. Printed by genlaw.py.
-/
import Derived.Test.YtkablhamnepfnaaGreatDoorFsApR
import Derived.Test.YtkablhamnepfnaaGreatDoorSerOwn
namespace Go.Proofs.YtkablhamnepfnaaGreatDoor
open Go.RowKit
/-- is a series more than is looked at? -/
def bigS (S : Ser) : Bool := decide (120 < S.vals.length) || decide (300 < S.name.size)
set_option maxHeartbeats 8000000 in
theorem heavy20_any (S : Ser) (sv : Value) (w : World) (h : ERow valE w sv S.vals) (B : Nat) (hs : Hx w B [.string S.name, .int .i64 S.start, .int .i64 S.step, sv, .int .i64 S.cons] 24) : Calls Tryz.prog 16 #[.slice (some ⟨B, 0, none⟩) 1 1] w fun e w' => e = .returned (.bool (bigS S)) ∧ w.grownBy w' none := by
  have hle := h.le
  unfold maxLen at hle
  have HG := G.refl w none
  obtain ⟨A, c, rfl, q1, q2, q3⟩ := h
  clear q3
  have hbig := Lib.hid (show bigS S = (decide (120 < S.vals.length) || decide (300 < S.name.size)) from rfl)
  have hs_0 := hs.cell 0; have hs_f0 := hs.free 0; have hs_1 := hs.cell 1; have hs_f1 := hs.free 1; have hs_2 := hs.cell 2; have hs_f2 := hs.free 2; have hs_3 := hs.cell 3; have hs_f3 := hs.free 3; have hs_4 := hs.cell 4; have hs_f4 := hs.free 4; have hs_l := hs.lt
  generalize bigS S = big at *
  by_cases h1 : 120 < S.vals.length
  · obtain rfl : big = true := by rw [hbig.out, decide_eq_true h1]; rfl
    go_enter Tryz.func16, Tryz.ntmps16
    go_wp2_with fail
    go_loopw [3, 4] (fun nv iv wr => wr = w ∧ nv = .int .i64 0 ∧ iv = .int .i64 0) (fun _ iv _ => 2 - (intOf iv).toNat)
    case atStart => exact ⟨rfl, rfl, rfl⟩
    case round =>
      obtain ⟨rfl, rfl, rfl⟩ := hrel
      go_wp2_with fail
      go_ret
      exact ⟨rfl, (by exact G.go HG)⟩
  by_cases h2 : 300 < S.name.size
  · obtain rfl : big = true := by rw [hbig.out, decide_eq_true h2, Bool.or_true]
    go_enter Tryz.func16, Tryz.ntmps16
    go_wp2_with fail
    go_loopw [3, 4] (fun nv iv wr => wr = w ∧ nv = .int .i64 0 ∧ iv = .int .i64 0) (fun _ iv _ => 2 - (intOf iv).toNat)
    case atStart => exact ⟨rfl, rfl, rfl⟩
    case round =>
      obtain ⟨rfl, rfl, rfl⟩ := hrel
      go_wp2_with fail
      go_ret
      exact ⟨rfl, (by exact G.go HG)⟩
  obtain rfl : big = false := by rw [hbig.out, decide_eq_false h1, decide_eq_false h2]; rfl
  go_enter Tryz.func16, Tryz.ntmps16
  go_wp2_with fail
  go_loopw [3, 4] (fun nv iv wr => wr = w ∧ ((nv = .int .i64 0 ∧ iv = .int .i64 0) ∨ (nv = .int .i64 S.vals.length ∧ iv = .int .i64 1))) (fun _ iv _ => 2 - (intOf iv).toNat)
  case atStart => exact ⟨rfl, Or.inl ⟨rfl, rfl⟩⟩
  case round =>
    obtain ⟨rfl, ⟨rfl, rfl⟩ | ⟨rfl, rfl⟩⟩ := hrel
    · go_wp2_with fail
      refine ⟨?_, by first | (simp [intOf]; done) | (simp [intOf]; omega)⟩
      first | exact ⟨rfl, Or.inr ⟨by simp, rfl⟩⟩ | (simp; done) | (simp; omega)
    · go_wp2_with fail
      go_ret
      exact ⟨ret_bool (by simp; try omega), (by exact G.go HG)⟩
set_option maxHeartbeats 4000000 in
theorem same20_any (S : Ser) (sv su : Value) (w : World) (h : ERow valE w sv S.vals) (h2 : ERow valE w su S.vals) : Calls Tryz.prog 20 #[.agg #[.string S.name, .int .i64 S.start, .int .i64 S.step, sv, .int .i64 S.cons], .agg #[.string S.name, .int .i64 S.start, .int .i64 S.step, su, .int .i64 S.cons]] w fun e w' => e = .returned (.bool true) ∧ w.grownBy w' none := by
  have HV := Lib.hid h
  have HV2 := Lib.hid h2
  have HG := G.refl w none
  have HS := Lib.hid (fun w2 h h2 => same18_any S sv su w2 h h2)
  obtain ⟨A, c, rfl, _, _, _⟩ := h
  obtain ⟨A2, c2, rfl, _, _, _⟩ := h2
  go_enter Tryz.func20, Tryz.ntmps20
  go_upto_region 0 with (fail)
  go_cut [2, 3, 4] (fun p2 p3 p4 wc => p2 = .pointer (some ⟨w.heap.size, 0, none⟩) ∧ p3 = .pointer (some ⟨(w.heap.size + 1), 0, none⟩) ∧ p4 = .bool false ∧ w.grownBy wc none ∧ Hx wc w.heap.size [.string S.name, .int .i64 S.start, .int .i64 S.step, .slice A S.vals.length c, .int .i64 S.cons] 24 ∧ Hx wc (w.heap.size + 1) [.string S.name, .int .i64 S.start, .int .i64 S.step, .slice A2 S.vals.length c2, .int .i64 S.cons] 24)
  case first =>
    go_wp2_with fail
    go_meet
    exact ⟨rfl, rfl, rfl, (by exact G.go HG), Hx.alloc (Hx.new _ _ _) _, Hx.new' (by simp) rfl⟩
  obtain ⟨rfl, rfl, rfl, HG, ha, hb⟩ := hcut
  rename World => wx
  have ha_0 := ha.cell 0; have ha_f0 := ha.free 0; have ha_1 := ha.cell 1; have ha_f1 := ha.free 1; have ha_2 := ha.cell 2; have ha_f2 := ha.free 2; have ha_3 := ha.cell 3; have ha_f3 := ha.free 3; have ha_4 := ha.cell 4; have ha_f4 := ha.free 4; have ha_l := ha.lt; have hb_0 := hb.cell 0; have hb_f0 := hb.free 0; have hb_1 := hb.cell 1; have hb_f1 := hb.free 1; have hb_2 := hb.cell 2; have hb_f2 := hb.free 2; have hb_3 := hb.cell 3; have hb_f3 := hb.free 3; have hb_4 := hb.cell 4; have hb_f4 := hb.free 4; have hb_l := hb.lt
  go_wp2_with (go_at_call 32; (with_reducible refine (HS.out _ (HV.out.kept0 HG) (HV2.out.kept0 HG)).mono ?_); rintro e wn ⟨rfl, hgn⟩; replace HG := G.trans (w := w) (by exact G.go HG) hgn; clear hgn)
  go_ret
  exact ⟨rfl, HG⟩
theorem known20_spec : fsApply ⟨#[105, 110, 116, 101, 114, 112, 111, 108, 97, 116, 101]⟩ ⟨⟨#[97]⟩, 0, 1, [(true, 1), (false, 0), (false, 0), (true, 4)], 0⟩ [] = some ⟨⟨#[105, 110, 116, 101, 114, 112, 111, 108, 97, 116, 101, 40, 97, 41]⟩, 0, 1, [(true, 1), (true, 2), (true, 3), (true, 4)], 0⟩ := by kernel_rfl
set_option maxHeartbeats 8000000 in
theorem lawKnown20_any (w : World) (hp : Pow10 w) : Calls Tryz.prog 15 #[] w fun e w' => e = .returned (.bool true) ∧ w.grownBy w' none := by
  have HG := G.refl w none
  have HP := Lib.hid hp; clear hp
  have HA := Lib.hid (fun w2 sv lv h hl hpp => fsApply_any ⟨#[105, 110, 116, 101, 114, 112, 111, 108, 97, 116, 101]⟩ ⟨⟨#[97]⟩, 0, 1, [(true, 1), (false, 0), (false, 0), (true, 4)], 0⟩ sv lv [] w2 h hl (by decide) (by decide) (by decide) (by decide) (by decide) hpp)
  simp only [known20_spec] at HA
  go_enter Tryz.func15, Tryz.ntmps15
  go_wp2_with (go_at_call 18; (with_reducible refine (HA.out _ _ _ ?_ ?_ ?_).mono ?_); (exact ERow.of_hx (ts := [(true, 1), (false, 0), (false, 0), (true, 4)]) (by simp) (by decide) (by have hb0 := ((Hx.new w #[.bool true, .int .i64 1, .bool false, .int .i64 0, .bool false, .int .i64 0, .bool true, .int .i64 4] 28 : Hx _ w.heap.size [.bool true, .int .i64 1, .bool false, .int .i64 0, .bool false, .int .i64 0, .bool true, .int .i64 4] 28)); apply Hx.conv; (case h => (repeat first | with_reducible exact hb0 | with_reducible apply Hx.drewN | with_reducible apply Hx.drew | with_reducible apply Hx.set | with_reducible exact Hx.new _ _ _ | (with_reducible apply Hx.new'; (case hl => rfl); (case hb => (first | omega | (simp; done) | (simp; omega)))) | with_reducible apply Hx.alloc | (with_reducible apply Hx.other; (case hne => (first | omega | (simp; done) | (simp; omega)))))); (case e => (first | rfl | (simp; done) | (simp; omega))))); (exact ERow.nil _); (exact Pow10.kept (w := w) HP.out (by exact G.go HG)); rintro e wn ⟨u, rfl, hu, hgn⟩; replace HG := G.trans (w := w) (by exact G.go HG) hgn; obtain ⟨A, c, rfl, _, _, q3⟩ := hu; obtain ⟨b, o, rfl, hb, hc⟩ := q3 (by simp); have z2 : wn.cell? ⟨b, o + 2, none⟩ = some (.bool true) := (by simpa [valE] using hc 1 (by simp) 0 _ rfl); have z3 : wn.cell? ⟨b, o + 2 + 1, none⟩ = some (.int .i64 2) := (by simpa [valE] using hc 1 (by simp) 1 _ rfl); have z4 : wn.cell? ⟨b, o + 4, none⟩ = some (.bool true) := (by simpa [valE] using hc 2 (by simp) 0 _ rfl); have z5 : wn.cell? ⟨b, o + 4 + 1, none⟩ = some (.int .i64 3) := (by simpa [valE] using hc 2 (by simp) 1 _ rfl); have z3b : wn.cell? ⟨b, o + 3, none⟩ = some (.int .i64 2) := z3; have z5b : wn.cell? ⟨b, o + 5, none⟩ = some (.int .i64 3) := z5; clear hc q3 hgn)
  go_ret
  exact ⟨rfl, (by exact G.go HG)⟩
set_option maxHeartbeats 16000000 in
set_option maxRecDepth 100000 in
theorem applied20_any (nm : ByteArray) (S : Ser) (sv lv : Value) (L : List (Bool × Int)) (w : World) (h : ERow valE w sv S.vals) (hl : ERow valE w lv L) (hF : ∀ p ∈ L, -9223372036854775808 ≤ p.2 ∧ p.2 ≤ 9223372036854775807) (h1 : nm.size ≤ 100000) (hp : Pow10 w) :
    Calls Tryz.prog 12 #[.string nm, .agg #[.string S.name, .int .i64 S.start, .int .i64 S.step, sv, .int .i64 S.cons], lv] w fun e w' => e = .returned (.bool true) ∧ w.grownBy w' none := by
  have HG := G.refl w none
  have HP := Lib.hid hp; clear hp
  have HV := Lib.hid h
  have HLV := Lib.hid hl
  have hll := hl.le
  unfold maxLen at hll
  have HH := Lib.hid (fun w2 h B hs => heavy20_any S sv w2 h B hs)
  have hbig := Lib.hid (show bigS S = (decide (120 < S.vals.length) || decide (300 < S.name.size)) from rfl)
  have HO := Lib.hid (fun w2 h h3 => own18_any S sv w2 h h3)
  have HA := Lib.hid (fun w2 u h hl h2 h3 h4 hpp => fsApply_any nm S u lv L w2 h hl hF h1 h2 h3 h4 hpp)
  have HR := Lib.hid (fun w2 h hl h2 h3 h4 => refApply20_any nm S sv lv L w2 h hl hF h1 h2 h3 h4)
  have HK := Lib.hid (fun w2 hpp => lawKnown20_any w2 hpp)
  have HS2 := Lib.hid (fun u w2 h h2 => same20_any S u sv w2 h h2)
  unfold SerPost at HA HR
  generalize hQ : fsApply nm S L = Q at *
  clear hQ
  generalize Q.isSome = k at *
  generalize Q.getD Ser.none = R at *
  have HS1 := Lib.hid (fun u v w2 h h2 => same20_any R u v w2 h h2)
  generalize bigS S = big at *
  obtain ⟨A, c, rfl, -, -, -⟩ := h
  obtain ⟨A2, c2, rfl, -, -, -⟩ := hl
  go_enter Tryz.func12, Tryz.ntmps12
  go_upto_region 0 with (fail)
  go_cut [4, 6] (fun p4 p6 wc => p4 = .pointer (some ⟨w.heap.size, 0, none⟩) ∧ p6 = .bool false ∧ w.grownBy wc none ∧ Hx wc w.heap.size [.string S.name, .int .i64 S.start, .int .i64 S.step, .slice A S.vals.length c, .int .i64 S.cons] 24)
  case first =>
    go_wp2_with fail
    go_meet
    exact ⟨rfl, rfl, (by exact G.go HG), Hx.new _ _ _⟩
  obtain ⟨rfl, rfl, HG, hs⟩ := hcut
  rename World => wx
  have hs_0 := hs.cell 0; have hs_f0 := hs.free 0; have hs_1 := hs.cell 1; have hs_f1 := hs.free 1; have hs_2 := hs.cell 2; have hs_f2 := hs.free 2; have hs_3 := hs.cell 3; have hs_f3 := hs.free 3; have hs_4 := hs.cell 4; have hs_f4 := hs.free 4; have hs_l := hs.lt
  cases big
  rotate_left
  · clear HO HA HR HK HS1 HS2
    go_wp2_with (go_at_call 16; (with_reducible refine (HH.out _ (HV.out.kept0 (by exact G.go HG)) _ ?_).mono ?_); (exact Hx.new' (by simp) rfl); rintro e wn ⟨rfl, hgn⟩; replace HG := G.trans (w := w) (by exact G.go HG) hgn; replace hs := Hx.kept (Hx.alloc hs _) hgn (by simp); clear hs_0 hs_1 hs_2 hs_3 hs_4 hs_f0 hs_f1 hs_f2 hs_f3 hs_f4 hs_l; have hs_0 := hs.cell 0; have hs_f0 := hs.free 0; have hs_1 := hs.cell 1; have hs_f1 := hs.free 1; have hs_2 := hs.cell 2; have hs_f2 := hs.free 2; have hs_3 := hs.cell 3; have hs_f3 := hs.free 3; have hs_4 := hs.cell 4; have hs_f4 := hs.free 4; have hs_l := hs.lt; clear hgn)
    go_ret
    exact ⟨rfl, (by exact G.go HG)⟩
  by_cases g : 20 < L.length
  · clear HO HA HR HK HS1 HS2
    go_wp2_with (go_at_call 16; (with_reducible refine (HH.out _ (HV.out.kept0 (by exact G.go HG)) _ ?_).mono ?_); (exact Hx.new' (by simp) rfl); rintro e wn ⟨rfl, hgn⟩; replace HG := G.trans (w := w) (by exact G.go HG) hgn; replace hs := Hx.kept (Hx.alloc hs _) hgn (by simp); clear hs_0 hs_1 hs_2 hs_3 hs_4 hs_f0 hs_f1 hs_f2 hs_f3 hs_f4 hs_l; have hs_0 := hs.cell 0; have hs_f0 := hs.free 0; have hs_1 := hs.cell 1; have hs_f1 := hs.free 1; have hs_2 := hs.cell 2; have hs_f2 := hs.free 2; have hs_3 := hs.cell 3; have hs_f3 := hs.free 3; have hs_4 := hs.cell 4; have hs_f4 := hs.free 4; have hs_l := hs.lt; clear hgn)
    go_ret
    exact ⟨rfl, (by exact G.go HG)⟩
  have hb2 : (decide (120 < S.vals.length) || decide (300 < S.name.size)) = false := hbig.out.symm
  rw [Bool.or_eq_false_iff, decide_eq_false_iff_not, decide_eq_false_iff_not] at hb2
  have g3 : S.vals.length ≤ 1000000 := by omega
  have g2 : S.name.size ≤ 100000 := by omega
  have g4 : L.length ≤ 100 := by omega
  clear hb2
  go_upto_region 3 with (go_at_call 16; (with_reducible refine (HH.out _ (HV.out.kept0 (by exact G.go HG)) _ ?_).mono ?_); (exact Hx.new' (by simp) rfl); rintro e wn ⟨rfl, hgn⟩; replace HG := G.trans (w := w) (by exact G.go HG) hgn; replace hs := Hx.kept (Hx.alloc hs _) hgn (by simp); clear hs_0 hs_1 hs_2 hs_3 hs_4 hs_f0 hs_f1 hs_f2 hs_f3 hs_f4 hs_l; have hs_0 := hs.cell 0; have hs_f0 := hs.free 0; have hs_1 := hs.cell 1; have hs_f1 := hs.free 1; have hs_2 := hs.cell 2; have hs_f2 := hs.free 2; have hs_3 := hs.cell 3; have hs_f3 := hs.free 3; have hs_4 := hs.cell 4; have hs_f4 := hs.free 4; have hs_l := hs.lt; clear hgn)
  go_cut [4, 6, 7] (fun p4 p6 p7 wd => ∃ B0 u0, p4 = .pointer (some ⟨w.heap.size, 0, none⟩) ∧ p6 = .bool false ∧ p7 = .pointer (some ⟨B0, 0, none⟩) ∧ w.grownBy wd none ∧ Hx wd w.heap.size [.string S.name, .int .i64 S.start, .int .i64 S.step, .slice A S.vals.length c, .int .i64 S.cons] 24 ∧ Hx wd B0 [.string S.name, .int .i64 S.start, .int .i64 S.step, u0, .int .i64 S.cons] 24 ∧ ERow valE wd u0 S.vals)
  case first =>
    go_wp2_with (go_at_call 17; (with_reducible refine (HO.out _ (HV.out.kept0 (by exact G.go HG)) g3).mono ?_); rintro e wn ⟨u0, rfl, hu0, hgn⟩; have hub := hu0; obtain ⟨ub, uc, rfl, -, -, -⟩ := hub; replace HG := G.trans (w := w) (by exact G.go HG) hgn; replace hs := Hx.kept hs hgn (by simp); clear hgn)
    go_meet
    exact ⟨_, _, rfl, rfl, rfl, (by exact G.go HG), (by first | exact Hx.go hs | exact Hx.go2), Hx.new' (by simp) rfl, by first | exact hu0.alloc _ | exact (hu0.alloc _)⟩
  obtain ⟨B0, u0, rfl, rfl, rfl, HG, hs, ht, hu0⟩ := hcut
  rename World => wy
  have HU0 := Lib.hid hu0
  obtain ⟨ua, uc, rfl, -, -, -⟩ := hu0
  clear hs_0 hs_1 hs_2 hs_3 hs_4 hs_f0 hs_f1 hs_f2 hs_f3 hs_f4 hs_l
  have ht_0 := ht.cell 0; have ht_f0 := ht.free 0; have ht_1 := ht.cell 1; have ht_f1 := ht.free 1; have ht_2 := ht.cell 2; have ht_f2 := ht.free 2; have ht_3 := ht.cell 3; have ht_f3 := ht.free 3; have ht_4 := ht.cell 4; have ht_f4 := ht.free 4; have ht_l := ht.lt
  have HGy := G.refl wy none
  go_upto_region 4 with (fail)
  go_cut [4, 6, 7, 8, 9] (fun p4 p6 p7 p8 p9 wd => ∃ B1 u1, p4 = .pointer (some ⟨w.heap.size, 0, none⟩) ∧ p6 = .bool false ∧ p7 = .pointer (some ⟨B0, 0, none⟩) ∧ p8 = .pointer (some ⟨B1, 0, none⟩) ∧ p9 = .bool k ∧ wy.grownBy wd none ∧ Hx wd B1 [.string R.name, .int .i64 R.start, .int .i64 R.step, u1, .int .i64 R.cons] 24 ∧ ERow valE wd u1 R.vals)
  case first =>
    go_wp2_with (go_at_call 18; (with_reducible refine (HA.out _ _ (HU0.out.kept0 (by exact G.go HGy)) (HLV.out.kept0 (G.trans HG (by exact G.go HGy))) g2 g3 g4 (Pow10.kept (w := w) HP.out (G.trans HG (by exact G.go HGy)))).mono ?_); rintro e wn ⟨u1, rfl, hu1, hgn⟩; have hub := hu1; obtain ⟨ub, uc, rfl, -, -, -⟩ := hub; replace HGy := G.trans (w := wy) (by exact G.go HGy) hgn; clear hgn)
    go_meet
    exact ⟨_, _, rfl, rfl, rfl, rfl, rfl, (by exact G.go HGy), Hx.new' (by simp) rfl, hu1.alloc _⟩
  obtain ⟨B1, u1, rfl, rfl, rfl, rfl, rfl, hgy, hx1, hu1⟩ := hcut
  clear HGy ht_0 ht_1 ht_2 ht_3 ht_4 ht_f0 ht_f1 ht_f2 ht_f3 ht_f4 ht_l
  replace HG := G.trans HG hgy
  replace hs := Hx.kept hs hgy (by simp)
  replace ht := Hx.kept ht hgy (by simp)
  replace HU0 := Lib.hid (HU0.out.kept0 hgy)
  have HU1 := Lib.hid hu1
  obtain ⟨va, vc, rfl, -, -, -⟩ := hu1
  clear hgy
  rename World => wz
  have hs_0 := hs.cell 0; have hs_f0 := hs.free 0; have hs_1 := hs.cell 1; have hs_f1 := hs.free 1; have hs_2 := hs.cell 2; have hs_f2 := hs.free 2; have hs_3 := hs.cell 3; have hs_f3 := hs.free 3; have hs_4 := hs.cell 4; have hs_f4 := hs.free 4; have hs_l := hs.lt
  have HGz := G.refl wz none
  go_upto_region 5 with (fail)
  go_cut [4, 6, 7, 8, 9, 10, 11] (fun p4 p6 p7 p8 p9 p10 p11 wd => ∃ B2 u2, p4 = .pointer (some ⟨w.heap.size, 0, none⟩) ∧ p6 = .bool false ∧ p7 = .pointer (some ⟨B0, 0, none⟩) ∧ p8 = .pointer (some ⟨B1, 0, none⟩) ∧ p9 = .bool k ∧ p10 = .pointer (some ⟨B2, 0, none⟩) ∧ p11 = .bool k ∧ wz.grownBy wd none ∧ Hx wd B2 [.string R.name, .int .i64 R.start, .int .i64 R.step, u2, .int .i64 R.cons] 24 ∧ ERow valE wd u2 R.vals)
  case first =>
    go_wp2_with (go_at_call 19; (with_reducible refine (HR.out _ (HV.out.kept0 (G.trans HG (by exact G.go HGz))) (HLV.out.kept0 (G.trans HG (by exact G.go HGz))) g2 g3 g4).mono ?_); rintro e wn ⟨u2, rfl, hu2, hgn⟩; have hub := hu2; obtain ⟨ub, uc, rfl, -, -, -⟩ := hub; replace HGz := G.trans (w := wz) (by exact G.go HGz) hgn; clear hgn)
    go_meet
    exact ⟨_, _, rfl, rfl, rfl, rfl, rfl, rfl, rfl, (by exact G.go HGz), Hx.new' (by simp) rfl, hu2.alloc _⟩
  obtain ⟨B2, u2, rfl, rfl, rfl, rfl, rfl, rfl, rfl, hgz, hx2, hu2⟩ := hcut
  clear HGz hs_0 hs_1 hs_2 hs_3 hs_4 hs_f0 hs_f1 hs_f2 hs_f3 hs_f4 hs_l
  replace HG := G.trans HG hgz
  replace hs := Hx.kept hs hgz (by simp)
  replace ht := Hx.kept ht hgz (by simp)
  replace hx1 := Hx.kept hx1 hgz (by simp)
  replace HU0 := Lib.hid (HU0.out.kept0 hgz)
  replace HU1 := Lib.hid (HU1.out.kept0 hgz)
  have HU2 := Lib.hid hu2
  obtain ⟨xa, xc, rfl, -, -, -⟩ := hu2
  clear hgz HO HA HR HH hbig
  rename World => wq
  have HQ := Lib.hid (HV.out.kept0 HG)
  have HPq := Lib.hid (Pow10.kept (w := w) HP.out HG)
  have hq := G.refl wq none
  have hs_0 := hs.cell 0; have hs_f0 := hs.free 0; have hs_1 := hs.cell 1; have hs_f1 := hs.free 1; have hs_2 := hs.cell 2; have hs_f2 := hs.free 2; have hs_3 := hs.cell 3; have hs_f3 := hs.free 3; have hs_4 := hs.cell 4; have hs_f4 := hs.free 4; have hs_l := hs.lt; have ht_0 := ht.cell 0; have ht_f0 := ht.free 0; have ht_1 := ht.cell 1; have ht_f1 := ht.free 1; have ht_2 := ht.cell 2; have ht_f2 := ht.free 2; have ht_3 := ht.cell 3; have ht_f3 := ht.free 3; have ht_4 := ht.cell 4; have ht_f4 := ht.free 4; have ht_l := ht.lt; have hx1_0 := hx1.cell 0; have hx1_f0 := hx1.free 0; have hx1_1 := hx1.cell 1; have hx1_f1 := hx1.free 1; have hx1_2 := hx1.cell 2; have hx1_f2 := hx1.free 2; have hx1_3 := hx1.cell 3; have hx1_f3 := hx1.free 3; have hx1_4 := hx1.cell 4; have hx1_f4 := hx1.free 4; have hx1_l := hx1.lt; have hx2_0 := hx2.cell 0; have hx2_f0 := hx2.free 0; have hx2_1 := hx2.cell 1; have hx2_f1 := hx2.free 1; have hx2_2 := hx2.cell 2; have hx2_f2 := hx2.free 2; have hx2_3 := hx2.cell 3; have hx2_f3 := hx2.free 3; have hx2_4 := hx2.cell 4; have hx2_f4 := hx2.free 4; have hx2_l := hx2.lt
  go_wp2_with (first | (go_at_call 20; (first | (with_reducible refine (HS1.out _ _ _ (HU1.out.kept0 (by exact G.go hq)) (HU2.out.kept0 (by exact G.go hq))).mono ?_) | (with_reducible refine (HS2.out _ _ (HU0.out.kept0 (by exact G.go hq)) (HQ.out.kept0 (by exact G.go hq))).mono ?_)); rintro e wn ⟨rfl, hgn⟩; replace hq := G.trans (w := wq) (by exact G.go hq) hgn; replace hs := Hx.kept hs hgn (by simp); replace ht := Hx.kept ht hgn (by simp); have hs_0 := hs.cell 0; have hs_f0 := hs.free 0; have hs_1 := hs.cell 1; have hs_f1 := hs.free 1; have hs_2 := hs.cell 2; have hs_f2 := hs.free 2; have hs_3 := hs.cell 3; have hs_f3 := hs.free 3; have hs_4 := hs.cell 4; have hs_f4 := hs.free 4; have hs_l := hs.lt; have ht_0 := ht.cell 0; have ht_f0 := ht.free 0; have ht_1 := ht.cell 1; have ht_f1 := ht.free 1; have ht_2 := ht.cell 2; have ht_f2 := ht.free 2; have ht_3 := ht.cell 3; have ht_f3 := ht.free 3; have ht_4 := ht.cell 4; have ht_f4 := ht.free 4; have ht_l := ht.lt; clear hgn) | (go_at_call 15; (with_reducible refine (HK.out _ (Pow10.kept (w := wq) HPq.out (by exact G.go hq))).mono ?_); rintro e wn ⟨rfl, hgn⟩; replace hq := G.trans (w := wq) (by exact G.go hq) hgn; clear hgn))
  go_ret
  exact ⟨rfl, G.trans HG (by exact G.go hq)⟩
end Go.Proofs.YtkablhamnepfnaaGreatDoor
