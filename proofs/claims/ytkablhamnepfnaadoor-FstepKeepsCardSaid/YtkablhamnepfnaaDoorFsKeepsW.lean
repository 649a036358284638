/-
  The walk of the law FstepKeeps. Printed by genfskeeps.py.
-/
import Derived.Test.YtkablhamnepfnaaDoorFsBackW
namespace Go.Proofs.YtkablhamnepfnaaDoor
open Go.RowKit
theorem kopts_at {S : Ser} (hS : isSer S = true) {i : Nat} (h : i < S.vals.length) : S.vals[i] = vP (S.opts.getD i none) := by
  have hr := all_at (isSer_parts hS).2.2.2.2.2.2 i h
  have e : S.opts.getD i none = vK S.vals[i].1 S.vals[i].2 := by
    unfold Ser.opts
    rw [List.getD_eq_getElem?_getD, List.getElem?_map, List.getElem?_eq_getElem h]; rfl
  rw [e]
  exact vP_of hr
theorem kopts_len (S : Ser) : S.opts.length = S.vals.length := by simp [Ser.opts]
theorem smallO_step {X : List (Option Int)} {i : Nat} (h : SmallO X i) (hx : ∀ x, X.getD i none = some x → -1125899906842624 < x ∧ x < 1125899906842624) : SmallO X (i + 1) := by
  intro j hj x hjx
  rcases Nat.lt_or_ge j i with g | g
  · exact h j g x hjx
  · obtain rfl : j = i := by omega
    exact hx x hjx
set_option maxHeartbeats 16000000 in
set_option maxRecDepth 100000 in
theorem fstepKeeps_any (S : Ser) (sv : Value) (w : World) (h : ERow valE w sv S.vals) (hp : Pow10 w) : Calls Tryd.prog 4 #[.agg #[.string S.name, .int .i64 S.start, .int .i64 S.step, sv, .int .i64 S.cons]] w fun e w' => e = .returned (.bool true) ∧ w.grownBy w' none := by
  have HG := G.refl w none
  have HK := Lib.hid (fun W (hg : w.grownBy W none) => lawKnown20_any W (Pow10.kept hp hg))
  have HP := Lib.hid hp; clear hp
  have HV := Lib.hid h
  have HH := Lib.hid (fun w2 h B hs => heavy20_any S sv w2 h B hs)
  have hbig := Lib.hid (show bigS S = (decide (120 < S.vals.length) || decide (300 < S.name.size)) from rfl)
  have HI := Lib.hid (fun w2 h => refIs18_any S sv w2 h)
  have hle := h.le
  unfold maxLen at hle
  obtain ⟨A, c, rfl, q1, q2, q3⟩ := h
  have Q3 := Lib.hid q3; clear q3 q2
  have hs := Hx.new w #[.string S.name, .int .i64 S.start, .int .i64 S.step, .slice A S.vals.length c, .int .i64 S.cons] 26
  have hs_0 := hs.cell 0; have hs_f0 := hs.free 0; have hs_1 := hs.cell 1; have hs_f1 := hs.free 1; have hs_2 := hs.cell 2; have hs_f2 := hs.free 2; have hs_3 := hs.cell 3; have hs_f3 := hs.free 3; have hs_4 := hs.cell 4; have hs_f4 := hs.free 4; have hs_l := hs.lt
  generalize bigS S = big at *
  cases big
  rotate_left
  · go_enter Tryd.func4, Tryd.ntmps4
    go_wp2_with (go_at_call 7; (with_reducible refine (HH.out _ (HV.out.kept0 (by exact G.go HG)) _ ?_).mono ?_); (exact Hx.new' (by simp) rfl); rintro e wn ⟨rfl, hgn⟩; replace HG := G.trans (w := w) (by exact G.go HG) hgn; replace hs := Hx.kept (Hx.alloc hs _) hgn (by simp); clear hs_0 hs_f0 hs_1 hs_f1 hs_2 hs_f2 hs_3 hs_f3 hs_4 hs_f4 hs_l; have hs_0 := hs.cell 0; have hs_f0 := hs.free 0; have hs_1 := hs.cell 1; have hs_f1 := hs.free 1; have hs_2 := hs.cell 2; have hs_f2 := hs.free 2; have hs_3 := hs.cell 3; have hs_f3 := hs.free 3; have hs_4 := hs.cell 4; have hs_f4 := hs.free 4; have hs_l := hs.lt; clear hgn)
    go_ret
    exact ⟨rfl, (by exact G.go HG)⟩
  cases hS : isSer S
  · rw [hS] at HI
    go_enter Tryd.func4, Tryd.ntmps4
    go_wp2_with (first | (go_at_call 7; (with_reducible refine (HH.out _ (HV.out.kept0 (by exact G.go HG)) _ ?_).mono ?_); (exact Hx.new' (by simp) rfl); rintro e wn ⟨rfl, hgn⟩; replace HG := G.trans (w := w) (by exact G.go HG) hgn; replace hs := Hx.kept (Hx.alloc hs _) hgn (by simp); clear hs_0 hs_f0 hs_1 hs_f1 hs_2 hs_f2 hs_3 hs_f3 hs_4 hs_f4 hs_l; have hs_0 := hs.cell 0; have hs_f0 := hs.free 0; have hs_1 := hs.cell 1; have hs_f1 := hs.free 1; have hs_2 := hs.cell 2; have hs_f2 := hs.free 2; have hs_3 := hs.cell 3; have hs_f3 := hs.free 3; have hs_4 := hs.cell 4; have hs_f4 := hs.free 4; have hs_l := hs.lt; clear hgn) | (go_at_call 8; (with_reducible refine (HI.out _ (HV.out.kept0 (by exact G.go HG))).mono ?_); rintro e wn ⟨rfl, hgn⟩; replace HG := G.trans (w := w) (by exact G.go HG) hgn; replace hs := Hx.kept hs hgn (by simp); clear hs_0 hs_f0 hs_1 hs_f1 hs_2 hs_f2 hs_3 hs_f3 hs_4 hs_f4 hs_l; have hs_0 := hs.cell 0; have hs_f0 := hs.free 0; have hs_1 := hs.cell 1; have hs_f1 := hs.free 1; have hs_2 := hs.cell 2; have hs_f2 := hs.free 2; have hs_3 := hs.cell 3; have hs_f3 := hs.free 3; have hs_4 := hs.cell 4; have hs_f4 := hs.free 4; have hs_l := hs.lt; clear hgn))
    go_ret
    exact ⟨rfl, (by exact G.go HG)⟩
  rw [hS] at HI
  have hb2 : (decide (120 < S.vals.length) || decide (300 < S.name.size)) = false := hbig.out.symm
  rw [Bool.or_eq_false_iff, decide_eq_false_iff_not, decide_eq_false_iff_not] at hb2
  have m3 : S.vals.length ≤ 120 := by omega
  have m2 : S.name.size ≤ 300 := by omega
  clear hb2 hbig
  have hol := kopts_len S
  have HA1 : Hid (∀ w2 u, ERow valE w2 u S.vals → Pow10 w2 → Calls Tryd.prog 6 #[.string ⟨#[107, 101, 101, 112, 76, 97, 115, 116, 86, 97, 108, 117, 101]⟩, .agg #[.string S.name, .int .i64 S.start, .int .i64 S.step, u, .int .i64 S.cons], .slice none 0 0] w2 fun e w3 => ∃ A c, e = .returned (.tuple #[.agg #[.string (labelB fs5 (labTexts S.name [])), .int .i64 S.start, .int .i64 S.step, .slice A S.vals.length c, .int .i64 S.cons], .bool true]) ∧ ERow valE w3 (.slice A S.vals.length c) (rowO S.vals.length (fsV 5 S.step false none S.opts)) ∧ w2.grownBy w3 none) := Lib.hid (fun w2 u hu hpp => (fsApply_any fs5 S u (.slice none 0 0) [] w2 hu (ERow.nil _) (by simp) (by decide) (by omega) (by omega) (by simp) hpp).mono fun e w3 hq => ser_got (rowO_len _ _) (fsApply_row (i := 5) (by decide) rfl hS) hq)
  have HA2 : Hid (∀ w2 u, ERow valE w2 u S.vals → Pow10 w2 → Calls Tryd.prog 6 #[.string ⟨#[105, 110, 116, 101, 114, 112, 111, 108, 97, 116, 101]⟩, .agg #[.string S.name, .int .i64 S.start, .int .i64 S.step, u, .int .i64 S.cons], .slice none 0 0] w2 fun e w3 => ∃ A c, e = .returned (.tuple #[.agg #[.string (labelB fs4 (labTexts S.name [])), .int .i64 S.start, .int .i64 S.step, .slice A S.vals.length c, .int .i64 S.cons], .bool true]) ∧ ERow valE w3 (.slice A S.vals.length c) (rowO S.vals.length (fsV 4 S.step false none S.opts)) ∧ w2.grownBy w3 none) := Lib.hid (fun w2 u hu hpp => (fsApply_any fs4 S u (.slice none 0 0) [] w2 hu (ERow.nil _) (by simp) (by decide) (by omega) (by omega) (by simp) hpp).mono fun e w3 hq => ser_got (rowO_len _ _) (fsApply_row (i := 4) (by decide) rfl hS) hq)
  generalize labelB fs5 (labTexts S.name []) = nm5 at *
  generalize labelB fs4 (labTexts S.name []) = nm4 at *
  go_enter Tryd.func4, Tryd.ntmps4
  go_upto_region 4 with (first | (go_at_call 7; (with_reducible refine (HH.out _ (HV.out.kept0 (by exact G.go HG)) _ ?_).mono ?_); (exact Hx.new' (by simp) rfl); rintro e wn ⟨rfl, hgn⟩; replace HG := G.trans (w := w) (by exact G.go HG) hgn; replace hs := Hx.kept (Hx.alloc hs _) hgn (by simp); clear hs_0 hs_f0 hs_1 hs_f1 hs_2 hs_f2 hs_3 hs_f3 hs_4 hs_f4 hs_l; have hs_0 := hs.cell 0; have hs_f0 := hs.free 0; have hs_1 := hs.cell 1; have hs_f1 := hs.free 1; have hs_2 := hs.cell 2; have hs_f2 := hs.free 2; have hs_3 := hs.cell 3; have hs_f3 := hs.free 3; have hs_4 := hs.cell 4; have hs_f4 := hs.free 4; have hs_l := hs.lt; clear hgn) | (go_at_call 8; (with_reducible refine (HI.out _ (HV.out.kept0 (by exact G.go HG))).mono ?_); rintro e wn ⟨rfl, hgn⟩; replace HG := G.trans (w := w) (by exact G.go HG) hgn; replace hs := Hx.kept hs hgn (by simp); clear hs_0 hs_f0 hs_1 hs_f1 hs_2 hs_f2 hs_3 hs_f3 hs_4 hs_f4 hs_l; have hs_0 := hs.cell 0; have hs_f0 := hs.free 0; have hs_1 := hs.cell 1; have hs_f1 := hs.free 1; have hs_2 := hs.cell 2; have hs_f2 := hs.free 2; have hs_3 := hs.cell 3; have hs_f3 := hs.free 3; have hs_4 := hs.cell 4; have hs_f4 := hs.free 4; have hs_l := hs.lt; clear hgn) | (go_at_call 6; (with_reducible refine (HA1.out _ _ (HV.out.kept0 (by exact G.go HG)) (Pow10.kept (w := w) HP.out (by exact G.go HG))).mono ?_); rintro e w4 ⟨A4, c4, rfl, hu4, hgn⟩; have HU4 := Lib.hid hu4; replace HG := G.trans (w := w) (by exact G.go HG) hgn; replace hs := Hx.kept (by first | exact Hx.go hs | exact Hx.go2) hgn (by simp); have hg4 := G.refl w4 none; clear hu4 hgn; have hs_0 := hs.cell 0; have hs_f0 := hs.free 0; have hs_1 := hs.cell 1; have hs_f1 := hs.free 1; have hs_2 := hs.cell 2; have hs_f2 := hs.free 2; have hs_3 := hs.cell 3; have hs_f3 := hs.free 3; have hs_4 := hs.cell 4; have hs_f4 := hs.free 4; have hs_l := hs.lt; ))
  go_cut [1, 3, 4, 5, 6] (fun p1 p3 p4 p5 p6 wd => ∃ XB YB A4 c4 A5 c5, p1 = .pointer (some ⟨w.heap.size, 0, none⟩) ∧ p3 = .pointer (some ⟨XB, 0, none⟩) ∧ p4 = .bool true ∧ p5 = .pointer (some ⟨YB, 0, none⟩) ∧ p6 = .bool true ∧ w.grownBy wd none ∧ Hx wd w.heap.size [.string S.name, .int .i64 S.start, .int .i64 S.step, .slice A S.vals.length c, .int .i64 S.cons] 26 ∧ Hx wd XB [.string nm5, .int .i64 S.start, .int .i64 S.step, .slice A4 S.vals.length c4, .int .i64 S.cons] 26 ∧ Hx wd YB [.string nm4, .int .i64 S.start, .int .i64 S.step, .slice A5 S.vals.length c5, .int .i64 S.cons] 26 ∧ ERow valE wd (.slice A4 S.vals.length c4) (rowO S.vals.length (fsV 5 S.step false none S.opts)) ∧ ERow valE wd (.slice A5 S.vals.length c5) (rowO S.vals.length (fsV 4 S.step false none S.opts)))
  case first =>
    go_wp2_with (go_at_call 6; (with_reducible refine (HA2.out _ _ (HV.out.kept0 (by exact G.go HG)) (Pow10.kept (w := w) HP.out (by exact G.go HG))).mono ?_); rintro e w5 ⟨A5, c5, rfl, hu5, hgn⟩; have HU5 := Lib.hid hu5; replace HG := G.trans (w := w) (by exact G.go HG) hgn; replace hs := Hx.kept (by first | exact Hx.go hs | exact Hx.go2) hgn (by simp); have hd5 := Hx.kept (T := 26) (cs := [.string nm5, .int .i64 S.start, .int .i64 S.step, .slice A4 S.vals.length c4, .int .i64 S.cons]) (b := w4.heap.size) (by have hb0 := ((Hx.new w4 #[.string nm5, .int .i64 S.start, .int .i64 S.step, .slice A4 S.vals.length c4, .int .i64 S.cons] 26)); apply Hx.conv; (case h => (repeat first | with_reducible exact hb0 | with_reducible apply Hx.drewN | with_reducible apply Hx.drew | with_reducible apply Hx.set | with_reducible exact Hx.new _ _ _ | (with_reducible apply Hx.new'; (case hl => rfl); (case hb => (first | omega | (simp; done) | (simp; omega)))) | with_reducible apply Hx.alloc | (with_reducible apply Hx.other; (case hne => (first | omega | (simp; done) | (simp; omega)))))); (case e => (first | rfl | (simp; done) | (simp; omega)))) hgn (by simp); replace hg4 := G.trans (w := w4) (by exact G.go hg4) hgn; have hg5 := G.refl w5 none; clear hu5 hgn; have hs_0 := hs.cell 0; have hs_f0 := hs.free 0; have hs_1 := hs.cell 1; have hs_f1 := hs.free 1; have hs_2 := hs.cell 2; have hs_f2 := hs.free 2; have hs_3 := hs.cell 3; have hs_f3 := hs.free 3; have hs_4 := hs.cell 4; have hs_f4 := hs.free 4; have hs_l := hs.lt; have hd5_0 := hd5.cell 0; have hd5_f0 := hd5.free 0; have hd5_1 := hd5.cell 1; have hd5_f1 := hd5.free 1; have hd5_2 := hd5.cell 2; have hd5_f2 := hd5.free 2; have hd5_3 := hd5.cell 3; have hd5_f3 := hd5.free 3; have hd5_4 := hd5.cell 4; have hd5_f4 := hd5.free 4; have hd5_l := hd5.lt; )
    go_meet
    exact ⟨_, _, _, _, _, _, rfl, rfl, rfl, rfl, rfl, (by exact G.go HG), (by first | exact Hx.go hs | exact Hx.go2), (by first | exact Hx.go hd5 | exact Hx.go2), Hx.new' rfl rfl, HU4.out.kept0 (by exact G.go hg4), HU5.out.kept0 (by exact G.go hg5)⟩
  clear hs hs_0 hs_f0 hs_1 hs_f1 hs_2 hs_f2 hs_3 hs_f3 hs_4 hs_f4 hs_l
  obtain ⟨XB, YB, A4, c4, A5, c5, rfl, rfl, rfl, rfl, rfl, HG, hs, hx, hy, hu4, hu5⟩ := hcut
  clear HA1 HA2 HH HI HV
  rename World => wy
  obtain ⟨_, _, e4, -, -, r4⟩ := hu4
  obtain ⟨_, _, e5, -, -, r5⟩ := hu5
  rw [rowO_len] at e4 e5
  cases e4
  cases e5
  have R4 := Lib.hid r4; have R5 := Lib.hid r5; clear r4 r5
  have HO := Lib.hid (fun i (hi : i < S.vals.length) => kopts_at hS hi)
  have HA := Lib.hid (isSer_parts hS).2.2.2.2.2.2
  clear hS
  have hsy := Lib.hid hs; have hxy := Lib.hid hx; have hyy := Lib.hid hy
  have hs_0 := hs.cell 0; have hs_f0 := hs.free 0; have hs_1 := hs.cell 1; have hs_f1 := hs.free 1; have hs_2 := hs.cell 2; have hs_f2 := hs.free 2; have hs_3 := hs.cell 3; have hs_f3 := hs.free 3; have hs_4 := hs.cell 4; have hs_f4 := hs.free 4; have hs_l := hs.lt; have hx_0 := hx.cell 0; have hx_f0 := hx.free 0; have hx_1 := hx.cell 1; have hx_f1 := hx.free 1; have hx_2 := hx.cell 2; have hx_f2 := hx.free 2; have hx_3 := hx.cell 3; have hx_f3 := hx.free 3; have hx_4 := hx.cell 4; have hx_f4 := hx.free 4; have hx_l := hx.lt; have hy_0 := hy.cell 0; have hy_f0 := hy.free 0; have hy_1 := hy.cell 1; have hy_f1 := hy.free 1; have hy_2 := hy.cell 2; have hy_f2 := hy.free 2; have hy_3 := hy.cell 3; have hy_f3 := hy.free 3; have hy_4 := hy.cell 4; have hy_f4 := hy.free 4; have hy_l := hy.lt
  go_wp2_with fail
  have hgy := G.refl wy none
  go_loopw [7, 8, 9] (fun fv lv iv wr => ∃ (j : Nat), iv = .int .i64 j ∧ fv = .int .i64 (firstI S.opts j) ∧ lv = .int .i64 (aheadI S.opts j) ∧ j ≤ S.vals.length ∧ wy.grownBy wr none) (fun _ _ iv _ => S.vals.length - (intOf iv).toNat)
  case atStart => exact ⟨0, rfl, rfl, rfl, by omega, (by exact G.go hgy)⟩
  case round =>
    obtain ⟨j, rfl, rfl, rfl, hj, hgq⟩ := hrel
    have HG2 := G.trans HG hgq
    clear hs_0 hs_f0 hs_1 hs_f1 hs_2 hs_f2 hs_3 hs_f3 hs_4 hs_f4 hs_l hx_0 hx_f0 hx_1 hx_f1 hx_2 hx_f2 hx_3 hx_f3 hx_4 hx_f4 hx_l hy_0 hy_f0 hy_1 hy_f1 hy_2 hy_f2 hy_3 hy_f3 hy_4 hy_f4 hy_l
    replace hs := Hx.kept hs hgq (by simp); replace hx := Hx.kept hx hgq (by simp); replace hy := Hx.kept hy hgq (by simp)
    have hs_3 := hs.cell 3; have hs_l := hs.lt; have hx_3 := hx.cell 3; have hx_l := hx.lt; have hy_3 := hy.cell 3; have hy_l := hy.lt
    by_cases hlt : j < S.vals.length
    · obtain ⟨b1, o1, rfl, hb1, hc1⟩ := Q3.out (by omega)
      obtain ⟨x0, x1⟩ := valCells hc1 HG2 hb1 hlt
      have hox := HO.out j hlt
      rw [hox] at x0 x1
      clear hc1
      have hl4 : j < (rowO S.vals.length (fsV 5 S.step false none S.opts)).length := by rw [rowO_len]; exact hlt
      obtain ⟨b4, o4, rfl, hb4, hc4⟩ := R4.out (by omega)
      obtain ⟨y4, z4⟩ := valCells hc4 hgq hb4 hl4
      rw [rowO_at] at y4 z4
      clear hc4
      have hl5 : j < (rowO S.vals.length (fsV 4 S.step false none S.opts)).length := by rw [rowO_len]; exact hlt
      obtain ⟨b5, o5, rfl, hb5, hc5⟩ := R5.out (by omega)
      obtain ⟨y5, z5⟩ := valCells hc5 hgq hb5 hl5
      rw [rowO_at] at y5 z5
      clear hc5
      have hfb := firstI_bound S.opts j
      have hab := aheadI_bound S.opts j
      cases hv : S.opts.getD j none with
      | none =>
        rw [hv] at x0 x1
        have e1 := firstI_skip hv
        have e2 := aheadI_skip hv
        simp only [show (vP none).1 = false from rfl, show (vP none).2 = 0 from rfl] at x0 x1
        have E1 := Lib.hid e1; have E2 := Lib.hid e2
        clear e1 e2 hox hv y4 z4 y5 z5
        generalize firstI S.opts j = fj at *
        generalize aheadI S.opts j = aj at *
        go_wp2_with fail
        refine ⟨?_, by first | (simp [intOf]; done) | (simp [intOf]; omega)⟩
        exact ⟨j + 1, by go_num, by rw [E1.out], by rw [E2.out], by omega, (by exact G.go hgq)⟩
      | some x =>
        rw [hv] at x0 x1
        obtain ⟨k1, k2⟩ := keep_same (s := S.step) hv
        rw [k1] at y4 z4
        rw [k2] at y5 z5
        have E1 := Lib.hid (firstI_hit hv)
        have E2 := Lib.hid (aheadI_hit hv)
        simp only [show (vP (some x)).1 = true from rfl, show (vP (some x)).2 = x from rfl] at x0 x1 y4 z4 y5 z5
        clear k1 k2 hox hv
        generalize firstI S.opts j = fj at *
        generalize aheadI S.opts j = aj at *
        by_cases hf : fj < 0
        · rw [if_pos hf] at E1
          go_wp2_with fail
          go_quiet (fail)
          go_wp2_with fail
          refine ⟨?_, by first | (simp [intOf]; done) | (simp [intOf]; omega)⟩
          exact ⟨j + 1, by go_num, by rw [E1.out], by rw [E2.out], by omega, (by exact G.go hgq)⟩
        · rw [if_neg hf] at E1
          go_wp2_with fail
          go_quiet (fail)
          go_wp2_with fail
          refine ⟨?_, by first | (simp [intOf]; done) | (simp [intOf]; omega)⟩
          exact ⟨j + 1, by go_num, by rw [E1.out], by rw [E2.out], by omega, (by exact G.go hgq)⟩
    · obtain rfl : j = S.vals.length := by omega
      have KS := Lib.hid (fun i (hi : i < S.vals.length) => keep_some (X := S.opts) (s := S.step) (j := i) (by rw [hol]; exact hi))
      have LS := Lib.hid (fun i (hi : i < S.vals.length) => lie_at (X := S.opts) (s := S.step) (j := i) (by rw [hol]; exact hi))
      rw [hol] at KS LS
      have hfb := firstI_bound S.opts S.vals.length
      have hab := aheadI_bound S.opts S.vals.length
      generalize firstI S.opts S.vals.length = fj at *
      generalize aheadI S.opts S.vals.length = aj at *
      rename World => w1
      have hg1 := hgq
      go_wp2_with fail
      go_loopw [10, 11] (fun iv _ wr => ∃ (j : Nat), iv = .int .i64 j ∧ j ≤ S.vals.length ∧ wy.grownBy wr none ∧ Hid (SmallO S.opts j)) (fun iv _ _ => S.vals.length - (intOf iv).toNat)
      case atStart => exact ⟨0, rfl, by omega, (by exact G.go hg1), Lib.hid (fun i hi => by omega)⟩
      case round =>
        clear hgq HG2 hs_3 hs_l hx_3 hx_l hy_3 hy_l hj
        obtain ⟨j, rfl, hj, hgq, hsm⟩ := hrel
        have HG2 := G.trans HG hgq
        have hsW : Hx _ w.heap.size [.string S.name, .int .i64 S.start, .int .i64 S.step, .slice A S.vals.length c, .int .i64 S.cons] 26 := Hx.kept hsy.out hgq (by simp)
        have hxW := Hx.kept hxy.out hgq (by simp)
        have hyW := Hx.kept hyy.out hgq (by simp)
        clear hs hx hy
        rename Hx _ w.heap.size _ _ => hs
        rename Hx _ XB _ _ => hx
        rename Hx _ YB _ _ => hy
        have hs_3 := hs.cell 3; have hs_l := hs.lt; have hx_3 := hx.cell 3; have hx_l := hx.lt
        by_cases hlt : j < S.vals.length
        · obtain ⟨b1, o1, rfl, hb1, hc1⟩ := Q3.out (by omega)
          have HX0 := Lib.hid (fun W (hg : w.grownBy W none) => valCells hc1 hg hb1 hlt)
          have hox := HO.out j hlt
          have hl4 : j < (rowO S.vals.length (fsV 5 S.step false none S.opts)).length := by rw [rowO_len]; exact hlt
          obtain ⟨b4, o4, rfl, hb4, hc4⟩ := R4.out (by omega)
          have HY4 := Lib.hid (fun W (hg : wy.grownBy W none) => (valCells hc4 hg hb4 hl4).1)
          rw [rowO_at] at HY4
          have hks := KS.out j hlt
          have hpv : ∀ o : Option Int, (vP o).1 = o.isSome := fun o => by cases o <;> rfl
          rw [hpv, hks] at HY4
          rw [hox] at HX0
          clear hc1 hc4 hks hpv
          cases hv : S.opts.getD j none with
          | none =>
            rw [hv] at HX0
            have hsn : Hid (SmallO S.opts (j + 1)) := Lib.hid (smallO_step hsm.out (fun x hx => by rw [hv] at hx; cases hx))
            simp only [show (vP none).1 = false from rfl, show (vP none).2 = 0 from rfl] at HX0
            have HL1 := Lib.hid (fun W => less1_any W true false (-1125899906842624) 0)
            rw [show ltO (vK true (-1125899906842624)) (vK false 0) = false from by decide +kernel] at HL1
            clear hv hox hsm
            by_cases a1 : 0 ≤ fj
            · by_cases a2 : fj ≤ j
              · have e9 : (decide (0 ≤ fj) && decide (fj ≤ (j : Int))) = true := by rw [decide_eq_true a1, decide_eq_true a2]; rfl
                rw [e9] at HY4
                obtain ⟨x0, x1⟩ := HX0.out _ HG2
                have y4 := HY4.out _ hgq
                clear e9
                go_wp2_with (go_at_call 9; (with_reducible refine (HL1.out _).mono ?_); rintro e wn ⟨rfl, hgn⟩; replace HG2 := G.trans (w := w) (by exact G.go HG2) hgn; replace hgq := G.trans (w := wy) (by exact G.go hgq) hgn; replace hs := Hx.kept hs hgn (by simp); replace hx := Hx.kept hx hgn (by simp); clear hgn x0 x1 y4 hs_3 hs_l hx_3 hx_l; obtain ⟨x0, x1⟩ := HX0.out _ HG2; have y4 := HY4.out _ hgq; have hs_3 := hs.cell 3; have hs_l := hs.lt; have hx_3 := hx.cell 3; have hx_l := hx.lt)
                refine ⟨?_, by first | (simp [intOf]; done) | (simp [intOf]; omega)⟩
                exact ⟨j + 1, by go_num, by omega, (by exact G.go hgq), hsn⟩
              · have e9 : (decide (0 ≤ fj) && decide (fj ≤ (j : Int))) = false := by rw [decide_eq_true a1, decide_eq_false a2]; rfl
                rw [e9] at HY4
                obtain ⟨x0, x1⟩ := HX0.out _ HG2
                have y4 := HY4.out _ hgq
                clear e9
                go_wp2_with (go_at_call 9; (with_reducible refine (HL1.out _).mono ?_); rintro e wn ⟨rfl, hgn⟩; replace HG2 := G.trans (w := w) (by exact G.go HG2) hgn; replace hgq := G.trans (w := wy) (by exact G.go hgq) hgn; replace hs := Hx.kept hs hgn (by simp); replace hx := Hx.kept hx hgn (by simp); clear hgn x0 x1 y4 hs_3 hs_l hx_3 hx_l; obtain ⟨x0, x1⟩ := HX0.out _ HG2; have y4 := HY4.out _ hgq; have hs_3 := hs.cell 3; have hs_l := hs.lt; have hx_3 := hx.cell 3; have hx_l := hx.lt)
                refine ⟨?_, by first | (simp [intOf]; done) | (simp [intOf]; omega)⟩
                exact ⟨j + 1, by go_num, by omega, (by exact G.go hgq), hsn⟩
            · have e9 : (decide (0 ≤ fj) && decide (fj ≤ (j : Int))) = false := by rw [decide_eq_false a1]; rfl
              rw [e9] at HY4
              obtain ⟨x0, x1⟩ := HX0.out _ HG2
              have y4 := HY4.out _ hgq
              clear e9
              go_wp2_with (go_at_call 9; (with_reducible refine (HL1.out _).mono ?_); rintro e wn ⟨rfl, hgn⟩; replace HG2 := G.trans (w := w) (by exact G.go HG2) hgn; replace hgq := G.trans (w := wy) (by exact G.go hgq) hgn; replace hs := Hx.kept hs hgn (by simp); replace hx := Hx.kept hx hgn (by simp); clear hgn x0 x1 y4 hs_3 hs_l hx_3 hx_l; obtain ⟨x0, x1⟩ := HX0.out _ HG2; have y4 := HY4.out _ hgq; have hs_3 := hs.cell 3; have hs_l := hs.lt; have hx_3 := hx.cell 3; have hx_l := hx.lt)
              refine ⟨?_, by first | (simp [intOf]; done) | (simp [intOf]; omega)⟩
              exact ⟨j + 1, by go_num, by omega, (by exact G.go hgq), hsn⟩
          | some x =>
            have hr := all_at HA.out j hlt
            rw [hox, hv] at hr
            have hxf : -4611686018427387904 ≤ x ∧ x ≤ 4611686018427387904 := by
              have h3 : isR true x = true := hr
              unfold isR at h3
              rw [if_pos rfl, Bool.and_eq_true, decide_eq_true_eq, decide_eq_true_eq] at h3
              exact h3
            rw [hv] at HX0
            simp only [show (vP (some x)).1 = true from rfl, show (vP (some x)).2 = x from rfl] at HX0
            have HL1 := Lib.hid (fun W => less1_any W true true (-1125899906842624) x)
            have HL2 := Lib.hid (fun W => less1_any W true true x 1125899906842624)
            rw [vK_of hxf, show vK true (-1125899906842624) = some (-1125899906842624) from vK_of (by omega)] at HL1
            rw [vK_of hxf, show vK true 1125899906842624 = some 1125899906842624 from vK_of (by omega)] at HL2
            simp only [ltO] at HL1 HL2
            clear hr hox hxf
            by_cases m1 : -1125899906842624 < x
            rotate_left
            · rw [decide_eq_false m1] at HL1
              obtain ⟨x0, x1⟩ := HX0.out _ HG2
              have y4 := HY4.out _ hgq
              clear m1 HL2 hv hsm
              go_wp2_with (first | (go_at_call 9; (with_reducible refine (HL1.out _).mono ?_); rintro e wn ⟨rfl, hgn⟩; replace HG2 := G.trans (w := w) (by exact G.go HG2) hgn; replace hgq := G.trans (w := wy) (by exact G.go hgq) hgn; replace hs := Hx.kept hs hgn (by simp); replace hx := Hx.kept hx hgn (by simp); clear hgn x0 x1 y4 hs_3 hs_l hx_3 hx_l; obtain ⟨x0, x1⟩ := HX0.out _ HG2; have y4 := HY4.out _ hgq; have hs_3 := hs.cell 3; have hs_l := hs.lt; have hx_3 := hx.cell 3; have hx_l := hx.lt) | (go_at_call 5; (with_reducible refine (HK.out _ (by exact G.go HG2)).mono ?_); rintro e w3 ⟨rfl, hgn⟩; replace HG2 := G.trans (w := w) (by exact G.go HG2) hgn; clear hgn))
              go_ret
              exact ⟨rfl, (by exact G.go HG2)⟩
            rw [decide_eq_true m1] at HL1
            by_cases m2 : x < 1125899906842624
            rotate_left
            · rw [decide_eq_false m2] at HL2
              obtain ⟨x0, x1⟩ := HX0.out _ HG2
              have y4 := HY4.out _ hgq
              clear m1 m2 hv hsm
              go_wp2_with (first | (go_at_call 9; (with_reducible refine (HL1.out _).mono ?_); rintro e wn ⟨rfl, hgn⟩; replace HG2 := G.trans (w := w) (by exact G.go HG2) hgn; replace hgq := G.trans (w := wy) (by exact G.go hgq) hgn; replace hs := Hx.kept hs hgn (by simp); replace hx := Hx.kept hx hgn (by simp); clear hgn x0 x1 y4 hs_3 hs_l hx_3 hx_l; obtain ⟨x0, x1⟩ := HX0.out _ HG2; have y4 := HY4.out _ hgq; have hs_3 := hs.cell 3; have hs_l := hs.lt; have hx_3 := hx.cell 3; have hx_l := hx.lt) | (go_at_call 9; (with_reducible refine (HL2.out _).mono ?_); rintro e wn ⟨rfl, hgn⟩; replace HG2 := G.trans (w := w) (by exact G.go HG2) hgn; replace hgq := G.trans (w := wy) (by exact G.go hgq) hgn; replace hs := Hx.kept hs hgn (by simp); replace hx := Hx.kept hx hgn (by simp); clear hgn x0 x1 y4 hs_3 hs_l hx_3 hx_l; obtain ⟨x0, x1⟩ := HX0.out _ HG2; have y4 := HY4.out _ hgq; have hs_3 := hs.cell 3; have hs_l := hs.lt; have hx_3 := hx.cell 3; have hx_l := hx.lt) | (go_at_call 5; (with_reducible refine (HK.out _ (by exact G.go HG2)).mono ?_); rintro e w3 ⟨rfl, hgn⟩; replace HG2 := G.trans (w := w) (by exact G.go HG2) hgn; clear hgn))
              go_ret
              exact ⟨rfl, (by exact G.go HG2)⟩
            rw [decide_eq_true m2] at HL2
            have hsn : Hid (SmallO S.opts (j + 1)) := Lib.hid (smallO_step hsm.out (fun y hy => by rw [hv] at hy; cases hy; exact ⟨m1, m2⟩))
            clear m1 m2 hv hsm
            by_cases a1 : 0 ≤ fj
            · by_cases a2 : fj ≤ j
              · have e9 : (decide (0 ≤ fj) && decide (fj ≤ (j : Int))) = true := by rw [decide_eq_true a1, decide_eq_true a2]; rfl
                rw [e9] at HY4
                obtain ⟨x0, x1⟩ := HX0.out _ HG2
                have y4 := HY4.out _ hgq
                clear e9
                go_wp2_with (first | (go_at_call 9; (with_reducible refine (HL1.out _).mono ?_); rintro e wn ⟨rfl, hgn⟩; replace HG2 := G.trans (w := w) (by exact G.go HG2) hgn; replace hgq := G.trans (w := wy) (by exact G.go hgq) hgn; replace hs := Hx.kept hs hgn (by simp); replace hx := Hx.kept hx hgn (by simp); clear hgn x0 x1 y4 hs_3 hs_l hx_3 hx_l; obtain ⟨x0, x1⟩ := HX0.out _ HG2; have y4 := HY4.out _ hgq; have hs_3 := hs.cell 3; have hs_l := hs.lt; have hx_3 := hx.cell 3; have hx_l := hx.lt) | (go_at_call 9; (with_reducible refine (HL2.out _).mono ?_); rintro e wn ⟨rfl, hgn⟩; replace HG2 := G.trans (w := w) (by exact G.go HG2) hgn; replace hgq := G.trans (w := wy) (by exact G.go hgq) hgn; replace hs := Hx.kept hs hgn (by simp); replace hx := Hx.kept hx hgn (by simp); clear hgn x0 x1 y4 hs_3 hs_l hx_3 hx_l; obtain ⟨x0, x1⟩ := HX0.out _ HG2; have y4 := HY4.out _ hgq; have hs_3 := hs.cell 3; have hs_l := hs.lt; have hx_3 := hx.cell 3; have hx_l := hx.lt))
                refine ⟨?_, by first | (simp [intOf]; done) | (simp [intOf]; omega)⟩
                exact ⟨j + 1, by go_num, by omega, (by exact G.go hgq), hsn⟩
              · have e9 : (decide (0 ≤ fj) && decide (fj ≤ (j : Int))) = false := by rw [decide_eq_true a1, decide_eq_false a2]; rfl
                rw [e9] at HY4
                obtain ⟨x0, x1⟩ := HX0.out _ HG2
                have y4 := HY4.out _ hgq
                clear e9
                go_wp2_with (first | (go_at_call 9; (with_reducible refine (HL1.out _).mono ?_); rintro e wn ⟨rfl, hgn⟩; replace HG2 := G.trans (w := w) (by exact G.go HG2) hgn; replace hgq := G.trans (w := wy) (by exact G.go hgq) hgn; replace hs := Hx.kept hs hgn (by simp); replace hx := Hx.kept hx hgn (by simp); clear hgn x0 x1 y4 hs_3 hs_l hx_3 hx_l; obtain ⟨x0, x1⟩ := HX0.out _ HG2; have y4 := HY4.out _ hgq; have hs_3 := hs.cell 3; have hs_l := hs.lt; have hx_3 := hx.cell 3; have hx_l := hx.lt) | (go_at_call 9; (with_reducible refine (HL2.out _).mono ?_); rintro e wn ⟨rfl, hgn⟩; replace HG2 := G.trans (w := w) (by exact G.go HG2) hgn; replace hgq := G.trans (w := wy) (by exact G.go hgq) hgn; replace hs := Hx.kept hs hgn (by simp); replace hx := Hx.kept hx hgn (by simp); clear hgn x0 x1 y4 hs_3 hs_l hx_3 hx_l; obtain ⟨x0, x1⟩ := HX0.out _ HG2; have y4 := HY4.out _ hgq; have hs_3 := hs.cell 3; have hs_l := hs.lt; have hx_3 := hx.cell 3; have hx_l := hx.lt))
                refine ⟨?_, by first | (simp [intOf]; done) | (simp [intOf]; omega)⟩
                exact ⟨j + 1, by go_num, by omega, (by exact G.go hgq), hsn⟩
            · have e9 : (decide (0 ≤ fj) && decide (fj ≤ (j : Int))) = false := by rw [decide_eq_false a1]; rfl
              rw [e9] at HY4
              obtain ⟨x0, x1⟩ := HX0.out _ HG2
              have y4 := HY4.out _ hgq
              clear e9
              go_wp2_with (first | (go_at_call 9; (with_reducible refine (HL1.out _).mono ?_); rintro e wn ⟨rfl, hgn⟩; replace HG2 := G.trans (w := w) (by exact G.go HG2) hgn; replace hgq := G.trans (w := wy) (by exact G.go hgq) hgn; replace hs := Hx.kept hs hgn (by simp); replace hx := Hx.kept hx hgn (by simp); clear hgn x0 x1 y4 hs_3 hs_l hx_3 hx_l; obtain ⟨x0, x1⟩ := HX0.out _ HG2; have y4 := HY4.out _ hgq; have hs_3 := hs.cell 3; have hs_l := hs.lt; have hx_3 := hx.cell 3; have hx_l := hx.lt) | (go_at_call 9; (with_reducible refine (HL2.out _).mono ?_); rintro e wn ⟨rfl, hgn⟩; replace HG2 := G.trans (w := w) (by exact G.go HG2) hgn; replace hgq := G.trans (w := wy) (by exact G.go hgq) hgn; replace hs := Hx.kept hs hgn (by simp); replace hx := Hx.kept hx hgn (by simp); clear hgn x0 x1 y4 hs_3 hs_l hx_3 hx_l; obtain ⟨x0, x1⟩ := HX0.out _ HG2; have y4 := HY4.out _ hgq; have hs_3 := hs.cell 3; have hs_l := hs.lt; have hx_3 := hx.cell 3; have hx_l := hx.lt))
              refine ⟨?_, by first | (simp [intOf]; done) | (simp [intOf]; omega)⟩
              exact ⟨j + 1, by go_num, by omega, (by exact G.go hgq), hsn⟩
        · obtain rfl : j = S.vals.length := by omega
          have hso := hsm.out
          have LT := Lib.hid (fun i (hi : i < S.vals.length) => LS.out i hi hso)
          clear hsm hso LS KS
          rename World => w2
          have hg2 := hgq
          clear hs_3 hs_l hx_3 hx_l
          have hs_3 := hs.cell 3; have hs_l := hs.lt
          go_wp2_with fail
          go_loopw [12] (fun iv wr => ∃ (j : Nat), iv = .int .i64 j ∧ j ≤ S.vals.length ∧ wy.grownBy wr none) (fun iv _ => S.vals.length - (intOf iv).toNat)
          case atStart => exact ⟨0, rfl, by omega, (by exact G.go hg2)⟩
          case round =>
            clear hgq HG2 hs_3 hs_l hs hx hy hj
            obtain ⟨j, rfl, hj, hgq⟩ := hrel
            have HG2 := G.trans HG hgq
            have hs := Hx.kept hsy.out hgq (by simp)
            have hy := Hx.kept hyy.out hgq (by simp)
            have hs_3 := hs.cell 3; have hs_l := hs.lt; have hy_3 := hy.cell 3; have hy_l := hy.lt
            by_cases hlt : j < S.vals.length
            · have hl5 : j < (rowO S.vals.length (fsV 4 S.step false none S.opts)).length := by rw [rowO_len]; exact hlt
              obtain ⟨b5, o5, rfl, hb5, hc5⟩ := R5.out (by omega)
              have y5 := (valCells hc5 hgq hb5 hl5).1
              rw [rowO_at] at y5
              have hpv : ∀ o : Option Int, (vP o).1 = o.isSome := fun o => by cases o <;> rfl
              rw [hpv, LT.out j hlt] at y5
              clear hc5 hpv LT
              by_cases a1 : 0 ≤ fj <;> by_cases a2 : fj ≤ (j : Int) <;> by_cases a3 : (j : Int) ≤ aj
              all_goals first | (exfalso; omega) | skip
              all_goals
                simp only [a1, a2, a3, decide_true, decide_false, Bool.and_true, Bool.and_false, Bool.true_and, Bool.false_and] at y5
                go_wp2_with fail
                refine ⟨?_, by first | (simp [intOf]; done) | (simp [intOf]; omega)⟩
                exact ⟨j + 1, by go_num, by omega, (by exact G.go hgq)⟩
            · obtain rfl : j = S.vals.length := by omega
              clear LT
              go_wp2_with (go_at_call 5; (with_reducible refine (HK.out _ (by exact G.go HG2)).mono ?_); rintro e w3 ⟨rfl, hgn⟩; replace HG2 := G.trans (w := w) (by exact G.go HG2) hgn; clear hgn)
              go_ret
              exact ⟨rfl, (by exact G.go HG2)⟩
end Go.Proofs.YtkablhamnepfnaaDoor
