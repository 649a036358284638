/-
  The plain law of an offset and the same back, and the walk of the law. Printed by genback.py.
-/
import Derived.Test.YtfomknfjidbdcaaDoorFmLaw
namespace Go.Proofs.YtfomknfjidbdcaaDoor
open Go.RowKit
def offV (k : Option Int) (X : List (Bool × Int)) : List (Bool × Int) := X.map fun p => vP (sumO (vK p.1 p.2) k)
theorem offV_len (k : Option Int) (X : List (Bool × Int)) : (offV k X).length = X.length := by simp [offV]
theorem offV_at (k : Option Int) (X : List (Bool × Int)) (j : Nat) (h : j < (offV k X).length) (h2 : j < X.length) : (offV k X)[j] = vP (sumO (vK X[j].1 X[j].2) k) := List.getElem_map _
theorem fmApply_off {S : Ser} (hS : isSer S = true) (kb : Bool) (kn : Int) : ∃ nm, fmApply fn5 S [(kb, kn)] = some ⟨nm, S.start, S.step, offV (vK kb kn) S.vals, S.cons⟩ := by
  have h5 : fmIdx fn5 = some 5 := by decide
  have hok : fmOk fn5 S [(kb, kn)].length = true := by
    unfold fmOk
    rw [h5, hS]
    rfl
  refine ⟨labelB fn5 (labTexts S.name [(kb, kn)]), ?_⟩
  unfold fmApply
  rw [if_pos hok]
  unfold fmVals
  rw [h5]
  rfl
theorem isR_fits {o : Option Int} (h : Fits o) : isR (vB o) (vN o) = true := by
  cases o with
  | none => rfl
  | some n =>
    obtain ⟨a, b⟩ := h n rfl
    show (decide (-4611686018427387904 ≤ n) && decide (n ≤ 4611686018427387904)) = true
    rw [decide_eq_true a, decide_eq_true b]; rfl
theorem isSer_off {S : Ser} (hS : isSer S = true) (k : Option Int) : isSer ⟨S.name, S.start, S.step, offV k S.vals, S.cons⟩ = true := by
  unfold isSer isHead at hS ⊢
  simp only [Bool.and_eq_true, decide_eq_true_eq, offV_len] at hS ⊢
  refine ⟨hS.1, ?_⟩
  rw [List.all_eq_true]
  intro p hp
  obtain ⟨q, _, rfl⟩ := List.mem_map.1 hp
  exact isR_fits (sumO_fits _ _)
theorem ser_post {x : Option Ser} {nm : ByteArray} {st sp cn : Int} {Y : List (Bool × Int)} {n : Nat} (hn : Y.length = n) (e1 : x = some ⟨nm, st, sp, Y, cn⟩) {w : World} {e : Ending} {w' : World} (h : SerPost x w e w') :
    ∃ A c, e = .returned (.tuple #[.agg #[.string nm, .int .i64 st, .int .i64 sp, .slice A n c, .int .i64 cn], .bool true]) ∧ ERow valE w' (.slice A n c) Y ∧ w.grownBy w' none := by
  subst e1
  obtain ⟨u, rfl, hu, hg⟩ := h
  have hu : ERow valE w' u Y := hu
  obtain ⟨A, c, rfl, _⟩ := id hu
  rw [hn] at hu
  exact ⟨A, c, by rw [← hn]; rfl, hu, hg⟩
/-- there and back -/
theorem off_back {b : Bool} {n k : Int} (hb : isR b n = true) (h : vB (sumO (vK b n) (some k)) = true) : vP (sumO (sumO (vK b n) (some k)) (some (-k))) = (b, n) := by
  have e := vP_of hb
  cases hv : vK b n with
  | none => rw [hv] at h; simp [sumO, vB] at h
  | some x =>
    rw [hv] at h e
    have hx := vK_fits b n x hv
    cases hz : sumO (some x) (some k) with
    | none => rw [hz] at h; simp [vB] at h
    | some z =>
      have : z = x + k := by
        simp only [sumO, Option.bind_some, ofR] at hz
        split at hz
        · exact (Option.some.inj hz).symm
        · cases hz
      subst this
      rw [e]
      have : sumO (some (x + k)) (some (-k)) = some x := by
        simp only [sumO, Option.bind_some]
        rw [show x + k + -k = x by omega]
        exact ofR_small hx
      rw [this]
set_option maxHeartbeats 16000000 in
set_option maxRecDepth 100000 in
theorem fmathBack_any (S : Ser) (sv : Value) (kb : Bool) (kn : Int) (w : World) (h : ERow valE w sv S.vals) (hk1 : -9223372036854775808 ≤ kn) (hk2 : kn ≤ 9223372036854775807) (hp : Pow10 w) : Calls Tryd.prog 3 #[.agg #[.string S.name, .int .i64 S.start, .int .i64 S.step, sv, .int .i64 S.cons], .agg #[.bool kb, .int .i64 kn]] w fun e w' => e = .returned (.bool true) ∧ w.grownBy w' none := by
  have HG := G.refl w none
  have HP := Lib.hid hp; clear hp
  have HV := Lib.hid h
  have HH := Lib.hid (fun w2 h B hs => heavy19_any S sv w2 h B hs)
  have hbig := Lib.hid (show bigS S = (decide (120 < S.vals.length) || decide (300 < S.name.size)) from rfl)
  have HI := Lib.hid (fun w2 h => refIs18_any S sv w2 h)
  have HKn := Lib.hid (fun w2 => known1_any w2 kb kn)
  have HK := Lib.hid (fun w2 hpp => lawKnown19_any w2 hpp)
  have HA := Lib.hid (fun w2 (X : Ser) u lv b n h hl hn h2 h3 hpp => fmApply_any fn5 X u lv [(b, n)] w2 h hl hn (by decide) h2 h3 (by simp) hpp)
  have k1 := @vK_some kb kn
  obtain ⟨A, c, rfl, q1, q2, q3⟩ := h
  have Q3 := Lib.hid q3; clear q3 q1 q2
  go_enter Tryd.func3, Tryd.ntmps3
  go_upto_region 0 with (fail)
  go_cut [2, 3, 4] (fun p2 p3 p4 wc => p2 = .pointer (some ⟨w.heap.size, 0, none⟩) ∧ p3 = .pointer (some ⟨(w.heap.size + 1), 0, none⟩) ∧ p4 = .bool false ∧ w.grownBy wc none ∧ Hx wc w.heap.size [.string S.name, .int .i64 S.start, .int .i64 S.step, .slice A S.vals.length c, .int .i64 S.cons] 24 ∧ Hx wc (w.heap.size + 1) [.bool kb, .int .i64 kn] 26)
  case first =>
    go_wp2_with fail
    go_meet
    exact ⟨rfl, rfl, rfl, (by exact G.go HG), Hx.alloc (Hx.new _ _ _) _, Hx.new' (by simp) rfl⟩
  obtain ⟨rfl, rfl, rfl, HG, hs, hk⟩ := hcut
  rename World => wx
  have hs_0 := hs.cell 0; have hs_f0 := hs.free 0; have hs_1 := hs.cell 1; have hs_f1 := hs.free 1; have hs_2 := hs.cell 2; have hs_f2 := hs.free 2; have hs_3 := hs.cell 3; have hs_f3 := hs.free 3; have hs_4 := hs.cell 4; have hs_f4 := hs.free 4; have hs_l := hs.lt; have hk_0 := hk.cell 0; have hk_f0 := hk.free 0; have hk_1 := hk.cell 1; have hk_f1 := hk.free 1; have hk_l := hk.lt
  generalize bigS S = big at *
  cases big
  rotate_left
  · clear HA HK
    go_wp2_with (first | (go_at_call 5; (with_reducible refine (HH.out _ (HV.out.kept0 (by exact G.go HG)) _ ?_).mono ?_); (exact Hx.new' (by simp) rfl); rintro e wn ⟨rfl, hgn⟩; replace HG := G.trans (w := w) (by exact G.go HG) hgn; replace hs := Hx.kept (Hx.alloc hs _) hgn (by simp); replace hk := Hx.kept (Hx.alloc hk _) hgn (by simp); clear hs_0 hs_f0 hs_1 hs_f1 hs_2 hs_f2 hs_3 hs_f3 hs_4 hs_f4 hs_l hk_0 hk_f0 hk_1 hk_f1 hk_l; have hs_0 := hs.cell 0; have hs_f0 := hs.free 0; have hs_1 := hs.cell 1; have hs_f1 := hs.free 1; have hs_2 := hs.cell 2; have hs_f2 := hs.free 2; have hs_3 := hs.cell 3; have hs_f3 := hs.free 3; have hs_4 := hs.cell 4; have hs_f4 := hs.free 4; have hs_l := hs.lt; have hk_0 := hk.cell 0; have hk_f0 := hk.free 0; have hk_1 := hk.cell 1; have hk_f1 := hk.free 1; have hk_l := hk.lt; clear hgn) | (go_at_call 6; (with_reducible refine (HI.out _ (HV.out.kept0 (by exact G.go HG))).mono ?_); rintro e wn ⟨rfl, hgn⟩; replace HG := G.trans (w := w) (by exact G.go HG) hgn; replace hs := Hx.kept hs hgn (by simp); replace hk := Hx.kept hk hgn (by simp); clear hs_0 hs_f0 hs_1 hs_f1 hs_2 hs_f2 hs_3 hs_f3 hs_4 hs_f4 hs_l hk_0 hk_f0 hk_1 hk_f1 hk_l; have hs_0 := hs.cell 0; have hs_f0 := hs.free 0; have hs_1 := hs.cell 1; have hs_f1 := hs.free 1; have hs_2 := hs.cell 2; have hs_f2 := hs.free 2; have hs_3 := hs.cell 3; have hs_f3 := hs.free 3; have hs_4 := hs.cell 4; have hs_f4 := hs.free 4; have hs_l := hs.lt; have hk_0 := hk.cell 0; have hk_f0 := hk.free 0; have hk_1 := hk.cell 1; have hk_f1 := hk.free 1; have hk_l := hk.lt; clear hgn) | (go_at_call 7; (with_reducible refine (HKn.out _).mono ?_); rintro e wn ⟨rfl, hgn⟩; replace HG := G.trans (w := w) (by exact G.go HG) hgn; replace hs := Hx.kept hs hgn (by simp); replace hk := Hx.kept hk hgn (by simp); clear hs_0 hs_f0 hs_1 hs_f1 hs_2 hs_f2 hs_3 hs_f3 hs_4 hs_f4 hs_l hk_0 hk_f0 hk_1 hk_f1 hk_l; have hs_0 := hs.cell 0; have hs_f0 := hs.free 0; have hs_1 := hs.cell 1; have hs_f1 := hs.free 1; have hs_2 := hs.cell 2; have hs_f2 := hs.free 2; have hs_3 := hs.cell 3; have hs_f3 := hs.free 3; have hs_4 := hs.cell 4; have hs_f4 := hs.free 4; have hs_l := hs.lt; have hk_0 := hk.cell 0; have hk_f0 := hk.free 0; have hk_1 := hk.cell 1; have hk_f1 := hk.free 1; have hk_l := hk.lt; clear hgn))
    go_ret
    exact ⟨rfl, (by exact G.go HG)⟩
  cases hS : isSer S
  · rw [hS] at HI
    clear HA HK hS
    go_wp2_with (first | (go_at_call 5; (with_reducible refine (HH.out _ (HV.out.kept0 (by exact G.go HG)) _ ?_).mono ?_); (exact Hx.new' (by simp) rfl); rintro e wn ⟨rfl, hgn⟩; replace HG := G.trans (w := w) (by exact G.go HG) hgn; replace hs := Hx.kept (Hx.alloc hs _) hgn (by simp); replace hk := Hx.kept (Hx.alloc hk _) hgn (by simp); clear hs_0 hs_f0 hs_1 hs_f1 hs_2 hs_f2 hs_3 hs_f3 hs_4 hs_f4 hs_l hk_0 hk_f0 hk_1 hk_f1 hk_l; have hs_0 := hs.cell 0; have hs_f0 := hs.free 0; have hs_1 := hs.cell 1; have hs_f1 := hs.free 1; have hs_2 := hs.cell 2; have hs_f2 := hs.free 2; have hs_3 := hs.cell 3; have hs_f3 := hs.free 3; have hs_4 := hs.cell 4; have hs_f4 := hs.free 4; have hs_l := hs.lt; have hk_0 := hk.cell 0; have hk_f0 := hk.free 0; have hk_1 := hk.cell 1; have hk_f1 := hk.free 1; have hk_l := hk.lt; clear hgn) | (go_at_call 6; (with_reducible refine (HI.out _ (HV.out.kept0 (by exact G.go HG))).mono ?_); rintro e wn ⟨rfl, hgn⟩; replace HG := G.trans (w := w) (by exact G.go HG) hgn; replace hs := Hx.kept hs hgn (by simp); replace hk := Hx.kept hk hgn (by simp); clear hs_0 hs_f0 hs_1 hs_f1 hs_2 hs_f2 hs_3 hs_f3 hs_4 hs_f4 hs_l hk_0 hk_f0 hk_1 hk_f1 hk_l; have hs_0 := hs.cell 0; have hs_f0 := hs.free 0; have hs_1 := hs.cell 1; have hs_f1 := hs.free 1; have hs_2 := hs.cell 2; have hs_f2 := hs.free 2; have hs_3 := hs.cell 3; have hs_f3 := hs.free 3; have hs_4 := hs.cell 4; have hs_f4 := hs.free 4; have hs_l := hs.lt; have hk_0 := hk.cell 0; have hk_f0 := hk.free 0; have hk_1 := hk.cell 1; have hk_f1 := hk.free 1; have hk_l := hk.lt; clear hgn) | (go_at_call 7; (with_reducible refine (HKn.out _).mono ?_); rintro e wn ⟨rfl, hgn⟩; replace HG := G.trans (w := w) (by exact G.go HG) hgn; replace hs := Hx.kept hs hgn (by simp); replace hk := Hx.kept hk hgn (by simp); clear hs_0 hs_f0 hs_1 hs_f1 hs_2 hs_f2 hs_3 hs_f3 hs_4 hs_f4 hs_l hk_0 hk_f0 hk_1 hk_f1 hk_l; have hs_0 := hs.cell 0; have hs_f0 := hs.free 0; have hs_1 := hs.cell 1; have hs_f1 := hs.free 1; have hs_2 := hs.cell 2; have hs_f2 := hs.free 2; have hs_3 := hs.cell 3; have hs_f3 := hs.free 3; have hs_4 := hs.cell 4; have hs_f4 := hs.free 4; have hs_l := hs.lt; have hk_0 := hk.cell 0; have hk_f0 := hk.free 0; have hk_1 := hk.cell 1; have hk_f1 := hk.free 1; have hk_l := hk.lt; clear hgn))
    go_ret
    exact ⟨rfl, (by exact G.go HG)⟩
  rw [hS] at HI
  generalize hkk : (kb && isR kb kn) = kk at *
  cases kk
  · clear HA HK hS
    go_wp2_with (first | (go_at_call 5; (with_reducible refine (HH.out _ (HV.out.kept0 (by exact G.go HG)) _ ?_).mono ?_); (exact Hx.new' (by simp) rfl); rintro e wn ⟨rfl, hgn⟩; replace HG := G.trans (w := w) (by exact G.go HG) hgn; replace hs := Hx.kept (Hx.alloc hs _) hgn (by simp); replace hk := Hx.kept (Hx.alloc hk _) hgn (by simp); clear hs_0 hs_f0 hs_1 hs_f1 hs_2 hs_f2 hs_3 hs_f3 hs_4 hs_f4 hs_l hk_0 hk_f0 hk_1 hk_f1 hk_l; have hs_0 := hs.cell 0; have hs_f0 := hs.free 0; have hs_1 := hs.cell 1; have hs_f1 := hs.free 1; have hs_2 := hs.cell 2; have hs_f2 := hs.free 2; have hs_3 := hs.cell 3; have hs_f3 := hs.free 3; have hs_4 := hs.cell 4; have hs_f4 := hs.free 4; have hs_l := hs.lt; have hk_0 := hk.cell 0; have hk_f0 := hk.free 0; have hk_1 := hk.cell 1; have hk_f1 := hk.free 1; have hk_l := hk.lt; clear hgn) | (go_at_call 6; (with_reducible refine (HI.out _ (HV.out.kept0 (by exact G.go HG))).mono ?_); rintro e wn ⟨rfl, hgn⟩; replace HG := G.trans (w := w) (by exact G.go HG) hgn; replace hs := Hx.kept hs hgn (by simp); replace hk := Hx.kept hk hgn (by simp); clear hs_0 hs_f0 hs_1 hs_f1 hs_2 hs_f2 hs_3 hs_f3 hs_4 hs_f4 hs_l hk_0 hk_f0 hk_1 hk_f1 hk_l; have hs_0 := hs.cell 0; have hs_f0 := hs.free 0; have hs_1 := hs.cell 1; have hs_f1 := hs.free 1; have hs_2 := hs.cell 2; have hs_f2 := hs.free 2; have hs_3 := hs.cell 3; have hs_f3 := hs.free 3; have hs_4 := hs.cell 4; have hs_f4 := hs.free 4; have hs_l := hs.lt; have hk_0 := hk.cell 0; have hk_f0 := hk.free 0; have hk_1 := hk.cell 1; have hk_f1 := hk.free 1; have hk_l := hk.lt; clear hgn) | (go_at_call 7; (with_reducible refine (HKn.out _).mono ?_); rintro e wn ⟨rfl, hgn⟩; replace HG := G.trans (w := w) (by exact G.go HG) hgn; replace hs := Hx.kept hs hgn (by simp); replace hk := Hx.kept hk hgn (by simp); clear hs_0 hs_f0 hs_1 hs_f1 hs_2 hs_f2 hs_3 hs_f3 hs_4 hs_f4 hs_l hk_0 hk_f0 hk_1 hk_f1 hk_l; have hs_0 := hs.cell 0; have hs_f0 := hs.free 0; have hs_1 := hs.cell 1; have hs_f1 := hs.free 1; have hs_2 := hs.cell 2; have hs_f2 := hs.free 2; have hs_3 := hs.cell 3; have hs_f3 := hs.free 3; have hs_4 := hs.cell 4; have hs_f4 := hs.free 4; have hs_l := hs.lt; have hk_0 := hk.cell 0; have hk_f0 := hk.free 0; have hk_1 := hk.cell 1; have hk_f1 := hk.free 1; have hk_l := hk.lt; clear hgn))
    go_ret
    exact ⟨rfl, (by exact G.go HG)⟩
  have hb2 : (decide (120 < S.vals.length) || decide (300 < S.name.size)) = false := hbig.out.symm
  rw [Bool.or_eq_false_iff, decide_eq_false_iff_not, decide_eq_false_iff_not] at hb2
  have g3 : S.vals.length ≤ 1000000 := by omega
  have g2 : S.name.size ≤ 100000 := by omega
  clear hb2 hbig
  obtain ⟨va, rfl, a1, a2⟩ := k1 rfl
  clear k1 hkk
  have hneg : IntKind.i64.wrap (-kn) = -kn := by rw [IntKind.wrap_i64]; omega
  obtain ⟨nm1, e1⟩ := fmApply_off hS true kn
  rw [va] at e1
  have hSX := isSer_off hS (some kn)
  obtain ⟨nm2, e2⟩ := fmApply_off hSX true (-kn)
  rw [show vK true (-kn) = some (-kn) from vK_of (by omega)] at e2
  have HA1 := Lib.hid (fun w2 u lv h hl hpp => (HA.out w2 S u lv true kn h hl (by intro p hp; simp only [List.mem_singleton] at hp; subst hp; exact ⟨hk1, hk2⟩) g2 g3 hpp).mono fun e w3 hq => ser_post (offV_len _ _) e1 hq)
  have HA2 := Lib.hid (fun w2 u lv h hl hpp => (HA.out w2 ⟨S.name, S.start, S.step, offV (some kn) S.vals, S.cons⟩ u lv true (-kn) h hl (by intro p hp; simp only [List.mem_singleton] at hp; subst hp; exact ⟨by show (_ : Int) ≤ -kn; omega, by show -kn ≤ (_ : Int); omega⟩) g2 (by rw [offV_len]; exact g3) hpp).mono fun e w3 hq => ser_post (by rw [offV_len, offV_len]) e2 hq)
  clear HA e1 e2 hSX
  rw [show fn5 = ⟨#[111, 102, 102, 115, 101, 116]⟩ from rfl] at HA1 HA2
  have hall := Lib.hid (all_at (isSer_parts hS).2.2.2.2.2.2)
  go_upto_region 3 with (first | (go_at_call 5; (with_reducible refine (HH.out _ (HV.out.kept0 (by exact G.go HG)) _ ?_).mono ?_); (exact Hx.new' (by simp) rfl); rintro e wn ⟨rfl, hgn⟩; replace HG := G.trans (w := w) (by exact G.go HG) hgn; replace hs := Hx.kept (Hx.alloc hs _) hgn (by simp); replace hk := Hx.kept (Hx.alloc hk _) hgn (by simp); clear hs_0 hs_f0 hs_1 hs_f1 hs_2 hs_f2 hs_3 hs_f3 hs_4 hs_f4 hs_l hk_0 hk_f0 hk_1 hk_f1 hk_l; have hs_0 := hs.cell 0; have hs_f0 := hs.free 0; have hs_1 := hs.cell 1; have hs_f1 := hs.free 1; have hs_2 := hs.cell 2; have hs_f2 := hs.free 2; have hs_3 := hs.cell 3; have hs_f3 := hs.free 3; have hs_4 := hs.cell 4; have hs_f4 := hs.free 4; have hs_l := hs.lt; have hk_0 := hk.cell 0; have hk_f0 := hk.free 0; have hk_1 := hk.cell 1; have hk_f1 := hk.free 1; have hk_l := hk.lt; clear hgn) | (go_at_call 6; (with_reducible refine (HI.out _ (HV.out.kept0 (by exact G.go HG))).mono ?_); rintro e wn ⟨rfl, hgn⟩; replace HG := G.trans (w := w) (by exact G.go HG) hgn; replace hs := Hx.kept hs hgn (by simp); replace hk := Hx.kept hk hgn (by simp); clear hs_0 hs_f0 hs_1 hs_f1 hs_2 hs_f2 hs_3 hs_f3 hs_4 hs_f4 hs_l hk_0 hk_f0 hk_1 hk_f1 hk_l; have hs_0 := hs.cell 0; have hs_f0 := hs.free 0; have hs_1 := hs.cell 1; have hs_f1 := hs.free 1; have hs_2 := hs.cell 2; have hs_f2 := hs.free 2; have hs_3 := hs.cell 3; have hs_f3 := hs.free 3; have hs_4 := hs.cell 4; have hs_f4 := hs.free 4; have hs_l := hs.lt; have hk_0 := hk.cell 0; have hk_f0 := hk.free 0; have hk_1 := hk.cell 1; have hk_f1 := hk.free 1; have hk_l := hk.lt; clear hgn) | (go_at_call 7; (with_reducible refine (HKn.out _).mono ?_); rintro e wn ⟨rfl, hgn⟩; replace HG := G.trans (w := w) (by exact G.go HG) hgn; replace hs := Hx.kept hs hgn (by simp); replace hk := Hx.kept hk hgn (by simp); clear hs_0 hs_f0 hs_1 hs_f1 hs_2 hs_f2 hs_3 hs_f3 hs_4 hs_f4 hs_l hk_0 hk_f0 hk_1 hk_f1 hk_l; have hs_0 := hs.cell 0; have hs_f0 := hs.free 0; have hs_1 := hs.cell 1; have hs_f1 := hs.free 1; have hs_2 := hs.cell 2; have hs_f2 := hs.free 2; have hs_3 := hs.cell 3; have hs_f3 := hs.free 3; have hs_4 := hs.cell 4; have hs_f4 := hs.free 4; have hs_l := hs.lt; have hk_0 := hk.cell 0; have hk_f0 := hk.free 0; have hk_1 := hk.cell 1; have hk_f1 := hk.free 1; have hk_l := hk.lt; clear hgn))
  go_cut [2, 3, 4, 5, 6] (fun p2 p3 p4 p5 p6 wd => ∃ B1 A1 c1 w1, p2 = .pointer (some ⟨w.heap.size, 0, none⟩) ∧ p3 = .pointer (some ⟨(w.heap.size + 1), 0, none⟩) ∧ p4 = .bool false ∧ p5 = .pointer (some ⟨B1, 0, none⟩) ∧ p6 = .bool true ∧ w.grownBy wd none ∧ Hx wd w.heap.size [.string S.name, .int .i64 S.start, .int .i64 S.step, .slice A S.vals.length c, .int .i64 S.cons] 24 ∧ Hx wd (w.heap.size + 1) [.bool true, .int .i64 kn] 26 ∧ Hx wd B1 [.string nm1, .int .i64 S.start, .int .i64 S.step, .slice A1 S.vals.length c1, .int .i64 S.cons] 24 ∧ ERow valE w1 (.slice A1 S.vals.length c1) (offV (some kn) S.vals) ∧ w1.grownBy wd none ∧ w1.heap.size ≤ B1 ∧ w.heap.size + 2 ≤ B1)
  case first =>
    have hlt := hk.lt
    go_wp2_with (go_at_call 8; (with_reducible refine (HA1.out _ _ _ (HV.out.kept0 (by exact G.go HG)) ?_ (Pow10.kept (w := w) HP.out (by exact G.go HG))).mono ?_); (exact ERow.of_hx (ts := [(true, kn)]) (by simp) (by decide) (Hx.new' (by simp) rfl)); rintro e wn ⟨A1, c1, rfl, hu1, hgn⟩; have hlt2 := hgn.size; replace HG := G.trans (w := w) (by exact G.go HG) hgn; replace hs := Hx.kept (Hx.alloc hs _) hgn (by simp); replace hk := Hx.kept (Hx.alloc hk _) hgn (by simp); clear hgn)
    go_meet
    exact ⟨_, _, _, wn, rfl, rfl, rfl, rfl, rfl, (by exact G.go HG), (by first | exact Hx.go hs | exact Hx.go2), (by first | exact Hx.go hk | exact Hx.go2), Hx.new' (by simp) rfl, hu1, G.alloc (G.refl wn none) _, Nat.le_refl _, by have := hk.lt; simp at *; omega⟩
  obtain ⟨B1, A1, c1, w1, rfl, rfl, rfl, rfl, rfl, HG, hs, hk, hx, hu1, hg1, hw1, hB1⟩ := hcut
  clear hs_0 hs_f0 hs_1 hs_f1 hs_2 hs_f2 hs_3 hs_f3 hs_4 hs_f4 hs_l hk_0 hk_f0 hk_1 hk_f1 hk_l
  rename World => wy
  have hs_0 := hs.cell 0; have hs_f0 := hs.free 0; have hs_1 := hs.cell 1; have hs_f1 := hs.free 1; have hs_2 := hs.cell 2; have hs_f2 := hs.free 2; have hs_3 := hs.cell 3; have hs_f3 := hs.free 3; have hs_4 := hs.cell 4; have hs_f4 := hs.free 4; have hs_l := hs.lt; have hx_0 := hx.cell 0; have hx_f0 := hx.free 0; have hx_1 := hx.cell 1; have hx_f1 := hx.free 1; have hx_2 := hx.cell 2; have hx_f2 := hx.free 2; have hx_3 := hx.cell 3; have hx_f3 := hx.free 3; have hx_4 := hx.cell 4; have hx_f4 := hx.free 4; have hx_l := hx.lt
  go_upto_region 4 with (fail)
  go_cut [2, 3, 4, 5, 6] (fun p2 p3 p4 p5 p6 wd => p2 = .pointer (some ⟨w.heap.size, 0, none⟩) ∧ p3 = .pointer (some ⟨(w.heap.size + 1), 0, none⟩) ∧ p4 = .bool false ∧ p5 = .pointer (some ⟨B1, 0, none⟩) ∧ p6 = .bool true ∧ w.grownBy wd none ∧ Hx wd w.heap.size [.string S.name, .int .i64 S.start, .int .i64 S.step, .slice A S.vals.length c, .int .i64 S.cons] 24 ∧ Hx wd (w.heap.size + 1) [.bool true, .int .i64 kn] 26 ∧ Hx wd B1 [.string S.name, .int .i64 S.start, .int .i64 S.step, .slice A1 S.vals.length c1, .int .i64 S.cons] 24 ∧ ERow valE wd (.slice A1 S.vals.length c1) (offV (some kn) S.vals))
  case first =>
    have hneA : ¬ w.heap.size = B1 := by omega
    have hneB : ¬ w.heap.size + 1 = B1 := by omega
    go_wp2_with fail
    go_meet
    exact ⟨rfl, rfl, rfl, rfl, rfl, G.set HG _ (Or.inl (by show w.heap.size ≤ B1; omega)), Hx.other hs hneA _ _, Hx.other hk hneB _ _, Hx.set hx _ _, hu1.kept0 (G.set hg1 _ (Or.inl hw1))⟩
  obtain ⟨rfl, rfl, rfl, rfl, rfl, HG, hs, hk, hx, hu1⟩ := hcut
  clear hg1 hw1 hs_0 hs_f0 hs_1 hs_f1 hs_2 hs_f2 hs_3 hs_f3 hs_4 hs_f4 hs_l hx_0 hx_f0 hx_1 hx_f1 hx_2 hx_f2 hx_3 hx_f3 hx_4 hx_f4 hx_l
  rename World => wz
  have HU1 := Lib.hid hu1; clear hu1
  have hs_0 := hs.cell 0; have hs_f0 := hs.free 0; have hs_1 := hs.cell 1; have hs_f1 := hs.free 1; have hs_2 := hs.cell 2; have hs_f2 := hs.free 2; have hs_3 := hs.cell 3; have hs_f3 := hs.free 3; have hs_4 := hs.cell 4; have hs_f4 := hs.free 4; have hs_l := hs.lt; have hk_0 := hk.cell 0; have hk_f0 := hk.free 0; have hk_1 := hk.cell 1; have hk_f1 := hk.free 1; have hk_l := hk.lt; have hx_0 := hx.cell 0; have hx_f0 := hx.free 0; have hx_1 := hx.cell 1; have hx_f1 := hx.free 1; have hx_2 := hx.cell 2; have hx_f2 := hx.free 2; have hx_3 := hx.cell 3; have hx_f3 := hx.free 3; have hx_4 := hx.cell 4; have hx_f4 := hx.free 4; have hx_l := hx.lt
  go_upto_region 5 with (fail)
  go_cut [2, 3, 4, 5, 6, 7, 8] (fun p2 p3 p4 p5 p6 p7 p8 wd => ∃ B2 A2 c2, p2 = .pointer (some ⟨w.heap.size, 0, none⟩) ∧ p3 = .pointer (some ⟨(w.heap.size + 1), 0, none⟩) ∧ p4 = .bool false ∧ p5 = .pointer (some ⟨B1, 0, none⟩) ∧ p6 = .bool true ∧ p7 = .pointer (some ⟨B2, 0, none⟩) ∧ p8 = .bool true ∧ wz.grownBy wd none ∧ Hx wd B2 [.string nm2, .int .i64 S.start, .int .i64 S.step, .slice A2 S.vals.length c2, .int .i64 S.cons] 24 ∧ ERow valE wd (.slice A2 S.vals.length c2) (offV (some (-kn)) (offV (some kn) S.vals)))
  case first =>
    have hgz := G.refl wz none
    go_wp2_with (go_at_call 8; (with_reducible refine (HA2.out _ _ _ (HU1.out.kept0 (by exact G.go hgz)) ?_ (Pow10.kept (w := w) HP.out (G.trans HG (by exact G.go hgz)))).mono ?_); (exact ERow.of_hx (ts := [(true, -kn)]) (by simp) (by decide) (Hx.new' (by simp) rfl)); rintro e wn ⟨A2, c2, rfl, hu2, hgn⟩; replace hgz := G.trans (w := wz) (by exact G.go hgz) hgn; clear hgn)
    go_meet
    exact ⟨_, _, _, rfl, rfl, rfl, rfl, rfl, rfl, rfl, (by exact G.go hgz), Hx.new' (by simp) rfl, hu2.alloc _⟩
  obtain ⟨B2, A2, c2, rfl, rfl, rfl, rfl, rfl, rfl, rfl, hgz, hy, hu2⟩ := hcut
  clear hs_0 hs_f0 hs_1 hs_f1 hs_2 hs_f2 hs_3 hs_f3 hs_4 hs_f4 hs_l hk_0 hk_f0 hk_1 hk_f1 hk_l hx_0 hx_f0 hx_1 hx_f1 hx_2 hx_f2 hx_3 hx_f3 hx_4 hx_f4 hx_l HA1 HA2
  replace HG := G.trans HG hgz
  replace hs := Hx.kept hs hgz (by simp)
  replace hx := Hx.kept hx hgz (by simp)
  have hu1 := HU1.out.kept0 hgz
  clear HU1 hgz hk
  rename World => wq
  obtain ⟨_, _, e1, -, -, r1⟩ := hu1
  obtain ⟨_, _, e2, -, -, r2⟩ := hu2
  rw [offV_len] at e1
  rw [offV_len, offV_len] at e2
  cases e1
  cases e2
  have R1 := Lib.hid r1; have R2 := Lib.hid r2; clear r1 r2
  have hs_0 := hs.cell 0; have hs_f0 := hs.free 0; have hs_1 := hs.cell 1; have hs_f1 := hs.free 1; have hs_2 := hs.cell 2; have hs_f2 := hs.free 2; have hs_3 := hs.cell 3; have hs_f3 := hs.free 3; have hs_4 := hs.cell 4; have hs_f4 := hs.free 4; have hs_l := hs.lt; have hx_0 := hx.cell 0; have hx_f0 := hx.free 0; have hx_1 := hx.cell 1; have hx_f1 := hx.free 1; have hx_2 := hx.cell 2; have hx_f2 := hx.free 2; have hx_3 := hx.cell 3; have hx_f3 := hx.free 3; have hx_4 := hx.cell 4; have hx_f4 := hx.free 4; have hx_l := hx.lt; have hy_0 := hy.cell 0; have hy_f0 := hy.free 0; have hy_1 := hy.cell 1; have hy_f1 := hy.free 1; have hy_2 := hy.cell 2; have hy_f2 := hy.free 2; have hy_3 := hy.cell 3; have hy_f3 := hy.free 3; have hy_4 := hy.cell 4; have hy_f4 := hy.free 4; have hy_l := hy.lt
  go_wp2_with fail
  go_loopw [9] (fun iv wr => ∃ (j : Nat), iv = .int .i64 j ∧ j ≤ S.vals.length ∧ wq.grownBy wr none) (fun iv _ => S.vals.length - (intOf iv).toNat)
  case atStart => exact ⟨0, rfl, by omega, (by have hb0 := (G.refl wq none); (repeat first | with_reducible exact hb0 | with_reducible refine G.drewN ?_ _ | with_reducible refine G.drew ?_ | with_reducible refine G.alloc ?_ _ | with_reducible refine G.set ?_ _ (Or.inr rfl) | (with_reducible refine G.set ?_ _ (Or.inl ?_); rotate_left; focus (first | omega | (simp; done) | (simp; omega)))))⟩
  case round =>
    obtain ⟨j, rfl, hj, hgq⟩ := hrel
    clear hs_0 hs_f0 hs_1 hs_f1 hs_2 hs_f2 hs_3 hs_f3 hs_4 hs_f4 hs_l hx_0 hx_f0 hx_1 hx_f1 hx_2 hx_f2 hx_3 hx_f3 hx_4 hx_f4 hx_l hy_0 hy_f0 hy_1 hy_f1 hy_2 hy_f2 hy_3 hy_f3 hy_4 hy_f4 hy_l
    replace hs := Hx.kept hs hgq (by simp); replace hx := Hx.kept hx hgq (by simp); replace hy := Hx.kept hy hgq (by simp)
    have hs_3 := hs.cell 3; have hs_l := hs.lt; have hx_3 := hx.cell 3; have hx_l := hx.lt; have hy_3 := hy.cell 3; have hy_l := hy.lt
    have HG2 := G.trans HG hgq
    by_cases hlt : j < S.vals.length
    · obtain ⟨b1, o1, rfl, hb1, hc1⟩ := Q3.out (by omega)
      obtain ⟨x0, x1⟩ := valCells hc1 HG2 hb1 hlt
      obtain ⟨b2, o2, rfl, hb2, hc2⟩ := R1.out (by rw [offV_len]; omega)
      have hlt1 : j < (offV (some kn) S.vals).length := by rw [offV_len]; exact hlt
      obtain ⟨y0, y1⟩ := valCells hc2 hgq hb2 hlt1
      obtain ⟨b3, o3, rfl, hb3, hc3⟩ := R2.out (by rw [offV_len, offV_len]; omega)
      have hlt2 : j < (offV (some (-kn)) (offV (some kn) S.vals)).length := by rw [offV_len, offV_len]; exact hlt
      obtain ⟨z0, z1⟩ := valCells hc3 hgq hb3 hlt2
      clear hc1 hc2 hc3
      have hR := hall.out j hlt
      have ea : (offV (some kn) S.vals)[j] = vP (sumO (vK S.vals[j].1 S.vals[j].2) (some kn)) := offV_at _ _ j hlt1 hlt
      have eb : (offV (some (-kn)) (offV (some kn) S.vals))[j] = vP (sumO (sumO (vK S.vals[j].1 S.vals[j].2) (some kn)) (some (-kn))) := by rw [offV_at _ _ j hlt2 hlt1, ea]; show vP (sumO (vK (vB (sumO (vK S.vals[j].1 S.vals[j].2) (some kn))) (vN (sumO (vK S.vals[j].1 S.vals[j].2) (some kn)))) (some (-kn))) = _; rw [vK_back (sumO_fits _ _)]
      have hbk := fun hh => off_back (k := kn) hR hh
      rw [ea] at y0 y1
      rw [eb] at z0 z1
      clear ea eb hR hlt1 hlt2
      generalize S.vals[j].1 = vb at *
      generalize S.vals[j].2 = vn at *
      rw [show (vP (sumO (vK vb vn) (some kn))).1 = vB (sumO (vK vb vn) (some kn)) from rfl] at y0
      cases hxb : vB (sumO (vK vb vn) (some kn))
      · rw [hxb] at y0
        clear hbk hxb
        generalize (vP (sumO (vK vb vn) (some kn))).2 = xn at *
        generalize vP (sumO (sumO (vK vb vn) (some kn)) (some (-kn))) = yv at *
        go_wp2_with fail
        go_quiet (fail)
        go_wp2_with fail
        refine ⟨?_, by first | (simp [intOf]; done) | (simp [intOf]; omega)⟩
        exact ⟨j + 1, by go_num, by omega, (by exact G.go hgq)⟩
      · rw [hxb] at y0
        rw [hbk hxb] at z0 z1
        clear hbk hxb
        generalize (vP (sumO (vK vb vn) (some kn))).2 = xn at *
        go_wp2_with fail
        go_quiet (fail)
        go_wp2_with fail
        refine ⟨?_, by first | (simp [intOf]; done) | (simp [intOf]; omega)⟩
        exact ⟨j + 1, by go_num, by omega, (by exact G.go hgq)⟩
    · clear R1 R2 hall
      go_wp2_with (go_at_call 9; (with_reducible refine (HK.out _ (Pow10.kept (w := w) HP.out (by exact G.go HG2))).mono ?_); rintro e wn ⟨rfl, hgn⟩; replace HG2 := G.trans (w := w) (by exact G.go HG2) hgn; clear hgn)
      go_ret
      exact ⟨rfl, (by exact G.go HG2)⟩
end Go.Proofs.YtfomknfjidbdcaaDoor
