/-
  The plain law of a part of a series, and the walk of the law. Printed by genplaces.py.
-/
import Derived.Test.YtfomknfjidbdcaaDoorFmBackW
namespace Go.Proofs.YtfomknfjidbdcaaDoor
open Go.RowKit
/-- the last ten bits -/
theorem and_1023 (n : Int) : ∃ m : Nat, bits .and .i64 n 1023 = (m : Int) ∧ m < 1024 := by
  have hlt : (BitVec.ofInt 64 n &&& BitVec.ofInt 64 1023).toNat < 1024 := by
    rw [BitVec.toNat_and]
    exact Nat.lt_of_le_of_lt Nat.and_le_right (by decide)
  refine ⟨(BitVec.ofInt 64 n &&& BitVec.ofInt 64 1023).toNat, ?_, hlt⟩
  show IntKind.i64.wrap ((BitVec.ofInt 64 n &&& BitVec.ofInt 64 1023).toNat : Nat) = _
  rw [IntKind.wrap_i64]
  omega
/-- the functions that are asked -/
def plN : List Nat := [11, 5, 7, 10, 8, 9, 12, 15]
/-- what one makes of a row -/
def plV (i : Nat) (s : Int) (k : Option Int) (X : List (Bool × Int)) : List (Bool × Int) := X.map fun p => vP (fmV i s true k none none (vK p.1 p.2))
theorem plV_len (i : Nat) (s : Int) (k : Option Int) (X : List (Bool × Int)) : (plV i s k X).length = X.length := by simp [plV]
theorem plV_at (i : Nat) (s : Int) (k : Option Int) (X : List (Bool × Int)) (j : Nat) (h : j < (plV i s k X).length) (h2 : j < X.length) : (plV i s k X)[j] = vP (fmV i s true k none none (vK X[j].1 X[j].2)) := List.getElem_map _
theorem fmV_pl {i : Nat} (hi : i ∈ plN) (s : Int) (k low high v : Option Int) : fmV i s true k low high v = fmV i s true k none none v := by
  simp only [plN, List.mem_cons, List.mem_nil_iff, or_false] at hi
  rcases hi with rfl | rfl | rfl | rfl | rfl | rfl | rfl | rfl <;> rfl
theorem fmIdx_pl {i : Nat} (hi : i ∈ plN) : fmIdx (fnN i) = some i ∧ fmNeed i ≤ 1 ∧ fmMost i = 1 := by
  simp only [plN, List.mem_cons, List.mem_nil_iff, or_false] at hi
  rcases hi with rfl | rfl | rfl | rfl | rfl | rfl | rfl | rfl <;> exact ⟨by decide, by decide, by decide⟩
theorem fnN_small {i : Nat} (hi : i ∈ plN) : (fnN i).size ≤ 100000 := by
  simp only [plN, List.mem_cons, List.mem_nil_iff, or_false] at hi
  rcases hi with rfl | rfl | rfl | rfl | rfl | rfl | rfl | rfl <;> decide
theorem fmApply_pl {S : Ser} (hS : isSer S = true) {i : Nat} (hi : i ∈ plN) (kb : Bool) (kn : Int) : ∃ nm, fmApply (fnN i) S [(kb, kn)] = some ⟨nm, S.start, S.step, plV i S.step (vK kb kn) S.vals, S.cons⟩ := by
  obtain ⟨h5, h6, h7⟩ := fmIdx_pl hi
  have hok : fmOk (fnN i) S [(kb, kn)].length = true := by
    unfold fmOk
    rw [h5, hS]
    show (true && (decide (fmNeed i ≤ 1) && decide (1 ≤ fmMost i))) = true
    rw [decide_eq_true h6, h7]; rfl
  refine ⟨labelB (fnN i) (labTexts S.name [(kb, kn)]), ?_⟩
  unfold fmApply
  rw [if_pos hok]
  unfold fmVals plV
  rw [h5]
  have : (fun p : Bool × Int => vP (fmV ((some i).getD 0) S.step (decide (0 < [(kb, kn)].length)) (kOf [(kb, kn)]) (aggO true S.vals) (aggO false S.vals) (vK p.1 p.2))) = fun p => vP (fmV i S.step true (vK kb kn) none none (vK p.1 p.2)) := by
    funext p
    exact congrArg vP (fmV_pl hi S.step (vK kb kn) _ _ _)
  rw [this]
/-- a part of a row -/
def cutL (X : List (Bool × Int)) (a b : Nat) : List (Bool × Int) := (X.take b).drop a
theorem cutL_len {X : List (Bool × Int)} {a b : Nat} (h : b ≤ X.length) : (cutL X a b).length = b - a := by simp [cutL]; omega
theorem cutL_at {X : List (Bool × Int)} {a b j : Nat} (h : j < (cutL X a b).length) (h2 : a + j < X.length) : (cutL X a b)[j] = X[a + j] := by simp [cutL]
theorem isSer_cut {S : Ser} (hS : isSer S = true) {a b : Nat} (h : b ≤ S.vals.length) : isSer ⟨S.name, S.start, S.step, cutL S.vals a b, S.cons⟩ = true := by
  unfold isSer isHead at hS ⊢
  simp only [Bool.and_eq_true, decide_eq_true_eq, cutL_len h] at hS ⊢
  obtain ⟨⟨a0, a1, a2, a3, a4, a5, a6, a7⟩, a8⟩ := hS
  refine ⟨⟨a0, a1, a2, a3, a4, by omega, a6, a7⟩, ?_⟩
  rw [List.all_eq_true] at a8 ⊢
  exact fun p hp => a8 p (List.mem_of_mem_take (List.mem_of_mem_drop hp))
theorem erow_cut {w : World} {A : Option Addr} {n c : Nat} {X : List (Bool × Int)} (h : ERow valE w (.slice A n c) X) {a b : Nat} (hab : a ≤ b) (hb : b ≤ X.length) :
    ERow valE w (.slice (if c = a then A else A.map (·.add (a * 2))) (b - a) (c - a)) (cutL X a b) := by
  obtain ⟨A', c', e, h1, h2, h3⟩ := h
  cases e
  have hl := cutL_len (a := a) hb
  refine ⟨_, _, by rw [hl], by rw [hl]; omega, by omega, fun hp => ?_⟩
  rw [hl] at hp
  obtain ⟨bb, oo, rfl, hbb, hc⟩ := h3 (by omega)
  refine ⟨bb, oo + a * 2, ?_, hbb, fun i hi j u hu => ?_⟩
  · rw [if_neg (by omega)]
    simp only [Option.map_some, Addr.add]
    split
    · rename_i h0; rw [h0]; rfl
    · rfl
  · rw [hl] at hi
    have hi2 : a + i < X.length := by omega
    rw [cutL_at (by rw [hl]; exact hi) hi2] at hu
    have := hc (a + i) hi2 j u hu
    have e1 : valE.k = 2 := rfl
    rw [e1] at this ⊢
    rw [show oo + a * 2 + i * 2 + j = oo + (a + i) * 2 + j by omega]
    exact this

set_option maxHeartbeats 16000000 in
set_option maxRecDepth 100000 in
theorem fmathPlaces_any (q0 : Int) (S : Ser) (sv : Value) (kb : Bool) (kn : Int) (fr up : Int) (w : World) (hq1 : -9223372036854775808 ≤ q0) (hq2 : q0 ≤ 9223372036854775807) (h : ERow valE w sv S.vals) (hk1 : -9223372036854775808 ≤ kn) (hk2 : kn ≤ 9223372036854775807) (hf1 : -9223372036854775808 ≤ fr) (hf2 : fr ≤ 9223372036854775807) (ht1 : -9223372036854775808 ≤ up) (ht2 : up ≤ 9223372036854775807) (hp : Pow10 w) : Calls Tryd.prog 4 #[.int .i64 q0, .agg #[.string S.name, .int .i64 S.start, .int .i64 S.step, sv, .int .i64 S.cons], .agg #[.bool kb, .int .i64 kn], .int .i64 fr, .int .i64 up] w fun e w' => e = .returned (.bool true) ∧ w.grownBy w' none := by
  have HG := G.refl w none
  have HP := Lib.hid hp; clear hp
  have HV := Lib.hid h
  have hle := h.le
  unfold maxLen at hle
  have HH := Lib.hid (fun w2 h B hs => heavy19_any S sv w2 h B hs)
  have hbig := Lib.hid (show bigS S = (decide (120 < S.vals.length) || decide (300 < S.name.size)) from rfl)
  have HI := Lib.hid (fun w2 h => refIs18_any S sv w2 h)
  have HK := Lib.hid (fun w2 hpp => lawKnown19_any w2 hpp)
  have HA := Lib.hid (fun w2 nm (X : Ser) u lv h hl hn h2 h3 hpp => fmApply_any nm X u lv [(kb, kn)] w2 h hl (by intro p hp; simp only [List.mem_singleton] at hp; subst hp; exact ⟨hk1, hk2⟩) hn h2 h3 (by simp) hpp)
  obtain ⟨A, c, rfl, q1, q2, q3⟩ := h
  have Q3 := Lib.hid q3; clear q3 q2
  go_enter Tryd.func4, Tryd.ntmps4
  go_upto_region 0 with (fail)
  go_cut [6, 7, 10] (fun p6 p7 p10 wc => p6 = .pointer (some ⟨w.heap.size, 0, none⟩) ∧ p7 = .pointer (some ⟨(w.heap.size + 1), 0, none⟩) ∧ p10 = .bool false ∧ w.grownBy wc none ∧ Hx wc w.heap.size [.string S.name, .int .i64 S.start, .int .i64 S.step, .slice A S.vals.length c, .int .i64 S.cons] 24 ∧ Hx wc (w.heap.size + 1) [.bool kb, .int .i64 kn] 26)
  case first =>
    go_wp2_with fail
    go_meet
    exact ⟨rfl, rfl, rfl, (by exact G.go HG), Hx.alloc (Hx.new _ _ _) _, Hx.new' (by simp) rfl⟩
  obtain ⟨rfl, rfl, rfl, HG, hs, hk⟩ := hcut
  rename World => wx
  have hs_0 := hs.cell 0; have hs_f0 := hs.free 0; have hs_1 := hs.cell 1; have hs_f1 := hs.free 1; have hs_2 := hs.cell 2; have hs_f2 := hs.free 2; have hs_3 := hs.cell 3; have hs_f3 := hs.free 3; have hs_4 := hs.cell 4; have hs_f4 := hs.free 4; have hs_l := hs.lt; have hk_0 := hk.cell 0; have hk_f0 := hk.free 0; have hk_1 := hk.cell 1; have hk_f1 := hk.free 1; have hk_l := hk.lt
  generalize bigS S = big at *
  cases big
  rotate_left
  · clear HA HK
    go_wp2_with (first | (go_at_call 5; (with_reducible refine (HH.out _ (HV.out.kept0 (by exact G.go HG)) _ ?_).mono ?_); (exact Hx.new' (by simp) rfl); rintro e wn ⟨rfl, hgn⟩; replace HG := G.trans (w := w) (by exact G.go HG) hgn; replace hs := Hx.kept (Hx.alloc hs _) hgn (by simp); replace hk := Hx.kept (Hx.alloc hk _) hgn (by simp); clear hs_0 hs_f0 hs_1 hs_f1 hs_2 hs_f2 hs_3 hs_f3 hs_4 hs_f4 hs_l hk_0 hk_f0 hk_1 hk_f1 hk_l; have hs_0 := hs.cell 0; have hs_f0 := hs.free 0; have hs_1 := hs.cell 1; have hs_f1 := hs.free 1; have hs_2 := hs.cell 2; have hs_f2 := hs.free 2; have hs_3 := hs.cell 3; have hs_f3 := hs.free 3; have hs_4 := hs.cell 4; have hs_f4 := hs.free 4; have hs_l := hs.lt; have hk_0 := hk.cell 0; have hk_f0 := hk.free 0; have hk_1 := hk.cell 1; have hk_f1 := hk.free 1; have hk_l := hk.lt; clear hgn) | (go_at_call 6; (with_reducible refine (HI.out _ (HV.out.kept0 (by exact G.go HG))).mono ?_); rintro e wn ⟨rfl, hgn⟩; replace HG := G.trans (w := w) (by exact G.go HG) hgn; replace hs := Hx.kept hs hgn (by simp); replace hk := Hx.kept hk hgn (by simp); clear hs_0 hs_f0 hs_1 hs_f1 hs_2 hs_f2 hs_3 hs_f3 hs_4 hs_f4 hs_l hk_0 hk_f0 hk_1 hk_f1 hk_l; have hs_0 := hs.cell 0; have hs_f0 := hs.free 0; have hs_1 := hs.cell 1; have hs_f1 := hs.free 1; have hs_2 := hs.cell 2; have hs_f2 := hs.free 2; have hs_3 := hs.cell 3; have hs_f3 := hs.free 3; have hs_4 := hs.cell 4; have hs_f4 := hs.free 4; have hs_l := hs.lt; have hk_0 := hk.cell 0; have hk_f0 := hk.free 0; have hk_1 := hk.cell 1; have hk_f1 := hk.free 1; have hk_l := hk.lt; clear hgn))
    go_ret
    exact ⟨rfl, (by exact G.go HG)⟩
  cases hS : isSer S
  · rw [hS] at HI
    clear HA HK hS
    go_wp2_with (first | (go_at_call 5; (with_reducible refine (HH.out _ (HV.out.kept0 (by exact G.go HG)) _ ?_).mono ?_); (exact Hx.new' (by simp) rfl); rintro e wn ⟨rfl, hgn⟩; replace HG := G.trans (w := w) (by exact G.go HG) hgn; replace hs := Hx.kept (Hx.alloc hs _) hgn (by simp); replace hk := Hx.kept (Hx.alloc hk _) hgn (by simp); clear hs_0 hs_f0 hs_1 hs_f1 hs_2 hs_f2 hs_3 hs_f3 hs_4 hs_f4 hs_l hk_0 hk_f0 hk_1 hk_f1 hk_l; have hs_0 := hs.cell 0; have hs_f0 := hs.free 0; have hs_1 := hs.cell 1; have hs_f1 := hs.free 1; have hs_2 := hs.cell 2; have hs_f2 := hs.free 2; have hs_3 := hs.cell 3; have hs_f3 := hs.free 3; have hs_4 := hs.cell 4; have hs_f4 := hs.free 4; have hs_l := hs.lt; have hk_0 := hk.cell 0; have hk_f0 := hk.free 0; have hk_1 := hk.cell 1; have hk_f1 := hk.free 1; have hk_l := hk.lt; clear hgn) | (go_at_call 6; (with_reducible refine (HI.out _ (HV.out.kept0 (by exact G.go HG))).mono ?_); rintro e wn ⟨rfl, hgn⟩; replace HG := G.trans (w := w) (by exact G.go HG) hgn; replace hs := Hx.kept hs hgn (by simp); replace hk := Hx.kept hk hgn (by simp); clear hs_0 hs_f0 hs_1 hs_f1 hs_2 hs_f2 hs_3 hs_f3 hs_4 hs_f4 hs_l hk_0 hk_f0 hk_1 hk_f1 hk_l; have hs_0 := hs.cell 0; have hs_f0 := hs.free 0; have hs_1 := hs.cell 1; have hs_f1 := hs.free 1; have hs_2 := hs.cell 2; have hs_f2 := hs.free 2; have hs_3 := hs.cell 3; have hs_f3 := hs.free 3; have hs_4 := hs.cell 4; have hs_f4 := hs.free 4; have hs_l := hs.lt; have hk_0 := hk.cell 0; have hk_f0 := hk.free 0; have hk_1 := hk.cell 1; have hk_f1 := hk.free 1; have hk_l := hk.lt; clear hgn))
    go_ret
    exact ⟨rfl, (by exact G.go HG)⟩
  rw [hS] at HI
  by_cases g1 : fr < 0
  · clear HA HK hS
    go_wp2_with (first | (go_at_call 5; (with_reducible refine (HH.out _ (HV.out.kept0 (by exact G.go HG)) _ ?_).mono ?_); (exact Hx.new' (by simp) rfl); rintro e wn ⟨rfl, hgn⟩; replace HG := G.trans (w := w) (by exact G.go HG) hgn; replace hs := Hx.kept (Hx.alloc hs _) hgn (by simp); replace hk := Hx.kept (Hx.alloc hk _) hgn (by simp); clear hs_0 hs_f0 hs_1 hs_f1 hs_2 hs_f2 hs_3 hs_f3 hs_4 hs_f4 hs_l hk_0 hk_f0 hk_1 hk_f1 hk_l; have hs_0 := hs.cell 0; have hs_f0 := hs.free 0; have hs_1 := hs.cell 1; have hs_f1 := hs.free 1; have hs_2 := hs.cell 2; have hs_f2 := hs.free 2; have hs_3 := hs.cell 3; have hs_f3 := hs.free 3; have hs_4 := hs.cell 4; have hs_f4 := hs.free 4; have hs_l := hs.lt; have hk_0 := hk.cell 0; have hk_f0 := hk.free 0; have hk_1 := hk.cell 1; have hk_f1 := hk.free 1; have hk_l := hk.lt; clear hgn) | (go_at_call 6; (with_reducible refine (HI.out _ (HV.out.kept0 (by exact G.go HG))).mono ?_); rintro e wn ⟨rfl, hgn⟩; replace HG := G.trans (w := w) (by exact G.go HG) hgn; replace hs := Hx.kept hs hgn (by simp); replace hk := Hx.kept hk hgn (by simp); clear hs_0 hs_f0 hs_1 hs_f1 hs_2 hs_f2 hs_3 hs_f3 hs_4 hs_f4 hs_l hk_0 hk_f0 hk_1 hk_f1 hk_l; have hs_0 := hs.cell 0; have hs_f0 := hs.free 0; have hs_1 := hs.cell 1; have hs_f1 := hs.free 1; have hs_2 := hs.cell 2; have hs_f2 := hs.free 2; have hs_3 := hs.cell 3; have hs_f3 := hs.free 3; have hs_4 := hs.cell 4; have hs_f4 := hs.free 4; have hs_l := hs.lt; have hk_0 := hk.cell 0; have hk_f0 := hk.free 0; have hk_1 := hk.cell 1; have hk_f1 := hk.free 1; have hk_l := hk.lt; clear hgn))
    go_ret
    exact ⟨rfl, (by exact G.go HG)⟩
  by_cases g2 : up < fr
  · clear HA HK hS
    go_wp2_with (first | (go_at_call 5; (with_reducible refine (HH.out _ (HV.out.kept0 (by exact G.go HG)) _ ?_).mono ?_); (exact Hx.new' (by simp) rfl); rintro e wn ⟨rfl, hgn⟩; replace HG := G.trans (w := w) (by exact G.go HG) hgn; replace hs := Hx.kept (Hx.alloc hs _) hgn (by simp); replace hk := Hx.kept (Hx.alloc hk _) hgn (by simp); clear hs_0 hs_f0 hs_1 hs_f1 hs_2 hs_f2 hs_3 hs_f3 hs_4 hs_f4 hs_l hk_0 hk_f0 hk_1 hk_f1 hk_l; have hs_0 := hs.cell 0; have hs_f0 := hs.free 0; have hs_1 := hs.cell 1; have hs_f1 := hs.free 1; have hs_2 := hs.cell 2; have hs_f2 := hs.free 2; have hs_3 := hs.cell 3; have hs_f3 := hs.free 3; have hs_4 := hs.cell 4; have hs_f4 := hs.free 4; have hs_l := hs.lt; have hk_0 := hk.cell 0; have hk_f0 := hk.free 0; have hk_1 := hk.cell 1; have hk_f1 := hk.free 1; have hk_l := hk.lt; clear hgn) | (go_at_call 6; (with_reducible refine (HI.out _ (HV.out.kept0 (by exact G.go HG))).mono ?_); rintro e wn ⟨rfl, hgn⟩; replace HG := G.trans (w := w) (by exact G.go HG) hgn; replace hs := Hx.kept hs hgn (by simp); replace hk := Hx.kept hk hgn (by simp); clear hs_0 hs_f0 hs_1 hs_f1 hs_2 hs_f2 hs_3 hs_f3 hs_4 hs_f4 hs_l hk_0 hk_f0 hk_1 hk_f1 hk_l; have hs_0 := hs.cell 0; have hs_f0 := hs.free 0; have hs_1 := hs.cell 1; have hs_f1 := hs.free 1; have hs_2 := hs.cell 2; have hs_f2 := hs.free 2; have hs_3 := hs.cell 3; have hs_f3 := hs.free 3; have hs_4 := hs.cell 4; have hs_f4 := hs.free 4; have hs_l := hs.lt; have hk_0 := hk.cell 0; have hk_f0 := hk.free 0; have hk_1 := hk.cell 1; have hk_f1 := hk.free 1; have hk_l := hk.lt; clear hgn))
    go_ret
    exact ⟨rfl, (by exact G.go HG)⟩
  by_cases g3 : (S.vals.length : Int) < up
  · clear HA HK hS
    go_wp2_with (first | (go_at_call 5; (with_reducible refine (HH.out _ (HV.out.kept0 (by exact G.go HG)) _ ?_).mono ?_); (exact Hx.new' (by simp) rfl); rintro e wn ⟨rfl, hgn⟩; replace HG := G.trans (w := w) (by exact G.go HG) hgn; replace hs := Hx.kept (Hx.alloc hs _) hgn (by simp); replace hk := Hx.kept (Hx.alloc hk _) hgn (by simp); clear hs_0 hs_f0 hs_1 hs_f1 hs_2 hs_f2 hs_3 hs_f3 hs_4 hs_f4 hs_l hk_0 hk_f0 hk_1 hk_f1 hk_l; have hs_0 := hs.cell 0; have hs_f0 := hs.free 0; have hs_1 := hs.cell 1; have hs_f1 := hs.free 1; have hs_2 := hs.cell 2; have hs_f2 := hs.free 2; have hs_3 := hs.cell 3; have hs_f3 := hs.free 3; have hs_4 := hs.cell 4; have hs_f4 := hs.free 4; have hs_l := hs.lt; have hk_0 := hk.cell 0; have hk_f0 := hk.free 0; have hk_1 := hk.cell 1; have hk_f1 := hk.free 1; have hk_l := hk.lt; clear hgn) | (go_at_call 6; (with_reducible refine (HI.out _ (HV.out.kept0 (by exact G.go HG))).mono ?_); rintro e wn ⟨rfl, hgn⟩; replace HG := G.trans (w := w) (by exact G.go HG) hgn; replace hs := Hx.kept hs hgn (by simp); replace hk := Hx.kept hk hgn (by simp); clear hs_0 hs_f0 hs_1 hs_f1 hs_2 hs_f2 hs_3 hs_f3 hs_4 hs_f4 hs_l hk_0 hk_f0 hk_1 hk_f1 hk_l; have hs_0 := hs.cell 0; have hs_f0 := hs.free 0; have hs_1 := hs.cell 1; have hs_f1 := hs.free 1; have hs_2 := hs.cell 2; have hs_f2 := hs.free 2; have hs_3 := hs.cell 3; have hs_f3 := hs.free 3; have hs_4 := hs.cell 4; have hs_f4 := hs.free 4; have hs_l := hs.lt; have hk_0 := hk.cell 0; have hk_f0 := hk.free 0; have hk_1 := hk.cell 1; have hk_f1 := hk.free 1; have hk_l := hk.lt; clear hgn))
    go_ret
    exact ⟨rfl, (by exact G.go HG)⟩
  obtain ⟨a, rfl⟩ : ∃ a : Nat, fr = a := ⟨fr.toNat, by omega⟩
  obtain ⟨b, rfl⟩ : ∃ b : Nat, up = b := ⟨up.toNat, by omega⟩
  have hab : a ≤ b := by omega
  have hbn : b ≤ S.vals.length := by omega
  have hb2 : (decide (120 < S.vals.length) || decide (300 < S.name.size)) = false := hbig.out.symm
  rw [Bool.or_eq_false_iff, decide_eq_false_iff_not, decide_eq_false_iff_not] at hb2
  have m3 : S.vals.length ≤ 1000000 := by omega
  have m2 : S.name.size ≤ 100000 := by omega
  clear hb2 hbig
  go_upto_region 3 with (first | (go_at_call 5; (with_reducible refine (HH.out _ (HV.out.kept0 (by exact G.go HG)) _ ?_).mono ?_); (exact Hx.new' (by simp) rfl); rintro e wn ⟨rfl, hgn⟩; replace HG := G.trans (w := w) (by exact G.go HG) hgn; replace hs := Hx.kept (Hx.alloc hs _) hgn (by simp); replace hk := Hx.kept (Hx.alloc hk _) hgn (by simp); clear hs_0 hs_f0 hs_1 hs_f1 hs_2 hs_f2 hs_3 hs_f3 hs_4 hs_f4 hs_l hk_0 hk_f0 hk_1 hk_f1 hk_l; have hs_0 := hs.cell 0; have hs_f0 := hs.free 0; have hs_1 := hs.cell 1; have hs_f1 := hs.free 1; have hs_2 := hs.cell 2; have hs_f2 := hs.free 2; have hs_3 := hs.cell 3; have hs_f3 := hs.free 3; have hs_4 := hs.cell 4; have hs_f4 := hs.free 4; have hs_l := hs.lt; have hk_0 := hk.cell 0; have hk_f0 := hk.free 0; have hk_1 := hk.cell 1; have hk_f1 := hk.free 1; have hk_l := hk.lt; clear hgn) | (go_at_call 6; (with_reducible refine (HI.out _ (HV.out.kept0 (by exact G.go HG))).mono ?_); rintro e wn ⟨rfl, hgn⟩; replace HG := G.trans (w := w) (by exact G.go HG) hgn; replace hs := Hx.kept hs hgn (by simp); replace hk := Hx.kept hk hgn (by simp); clear hs_0 hs_f0 hs_1 hs_f1 hs_2 hs_f2 hs_3 hs_f3 hs_4 hs_f4 hs_l hk_0 hk_f0 hk_1 hk_f1 hk_l; have hs_0 := hs.cell 0; have hs_f0 := hs.free 0; have hs_1 := hs.cell 1; have hs_f1 := hs.free 1; have hs_2 := hs.cell 2; have hs_f2 := hs.free 2; have hs_3 := hs.cell 3; have hs_f3 := hs.free 3; have hs_4 := hs.cell 4; have hs_f4 := hs.free 4; have hs_l := hs.lt; have hk_0 := hk.cell 0; have hk_f0 := hk.free 0; have hk_1 := hk.cell 1; have hk_f1 := hk.free 1; have hk_l := hk.lt; clear hgn))
  go_cut [6, 7, 10, 11] (fun p6 p7 p10 p11 wd => ∃ LB, p6 = .pointer (some ⟨w.heap.size, 0, none⟩) ∧ p7 = .pointer (some ⟨(w.heap.size + 1), 0, none⟩) ∧ p10 = .bool false ∧ p11 = .slice (some ⟨LB, 0, none⟩) 8 8 ∧ w.grownBy wd none ∧ Hx wd w.heap.size [.string S.name, .int .i64 S.start, .int .i64 S.step, .slice A S.vals.length c, .int .i64 S.cons] 24 ∧ Hx wd (w.heap.size + 1) [.bool kb, .int .i64 kn] 26 ∧ Hx wd LB (plN.map fun i => .string (fnN i)) 9)
  case first =>
    go_wp2_with fail
    go_meet
    exact ⟨_, rfl, rfl, rfl, rfl, (by exact G.go HG), (by first | exact Hx.go hs | exact Hx.go2), (by first | exact Hx.go hk | exact Hx.go2), Hx.new' rfl rfl⟩
  obtain ⟨LB, rfl, rfl, rfl, rfl, HG, hs, hk, hl⟩ := hcut
  clear HI HH hs_0 hs_f0 hs_1 hs_f1 hs_2 hs_f2 hs_3 hs_f3 hs_4 hs_f4 hs_l hk_0 hk_f0 hk_1 hk_f1 hk_l
  rename World => wy
  obtain ⟨m, hm, hm8⟩ := and_1023 q0
  have hmod : m % 8 < 8 := Nat.mod_lt _ (by omega)
  have hcell := hl.cell (m % 8)
  obtain ⟨i, hi, hie⟩ : ∃ i, i ∈ plN ∧ (plN.map fun i => Value.string (fnN i))[m % 8]? = some (.string (fnN i)) := ⟨plN[m % 8]'hmod, List.getElem_mem _, by rw [List.getElem?_map, List.getElem?_eq_getElem (show m % 8 < plN.length from hmod)]; rfl⟩
  rw [hie] at hcell
  have htm : ((m : Int)).tmod 8 = ((m % 8 : Nat) : Int) := by rw [Int.tmod_eq_emod_of_nonneg (by omega)]; omega
  generalize m % 8 = mq at *
  clear hm8
  go_upto_region 4 with (fail)
  go_cut [6, 7, 10, 12] (fun p6 p7 p10 p12 wd => p6 = .pointer (some ⟨w.heap.size, 0, none⟩) ∧ p7 = .pointer (some ⟨(w.heap.size + 1), 0, none⟩) ∧ p10 = .bool false ∧ p12 = .string (fnN i) ∧ wd = wy)
  case first =>
    have hcl := hl.lt
    go_wp2_with fail
    go_meet
    exact ⟨rfl, rfl, rfl, rfl, rfl⟩
  have hkw := hk.lt
  obtain ⟨rfl, rfl, rfl, rfl, rfl⟩ := hcut
  rename World => wy
  clear hm htm hcell hie hl hmod
  obtain ⟨nm1, e1⟩ := fmApply_pl hS hi kb kn
  obtain ⟨nm2, e2⟩ := fmApply_pl (isSer_cut hS (a := a) hbn) hi kb kn
  have hsz := fnN_small hi
  have HA1 := Lib.hid (fun w2 lv h hl hpp => (HA.out w2 (fnN i) S (.slice A S.vals.length c) lv h hl hsz m2 m3 hpp).mono fun e w3 hq => ser_post (plV_len _ _ _ _) e1 hq)
  have HA2 := Lib.hid (fun w2 u lv h hl hpp => (HA.out w2 (fnN i) ⟨S.name, S.start, S.step, cutL S.vals a b, S.cons⟩ u lv h hl hsz m2 (by rw [cutL_len hbn]; omega) hpp).mono fun e w3 hq => ser_post (show _ = b - a by rw [plV_len, cutL_len hbn]) e2 hq)
  clear HA e1 e2 hsz
  generalize fnN i = nm at *
  have hcn : b ≤ c := Nat.le_trans hbn q1
  have hs_0 := hs.cell 0; have hs_1 := hs.cell 1; have hs_2 := hs.cell 2; have hs_3 := hs.cell 3; have hs_4 := hs.cell 4; have hs_l := hs.lt
  go_upto_region 5 with (fail)
  go_cut [6, 7, 10, 12, 13] (fun p6 p7 p10 p12 p13 wd => ∃ B3, p6 = .pointer (some ⟨w.heap.size, 0, none⟩) ∧ p7 = .pointer (some ⟨(w.heap.size + 1), 0, none⟩) ∧ p10 = .bool false ∧ p12 = .string nm ∧ p13 = .pointer (some ⟨B3, 0, none⟩) ∧ w.grownBy wd none ∧ Hx wd w.heap.size [.string S.name, .int .i64 S.start, .int .i64 S.step, .slice A S.vals.length c, .int .i64 S.cons] 24 ∧ Hx wd (w.heap.size + 1) [.bool kb, .int .i64 kn] 26 ∧ Hx wd B3 [.string S.name, .int .i64 S.start, .int .i64 S.step, .slice A S.vals.length c, .int .i64 S.cons] 24 ∧ wy.heap.size ≤ B3 ∧ wy.grownBy wd none)
  case first =>
    go_wp2_with fail
    go_meet
    exact ⟨_, rfl, rfl, rfl, rfl, rfl, (by exact G.go HG), (by first | exact Hx.go hs | exact Hx.go2), (by first | exact Hx.go hk | exact Hx.go2), Hx.new' rfl rfl, Nat.le_refl _, G.alloc (G.refl _ _) _⟩
  obtain ⟨B3, rfl, rfl, rfl, rfl, rfl, HG2, hs, hk, hp3, hB3, hgy⟩ := hcut
  clear hs_0 hs_1 hs_2 hs_3 hs_4 hs_l
  have hBw := HG.size
  have hsl := hs.lt
  have hkl := hk.lt
  have hrow := erow_cut (HV.out.kept0 HG) hab hbn
  have hN1w : w.heap.size + 1 < wy.heap.size := hkw
  have hne1 : ¬ w.heap.size = B3 := by omega
  have hne2 : ¬ w.heap.size + 1 = B3 := by omega
  rename World => wz
  have f1 : (a : Int) ≤ b := by omega
  have f2 : (b : Int) ≤ c := by omega
  have hs_3 := hs.cell 3; have hp3_0 := hp3.cell 0; have hp3_f0 := hp3.free 0; have hp3_1 := hp3.cell 1; have hp3_f1 := hp3.free 1; have hp3_2 := hp3.cell 2; have hp3_f2 := hp3.free 2; have hp3_3 := hp3.cell 3; have hp3_f3 := hp3.free 3; have hp3_4 := hp3.cell 4; have hp3_f4 := hp3.free 4; have hp3_l := hp3.lt
  go_upto_region 6 with (fail)
  go_cut [6, 7, 10, 12, 13] (fun p6 p7 p10 p12 p13 wd => ∃ C1, p6 = .pointer (some ⟨w.heap.size, 0, none⟩) ∧ p7 = .pointer (some ⟨(w.heap.size + 1), 0, none⟩) ∧ p10 = .bool false ∧ p12 = .string nm ∧ p13 = .pointer (some ⟨B3, 0, none⟩) ∧ w.grownBy wd none ∧ Hx wd w.heap.size [.string S.name, .int .i64 S.start, .int .i64 S.step, .slice A S.vals.length c, .int .i64 S.cons] 24 ∧ Hx wd (w.heap.size + 1) [.bool kb, .int .i64 kn] 26 ∧ Hx wd B3 [.string S.name, .int .i64 S.start, .int .i64 S.step, .slice C1 (b - a) (c - a), .int .i64 S.cons] 24 ∧ wy.grownBy wd none ∧ ERow valE wy (.slice C1 (b - a) (c - a)) (cutL S.vals a b))
  case first =>
    by_cases hca : c = a
    · subst hca
      rw [if_pos rfl] at hrow
      go_wp2_with fail
      go_meet
      exact ⟨_, rfl, rfl, rfl, rfl, rfl, G.set HG2 _ (Or.inl (by show w.heap.size ≤ B3; omega)), Hx.other hs hne1 _ _, Hx.other hk hne2 _ _, Hx.conv (Hx.set hp3 _ _) (by rw [show b - c = 0 from by omega, Nat.sub_self]; rfl), G.set hgy _ (Or.inl hB3), hrow⟩
    · rw [if_neg hca] at hrow
      go_wp2_with fail
      go_meet
      exact ⟨_, rfl, rfl, rfl, rfl, rfl, G.set HG2 _ (Or.inl (by show w.heap.size ≤ B3; omega)), Hx.other hs hne1 _ _, Hx.other hk hne2 _ _, Hx.set hp3 _ _, G.set hgy _ (Or.inl hB3), hrow⟩
  obtain ⟨C1, rfl, rfl, rfl, rfl, rfl, HG3, hs, hk, hp3, hgy, hcr⟩ := hcut
  clear hrow HG2 HG hB3 hne1 hne2 hs_3 hp3_0 hp3_f0 hp3_1 hp3_f1 hp3_2 hp3_f2 hp3_3 hp3_f3 hp3_4 hp3_f4 hp3_l
  rename World => wv
  have HCR := Lib.hid (hcr.kept0 hgy)
  clear hcr hgy
  rename w.grownBy wv none => HG
  have hgv := G.refl wv none
  have hs_0 := hs.cell 0; have hs_f0 := hs.free 0; have hs_1 := hs.cell 1; have hs_f1 := hs.free 1; have hs_2 := hs.cell 2; have hs_f2 := hs.free 2; have hs_3 := hs.cell 3; have hs_f3 := hs.free 3; have hs_4 := hs.cell 4; have hs_f4 := hs.free 4; have hs_l := hs.lt; have hk_0 := hk.cell 0; have hk_f0 := hk.free 0; have hk_1 := hk.cell 1; have hk_f1 := hk.free 1; have hk_l := hk.lt; have hp3_0 := hp3.cell 0; have hp3_f0 := hp3.free 0; have hp3_1 := hp3.cell 1; have hp3_f1 := hp3.free 1; have hp3_2 := hp3.cell 2; have hp3_f2 := hp3.free 2; have hp3_3 := hp3.cell 3; have hp3_f3 := hp3.free 3; have hp3_4 := hp3.cell 4; have hp3_f4 := hp3.free 4; have hp3_l := hp3.lt
  go_upto_region 7 with (fail)
  go_cut [6, 7, 10, 12, 13, 14, 15] (fun p6 p7 p10 p12 p13 p14 p15 wd => ∃ B4 A4 c4, p6 = .pointer (some ⟨w.heap.size, 0, none⟩) ∧ p7 = .pointer (some ⟨(w.heap.size + 1), 0, none⟩) ∧ p10 = .bool false ∧ p12 = .string nm ∧ p13 = .pointer (some ⟨B3, 0, none⟩) ∧ p14 = .pointer (some ⟨B4, 0, none⟩) ∧ p15 = .bool true ∧ wv.grownBy wd none ∧ Hx wd B4 [.string nm1, .int .i64 S.start, .int .i64 S.step, .slice A4 S.vals.length c4, .int .i64 S.cons] 24 ∧ ERow valE wd (.slice A4 S.vals.length c4) (plV i S.step (vK kb kn) S.vals))
  case first =>
    go_wp2_with (go_at_call 8; (with_reducible refine (HA1.out _ _ (HV.out.kept0 (G.trans HG (by exact G.go hgv))) ?_ (Pow10.kept (w := w) HP.out (G.trans HG (by exact G.go hgv)))).mono ?_); (exact ERow.of_hx (ts := [(kb, kn)]) (by simp) (by decide) (Hx.new' (by simp) rfl)); rintro e wn ⟨A4, c4, rfl, hu1, hgn⟩; replace hgv := G.trans (w := wv) (by exact G.go hgv) hgn; clear hgn)
    go_meet
    exact ⟨_, _, _, rfl, rfl, rfl, rfl, rfl, rfl, rfl, (by exact G.go hgv), Hx.new' (by simp) rfl, hu1.alloc _⟩
  obtain ⟨B4, A4, c4, rfl, rfl, rfl, rfl, rfl, rfl, rfl, hgw, hx4, hu4⟩ := hcut
  clear hgv hs_0 hs_f0 hs_1 hs_f1 hs_2 hs_f2 hs_3 hs_f3 hs_4 hs_f4 hs_l hk_0 hk_f0 hk_1 hk_f1 hk_l hp3_0 hp3_f0 hp3_1 hp3_f1 hp3_2 hp3_f2 hp3_3 hp3_f3 hp3_4 hp3_f4 hp3_l HA1
  replace HG := G.trans HG hgw
  replace hs := Hx.kept hs hgw (by simp)
  replace hk := Hx.kept hk hgw (by simp)
  replace hp3 := Hx.kept hp3 hgw (by simp)
  replace HCR := Lib.hid (HCR.out.kept0 hgw)
  have HU4 := Lib.hid hu4
  clear hu4 hgw
  rename World => wu
  have hgv := G.refl wu none
  have hp3_0 := hp3.cell 0; have hp3_f0 := hp3.free 0; have hp3_1 := hp3.cell 1; have hp3_f1 := hp3.free 1; have hp3_2 := hp3.cell 2; have hp3_f2 := hp3.free 2; have hp3_3 := hp3.cell 3; have hp3_f3 := hp3.free 3; have hp3_4 := hp3.cell 4; have hp3_f4 := hp3.free 4; have hp3_l := hp3.lt; have hk_0 := hk.cell 0; have hk_f0 := hk.free 0; have hk_1 := hk.cell 1; have hk_f1 := hk.free 1; have hk_l := hk.lt
  go_upto_region 8 with (fail)
  go_cut [6, 7, 10, 12, 13, 14, 15, 16, 17] (fun p6 p7 p10 p12 p13 p14 p15 p16 p17 wd => ∃ B5 A5 c5, p6 = .pointer (some ⟨w.heap.size, 0, none⟩) ∧ p7 = .pointer (some ⟨(w.heap.size + 1), 0, none⟩) ∧ p10 = .bool false ∧ p12 = .string nm ∧ p13 = .pointer (some ⟨B3, 0, none⟩) ∧ p14 = .pointer (some ⟨B4, 0, none⟩) ∧ p15 = .bool true ∧ p16 = .pointer (some ⟨B5, 0, none⟩) ∧ p17 = .bool true ∧ wu.grownBy wd none ∧ Hx wd B5 [.string nm2, .int .i64 S.start, .int .i64 S.step, .slice A5 (b - a) c5, .int .i64 S.cons] 24 ∧ ERow valE wd (.slice A5 (b - a) c5) (plV i S.step (vK kb kn) (cutL S.vals a b)))
  case first =>
    go_wp2_with (go_at_call 8; (with_reducible refine (HA2.out _ _ _ (HCR.out.kept0 (by exact G.go hgv)) ?_ (Pow10.kept (w := w) HP.out (G.trans HG (by exact G.go hgv)))).mono ?_); (exact ERow.of_hx (ts := [(kb, kn)]) (by simp) (by decide) (Hx.new' (by simp) rfl)); rintro e wn ⟨A5, c5, rfl, hu5, hgn⟩; replace hgv := G.trans (w := wu) (by exact G.go hgv) hgn; clear hgn)
    go_meet
    exact ⟨_, _, _, rfl, rfl, rfl, rfl, rfl, rfl, rfl, rfl, rfl, (by exact G.go hgv), Hx.new' (by simp) rfl, hu5.alloc _⟩
  obtain ⟨B5, A5, c5, rfl, rfl, rfl, rfl, rfl, rfl, rfl, rfl, rfl, hgw, hx5, hu5⟩ := hcut
  clear hgv hp3_0 hp3_f0 hp3_1 hp3_f1 hp3_2 hp3_f2 hp3_3 hp3_f3 hp3_4 hp3_f4 hp3_l hk_0 hk_f0 hk_1 hk_f1 hk_l HA2 HCR hp3
  replace HG := G.trans HG hgw
  replace hs := Hx.kept hs hgw (by simp)
  replace hx4 := Hx.kept hx4 hgw (by simp)
  have hu4 := HU4.out.kept0 hgw
  clear HU4 hgw hk
  rename World => wq
  obtain ⟨_, _, e1, -, -, r1⟩ := hu4
  obtain ⟨_, _, e2, -, -, r2⟩ := hu5
  rw [plV_len] at e1
  rw [plV_len, cutL_len hbn] at e2
  cases e1
  cases e2
  have R1 := Lib.hid r1; have R2 := Lib.hid r2; clear r1 r2
  have hbs : ((b - a : Nat) : Int) = (b : Int) - (a : Int) := by omega
  have hwr : IntKind.i64.wrap ((b : Int) - (a : Int)) = (b : Int) - (a : Int) := by rw [IntKind.wrap_i64]; omega
  have hs_0 := hs.cell 0; have hs_f0 := hs.free 0; have hs_1 := hs.cell 1; have hs_f1 := hs.free 1; have hs_2 := hs.cell 2; have hs_f2 := hs.free 2; have hs_3 := hs.cell 3; have hs_f3 := hs.free 3; have hs_4 := hs.cell 4; have hs_f4 := hs.free 4; have hs_l := hs.lt; have hx4_0 := hx4.cell 0; have hx4_f0 := hx4.free 0; have hx4_1 := hx4.cell 1; have hx4_f1 := hx4.free 1; have hx4_2 := hx4.cell 2; have hx4_f2 := hx4.free 2; have hx4_3 := hx4.cell 3; have hx4_f3 := hx4.free 3; have hx4_4 := hx4.cell 4; have hx4_f4 := hx4.free 4; have hx4_l := hx4.lt; have hx5_0 := hx5.cell 0; have hx5_f0 := hx5.free 0; have hx5_1 := hx5.cell 1; have hx5_f1 := hx5.free 1; have hx5_2 := hx5.cell 2; have hx5_f2 := hx5.free 2; have hx5_3 := hx5.cell 3; have hx5_f3 := hx5.free 3; have hx5_4 := hx5.cell 4; have hx5_f4 := hx5.free 4; have hx5_l := hx5.lt
  go_wp2_with fail
  go_loopw [18] (fun iv wr => ∃ (d : Nat), iv = .int .i64 ((a + d : Nat) : Int) ∧ a + d ≤ b ∧ wq.grownBy wr none) (fun iv _ => b - (intOf iv).toNat)
  case atStart => exact ⟨0, rfl, by omega, (by have hb0 := (G.refl wq none); (repeat first | with_reducible exact hb0 | with_reducible refine G.drewN ?_ _ | with_reducible refine G.drew ?_ | with_reducible refine G.alloc ?_ _ | with_reducible refine G.set ?_ _ (Or.inr rfl) | (with_reducible refine G.set ?_ _ (Or.inl ?_); rotate_left; focus (first | omega | (simp; done) | (simp; omega)))))⟩
  case round =>
    obtain ⟨d, rfl, hd, hgq⟩ := hrel
    clear hs_0 hs_f0 hs_1 hs_f1 hs_2 hs_f2 hs_3 hs_f3 hs_4 hs_f4 hs_l hx4_0 hx4_f0 hx4_1 hx4_f1 hx4_2 hx4_f2 hx4_3 hx4_f3 hx4_4 hx4_f4 hx4_l hx5_0 hx5_f0 hx5_1 hx5_f1 hx5_2 hx5_f2 hx5_3 hx5_f3 hx5_4 hx5_f4 hx5_l
    replace hx4 := Hx.kept hx4 hgq (by simp); replace hx5 := Hx.kept hx5 hgq (by simp)
    have hx4_3 := hx4.cell 3; have hx4_l := hx4.lt; have hx5_3 := hx5.cell 3; have hx5_l := hx5.lt
    have HG2 := G.trans HG hgq
    by_cases hlt : a + d < b
    · have l1 : a + d < (plV i S.step (vK kb kn) S.vals).length := by rw [plV_len]; omega
      have l2 : d < (plV i S.step (vK kb kn) (cutL S.vals a b)).length := by rw [plV_len, cutL_len hbn]; omega
      obtain ⟨b4, o4, rfl, hb4, hc4⟩ := R1.out (by omega)
      obtain ⟨y0, y1⟩ := valCells hc4 hgq hb4 l1
      obtain ⟨b5, o5, rfl, hb5, hc5⟩ := R2.out (by omega)
      obtain ⟨z0, z1⟩ := valCells hc5 hgq hb5 l2
      clear hc4 hc5
      have l3 : d < (cutL S.vals a b).length := by rw [cutL_len hbn]; omega
      have l4 : a + d < S.vals.length := by omega
      have ee : (plV i S.step (vK kb kn) (cutL S.vals a b))[d] = (plV i S.step (vK kb kn) S.vals)[a + d] := by rw [plV_at _ _ _ _ d l2 l3, plV_at _ _ _ _ (a + d) l1 l4, cutL_at l3 l4]
      rw [ee] at z0 z1
      clear ee
      generalize (plV i S.step (vK kb kn) S.vals)[a + d].1 = vb at *
      generalize (plV i S.step (vK kb kn) S.vals)[a + d].2 = vn at *
      clear l1 l2 l3 l4 hwr hbs
      have hsub : IntKind.i64.wrap (((a + d : Nat) : Int) - (a : Int)) = (d : Int) := by rw [IntKind.wrap_i64]; omega
      have hdb : (d : Int) < ((b - a : Nat) : Int) := by omega
      go_wp2_with fail
      go_quiet (fail)
      go_wp2_with fail
      refine ⟨?_, by first | (simp [intOf]; done) | (simp [intOf]; omega)⟩
      exact ⟨d + 1, by go_num, by omega, (by exact G.go hgq)⟩
    · go_wp2_with (go_at_call 9; (with_reducible refine (HK.out _ (Pow10.kept (w := w) HP.out (by exact G.go HG2))).mono ?_); rintro e wn ⟨rfl, hgn⟩; replace HG2 := G.trans (w := w) (by exact G.go HG2) hgn; clear hgn)
      go_ret
      exact ⟨rfl, (by exact G.go HG2)⟩
end Go.Proofs.YtfomknfjidbdcaaDoor
