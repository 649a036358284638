/-
  The walk of fmath.Apply. Printed by genfmapply.py.
-/
import Derived.Test.YtfomknfjidbdcaaGreatDoorFmDoesG
import Derived.Test.YtfomknfjidbdcaaGreatDoorFmFind
import Derived.Test.YtfomknfjidbdcaaGreatDoorSerIs
import Derived.Test.YtfomknfjidbdcaaGreatDoorSerLabel
import Derived.Test.YtfomknfjidbdcaaGreatDoorRefLabel
import Derived.Test.YtfomknfjidbdcaaGreatDoorDecPrint
namespace Go.Proofs.YtfomknfjidbdcaaGreatDoor
open Go.RowKit
/-- where a walk is to stand still -/
def StopP (p : Prop) : Prop := p
theorem stop_of {p : Prop} (h : StopP p) : p := h
theorem fmRows_len (p : Nat → Nat) : (fmRows p).length = 16 := rfl
theorem fmIdx_none {p : Nat → Nat} {nm : ByteArray} (h : ∀ j (hj : j < (fmRows p).length), (fmRows p)[j].name ≠ nm) : fmIdx nm = none := by
  have h0 : nm ≠ fn0 := fun e => h 0 (by rw [fmRows_len]; omega) e.symm
  have h1 : nm ≠ fn1 := fun e => h 1 (by rw [fmRows_len]; omega) e.symm
  have h2 : nm ≠ fn2 := fun e => h 2 (by rw [fmRows_len]; omega) e.symm
  have h3 : nm ≠ fn3 := fun e => h 3 (by rw [fmRows_len]; omega) e.symm
  have h4 : nm ≠ fn4 := fun e => h 4 (by rw [fmRows_len]; omega) e.symm
  have h5 : nm ≠ fn5 := fun e => h 5 (by rw [fmRows_len]; omega) e.symm
  have h6 : nm ≠ fn6 := fun e => h 6 (by rw [fmRows_len]; omega) e.symm
  have h7 : nm ≠ fn7 := fun e => h 7 (by rw [fmRows_len]; omega) e.symm
  have h8 : nm ≠ fn8 := fun e => h 8 (by rw [fmRows_len]; omega) e.symm
  have h9 : nm ≠ fn9 := fun e => h 9 (by rw [fmRows_len]; omega) e.symm
  have h10 : nm ≠ fn10 := fun e => h 10 (by rw [fmRows_len]; omega) e.symm
  have h11 : nm ≠ fn11 := fun e => h 11 (by rw [fmRows_len]; omega) e.symm
  have h12 : nm ≠ fn12 := fun e => h 12 (by rw [fmRows_len]; omega) e.symm
  have h13 : nm ≠ fn13 := fun e => h 13 (by rw [fmRows_len]; omega) e.symm
  have h14 : nm ≠ fn14 := fun e => h 14 (by rw [fmRows_len]; omega) e.symm
  have h15 : nm ≠ fn15 := fun e => h 15 (by rw [fmRows_len]; omega) e.symm
  unfold fmIdx
  simp only [if_neg h0, if_neg h1, if_neg h2, if_neg h3, if_neg h4, if_neg h5, if_neg h6, if_neg h7, if_neg h8, if_neg h9, if_neg h10, if_neg h11, if_neg h12, if_neg h13, if_neg h14, if_neg h15]
theorem fmIdx_some {p : Nat → Nat} {nm : ByteArray} : ∀ (i : Nat) (h : i < (fmRows p).length), (fmRows p)[i].name = nm → fmIdx nm = some i
  | 0, _, h => by have e : fn0 = nm := h; subst e; decide
  | 1, _, h => by have e : fn1 = nm := h; subst e; decide
  | 2, _, h => by have e : fn2 = nm := h; subst e; decide
  | 3, _, h => by have e : fn3 = nm := h; subst e; decide
  | 4, _, h => by have e : fn4 = nm := h; subst e; decide
  | 5, _, h => by have e : fn5 = nm := h; subst e; decide
  | 6, _, h => by have e : fn6 = nm := h; subst e; decide
  | 7, _, h => by have e : fn7 = nm := h; subst e; decide
  | 8, _, h => by have e : fn8 = nm := h; subst e; decide
  | 9, _, h => by have e : fn9 = nm := h; subst e; decide
  | 10, _, h => by have e : fn10 = nm := h; subst e; decide
  | 11, _, h => by have e : fn11 = nm := h; subst e; decide
  | 12, _, h => by have e : fn12 = nm := h; subst e; decide
  | 13, _, h => by have e : fn13 = nm := h; subst e; decide
  | 14, _, h => by have e : fn14 = nm := h; subst e; decide
  | 15, _, h => by have e : fn15 = nm := h; subst e; decide
  | n + 16, h, _ => by rw [fmRows_len] at h; omega
theorem fmRow_at (p : Nat → Nat) : ∀ (i : Nat) (h : i < (fmRows p).length), (fmRows p)[i].need = fmNeed i ∧ (fmRows p)[i].most = fmMost i ∧ ∀ args w, (callFunc (fmRows p)[i].fn args).run Tryz.prog w = .ok (.enter (fmRows p)[i].fn args) w
  | 0, _ => ⟨rfl, rfl, enters_of Tryz.func95 (by kernel_rfl) rfl⟩
  | 1, _ => ⟨rfl, rfl, enters_of Tryz.func95 (by kernel_rfl) rfl⟩
  | 2, _ => ⟨rfl, rfl, enters_of Tryz.func48 (by kernel_rfl) rfl⟩
  | 3, _ => ⟨rfl, rfl, enters_of Tryz.func95 (by kernel_rfl) rfl⟩
  | 4, _ => ⟨rfl, rfl, enters_of Tryz.func95 (by kernel_rfl) rfl⟩
  | 5, _ => ⟨rfl, rfl, enters_of Tryz.func95 (by kernel_rfl) rfl⟩
  | 6, _ => ⟨rfl, rfl, enters_of Tryz.func95 (by kernel_rfl) rfl⟩
  | 7, _ => ⟨rfl, rfl, enters_of Tryz.func95 (by kernel_rfl) rfl⟩
  | 8, _ => ⟨rfl, rfl, enters_of Tryz.func57 (by kernel_rfl) rfl⟩
  | 9, _ => ⟨rfl, rfl, enters_of Tryz.func58 (by kernel_rfl) rfl⟩
  | 10, _ => ⟨rfl, rfl, enters_of Tryz.func95 (by kernel_rfl) rfl⟩
  | 11, _ => ⟨rfl, rfl, enters_of Tryz.func95 (by kernel_rfl) rfl⟩
  | 12, _ => ⟨rfl, rfl, enters_of Tryz.func95 (by kernel_rfl) rfl⟩
  | 13, _ => ⟨rfl, rfl, enters_of Tryz.func95 (by kernel_rfl) rfl⟩
  | 14, _ => ⟨rfl, rfl, enters_of Tryz.func95 (by kernel_rfl) rfl⟩
  | 15, _ => ⟨rfl, rfl, enters_of Tryz.func66 (by kernel_rfl) rfl⟩
  | n + 16, h => by rw [fmRows_len] at h; omega
/-- the first arg, if it is a number -/
def kOf (L : List (Bool × Int)) : Option Int := match L with | [] => none | p :: _ => vK p.1 p.2
/-- may a function be called so? -/
def fmOk (nm : ByteArray) (S : Ser) (n : Nat) : Bool := match fmIdx nm with | none => false | some i => isSer S && (decide (fmNeed i ≤ n) && decide (n ≤ fmMost i))
/-- the values that it makes -/
def fmVals (nm : ByteArray) (S : Ser) (L : List (Bool × Int)) : List (Bool × Int) := S.vals.map fun p => vP (fmV ((fmIdx nm).getD 0) S.step (decide (0 < L.length)) (kOf L) (aggO true S.vals) (aggO false S.vals) (vK p.1 p.2))
/-- what a function makes of a series -/
def fmApply (nm : ByteArray) (S : Ser) (L : List (Bool × Int)) : Option Ser := if fmOk nm S L.length then some ⟨labelB nm (labTexts S.name L), S.start, S.step, fmVals nm S L, S.cons⟩ else none
/-- a series, if there is one, handed back -/
def SerPost (x : Option Ser) (w : World) (e : Ending) (w' : World) : Prop := ∃ u, e = .returned (.tuple #[.agg #[.string (x.getD Ser.none).name, .int .i64 (x.getD Ser.none).start, .int .i64 (x.getD Ser.none).step, u, .int .i64 (x.getD Ser.none).cons], .bool x.isSome]) ∧ ERow valE w' u (x.getD Ser.none).vals ∧ w.grownBy w' none
theorem fmCells {W : World} {LB : Nat} {p : Nat → Nat} {T : TypeId} (h : Hx W LB ((fmRows p).flatMap frowE.cells) T) {i : Nat} (hi : i < 16) : W.cell? ⟨LB, i * 4 + 1, none⟩ = some (.int .i64 (fmNeed i)) ∧ W.cell? ⟨LB, i * 4 + 2, none⟩ = some (.int .i64 (fmMost i)) ∧ W.cell? ⟨LB, i * 4 + 3, none⟩ = some ((fmRows p)[i]'(by rw [fmRows_len]; exact hi)).f := by
  have hi' : i < (fmRows p).length := by rw [fmRows_len]; exact hi
  obtain ⟨e1, e2, _⟩ := fmRow_at p i hi'
  have c1 := frowE.flat_at (fmRows p) i hi' 1 _ rfl
  have c2 := frowE.flat_at (fmRows p) i hi' 2 _ rfl
  have c3 := frowE.flat_at (fmRows p) i hi' 3 _ rfl
  rw [e1] at c1
  rw [e2] at c2
  exact ⟨(h.cell _).trans c1, (h.cell _).trans c2, (h.cell _).trans c3⟩
theorem fmMost_le (i : Nat) : fmMost i ≤ 1 := by unfold fmMost; split <;> omega
theorem isSer_parts {S : Ser} (h : isSer S = true) : (1 ≤ S.step ∧ S.step ≤ 1099511627776) ∧ 0 ≤ S.start ∧ S.start ≤ 4294967295 ∧ S.vals.length ≤ 131072 ∧ 0 ≤ S.cons ∧ S.cons ≤ 5 ∧ S.vals.all (fun p => isR p.1 p.2) = true := by
  unfold isSer isHead at h
  simp only [Bool.and_eq_true, decide_eq_true_eq] at h
  obtain ⟨⟨_, a1, a2, a3, a4, a5, a6, a7⟩, a8⟩ := h
  exact ⟨⟨a3, a4⟩, a1, a2, a5, a6, a7, a8⟩
def kAt (L : List (Bool × Int)) (i : Nat) : Option Int := if i = 0 then none else kOf L
theorem kAt_end {L : List (Bool × Int)} {i : Nat} (h : i = L.length) : kAt L i = kOf L := by
  unfold kAt
  split
  · rename_i h0; rw [h0] at h; have : L = [] := List.eq_nil_of_length_eq_zero h.symm; subst this; rfl
  · rfl
theorem bestL_bound (lo : Bool) : ∀ (K : List (Bool × Int)) (a : Int), (-4611686018427387904 ≤ a ∧ a ≤ 4611686018427387904) → (∀ p ∈ K, -4611686018427387904 ≤ p.2 ∧ p.2 ≤ 4611686018427387904) → -4611686018427387904 ≤ bestL lo a K ∧ bestL lo a K ≤ 4611686018427387904
  | [], a, h, _ => h
  | p :: K, a, h, hK => by
    show -4611686018427387904 ≤ bestL lo (bestF lo a p.2) K ∧ _
    refine bestL_bound lo K _ ?_ (fun q hq => hK q (by simp [hq]))
    have hb : bestF lo a p.2 = p.2 ∨ bestF lo a p.2 = a := by
      unfold bestF
      by_cases hq : (if lo then decide (p.2 < a) else decide (a < p.2)) = true
      · exact Or.inl (if_pos hq)
      · exact Or.inr (if_neg hq)
    rcases hb with e | e <;> rw [e]
    · exact hK p (by simp)
    · exact h
theorem aggO_fits (lo : Bool) (X : List (Bool × Int)) : Fits (aggO lo X) := by
  have hm : ∀ p ∈ knownL X, -4611686018427387904 ≤ p.2 ∧ p.2 ≤ 4611686018427387904 := by
    intro p hp
    obtain ⟨i, hi, rfl⟩ := List.getElem_of_mem hp
    exact (known_at hi).2
  intro n h
  unfold aggO at h
  cases hk : knownL X with
  | nil => rw [hk] at h; cases h
  | cons p r =>
    rw [hk] at h hm
    have h : bestL lo p.2 (p :: r) = n := Option.some.inj h
    subst h
    exact bestL_bound lo _ _ (hm p (by simp)) hm
theorem kOf_fits (L : List (Bool × Int)) : Fits (kOf L) := by
  cases L with
  | nil => exact none_fits
  | cons p r => exact vK_fits _ _
theorem map_take_step {α β : Type} {f : α → β} {X : List α} {j : Nat} (h : j < X.length) : (X.map f).take (j + 1) = (X.map f).take j ++ [f X[j]] := by
  rw [List.take_add_one]
  simp [h]

set_option maxHeartbeats 16000000 in
set_option maxRecDepth 100000 in
theorem fmApply_any (nm : ByteArray) (S : Ser) (sv lv : Value) (L : List (Bool × Int)) (w : World) (h : ERow valE w sv S.vals) (hl : ERow valE w lv L) (hF : ∀ p ∈ L, -9223372036854775808 ≤ p.2 ∧ p.2 ≤ 9223372036854775807) (h1 : nm.size ≤ 100000) (h2 : S.name.size ≤ 100000) (h3 : S.vals.length ≤ 1000000) (h4 : L.length ≤ 100) (hp : Pow10 w) :
    Calls Tryz.prog 26 #[.string nm, .agg #[.string S.name, .int .i64 S.start, .int .i64 S.step, sv, .int .i64 S.cons], lv] w fun e w' => SerPost (fmApply nm S L) w e w' := by
  have HG := G.refl w none
  have HP := Lib.hid hp; clear hp
  have HF := Lib.hid hF; clear hF
  have HV := Lib.hid h
  have HLV := Lib.hid hl
  obtain ⟨A, c, rfl, q1, q2, q3⟩ := h
  have Q3 := Lib.hid q3; clear q3
  obtain ⟨A2, c2, rfl, r1, r2, r3⟩ := hl
  have R3 := Lib.hid r3; clear r3
  obtain ⟨V, hV⟩ : ∃ V, Hid (fmApply nm S L = V) := ⟨_, Lib.hid rfl⟩
  rw [hV.out]
  have hQ : Hid (V = if fmOk nm S L.length then some ⟨labelB nm (labTexts S.name L), S.start, S.step, fmVals nm S L, S.cons⟩ else none) := Lib.hid hV.out.symm
  clear hV
  obtain ⟨ok, hokd⟩ : ∃ ok, Hid (fmOk nm S L.length = ok) := ⟨_, Lib.hid rfl⟩
  rw [hokd.out] at hQ
  have hOk := Lib.hid (show fmOk nm S L.length = (match fmIdx nm with | none => false | some i => isSer S && (decide (fmNeed i ≤ L.length) && decide (L.length ≤ fmMost i))) from rfl)
  go_enter Tryz.func26, Tryz.ntmps26
  go_upto_region 0 with (fail)
  go_cut [3, 4, 6, 7] (fun p3 p4 p6 p7 wc => p3 = .pointer (some ⟨w.heap.size, 0, none⟩) ∧ p4 = .pointer (some ⟨(w.heap.size + 1), 0, none⟩) ∧ p6 = .pointer (some ⟨(w.heap.size + 1 + 1), 0, none⟩) ∧ p7 = .bool false ∧ w.grownBy wc none ∧ Hx wc w.heap.size [.string nm] 9 ∧ Hx wc (w.heap.size + 1) [.string S.name, .int .i64 S.start, .int .i64 S.step, .slice A S.vals.length c, .int .i64 S.cons] 24 ∧ Hx wc (w.heap.size + 1 + 1) [.string ⟨#[]⟩, .int .i64 0, .int .i64 0, .slice none 0 0, .int .i64 0] 24)
  case first =>
    go_wp2_with fail
    go_meet
    exact ⟨rfl, rfl, rfl, rfl, (by exact G.go HG), Hx.alloc (Hx.alloc (Hx.new _ _ _) _) _, Hx.alloc (Hx.new' (by simp) rfl) _, Hx.new' (by simp) rfl⟩
  obtain ⟨rfl, rfl, rfl, rfl, HG, hn, hs, hr⟩ := hcut
  go_upto_region 1 with (fail)
  go_cut [3, 4, 6, 7, 8] (fun p3 p4 p6 p7 p8 wd => ∃ LB p, p3 = .pointer (some ⟨w.heap.size, 0, none⟩) ∧ p4 = .pointer (some ⟨(w.heap.size + 1), 0, none⟩) ∧ p6 = .pointer (some ⟨(w.heap.size + 1 + 1), 0, none⟩) ∧ p7 = .bool false ∧ p8 = .slice (some ⟨LB, 0, none⟩) 16 16 ∧ w.grownBy wd none ∧ Hx wd w.heap.size [.string nm] 9 ∧ Hx wd (w.heap.size + 1) [.string S.name, .int .i64 S.start, .int .i64 S.step, .slice A S.vals.length c, .int .i64 S.cons] 24 ∧ Hx wd (w.heap.size + 1 + 1) [.string ⟨#[]⟩, .int .i64 0, .int .i64 0, .slice none 0 0, .int .i64 0] 24 ∧ Hx wd LB ((fmRows p).flatMap frowE.cells) 45 ∧ fmBoxes wd p)
  case first =>
    go_wp2_with (go_at_call 29; (with_reducible refine (fmRows_any _).mono ?_); rintro e wn ⟨LB, p, rfl, hLB, hbx, hgn⟩; replace HG := G.trans (w := w) (by exact G.go HG) hgn; replace hn := Hx.kept hn hgn (by simp); replace hs := Hx.kept hs hgn (by simp); replace hr := Hx.kept hr hgn (by simp); clear hgn)
    go_meet
    exact ⟨_, _, rfl, rfl, rfl, rfl, rfl, HG, hn, hs, hr, hLB, hbx⟩
  obtain ⟨LB, p, rfl, rfl, rfl, rfl, rfl, HG, hn, hs, hr, hLB, hbx⟩ := hcut
  have HR := ERow.of_hx (L := frowE) (ts := fmRows p) (cap := 16) (by rw [fmRows_len]; omega) (by decide) hLB
  rw [fmRows_len] at HR
  go_upto_region 2 with (fail)
  go_cut [3, 4, 6, 7, 8, 9] (fun p3 p4 p6 p7 p8 p9 we => ∃ k : Int, p3 = .pointer (some ⟨w.heap.size, 0, none⟩) ∧ p4 = .pointer (some ⟨(w.heap.size + 1), 0, none⟩) ∧ p6 = .pointer (some ⟨(w.heap.size + 1 + 1), 0, none⟩) ∧ p7 = .bool false ∧ p8 = .slice (some ⟨LB, 0, none⟩) 16 16 ∧ p9 = .int .i64 k ∧ ((k = -1 ∧ fmIdx nm = none) ∨ ∃ i : Nat, k = i ∧ i < 16 ∧ fmIdx nm = some i) ∧ w.grownBy we none ∧ Hx we w.heap.size [.string nm] 9 ∧ Hx we (w.heap.size + 1) [.string S.name, .int .i64 S.start, .int .i64 S.step, .slice A S.vals.length c, .int .i64 S.cons] 24 ∧ Hx we (w.heap.size + 1 + 1) [.string ⟨#[]⟩, .int .i64 0, .int .i64 0, .slice none 0 0, .int .i64 0] 24 ∧ Hx we LB ((fmRows p).flatMap frowE.cells) 45 ∧ fmBoxes we p)
  case first =>
    have HK := Lib.hid (fmFind_any (fmRows p) _ nm _ HR _ hn)
    go_wp2_with (go_at_call 30; (with_reducible refine HK.out.mono ?_); rintro e wn hfp; rcases hfp with ⟨rfl, hno, hgn⟩ | ⟨i, hi, rfl, hnm, _, hgn⟩)
    all_goals go_meet
    · exact ⟨_, rfl, rfl, rfl, rfl, rfl, rfl, Or.inl ⟨rfl, fmIdx_none hno⟩, G.trans HG hgn, Hx.kept hn hgn (by simp), Hx.kept hs hgn (by simp), Hx.kept hr hgn (by simp), Hx.kept hLB hgn (by simp), hbx.kept hgn⟩
    · exact ⟨_, rfl, rfl, rfl, rfl, rfl, rfl, Or.inr ⟨i, rfl, by rw [fmRows_len] at hi; omega, fmIdx_some i hi hnm⟩, G.trans HG hgn, Hx.kept hn hgn (by simp), Hx.kept hs hgn (by simp), Hx.kept hr hgn (by simp), Hx.kept hLB hgn (by simp), hbx.kept hgn⟩
  clear HR
  obtain ⟨k, rfl, rfl, rfl, rfl, rfl, rfl, hk, HG, hn, hs, hr, hLB, hbx⟩ := hcut
  go_upto_region 3 with (fail)
  go_cut [3, 4, 6, 7, 8, 9, 47] (fun p3 p4 p6 p7 p8 p9 p47 wf => p3 = .pointer (some ⟨w.heap.size, 0, none⟩) ∧ p4 = .pointer (some ⟨(w.heap.size + 1), 0, none⟩) ∧ p6 = .pointer (some ⟨(w.heap.size + 1 + 1), 0, none⟩) ∧ p7 = .bool false ∧ p8 = .slice (some ⟨LB, 0, none⟩) 16 16 ∧ p9 = .int .i64 k ∧ p47 = .bool (!ok) ∧ w.grownBy wf none ∧ Hx wf w.heap.size [.string nm] 9 ∧ Hx wf (w.heap.size + 1) [.string S.name, .int .i64 S.start, .int .i64 S.step, .slice A S.vals.length c, .int .i64 S.cons] 24 ∧ Hx wf (w.heap.size + 1 + 1) [.string ⟨#[]⟩, .int .i64 0, .int .i64 0, .slice none 0 0, .int .i64 0] 24 ∧ Hx wf LB ((fmRows p).flatMap frowE.cells) 45 ∧ fmBoxes wf p)
  case first =>
    have HI := Lib.hid (fun w h => serIs_any S (.slice A S.vals.length c) w h)
    have hs_0 := hs.cell 0; have hs_1 := hs.cell 1; have hs_2 := hs.cell 2; have hs_3 := hs.cell 3; have hs_4 := hs.cell 4; have hs_f0 := hs.free 0; have hs_f1 := hs.free 1; have hs_f2 := hs.free 2; have hs_f3 := hs.free 3; have hs_f4 := hs.free 4; have hs_l := hs.lt
    cases hS : isSer S
    · have hok : ok = false := by rw [← hokd.out, hOk.out, hS]; split <;> rfl
      rw [hS] at HI
      subst hok
      clear hS
      rcases hk with ⟨rfl, hk⟩ | ⟨i, rfl, hi, hk⟩ <;>
      · go_wp2_with (go_at_call 32; (with_reducible refine (HI.out _ (HV.out.kept0 HG)).mono ?_); rintro e wn ⟨rfl, hgn⟩; replace HG := G.trans (w := w) (by exact G.go HG) hgn; replace hn := Hx.kept hn hgn (by simp); replace hs := Hx.kept hs hgn (by simp); replace hr := Hx.kept hr hgn (by simp); replace hLB := Hx.kept hLB hgn (by simp); replace hbx := hbx.kept hgn; clear hgn)
        go_meet
        exact ⟨rfl, rfl, rfl, rfl, rfl, rfl, by simp, HG, hn, hs, hr, hLB, hbx⟩
    rw [hS] at HI
    rcases hk with ⟨rfl, hk⟩ | ⟨i, rfl, hi, hk⟩
    · have hok : ok = false := by rw [← hokd.out, hOk.out, hk]
      subst hok
      clear hS
      go_wp2_with (go_at_call 32; (with_reducible refine (HI.out _ (HV.out.kept0 HG)).mono ?_); rintro e wn ⟨rfl, hgn⟩; replace HG := G.trans (w := w) (by exact G.go HG) hgn; replace hn := Hx.kept hn hgn (by simp); replace hs := Hx.kept hs hgn (by simp); replace hr := Hx.kept hr hgn (by simp); replace hLB := Hx.kept hLB hgn (by simp); replace hbx := hbx.kept hgn; clear hgn)
      go_meet
      exact ⟨rfl, rfl, rfl, rfl, rfl, rfl, by simp, HG, hn, hs, hr, hLB, hbx⟩
    have hok2 : ok = (decide (fmNeed i ≤ L.length) && decide (L.length ≤ fmMost i)) := by rw [← hokd.out, hOk.out, hk]; show (isSer S && _) = _; rw [hS, Bool.true_and]
    have hfc := Lib.hid (fun W (h : Hx W LB ((fmRows p).flatMap frowE.cells) 45) => fmCells h hi)
    clear hS hk
    generalize fmNeed i = n1 at *
    generalize fmMost i = n2 at *
    by_cases g1 : L.length < n1
    · rw [decide_eq_false (show ¬ n1 ≤ L.length by omega), Bool.false_and] at hok2
      subst hok2
      go_wp2_with (go_at_call 32; (with_reducible refine (HI.out _ (HV.out.kept0 HG)).mono ?_); rintro e wn ⟨rfl, hgn⟩; replace HG := G.trans (w := w) (by exact G.go HG) hgn; replace hn := Hx.kept hn hgn (by simp); replace hs := Hx.kept hs hgn (by simp); replace hr := Hx.kept hr hgn (by simp); replace hLB := Hx.kept hLB hgn (by simp); replace hbx := hbx.kept hgn; obtain ⟨y1, y2, _⟩ := hfc.out _ hLB; clear hgn)
      go_meet
      exact ⟨rfl, rfl, rfl, rfl, rfl, rfl, by simp, HG, hn, hs, hr, hLB, hbx⟩
    by_cases g2 : n2 < L.length
    · rw [decide_eq_true (show n1 ≤ L.length by omega), decide_eq_false (show ¬ L.length ≤ n2 by omega), Bool.true_and] at hok2
      subst hok2
      go_wp2_with (go_at_call 32; (with_reducible refine (HI.out _ (HV.out.kept0 HG)).mono ?_); rintro e wn ⟨rfl, hgn⟩; replace HG := G.trans (w := w) (by exact G.go HG) hgn; replace hn := Hx.kept hn hgn (by simp); replace hs := Hx.kept hs hgn (by simp); replace hr := Hx.kept hr hgn (by simp); replace hLB := Hx.kept hLB hgn (by simp); replace hbx := hbx.kept hgn; obtain ⟨y1, y2, _⟩ := hfc.out _ hLB; clear hgn)
      go_meet
      exact ⟨rfl, rfl, rfl, rfl, rfl, rfl, by simp, HG, hn, hs, hr, hLB, hbx⟩
    · rw [decide_eq_true (show n1 ≤ L.length by omega), decide_eq_true (show L.length ≤ n2 by omega), Bool.true_and] at hok2
      subst hok2
      go_wp2_with (go_at_call 32; (with_reducible refine (HI.out _ (HV.out.kept0 HG)).mono ?_); rintro e wn ⟨rfl, hgn⟩; replace HG := G.trans (w := w) (by exact G.go HG) hgn; replace hn := Hx.kept hn hgn (by simp); replace hs := Hx.kept hs hgn (by simp); replace hr := Hx.kept hr hgn (by simp); replace hLB := Hx.kept hLB hgn (by simp); replace hbx := hbx.kept hgn; obtain ⟨y1, y2, _⟩ := hfc.out _ hLB; clear hgn)
      go_meet
      exact ⟨rfl, rfl, rfl, rfl, rfl, rfl, by simp, HG, hn, hs, hr, hLB, hbx⟩
  obtain ⟨rfl, rfl, rfl, rfl, rfl, rfl, rfl, HG, hn, hs, hr, hLB, hbx⟩ := hcut
  cases ok
  · have hfin : Hid (V = none) := Lib.hid (by rw [hQ.out]; rfl)
    clear hk hOk hQ hokd
    have hr_0 := hr.cell 0; have hr_1 := hr.cell 1; have hr_2 := hr.cell 2; have hr_3 := hr.cell 3; have hr_4 := hr.cell 4; have hr_f0 := hr.free 0; have hr_f1 := hr.free 1; have hr_f2 := hr.free 2; have hr_f3 := hr.free 3; have hr_f4 := hr.free 4; have hr_l := hr.lt
    go_wp2_with fail
    refine ret_cell_tmp [.string ⟨#[]⟩, .int .i64 0, .int .i64 0, .slice none 0 0, .int .i64 0] (w.heap.size + 1 + 1) 24 rfl rfl (Tryz.isAgg24 _) (Tryz.sizeOf24 _) rfl ?_ (by rw [hfin.out]; exact ⟨.slice none 0 0, rfl, ERow.nil _, (by exact G.go HG)⟩)
    exact (by first | exact Hx.go hr | exact Hx.go2)
  have hfin : Hid (V = some ⟨labelB nm (labTexts S.name L), S.start, S.step, fmVals nm S L, S.cons⟩) := Lib.hid (by rw [hQ.out]; rfl)
  clear hQ
  have hok := hokd.out
  rw [hOk.out] at hok
  rcases hk with ⟨_, hk⟩ | ⟨i, rfl, hi, hk⟩
  · rw [hk] at hok; cases hok
  have hok : isSer S = true ∧ fmNeed i ≤ L.length ∧ L.length ≤ fmMost i := by
    rw [hk] at hok
    have hok : (isSer S && (decide (fmNeed i ≤ L.length) && decide (L.length ≤ fmMost i))) = true := hok
    simpa [Bool.and_eq_true] using hok
  rename World => wf
  obtain ⟨hS, hn1, hn2⟩ := hok
  have hL1 : L.length ≤ 1 := Nat.le_trans hn2 (fmMost_le i)
  obtain ⟨hstep, hst1, hst2, hvl, hcn1, hcn2, hall⟩ := isSer_parts hS
  have hall2 := Lib.hid (all_at hall)
  have hvals : Hid (fmVals nm S L = S.vals.map fun p => vP (fmV i S.step (decide (0 < L.length)) (kOf L) (aggO true S.vals) (aggO false S.vals) (vK p.1 p.2))) := Lib.hid (by unfold fmVals; rw [hk]; rfl)
  have hix := Lib.hid hk
  have hnl := Lib.hid (And.intro hn1 hn2)
  clear hOk hokd hk hS hall hn1 hn2
  have HMin := Lib.hid (fun w h => aggMin_any S.vals (.slice A S.vals.length c) w h h3)
  have HMax := Lib.hid (fun w h => aggMax_any S.vals (.slice A S.vals.length c) w h h3)
  rw [valV_form] at HMin HMax
  generalize hlow : aggO true S.vals = low at *
  generalize hhigh : aggO false S.vals = high at *
  go_upto_region 5 with (fail)
  go_cut [3, 4, 6, 7, 8, 9, 10] (fun p3 p4 p6 p7 p8 p9 p10 wg => ∃ B, p3 = .pointer (some ⟨w.heap.size, 0, none⟩) ∧ p4 = .pointer (some ⟨(w.heap.size + 1), 0, none⟩) ∧ p6 = .pointer (some ⟨(w.heap.size + 1 + 1), 0, none⟩) ∧ p7 = .bool false ∧ p8 = .slice (some ⟨LB, 0, none⟩) 16 16 ∧ p9 = .int .i64 i ∧ p10 = .pointer (some ⟨B, 0, none⟩) ∧ wf.heap.size ≤ B ∧ wf.grownBy wg none ∧ Hx wg B [.string S.name, .int .i64 S.start, .int .i64 S.step, .slice A S.vals.length c, .int .i64 S.cons, .bool false, .int .i64 0, .bool false, .bool (vB low), .int .i64 (vN low), .bool (vB high), .int .i64 (vN high)] 52)
  case first =>
    refine wp_region_rel (n := 8) (S := [fun v _ => v = .agg #[.string S.name, .int .i64 S.start, .int .i64 S.step, .slice A S.vals.length c, .int .i64 S.cons], fun v _ => v = .pointer (some ⟨(w.heap.size + 1), 3, none⟩), fun v _ => v = .slice A S.vals.length c, fun v _ => v = .agg #[.bool (vB low), .int .i64 (vN low)], fun v _ => v = .pointer (some ⟨(w.heap.size + 1), 3, none⟩), fun v _ => v = .slice A S.vals.length c, fun v _ => v = .agg #[.bool (vB high), .int .i64 (vN high)], fun v _ => v = .agg #[.string S.name, .int .i64 S.start, .int .i64 S.step, .slice A S.vals.length c, .int .i64 S.cons, .bool false, .int .i64 0, .bool false, .bool (vB low), .int .i64 (vN low), .bool (vB high), .int .i64 (vN high)]]) (G.refl _ none) (by kernel_rfl) (by kernel_rfl) ?_ ?_ ?_
    · intro i v y1 y2 hg12 hS
      match i, hS with
      | 0, h => exact h
      | 1, h => exact h
      | 2, h => exact h
      | 3, h => exact h
      | 4, h => exact h
      | 5, h => exact h
      | 6, h => exact h
      | 7, h => exact h
      | k + 8, h => exact trivial
    · simp only [List.take_succ_cons, List.take_zero, relOps]
      refine ⟨fun VV y1 hg1 hV => ?_, fun VV y1 hg1 hV => ?_, fun VV y1 hg1 hV => ?_, fun VV y1 hg1 hV => ?_, fun VV y1 hg1 hV => ?_, fun VV y1 hg1 hV => ?_, fun VV y1 hg1 hV => ?_, fun VV y1 hg1 hV => ?_, trivial⟩
      · clear hV
        have hvy := HV.out.kept0 (G.trans HG hg1); replace hs := Hx.kept hs hg1 (by simp); have hs_0 := hs.cell 0; have hs_1 := hs.cell 1; have hs_2 := hs.cell 2; have hs_3 := hs.cell 3; have hs_4 := hs.cell 4; have hs_f0 := hs.free 0; have hs_f1 := hs.free 1; have hs_f2 := hs.free 2; have hs_f3 := hs.free 3; have hs_f4 := hs.free 4; have hs_l := hs.lt
        simp only [putAll]
        go_wp2_with fail
        exact ⟨rfl, rfl, G.refl _ none, rfl⟩
      · clear hV
        have hvy := HV.out.kept0 (G.trans HG hg1); replace hs := Hx.kept hs hg1 (by simp); have hs_0 := hs.cell 0; have hs_1 := hs.cell 1; have hs_2 := hs.cell 2; have hs_3 := hs.cell 3; have hs_4 := hs.cell 4; have hs_f0 := hs.free 0; have hs_f1 := hs.free 1; have hs_f2 := hs.free 2; have hs_f3 := hs.free 3; have hs_f4 := hs.free 4; have hs_l := hs.lt
        simp only [putAll]
        go_wp2_with fail
        exact ⟨rfl, rfl, G.refl _ none, rfl⟩
      · have e1 := hV 1 (by kernel_rfl); clear hV
        have hvy := HV.out.kept0 (G.trans HG hg1); replace hs := Hx.kept hs hg1 (by simp); have hs_0 := hs.cell 0; have hs_1 := hs.cell 1; have hs_2 := hs.cell 2; have hs_3 := hs.cell 3; have hs_4 := hs.cell 4; have hs_f0 := hs.free 0; have hs_f1 := hs.free 1; have hs_f2 := hs.free 2; have hs_f3 := hs.free 3; have hs_f4 := hs.free 4; have hs_l := hs.lt
        simp only [atS, List.getD_cons_succ, List.getD_cons_zero] at e1
        simp only [putAll, e1]
        go_wp2_with fail
        exact ⟨rfl, rfl, G.refl _ none, rfl⟩
      · have e2 := hV 2 (by kernel_rfl); clear hV
        have hvy := HV.out.kept0 (G.trans HG hg1); replace hs := Hx.kept hs hg1 (by simp); have hs_0 := hs.cell 0; have hs_1 := hs.cell 1; have hs_2 := hs.cell 2; have hs_3 := hs.cell 3; have hs_4 := hs.cell 4; have hs_f0 := hs.free 0; have hs_f1 := hs.free 1; have hs_f2 := hs.free 2; have hs_f3 := hs.free 3; have hs_f4 := hs.free 4; have hs_l := hs.lt
        simp only [atS, List.getD_cons_succ, List.getD_cons_zero] at e2
        simp only [putAll, e2]
        go_wp2_with (go_at_call 33; (with_reducible refine (HMin.out _ hvy).mono ?_); rintro e wn ⟨rfl, hgn⟩)
        exact ⟨rfl, rfl, hgn, rfl⟩
      · clear hV
        have hvy := HV.out.kept0 (G.trans HG hg1); replace hs := Hx.kept hs hg1 (by simp); have hs_0 := hs.cell 0; have hs_1 := hs.cell 1; have hs_2 := hs.cell 2; have hs_3 := hs.cell 3; have hs_4 := hs.cell 4; have hs_f0 := hs.free 0; have hs_f1 := hs.free 1; have hs_f2 := hs.free 2; have hs_f3 := hs.free 3; have hs_f4 := hs.free 4; have hs_l := hs.lt
        simp only [putAll]
        go_wp2_with fail
        exact ⟨rfl, rfl, G.refl _ none, rfl⟩
      · have e4 := hV 4 (by kernel_rfl); clear hV
        have hvy := HV.out.kept0 (G.trans HG hg1); replace hs := Hx.kept hs hg1 (by simp); have hs_0 := hs.cell 0; have hs_1 := hs.cell 1; have hs_2 := hs.cell 2; have hs_3 := hs.cell 3; have hs_4 := hs.cell 4; have hs_f0 := hs.free 0; have hs_f1 := hs.free 1; have hs_f2 := hs.free 2; have hs_f3 := hs.free 3; have hs_f4 := hs.free 4; have hs_l := hs.lt
        simp only [atS, List.getD_cons_succ, List.getD_cons_zero] at e4
        simp only [putAll, e4]
        go_wp2_with fail
        exact ⟨rfl, rfl, G.refl _ none, rfl⟩
      · have e5 := hV 5 (by kernel_rfl); clear hV
        have hvy := HV.out.kept0 (G.trans HG hg1); replace hs := Hx.kept hs hg1 (by simp); have hs_0 := hs.cell 0; have hs_1 := hs.cell 1; have hs_2 := hs.cell 2; have hs_3 := hs.cell 3; have hs_4 := hs.cell 4; have hs_f0 := hs.free 0; have hs_f1 := hs.free 1; have hs_f2 := hs.free 2; have hs_f3 := hs.free 3; have hs_f4 := hs.free 4; have hs_l := hs.lt
        simp only [atS, List.getD_cons_succ, List.getD_cons_zero] at e5
        simp only [putAll, e5]
        go_wp2_with (go_at_call 33; (with_reducible refine (HMax.out _ hvy).mono ?_); rintro e wn ⟨rfl, hgn⟩)
        exact ⟨rfl, rfl, hgn, rfl⟩
      · have e0 := hV 0 (by kernel_rfl); have e3 := hV 3 (by kernel_rfl); have e6 := hV 6 (by kernel_rfl); clear hV
        have hvy := HV.out.kept0 (G.trans HG hg1); replace hs := Hx.kept hs hg1 (by simp); have hs_0 := hs.cell 0; have hs_1 := hs.cell 1; have hs_2 := hs.cell 2; have hs_3 := hs.cell 3; have hs_4 := hs.cell 4; have hs_f0 := hs.free 0; have hs_f1 := hs.free 1; have hs_f2 := hs.free 2; have hs_f3 := hs.free 3; have hs_f4 := hs.free 4; have hs_l := hs.lt
        simp only [atS, List.getD_cons_succ, List.getD_cons_zero] at e0 e3 e6
        simp only [putAll, e0, e3, e6]
        go_wp2_with fail
        exact ⟨rfl, rfl, G.refl _ none, rfl⟩
    · intro VV y1 hg1 hV
      have e0 := hV 0 (by omega); have e1 := hV 1 (by omega); have e2 := hV 2 (by omega); have e3 := hV 3 (by omega); have e4 := hV 4 (by omega); have e5 := hV 5 (by omega); have e6 := hV 6 (by omega); have e7 := hV 7 (by omega); clear hV
      simp only [atS, List.getD_cons_succ, List.getD_cons_zero] at e0 e1 e2 e3 e4 e5 e6 e7
      simp only [List.take_succ_cons, List.take_zero, List.drop_succ_cons, List.drop_zero, putAll, e0, e1, e2, e3, e4, e5, e6, e7]
      replace hs := Hx.kept hs hg1 (by simp); have hs_0 := hs.cell 0; have hs_1 := hs.cell 1; have hs_2 := hs.cell 2; have hs_3 := hs.cell 3; have hs_4 := hs.cell 4; have hs_f0 := hs.free 0; have hs_f1 := hs.free 1; have hs_f2 := hs.free 2; have hs_f3 := hs.free 3; have hs_f4 := hs.free 4; have hs_l := hs.lt
      have hg2 := hg1
      replace HG := G.trans (w := w) HG hg1; clear hg1
      have hsz := hg2.size
      go_wp2_with fail
      go_meet
      exact ⟨_, rfl, rfl, rfl, rfl, rfl, rfl, rfl, by omega, (by exact G.go hg2), Hx.new _ _ _⟩
  obtain ⟨B, rfl, rfl, rfl, rfl, rfl, rfl, rfl, hB, hgG, hw⟩ := hcut
  rename World => wg
  have hBl := hw.lt
  clear HMin HMax
  go_upto_region 6 with (fail)
  go_cut [3, 4, 6, 7, 8, 9, 10, 11] (fun p3 p4 p6 p7 p8 p9 p10 p11 wh => p3 = .pointer (some ⟨w.heap.size, 0, none⟩) ∧ p4 = .pointer (some ⟨(w.heap.size + 1), 0, none⟩) ∧ p6 = .pointer (some ⟨(w.heap.size + 1 + 1), 0, none⟩) ∧ p7 = .bool false ∧ p8 = .slice (some ⟨LB, 0, none⟩) 16 16 ∧ p9 = .int .i64 i ∧ p10 = .pointer (some ⟨B, 0, none⟩) ∧ wg.heap.size ≤ wh.heap.size ∧ wf.grownBy wh none ∧ Hx wh B [.string S.name, .int .i64 S.start, .int .i64 S.step, .slice A S.vals.length c, .int .i64 S.cons, .bool (vB (kAt L 0)), .int .i64 (vN (kAt L 0)), .bool (decide (0 < 0)), .bool (vB low), .int .i64 (vN low), .bool (vB high), .int .i64 (vN high)] 52 ∧ EOwn strE 9 wh wg.heap.size p11 [S.name])
  case first =>
    have hs1 := Hx.kept hs hgG (by simp)
    have hs_0 := hs1.cell 0; have hs_l := hs1.lt
    go_wp2_with fail
    go_meet
    exact ⟨rfl, rfl, rfl, rfl, rfl, rfl, rfl, by simp, (by exact G.go hgG), Hx.alloc hw _, by refine EOwn.of_hx (L := strE) (ts := [S.name]) ?_ (by simp) rfl (by decide); exact Hx.new' (by simp) rfl⟩
  obtain ⟨rfl, rfl, rfl, rfl, rfl, rfl, rfl, hsz, HGf, hw, HO⟩ := hcut
  go_wp2_with fail
  go_loopw [11, 13, 63] (fun tv _ iv wr => ∃ (j : Nat) (ts : List ByteArray), iv = .int .i64 j ∧ j ≤ L.length ∧ Hid (ts = (labTexts S.name L).take (j + 1)) ∧ ts.length ≤ 101 ∧ wg.heap.size ≤ wr.heap.size ∧ wf.grownBy wr none ∧ Hx wr B [.string S.name, .int .i64 S.start, .int .i64 S.step, .slice A S.vals.length c, .int .i64 S.cons, .bool (vB (kAt L j)), .int .i64 (vN (kAt L j)), .bool (decide (0 < j)), .bool (vB low), .int .i64 (vN low), .bool (vB high), .int .i64 (vN high)] 52 ∧ EOwn strE 9 wr wg.heap.size tv ts) (fun _ _ iv _ => L.length - (intOf iv).toNat)
  case atStart => exact ⟨0, _, rfl, by omega, Lib.hid rfl, by simp [labTexts], hsz, HGf, hw, HO⟩
  case round =>
    clear HGf hw HO hsz
    obtain ⟨j, ts, rfl, hj, HT, hts, hsz, HGf, hw, HO⟩ := hrel
    by_cases hlt : j < L.length
    · obtain rfl : j = 0 := by omega
      obtain ⟨b2, o2, rfl, hb2, hc2⟩ := R3.out (by omega)
      obtain ⟨x0, x1⟩ := valCells hc2 (G.trans HG HGf) hb2 hlt
      have hfn := HF.out L[0] (List.getElem_mem hlt)
      have HPr := Lib.hid (fun w h => print_any L[0].1 L[0].2 w hfn.1 hfn.2 h)
      have hst := labTexts_take (nm := S.name) hlt
      have HT2 : Hid (ts ++ [printV L[0].1 L[0].2] = (labTexts S.name L).take (1 + 1)) := Lib.hid (by rw [HT.out]; exact hst.symm)
      have hk1 : Hid (kAt L 1 = vK L[0].1 L[0].2) := Lib.hid (by cases L with | nil => simp at hlt | cons p r => rfl)
      have hol : ∀ c, u11.ownBlock = some c → c < wr.heap.size := fun c e => (HO.lt c e).2
      have htl : ts.length ≤ 1 := by rw [HT.out, labTexts_len _ _ _ (by omega)]; omega
      have hneB : ¬ B = wr.heap.size := by omega
      have hneC : ¬ wr.heap.size = B := by omega
      have HIs := Lib.hid (fun w => fixedIs_any w L[0].1 L[0].2)
      rw [show kAt L 0 = none from rfl] at hw
      clear hc2 hst HT hfn
      generalize printV L[0].1 L[0].2 = pr at *
      generalize L[0].1 = vb at *
      generalize L[0].2 = vn at *
      have hw_5 := hw.cell 5; have hw_f5 := hw.free 5; have hw_6 := hw.cell 6; have hw_f6 := hw.free 6; have hw_7 := hw.cell 7; have hw_f7 := hw.free 7; have hw_l := hw.lt
      simp only [Nat.zero_mul, Nat.add_zero] at x0 x1
      cases vb
      · rw [show vK false vn = none from rfl] at hk1
        go_wp2_with (first | (go_at_call 34; (with_reducible refine (HPr.out _ (Pow10.kept (w := w) HP.out (by have hb0 := (G.trans HG HGf); (repeat first | with_reducible exact hb0 | with_reducible refine G.drewN ?_ _ | with_reducible refine G.drew ?_ | with_reducible refine G.alloc ?_ _ | with_reducible refine G.set ?_ _ (Or.inr rfl) | (with_reducible refine G.set ?_ _ (Or.inl ?_); rotate_left; focus (first | omega | (simp; done) | (simp; omega))))))).mono ?_); rintro e wn ⟨rfl, hgn⟩; have hkb := Hx.kept (Hx.new wr #[.bool false, .int .i64 vn] 28) hgn (by simp); replace hw := Hx.kept (Hx.alloc hw _) hgn (by simp); replace HO := EOwn.kept0 (EOwn.alloc HO (.cells #[.bool false, .int .i64 vn] 28)) hgn; replace HGf := G.trans (w := wf) (by exact G.go HGf) hgn; have hsz2 : wg.heap.size ≤ wn.heap.size := Nat.le_trans hsz (Nat.le_trans (by simp) hgn.size); have hw_5 := hw.cell 5; have hw_f5 := hw.free 5; have hw_6 := hw.cell 6; have hw_f6 := hw.free 6; have hw_7 := hw.cell 7; have hw_f7 := hw.free 7; have hw_l := hw.lt; have hkb_0 := hkb.cell 0; have hkb_1 := hkb.cell 1; have hkb_f0 := hkb.free 0; have hkb_f1 := hkb.free 1; have hkb_l := hkb.lt; clear hgn) | (at_builtin; refine wpList_append_el strE rfl _ _ 30 9 rfl Tryz.underlying30 info_strL wg.heap.size u11 ts rfl _ pr 9 rfl ?_ ?_; rotate_left; exact ⟨(by have hb0 := (HO); (repeat first | with_reducible exact hb0 | with_reducible apply EOwn.drewN | with_reducible apply EOwn.drew | with_reducible apply EOwn.alloc | (with_reducible apply EOwn.set; (case hne => (first | assumption | omega | (simp; done) | (simp; omega)))))), (by have hb0 := (Hx.new wn #[.string pr] 9); apply Hx.conv; (case h => (repeat first | with_reducible exact hb0 | with_reducible apply Hx.drewN | with_reducible apply Hx.drew | with_reducible apply Hx.set | with_reducible exact Hx.new _ _ _ | (with_reducible apply Hx.new'; (case hl => rfl); (case hb => (first | omega | (simp; done) | (simp; omega)))) | with_reducible apply Hx.alloc | (with_reducible apply Hx.other; (case hne => (first | omega | (simp; done) | (simp; omega)))))); (case e => (first | rfl | (simp; done) | (simp; omega)))), Nat.le_trans hsz2 (by simp), by omega⟩; intro g2 cap2 wa hown hgrow; have hne9 : (Value.slice (some ⟨g2, 0, none⟩) (ts.length + 1) cap2).ownBlock ≠ some B := (fun e => by have := (hown.lt B e).1; omega); have HGa := G.trans' (row := none) (G.alloc HGf _) hgrow (fun c e => Or.inl (Nat.le_trans hgG.size (HO.lt c e).1)); replace hw := Hx.kept (Hx.alloc hw _) hgrow (fun e => by have := (HO.lt B e.symm).1; omega); replace hkb := Hx.kept (Hx.alloc hkb _) hgrow (fun e => by have := hol _ e.symm; omega); have hsz3 : wg.heap.size ≤ wa.heap.size := Nat.le_trans hsz2 (Nat.le_trans (by simp) hgrow.size); have hw_5 := hw.cell 5; have hw_f5 := hw.free 5; have hw_6 := hw.cell 6; have hw_f6 := hw.free 6; have hw_7 := hw.cell 7; have hw_f7 := hw.free 7; have hw_l := hw.lt; have hkb_0 := hkb.cell 0; have hkb_1 := hkb.cell 1; have hkb_f0 := hkb.free 0; have hkb_f1 := hkb.free 1; have hkb_l := hkb.lt; clear hgrow))
        refine ⟨?_, by first | (simp [intOf]; done) | (simp [intOf]; omega)⟩
        refine ⟨1, ts ++ [pr], rfl, by omega, HT2, by rw [List.length_append, List.length_singleton]; omega, by simpa [World.setCell] using hsz3, (by exact G.go HGa), ?_, (by have hb0 := (hown); (repeat first | with_reducible exact hb0 | with_reducible apply EOwn.drewN | with_reducible apply EOwn.drew | with_reducible apply EOwn.alloc | (with_reducible apply EOwn.set; (case hne => (first | assumption | omega | (simp; done) | (simp; omega))))))⟩
        rw [hk1.out]
        exact (by first | exact Hx.go hw | exact Hx.go2)
      rw [show isR true vn = isR true vn from rfl] at HIs
      have hkk : vK true vn = if isR true vn then some vn else none := rfl
      cases hir : isR true vn
      · rw [hir] at HIs hkk
        rw [show vK true vn = none from hkk] at hk1
        clear hkk hir
        go_wp2_with (first | (go_at_call 34; (with_reducible refine (HPr.out _ (Pow10.kept (w := w) HP.out (by have hb0 := (G.trans HG HGf); (repeat first | with_reducible exact hb0 | with_reducible refine G.drewN ?_ _ | with_reducible refine G.drew ?_ | with_reducible refine G.alloc ?_ _ | with_reducible refine G.set ?_ _ (Or.inr rfl) | (with_reducible refine G.set ?_ _ (Or.inl ?_); rotate_left; focus (first | omega | (simp; done) | (simp; omega))))))).mono ?_); rintro e wn ⟨rfl, hgn⟩; have hkb := Hx.kept (Hx.new wr #[.bool true, .int .i64 vn] 28) hgn (by simp); replace hw := Hx.kept (Hx.alloc hw _) hgn (by simp); replace HO := EOwn.kept0 (EOwn.alloc HO (.cells #[.bool true, .int .i64 vn] 28)) hgn; replace HGf := G.trans (w := wf) (by exact G.go HGf) hgn; have hsz2 : wg.heap.size ≤ wn.heap.size := Nat.le_trans hsz (Nat.le_trans (by simp) hgn.size); have hw_5 := hw.cell 5; have hw_f5 := hw.free 5; have hw_6 := hw.cell 6; have hw_f6 := hw.free 6; have hw_7 := hw.cell 7; have hw_f7 := hw.free 7; have hw_l := hw.lt; have hkb_0 := hkb.cell 0; have hkb_1 := hkb.cell 1; have hkb_f0 := hkb.free 0; have hkb_f1 := hkb.free 1; have hkb_l := hkb.lt; clear hgn) | (at_builtin; refine wpList_append_el strE rfl _ _ 30 9 rfl Tryz.underlying30 info_strL wg.heap.size u11 ts rfl _ pr 9 rfl ?_ ?_; rotate_left; exact ⟨(by have hb0 := (HO); (repeat first | with_reducible exact hb0 | with_reducible apply EOwn.drewN | with_reducible apply EOwn.drew | with_reducible apply EOwn.alloc | (with_reducible apply EOwn.set; (case hne => (first | assumption | omega | (simp; done) | (simp; omega)))))), (by have hb0 := (Hx.new wn #[.string pr] 9); apply Hx.conv; (case h => (repeat first | with_reducible exact hb0 | with_reducible apply Hx.drewN | with_reducible apply Hx.drew | with_reducible apply Hx.set | with_reducible exact Hx.new _ _ _ | (with_reducible apply Hx.new'; (case hl => rfl); (case hb => (first | omega | (simp; done) | (simp; omega)))) | with_reducible apply Hx.alloc | (with_reducible apply Hx.other; (case hne => (first | omega | (simp; done) | (simp; omega)))))); (case e => (first | rfl | (simp; done) | (simp; omega)))), Nat.le_trans hsz2 (by simp), by omega⟩; intro g2 cap2 wa hown hgrow; have hne9 : (Value.slice (some ⟨g2, 0, none⟩) (ts.length + 1) cap2).ownBlock ≠ some B := (fun e => by have := (hown.lt B e).1; omega); have HGa := G.trans' (row := none) (G.alloc HGf _) hgrow (fun c e => Or.inl (Nat.le_trans hgG.size (HO.lt c e).1)); replace hw := Hx.kept (Hx.alloc hw _) hgrow (fun e => by have := (HO.lt B e.symm).1; omega); replace hkb := Hx.kept (Hx.alloc hkb _) hgrow (fun e => by have := hol _ e.symm; omega); have hsz3 : wg.heap.size ≤ wa.heap.size := Nat.le_trans hsz2 (Nat.le_trans (by simp) hgrow.size); have hw_5 := hw.cell 5; have hw_f5 := hw.free 5; have hw_6 := hw.cell 6; have hw_f6 := hw.free 6; have hw_7 := hw.cell 7; have hw_f7 := hw.free 7; have hw_l := hw.lt; have hkb_0 := hkb.cell 0; have hkb_1 := hkb.cell 1; have hkb_f0 := hkb.free 0; have hkb_f1 := hkb.free 1; have hkb_l := hkb.lt; clear hgrow) | (go_at_call 35; (with_reducible refine (HIs.out _).mono ?_); rintro e wb ⟨rfl, hgn⟩; replace hw := Hx.kept (Hx.set hw _ _) hgn (by simp); simp only [List.set_cons_zero, List.set_cons_succ] at hw; replace hkb := Hx.kept (Hx.other hkb hneC _ _) hgn (by simp); replace hown := EOwn.kept0 (EOwn.set hown hne9 _ _) hgn; replace HGa := G.trans (w := wf) (G.set HGa _ (Or.inl hB)) hgn; have hsz4 : wg.heap.size ≤ wb.heap.size := Nat.le_trans hsz3 (Nat.le_trans (by simp [World.setCell]) hgn.size); have hw_5 := hw.cell 5; have hw_f5 := hw.free 5; have hw_6 := hw.cell 6; have hw_f6 := hw.free 6; have hw_7 := hw.cell 7; have hw_f7 := hw.free 7; have hw_l := hw.lt; have hkb_0 := hkb.cell 0; have hkb_1 := hkb.cell 1; have hkb_f0 := hkb.free 0; have hkb_f1 := hkb.free 1; have hkb_l := hkb.lt; clear hgn))
        refine ⟨?_, by first | (simp [intOf]; done) | (simp [intOf]; omega)⟩
        refine ⟨1, ts ++ [pr], rfl, by omega, HT2, by rw [List.length_append, List.length_singleton]; omega, by simpa [World.setCell] using hsz4, (by exact G.go HGa), ?_, (by have hb0 := (hown); (repeat first | with_reducible exact hb0 | with_reducible apply EOwn.drewN | with_reducible apply EOwn.drew | with_reducible apply EOwn.alloc | (with_reducible apply EOwn.set; (case hne => (first | assumption | omega | (simp; done) | (simp; omega))))))⟩
        rw [hk1.out]
        exact (by first | exact Hx.go hw | exact Hx.go2)
      · rw [hir] at HIs hkk
        rw [show vK true vn = some vn from hkk] at hk1
        clear hkk hir
        go_wp2_with (first | (go_at_call 34; (with_reducible refine (HPr.out _ (Pow10.kept (w := w) HP.out (by have hb0 := (G.trans HG HGf); (repeat first | with_reducible exact hb0 | with_reducible refine G.drewN ?_ _ | with_reducible refine G.drew ?_ | with_reducible refine G.alloc ?_ _ | with_reducible refine G.set ?_ _ (Or.inr rfl) | (with_reducible refine G.set ?_ _ (Or.inl ?_); rotate_left; focus (first | omega | (simp; done) | (simp; omega))))))).mono ?_); rintro e wn ⟨rfl, hgn⟩; have hkb := Hx.kept (Hx.new wr #[.bool true, .int .i64 vn] 28) hgn (by simp); replace hw := Hx.kept (Hx.alloc hw _) hgn (by simp); replace HO := EOwn.kept0 (EOwn.alloc HO (.cells #[.bool true, .int .i64 vn] 28)) hgn; replace HGf := G.trans (w := wf) (by exact G.go HGf) hgn; have hsz2 : wg.heap.size ≤ wn.heap.size := Nat.le_trans hsz (Nat.le_trans (by simp) hgn.size); have hw_5 := hw.cell 5; have hw_f5 := hw.free 5; have hw_6 := hw.cell 6; have hw_f6 := hw.free 6; have hw_7 := hw.cell 7; have hw_f7 := hw.free 7; have hw_l := hw.lt; have hkb_0 := hkb.cell 0; have hkb_1 := hkb.cell 1; have hkb_f0 := hkb.free 0; have hkb_f1 := hkb.free 1; have hkb_l := hkb.lt; clear hgn) | (at_builtin; refine wpList_append_el strE rfl _ _ 30 9 rfl Tryz.underlying30 info_strL wg.heap.size u11 ts rfl _ pr 9 rfl ?_ ?_; rotate_left; exact ⟨(by have hb0 := (HO); (repeat first | with_reducible exact hb0 | with_reducible apply EOwn.drewN | with_reducible apply EOwn.drew | with_reducible apply EOwn.alloc | (with_reducible apply EOwn.set; (case hne => (first | assumption | omega | (simp; done) | (simp; omega)))))), (by have hb0 := (Hx.new wn #[.string pr] 9); apply Hx.conv; (case h => (repeat first | with_reducible exact hb0 | with_reducible apply Hx.drewN | with_reducible apply Hx.drew | with_reducible apply Hx.set | with_reducible exact Hx.new _ _ _ | (with_reducible apply Hx.new'; (case hl => rfl); (case hb => (first | omega | (simp; done) | (simp; omega)))) | with_reducible apply Hx.alloc | (with_reducible apply Hx.other; (case hne => (first | omega | (simp; done) | (simp; omega)))))); (case e => (first | rfl | (simp; done) | (simp; omega)))), Nat.le_trans hsz2 (by simp), by omega⟩; intro g2 cap2 wa hown hgrow; have hne9 : (Value.slice (some ⟨g2, 0, none⟩) (ts.length + 1) cap2).ownBlock ≠ some B := (fun e => by have := (hown.lt B e).1; omega); have HGa := G.trans' (row := none) (G.alloc HGf _) hgrow (fun c e => Or.inl (Nat.le_trans hgG.size (HO.lt c e).1)); replace hw := Hx.kept (Hx.alloc hw _) hgrow (fun e => by have := (HO.lt B e.symm).1; omega); replace hkb := Hx.kept (Hx.alloc hkb _) hgrow (fun e => by have := hol _ e.symm; omega); have hsz3 : wg.heap.size ≤ wa.heap.size := Nat.le_trans hsz2 (Nat.le_trans (by simp) hgrow.size); have hw_5 := hw.cell 5; have hw_f5 := hw.free 5; have hw_6 := hw.cell 6; have hw_f6 := hw.free 6; have hw_7 := hw.cell 7; have hw_f7 := hw.free 7; have hw_l := hw.lt; have hkb_0 := hkb.cell 0; have hkb_1 := hkb.cell 1; have hkb_f0 := hkb.free 0; have hkb_f1 := hkb.free 1; have hkb_l := hkb.lt; clear hgrow) | (go_at_call 35; (with_reducible refine (HIs.out _).mono ?_); rintro e wb ⟨rfl, hgn⟩; replace hw := Hx.kept (Hx.set hw _ _) hgn (by simp); simp only [List.set_cons_zero, List.set_cons_succ] at hw; replace hkb := Hx.kept (Hx.other hkb hneC _ _) hgn (by simp); replace hown := EOwn.kept0 (EOwn.set hown hne9 _ _) hgn; replace HGa := G.trans (w := wf) (G.set HGa _ (Or.inl hB)) hgn; have hsz4 : wg.heap.size ≤ wb.heap.size := Nat.le_trans hsz3 (Nat.le_trans (by simp [World.setCell]) hgn.size); have hw_5 := hw.cell 5; have hw_f5 := hw.free 5; have hw_6 := hw.cell 6; have hw_f6 := hw.free 6; have hw_7 := hw.cell 7; have hw_f7 := hw.free 7; have hw_l := hw.lt; have hkb_0 := hkb.cell 0; have hkb_1 := hkb.cell 1; have hkb_f0 := hkb.free 0; have hkb_f1 := hkb.free 1; have hkb_l := hkb.lt; clear hgn))
        refine ⟨?_, by first | (simp [intOf]; done) | (simp [intOf]; omega)⟩
        refine ⟨1, ts ++ [pr], rfl, by omega, HT2, by rw [List.length_append, List.length_singleton]; omega, by simpa [World.setCell] using hsz4, (by exact G.go HGa), ?_, (by have hb0 := (hown); (repeat first | with_reducible exact hb0 | with_reducible apply EOwn.drewN | with_reducible apply EOwn.drew | with_reducible apply EOwn.alloc | (with_reducible apply EOwn.set; (case hne => (first | assumption | omega | (simp; done) | (simp; omega))))))⟩
        rw [hk1.out]
        exact (by first | exact Hx.go hw | exact Hx.go2)
    · have hjl : j = L.length := by omega
      subst hjl
      have hts2 : ts = labTexts S.name L := by rw [HT.out, labTexts_all (by omega)]
      rw [kAt_end rfl] at hw
      have hjc := joinC_labTexts S.name L
      subst hts2
      have HLb := Lib.hid (fun w v h => label18_any nm v (labTexts S.name L) w h (by simp [labTexts]) (by omega) (by simp [labTexts]; omega))
      have hs1 := Hx.kept hs HGf (by simp)
      have hn1 := Hx.kept hn HGf (by simp)
      clear HT hts hjc hlt hj
      go_upto_region 15 with (fail)
      go_cut [3, 4, 6, 7, 8, 9, 10, 14] (fun p3 p4 p6 p7 p8 p9 p10 p14 wl => ∃ O, p3 = .pointer (some ⟨w.heap.size, 0, none⟩) ∧ p4 = .pointer (some ⟨(w.heap.size + 1), 0, none⟩) ∧ p6 = .pointer (some ⟨(w.heap.size + 1 + 1), 0, none⟩) ∧ p7 = .bool false ∧ p8 = .slice (some ⟨LB, 0, none⟩) 16 16 ∧ p9 = .int .i64 i ∧ p10 = .pointer (some ⟨B, 0, none⟩) ∧ p14 = .pointer (some ⟨O, 0, none⟩) ∧ wr.heap.size ≤ O ∧ wr.grownBy wl none ∧ Hx wl O [.string (labelB nm (labTexts S.name L)), .int .i64 S.start, .int .i64 S.step, .slice none 0 0, .int .i64 S.cons] 24)
      case first =>
        refine wp_region_rel (n := 11) (S := [fun v _ => v = .string nm, fun v _ => v = u11, fun v _ => v = .string (labelB nm (labTexts S.name L)), fun v _ => v = .pointer (some ⟨(w.heap.size + 1), 1, none⟩), fun v _ => v = .int .i64 S.start, fun v _ => v = .pointer (some ⟨(w.heap.size + 1), 2, none⟩), fun v _ => v = .int .i64 S.step, fun v _ => v = .pointer (some ⟨(w.heap.size + 1), 4, none⟩), fun v _ => v = .int .i64 S.cons, fun v _ => v = .agg #[.string (labelB nm (labTexts S.name L)), .int .i64 S.start, .int .i64 S.step, .slice none 0 0, .int .i64 S.cons], fun v w => ∃ O, v = .pointer (some ⟨O, 0, none⟩) ∧ wr.heap.size ≤ O ∧ Hx w O [.string ⟨#[]⟩, .int .i64 0, .int .i64 0, .slice none 0 0, .int .i64 0] 24]) (G.refl _ none) (by kernel_rfl) (by kernel_rfl) ?_ ?_ ?_
        · intro i v y1 y2 hg12 hS
          match i, hS with
          | 0, h => exact h
          | 1, h => exact h
          | 2, h => exact h
          | 3, h => exact h
          | 4, h => exact h
          | 5, h => exact h
          | 6, h => exact h
          | 7, h => exact h
          | 8, h => exact h
          | 9, h => exact h
          | 10, h => exact (let ⟨O, e1, e2, e3⟩ := h; ⟨O, e1, e2, e3.kept hg12 (by simp)⟩)
          | k + 11, h => exact trivial
        · simp only [List.take_succ_cons, List.take_zero, relOps]
          refine ⟨fun VV y1 hg1 hV => ?_, fun VV y1 hg1 hV => ?_, fun VV y1 hg1 hV => ?_, fun VV y1 hg1 hV => ?_, fun VV y1 hg1 hV => ?_, fun VV y1 hg1 hV => ?_, fun VV y1 hg1 hV => ?_, fun VV y1 hg1 hV => ?_, fun VV y1 hg1 hV => ?_, fun VV y1 hg1 hV => ?_, fun VV y1 hg1 hV => ?_, trivial⟩
          · clear hV
            have hrow := HO.row.kept0 hg1; replace hs1 := Hx.kept hs1 hg1 (by simp); replace hn1 := Hx.kept hn1 hg1 (by simp); have hs1_0 := hs1.cell 0; have hs1_1 := hs1.cell 1; have hs1_2 := hs1.cell 2; have hs1_3 := hs1.cell 3; have hs1_4 := hs1.cell 4; have hs1_f0 := hs1.free 0; have hs1_f1 := hs1.free 1; have hs1_f2 := hs1.free 2; have hs1_f3 := hs1.free 3; have hs1_f4 := hs1.free 4; have hs1_l := hs1.lt; have hn1_0 := hn1.cell 0; have hn1_f0 := hn1.free 0; have hn1_l := hn1.lt
            simp only [putAll]
            go_wp2_with fail
            exact ⟨rfl, rfl, G.refl _ none, rfl⟩
          · clear hV
            have hrow := HO.row.kept0 hg1; replace hs1 := Hx.kept hs1 hg1 (by simp); replace hn1 := Hx.kept hn1 hg1 (by simp); have hs1_0 := hs1.cell 0; have hs1_1 := hs1.cell 1; have hs1_2 := hs1.cell 2; have hs1_3 := hs1.cell 3; have hs1_4 := hs1.cell 4; have hs1_f0 := hs1.free 0; have hs1_f1 := hs1.free 1; have hs1_f2 := hs1.free 2; have hs1_f3 := hs1.free 3; have hs1_f4 := hs1.free 4; have hs1_l := hs1.lt; have hn1_0 := hn1.cell 0; have hn1_f0 := hn1.free 0; have hn1_l := hn1.lt
            simp only [putAll]
            go_wp2_with fail
            exact ⟨rfl, rfl, G.refl _ none, rfl⟩
          · have e0 := hV 0 (by kernel_rfl); have e1 := hV 1 (by kernel_rfl); clear hV
            have hrow := HO.row.kept0 hg1; replace hs1 := Hx.kept hs1 hg1 (by simp); replace hn1 := Hx.kept hn1 hg1 (by simp); have hs1_0 := hs1.cell 0; have hs1_1 := hs1.cell 1; have hs1_2 := hs1.cell 2; have hs1_3 := hs1.cell 3; have hs1_4 := hs1.cell 4; have hs1_f0 := hs1.free 0; have hs1_f1 := hs1.free 1; have hs1_f2 := hs1.free 2; have hs1_f3 := hs1.free 3; have hs1_f4 := hs1.free 4; have hs1_l := hs1.lt; have hn1_0 := hn1.cell 0; have hn1_f0 := hn1.free 0; have hn1_l := hn1.lt
            simp only [atS, List.getD_cons_succ, List.getD_cons_zero] at e0 e1
            simp only [putAll, e0, e1]
            go_wp2_with (go_at_call 36; (with_reducible refine (HLb.out _ _ hrow).mono ?_); rintro e wn ⟨rfl, hgn⟩)
            exact ⟨rfl, rfl, hgn, rfl⟩
          · clear hV
            have hrow := HO.row.kept0 hg1; replace hs1 := Hx.kept hs1 hg1 (by simp); replace hn1 := Hx.kept hn1 hg1 (by simp); have hs1_0 := hs1.cell 0; have hs1_1 := hs1.cell 1; have hs1_2 := hs1.cell 2; have hs1_3 := hs1.cell 3; have hs1_4 := hs1.cell 4; have hs1_f0 := hs1.free 0; have hs1_f1 := hs1.free 1; have hs1_f2 := hs1.free 2; have hs1_f3 := hs1.free 3; have hs1_f4 := hs1.free 4; have hs1_l := hs1.lt; have hn1_0 := hn1.cell 0; have hn1_f0 := hn1.free 0; have hn1_l := hn1.lt
            simp only [putAll]
            go_wp2_with fail
            exact ⟨rfl, rfl, G.refl _ none, rfl⟩
          · have e3 := hV 3 (by kernel_rfl); clear hV
            have hrow := HO.row.kept0 hg1; replace hs1 := Hx.kept hs1 hg1 (by simp); replace hn1 := Hx.kept hn1 hg1 (by simp); have hs1_0 := hs1.cell 0; have hs1_1 := hs1.cell 1; have hs1_2 := hs1.cell 2; have hs1_3 := hs1.cell 3; have hs1_4 := hs1.cell 4; have hs1_f0 := hs1.free 0; have hs1_f1 := hs1.free 1; have hs1_f2 := hs1.free 2; have hs1_f3 := hs1.free 3; have hs1_f4 := hs1.free 4; have hs1_l := hs1.lt; have hn1_0 := hn1.cell 0; have hn1_f0 := hn1.free 0; have hn1_l := hn1.lt
            simp only [atS, List.getD_cons_succ, List.getD_cons_zero] at e3
            simp only [putAll, e3]
            go_wp2_with fail
            exact ⟨rfl, rfl, G.refl _ none, rfl⟩
          · clear hV
            have hrow := HO.row.kept0 hg1; replace hs1 := Hx.kept hs1 hg1 (by simp); replace hn1 := Hx.kept hn1 hg1 (by simp); have hs1_0 := hs1.cell 0; have hs1_1 := hs1.cell 1; have hs1_2 := hs1.cell 2; have hs1_3 := hs1.cell 3; have hs1_4 := hs1.cell 4; have hs1_f0 := hs1.free 0; have hs1_f1 := hs1.free 1; have hs1_f2 := hs1.free 2; have hs1_f3 := hs1.free 3; have hs1_f4 := hs1.free 4; have hs1_l := hs1.lt; have hn1_0 := hn1.cell 0; have hn1_f0 := hn1.free 0; have hn1_l := hn1.lt
            simp only [putAll]
            go_wp2_with fail
            exact ⟨rfl, rfl, G.refl _ none, rfl⟩
          · have e5 := hV 5 (by kernel_rfl); clear hV
            have hrow := HO.row.kept0 hg1; replace hs1 := Hx.kept hs1 hg1 (by simp); replace hn1 := Hx.kept hn1 hg1 (by simp); have hs1_0 := hs1.cell 0; have hs1_1 := hs1.cell 1; have hs1_2 := hs1.cell 2; have hs1_3 := hs1.cell 3; have hs1_4 := hs1.cell 4; have hs1_f0 := hs1.free 0; have hs1_f1 := hs1.free 1; have hs1_f2 := hs1.free 2; have hs1_f3 := hs1.free 3; have hs1_f4 := hs1.free 4; have hs1_l := hs1.lt; have hn1_0 := hn1.cell 0; have hn1_f0 := hn1.free 0; have hn1_l := hn1.lt
            simp only [atS, List.getD_cons_succ, List.getD_cons_zero] at e5
            simp only [putAll, e5]
            go_wp2_with fail
            exact ⟨rfl, rfl, G.refl _ none, rfl⟩
          · clear hV
            have hrow := HO.row.kept0 hg1; replace hs1 := Hx.kept hs1 hg1 (by simp); replace hn1 := Hx.kept hn1 hg1 (by simp); have hs1_0 := hs1.cell 0; have hs1_1 := hs1.cell 1; have hs1_2 := hs1.cell 2; have hs1_3 := hs1.cell 3; have hs1_4 := hs1.cell 4; have hs1_f0 := hs1.free 0; have hs1_f1 := hs1.free 1; have hs1_f2 := hs1.free 2; have hs1_f3 := hs1.free 3; have hs1_f4 := hs1.free 4; have hs1_l := hs1.lt; have hn1_0 := hn1.cell 0; have hn1_f0 := hn1.free 0; have hn1_l := hn1.lt
            simp only [putAll]
            go_wp2_with fail
            exact ⟨rfl, rfl, G.refl _ none, rfl⟩
          · have e7 := hV 7 (by kernel_rfl); clear hV
            have hrow := HO.row.kept0 hg1; replace hs1 := Hx.kept hs1 hg1 (by simp); replace hn1 := Hx.kept hn1 hg1 (by simp); have hs1_0 := hs1.cell 0; have hs1_1 := hs1.cell 1; have hs1_2 := hs1.cell 2; have hs1_3 := hs1.cell 3; have hs1_4 := hs1.cell 4; have hs1_f0 := hs1.free 0; have hs1_f1 := hs1.free 1; have hs1_f2 := hs1.free 2; have hs1_f3 := hs1.free 3; have hs1_f4 := hs1.free 4; have hs1_l := hs1.lt; have hn1_0 := hn1.cell 0; have hn1_f0 := hn1.free 0; have hn1_l := hn1.lt
            simp only [atS, List.getD_cons_succ, List.getD_cons_zero] at e7
            simp only [putAll, e7]
            go_wp2_with fail
            exact ⟨rfl, rfl, G.refl _ none, rfl⟩
          · have e2 := hV 2 (by kernel_rfl); have e4 := hV 4 (by kernel_rfl); have e6 := hV 6 (by kernel_rfl); have e8 := hV 8 (by kernel_rfl); clear hV
            have hrow := HO.row.kept0 hg1; replace hs1 := Hx.kept hs1 hg1 (by simp); replace hn1 := Hx.kept hn1 hg1 (by simp); have hs1_0 := hs1.cell 0; have hs1_1 := hs1.cell 1; have hs1_2 := hs1.cell 2; have hs1_3 := hs1.cell 3; have hs1_4 := hs1.cell 4; have hs1_f0 := hs1.free 0; have hs1_f1 := hs1.free 1; have hs1_f2 := hs1.free 2; have hs1_f3 := hs1.free 3; have hs1_f4 := hs1.free 4; have hs1_l := hs1.lt; have hn1_0 := hn1.cell 0; have hn1_f0 := hn1.free 0; have hn1_l := hn1.lt
            simp only [atS, List.getD_cons_succ, List.getD_cons_zero] at e2 e4 e6 e8
            simp only [putAll, e2, e4, e6, e8]
            go_wp2_with fail
            exact ⟨rfl, rfl, G.refl _ none, rfl⟩
          · clear hV
            have hrow := HO.row.kept0 hg1; replace hs1 := Hx.kept hs1 hg1 (by simp); replace hn1 := Hx.kept hn1 hg1 (by simp); have hs1_0 := hs1.cell 0; have hs1_1 := hs1.cell 1; have hs1_2 := hs1.cell 2; have hs1_3 := hs1.cell 3; have hs1_4 := hs1.cell 4; have hs1_f0 := hs1.free 0; have hs1_f1 := hs1.free 1; have hs1_f2 := hs1.free 2; have hs1_f3 := hs1.free 3; have hs1_f4 := hs1.free 4; have hs1_l := hs1.lt; have hn1_0 := hn1.cell 0; have hn1_f0 := hn1.free 0; have hn1_l := hn1.lt
            simp only [putAll]
            go_wp2_with fail
            exact ⟨rfl, rfl, G.alloc (G.refl _ _) _, _, rfl, hg1.size, Hx.new _ _ _⟩
        · intro VV y1 hg1 hV
          have e0 := hV 0 (by omega); have e1 := hV 1 (by omega); have e2 := hV 2 (by omega); have e3 := hV 3 (by omega); have e4 := hV 4 (by omega); have e5 := hV 5 (by omega); have e6 := hV 6 (by omega); have e7 := hV 7 (by omega); have e8 := hV 8 (by omega); have e9 := hV 9 (by omega); have e10 := hV 10 (by omega); clear hV
          simp only [atS, List.getD_cons_succ, List.getD_cons_zero] at e0 e1 e2 e3 e4 e5 e6 e7 e8 e9 e10
          simp only [List.take_succ_cons, List.take_zero, List.drop_succ_cons, List.drop_zero, putAll, e0, e1, e2, e3, e4, e5, e6, e7, e8, e9]
          replace hs1 := Hx.kept hs1 hg1 (by simp); replace hn1 := Hx.kept hn1 hg1 (by simp); have hs1_0 := hs1.cell 0; have hs1_1 := hs1.cell 1; have hs1_2 := hs1.cell 2; have hs1_3 := hs1.cell 3; have hs1_4 := hs1.cell 4; have hs1_f0 := hs1.free 0; have hs1_f1 := hs1.free 1; have hs1_f2 := hs1.free 2; have hs1_f3 := hs1.free 3; have hs1_f4 := hs1.free 4; have hs1_l := hs1.lt; have hn1_0 := hn1.cell 0; have hn1_f0 := hn1.free 0; have hn1_l := hn1.lt
          have hg2 := hg1
          clear hg1
          obtain ⟨O, e10, hO1, hO2⟩ := e10
          simp only [e10]
          have ho_0 := hO2.cell 0; have ho_f0 := hO2.free 0; have ho_1 := hO2.cell 1; have ho_f1 := hO2.free 1; have ho_2 := hO2.cell 2; have ho_f2 := hO2.free 2; have ho_3 := hO2.cell 3; have ho_f3 := hO2.free 3; have ho_4 := hO2.cell 4; have ho_f4 := hO2.free 4
          go_wp2_with fail
          go_meet
          exact ⟨O, rfl, rfl, rfl, rfl, rfl, rfl, rfl, rfl, hO1, (by exact G.go hg2), (by first | exact Hx.go hO2 | exact Hx.go2)⟩
      obtain ⟨O, rfl, rfl, rfl, rfl, rfl, rfl, rfl, rfl, hO1, hgl, ho⟩ := hcut
      rename World => wl
      have hOl := ho.lt
      have hneBO : ¬ B = O := by omega
      have hwfO : wf.heap.size ≤ O := Nat.le_trans HGf.size hO1
      have hsz1 := hgl.size
      have HGl := G.trans HGf hgl
      replace hw := Hx.kept hw hgl (by simp)
      have hBwl := hw.lt
      have hfl := HGl.size
      have hlf : Fits low := by rw [← hlow]; exact aggO_fits _ _
      have hhf : Fits high := by rw [← hhigh]; exact aggO_fits _ _
      have hhas : Hid (fmNeed i = 1 → decide (0 < L.length) = true) := Lib.hid (fun e => decide_eq_true (by have := hnl.out.1; omega))
      have hno : Hid (fmMost i = 0 → decide (0 < L.length) = false) := Lib.hid (fun e => decide_eq_false (by have := hnl.out.2; omega))
      rw [hvals.out] at hfin
      obtain ⟨r, hr2⟩ : ∃ r, (fmRows p)[i]? = some r := ⟨_, List.getElem?_eq_getElem (by rw [fmRows_len]; exact hi)⟩
      have hir2 : i < (fmRows p).length := by rw [fmRows_len]; exact hi
      have hre : (fmRows p)[i] = r := by rw [List.getElem?_eq_getElem hir2] at hr2; exact Option.some.inj hr2
      have eg := (fmRow_at p i hir2).2.2
      have hcr := (fmCells hLB hi).2.2
      rw [hre] at eg hcr
      have HDo := Lib.hid (fun W (v : Option Int) (hv : Fits v) (hwk : Hx W B [.string S.name, .int .i64 S.start, .int .i64 S.step, .slice A S.vals.length c, .int .i64 S.cons, .bool (vB (kOf L)), .int .i64 (vN (kOf L)), .bool (decide (0 < L.length)), .bool (vB low), .int .i64 (vN low), .bool (vB high), .int .i64 (vN high)] 52) (hbk : fmBoxes W p) => fmDoes_any i hi W B ⟨S, kOf L, decide (0 < L.length), low, high⟩ (.slice A S.vals.length c) hwk p hbk v hv (kOf_fits L) hlf hhf hstep hhas.out hno.out r hr2)
      simp only [] at HDo
      rw [show r.f = Value.func (.func r.fn) #[] r.cap from rfl] at hcr
      generalize r.fn = g at *
      generalize r.cap = cap at *
      clear hs1 hn1 HLb hre hr2 hnl hhas hno hix hvals hlow hhigh HP HF HLV R3
      have hsl := Hx.kept hs HGl (by simp)
      have hs_3 := hsl.cell 3; have hs_l := hsl.lt
      go_wp2_with fail
      go_loopw [16, 99] (fun _ iv wx => ∃ (j : Nat) (u : Value) (done : List (Bool × Int)), iv = .int .i64 j ∧ j ≤ S.vals.length ∧ Hid (done = (S.vals.map fun p => vP (fmV i S.step (decide (0 < L.length)) (kOf L) low high (vK p.1 p.2))).take j) ∧ done.length ≤ 131072 ∧ wl.heap.size ≤ wx.heap.size ∧ wf.grownBy wx none ∧ Hx wx B [.string S.name, .int .i64 S.start, .int .i64 S.step, .slice A S.vals.length c, .int .i64 S.cons, .bool (vB (kOf L)), .int .i64 (vN (kOf L)), .bool (decide (0 < L.length)), .bool (vB low), .int .i64 (vN low), .bool (vB high), .int .i64 (vN high)] 52 ∧ Hx wx O [.string (labelB nm (labTexts S.name L)), .int .i64 S.start, .int .i64 S.step, u, .int .i64 S.cons] 24 ∧ EOwn valE 28 wx wl.heap.size u done) (fun _ iv _ => S.vals.length - (intOf iv).toNat)
      case atStart => exact ⟨0, _, [], rfl, by omega, Lib.hid (by simp), by simp, Nat.le_refl _, HGl, hw, ho, EOwn.nil _ _ _ _⟩
      case round =>
        clear HGl hw ho HO HGf hs_3 hs_l hsl hgl hsz
        obtain ⟨j, u, done, rfl, hj, HT, hdl, hsz, HGf, hw, ho, HO⟩ := hrel
        obtain ⟨ua, un, uc, rfl⟩ : ∃ a n c, u = .slice a n c := by rcases HO.form with ⟨e, _⟩ | ⟨_, _, e, _⟩ <;> exact ⟨_, _, _, e⟩
        by_cases hlt : j < S.vals.length
        · obtain ⟨b3, o3, rfl, hb3, hc3⟩ := Q3.out (by omega)
          obtain ⟨x0, x1⟩ := valCells hc3 (G.trans HG HGf) hb3 hlt
          have hst := map_take_step (f := fun p : Bool × Int => vP (fmV i S.step (decide (0 < L.length)) (kOf L) low high (vK p.1 p.2))) hlt
          have hR1 := hall2.out j hlt
          have hpv : S.vals[j] = vP (vK S.vals[j].1 S.vals[j].2) := vP_of hR1
          have hvf := vK_fits S.vals[j].1 S.vals[j].2
          rw [show S.vals[j].1 = vB (vK S.vals[j].1 S.vals[j].2) from congrArg Prod.fst hpv] at x0
          rw [show S.vals[j].2 = vN (vK S.vals[j].1 S.vals[j].2) from congrArg Prod.snd hpv] at x1
          have HD := Lib.hid (fun W h1 h2 => HDo.out W (vK S.vals[j].1 S.vals[j].2) hvf h1 h2)
          rw [valV_form] at HD
          have HT2 : Hid (done ++ [vP (fmV i S.step (decide (0 < L.length)) (kOf L) low high (vK S.vals[j].1 S.vals[j].2))] = (S.vals.map fun p => vP (fmV i S.step (decide (0 < L.length)) (kOf L) low high (vK p.1 p.2))).take (j + 1)) := Lib.hid (by rw [HT.out]; exact hst.symm)
          have hdl2 : done.length ≤ j := by rw [HT.out]; simp; omega
          clear hc3 hst hR1 hpv hvf HT hdl
          generalize fmV i S.step (decide (0 < L.length)) (kOf L) low high (vK S.vals[j].1 S.vals[j].2) = D at *
          generalize vK S.vals[j].1 S.vals[j].2 = v at *
          have hs4 := Hx.kept hs HGf (by simp)
          have hs4_3 := hs4.cell 3
          go_upto_region 19 with (fail)
          have hvb := (Hx.new wr #[.bool (vB v), .int .i64 (vN v)] 28 : Hx _ wr.heap.size [.bool (vB v), .int .i64 (vN v)] 28)
          replace hw := Hx.alloc hw (.cells #[.bool (vB v), .int .i64 (vN v)] 28)
          replace ho := Hx.alloc ho (.cells #[.bool (vB v), .int .i64 (vN v)] 28)
          replace HO := EOwn.alloc HO (.cells #[.bool (vB v), .int .i64 (vN v)] 28)
          replace HGf := G.alloc HGf (.cells #[.bool (vB v), .int .i64 (vN v)] 28)
          have hszy : wl.heap.size ≤ (wr.alloc (.cells #[.bool (vB v), .int .i64 (vN v)] 28)).heap.size := Nat.le_trans hsz (by simp)
          generalize wr.alloc (.cells #[.bool (vB v), .int .i64 (vN v)] 28) = wy at *
          refine wp_region_rel (n := 11) (S := [fun v _ => v = .pointer (some ⟨O, 3, none⟩), fun v _ => v = .slice ua un uc, fun v _ => v = .slice (some ⟨LB, 0, none⟩) 16 16, fun v _ => v = .int .i64 i, fun v _ => v = .pointer (some ⟨LB, i * 4, none⟩), fun v _ => v = .pointer (some ⟨LB, i * 4 + 3, none⟩), fun v _ => v = .func (.func g) #[] cap, fun v _ => v = .pointer (some ⟨B, 0, none⟩), fun x _ => x = .agg #[.bool (vB v), .int .i64 (vN v)], fun v _ => v = .agg #[.bool (vB D), .int .i64 (vN D)], fun v w => ∃ R, v = .slice (some ⟨R, 0, none⟩) 1 1 ∧ Hx w R [.bool (vB D), .int .i64 (vN D)] 28 ∧ wy.heap.size ≤ R]) (G.refl _ none) (by kernel_rfl) (by kernel_rfl) ?_ ?_ ?_
          · intro i v y1 y2 hg12 hS
            match i, hS with
            | 0, h => exact h
            | 1, h => exact h
            | 2, h => exact h
            | 3, h => exact h
            | 4, h => exact h
            | 5, h => exact h
            | 6, h => exact h
            | 7, h => exact h
            | 8, h => exact h
            | 9, h => exact h
            | 10, h => exact (let ⟨R, e1, e2, e3⟩ := h; ⟨R, e1, e2.kept hg12 (by simp), e3⟩)
            | k + 11, h => exact trivial
          · simp only [List.take_succ_cons, List.take_zero, relOps]
            refine ⟨fun VV y1 hg1 hV => ?_, fun VV y1 hg1 hV => ?_, fun VV y1 hg1 hV => ?_, fun VV y1 hg1 hV => ?_, fun VV y1 hg1 hV => ?_, fun VV y1 hg1 hV => ?_, fun VV y1 hg1 hV => ?_, fun VV y1 hg1 hV => ?_, fun VV y1 hg1 hV => ?_, fun VV y1 hg1 hV => ?_, fun VV y1 hg1 hV => ?_, trivial⟩
            · clear hV
              have hcy := (G.cell (G.trans HGf hg1) (a := ⟨LB, i * 4 + 3, none⟩) hLB.lt (by simp)).trans hcr; have hbk := hbx.kept (G.trans HGf hg1); replace ho := Hx.kept ho hg1 (by simp); replace hw := Hx.kept hw hg1 (by simp); replace hvb := Hx.kept hvb hg1 (by simp); have ho_3 := ho.cell 3; have ho_f3 := ho.free 3; have ho_l := ho.lt; have hvb_0 := hvb.cell 0; have hvb_1 := hvb.cell 1; have hvb_l := hvb.lt
              simp only [putAll]
              go_wp2_with fail
              exact ⟨rfl, rfl, G.refl _ none, rfl⟩
            · have e0 := hV 0 (by kernel_rfl); clear hV
              have hcy := (G.cell (G.trans HGf hg1) (a := ⟨LB, i * 4 + 3, none⟩) hLB.lt (by simp)).trans hcr; have hbk := hbx.kept (G.trans HGf hg1); replace ho := Hx.kept ho hg1 (by simp); replace hw := Hx.kept hw hg1 (by simp); replace hvb := Hx.kept hvb hg1 (by simp); have ho_3 := ho.cell 3; have ho_f3 := ho.free 3; have ho_l := ho.lt; have hvb_0 := hvb.cell 0; have hvb_1 := hvb.cell 1; have hvb_l := hvb.lt
              simp only [atS, List.getD_cons_zero] at e0
              simp only [putAll, e0]
              go_wp2_with fail
              exact ⟨rfl, rfl, G.refl _ none, rfl⟩
            · clear hV
              have hcy := (G.cell (G.trans HGf hg1) (a := ⟨LB, i * 4 + 3, none⟩) hLB.lt (by simp)).trans hcr; have hbk := hbx.kept (G.trans HGf hg1); replace ho := Hx.kept ho hg1 (by simp); replace hw := Hx.kept hw hg1 (by simp); replace hvb := Hx.kept hvb hg1 (by simp); have ho_3 := ho.cell 3; have ho_f3 := ho.free 3; have ho_l := ho.lt; have hvb_0 := hvb.cell 0; have hvb_1 := hvb.cell 1; have hvb_l := hvb.lt
              simp only [putAll]
              go_wp2_with fail
              exact ⟨rfl, rfl, G.refl _ none, rfl⟩
            · clear hV
              have hcy := (G.cell (G.trans HGf hg1) (a := ⟨LB, i * 4 + 3, none⟩) hLB.lt (by simp)).trans hcr; have hbk := hbx.kept (G.trans HGf hg1); replace ho := Hx.kept ho hg1 (by simp); replace hw := Hx.kept hw hg1 (by simp); replace hvb := Hx.kept hvb hg1 (by simp); have ho_3 := ho.cell 3; have ho_f3 := ho.free 3; have ho_l := ho.lt; have hvb_0 := hvb.cell 0; have hvb_1 := hvb.cell 1; have hvb_l := hvb.lt
              simp only [putAll]
              go_wp2_with fail
              exact ⟨rfl, rfl, G.refl _ none, rfl⟩
            · have e2 := hV 2 (by kernel_rfl); have e3 := hV 3 (by kernel_rfl); clear hV
              have hcy := (G.cell (G.trans HGf hg1) (a := ⟨LB, i * 4 + 3, none⟩) hLB.lt (by simp)).trans hcr; have hbk := hbx.kept (G.trans HGf hg1); replace ho := Hx.kept ho hg1 (by simp); replace hw := Hx.kept hw hg1 (by simp); replace hvb := Hx.kept hvb hg1 (by simp); have ho_3 := ho.cell 3; have ho_f3 := ho.free 3; have ho_l := ho.lt; have hvb_0 := hvb.cell 0; have hvb_1 := hvb.cell 1; have hvb_l := hvb.lt
              simp only [atS, List.getD_cons_succ, List.getD_cons_zero] at e2 e3
              simp only [putAll, e2, e3]
              go_wp2_with fail
              exact ⟨rfl, rfl, G.refl _ none, rfl⟩
            · have e4 := hV 4 (by kernel_rfl); clear hV
              have hcy := (G.cell (G.trans HGf hg1) (a := ⟨LB, i * 4 + 3, none⟩) hLB.lt (by simp)).trans hcr; have hbk := hbx.kept (G.trans HGf hg1); replace ho := Hx.kept ho hg1 (by simp); replace hw := Hx.kept hw hg1 (by simp); replace hvb := Hx.kept hvb hg1 (by simp); have ho_3 := ho.cell 3; have ho_f3 := ho.free 3; have ho_l := ho.lt; have hvb_0 := hvb.cell 0; have hvb_1 := hvb.cell 1; have hvb_l := hvb.lt
              simp only [atS, List.getD_cons_succ, List.getD_cons_zero] at e4
              simp only [putAll, e4]
              go_wp2_with fail
              exact ⟨rfl, rfl, G.refl _ none, rfl⟩
            · have e5 := hV 5 (by kernel_rfl); clear hV
              have hcy := (G.cell (G.trans HGf hg1) (a := ⟨LB, i * 4 + 3, none⟩) hLB.lt (by simp)).trans hcr; have hbk := hbx.kept (G.trans HGf hg1); replace ho := Hx.kept ho hg1 (by simp); replace hw := Hx.kept hw hg1 (by simp); replace hvb := Hx.kept hvb hg1 (by simp); have ho_3 := ho.cell 3; have ho_f3 := ho.free 3; have ho_l := ho.lt; have hvb_0 := hvb.cell 0; have hvb_1 := hvb.cell 1; have hvb_l := hvb.lt
              simp only [atS, List.getD_cons_succ, List.getD_cons_zero] at e5
              simp only [putAll, e5]
              go_wp2_with fail
              exact ⟨rfl, rfl, G.refl _ none, rfl⟩
            · clear hV
              have hcy := (G.cell (G.trans HGf hg1) (a := ⟨LB, i * 4 + 3, none⟩) hLB.lt (by simp)).trans hcr; have hbk := hbx.kept (G.trans HGf hg1); replace ho := Hx.kept ho hg1 (by simp); replace hw := Hx.kept hw hg1 (by simp); replace hvb := Hx.kept hvb hg1 (by simp); have ho_3 := ho.cell 3; have ho_f3 := ho.free 3; have ho_l := ho.lt; have hvb_0 := hvb.cell 0; have hvb_1 := hvb.cell 1; have hvb_l := hvb.lt
              simp only [putAll]
              go_wp2_with fail
              exact ⟨rfl, rfl, G.refl _ none, rfl⟩
            · clear hV
              have hcy := (G.cell (G.trans HGf hg1) (a := ⟨LB, i * 4 + 3, none⟩) hLB.lt (by simp)).trans hcr; have hbk := hbx.kept (G.trans HGf hg1); replace ho := Hx.kept ho hg1 (by simp); replace hw := Hx.kept hw hg1 (by simp); replace hvb := Hx.kept hvb hg1 (by simp); have ho_3 := ho.cell 3; have ho_f3 := ho.free 3; have ho_l := ho.lt; have hvb_0 := hvb.cell 0; have hvb_1 := hvb.cell 1; have hvb_l := hvb.lt
              simp only [putAll]
              go_wp2_with fail
              exact ⟨rfl, rfl, G.refl _ none, rfl⟩
            · have e6 := hV 6 (by kernel_rfl); have e7 := hV 7 (by kernel_rfl); have e8 := hV 8 (by kernel_rfl); clear hV
              have hcy := (G.cell (G.trans HGf hg1) (a := ⟨LB, i * 4 + 3, none⟩) hLB.lt (by simp)).trans hcr; have hbk := hbx.kept (G.trans HGf hg1); replace ho := Hx.kept ho hg1 (by simp); replace hw := Hx.kept hw hg1 (by simp); replace hvb := Hx.kept hvb hg1 (by simp); have ho_3 := ho.cell 3; have ho_f3 := ho.free 3; have ho_l := ho.lt; have hvb_0 := hvb.cell 0; have hvb_1 := hvb.cell 1; have hvb_l := hvb.lt
              simp only [atS, List.getD_cons_succ, List.getD_cons_zero] at e6 e7 e8
              simp only [putAll, e6, e7, e8]
              go_wp2_with (go_at_fn g; (with_reducible refine (HD.out _ hw hbk).mono ?_); rintro e wn ⟨rfl, hgn⟩)
              exact ⟨rfl, rfl, hgn, rfl⟩
            · have e9 := hV 9 (by kernel_rfl); clear hV
              have hcy := (G.cell (G.trans HGf hg1) (a := ⟨LB, i * 4 + 3, none⟩) hLB.lt (by simp)).trans hcr; have hbk := hbx.kept (G.trans HGf hg1); replace ho := Hx.kept ho hg1 (by simp); replace hw := Hx.kept hw hg1 (by simp); replace hvb := Hx.kept hvb hg1 (by simp); have ho_3 := ho.cell 3; have ho_f3 := ho.free 3; have ho_l := ho.lt; have hvb_0 := hvb.cell 0; have hvb_1 := hvb.cell 1; have hvb_l := hvb.lt
              simp only [atS, List.getD_cons_succ, List.getD_cons_zero] at e9
              simp only [putAll, e9]
              go_wp2_with fail
              exact ⟨rfl, rfl, G.alloc (G.refl _ _) _, _, rfl, Hx.new _ _ _, hg1.size⟩
          · intro VV y1 hg1 hV
            have e0 := hV 0 (by omega); have e1 := hV 1 (by omega); have e2 := hV 2 (by omega); have e3 := hV 3 (by omega); have e4 := hV 4 (by omega); have e5 := hV 5 (by omega); have e6 := hV 6 (by omega); have e7 := hV 7 (by omega); have e8 := hV 8 (by omega); have e9 := hV 9 (by omega); have e10 := hV 10 (by omega); clear hV
            simp only [atS, List.getD_cons_succ, List.getD_cons_zero] at e0 e1 e2 e3 e4 e5 e6 e7 e8 e9 e10
            simp only [List.take_succ_cons, List.take_zero, List.drop_succ_cons, List.drop_zero, putAll, e0, e1, e2, e3, e4, e5, e6, e7, e8, e9]
            replace ho := Hx.kept ho hg1 (by simp); replace hw := Hx.kept hw hg1 (by simp); replace hvb := Hx.kept hvb hg1 (by simp); have ho_3 := ho.cell 3; have ho_f3 := ho.free 3; have ho_l := ho.lt; have hvb_0 := hvb.cell 0; have hvb_1 := hvb.cell 1; have hvb_l := hvb.lt
            have hg2 := hg1
            clear hg1
            obtain ⟨R, e10, hR, hRl⟩ := e10
            simp only [e10]
            replace HGf := G.trans HGf hg2
            have HO1 := HO.kept0 hg2
            go_wp2_with (at_builtin; refine stop_of ?_)
            unfold StopP
            refine wpList_append_el valE rfl _ _ 22 28 rfl Tryz.underlying22 info_val wl.heap.size (.slice ua un uc) done rfl _ (vB D, vN D) 28 rfl ?_ ?_
            rotate_left
            exact ⟨HO1, hR, Nat.le_trans hszy hg2.size, by omega⟩
            intro g2 cap2 wa hown hgrow
            have HGa := G.trans' (row := none) HGf hgrow (fun c e => Or.inl (Nat.le_trans hfl (HO1.lt c e).1))
            replace hw := Hx.kept hw hgrow (fun e => by have := (HO1.lt B e.symm).1; omega)
            replace ho := Hx.kept ho hgrow (fun e => by have := (HO1.lt O e.symm).1; omega)
            have ho_3 := ho.cell 3
            have ho_f3 := ho.free 3
            have ho_l := ho.lt
            have hsz3 : wl.heap.size ≤ wa.heap.size := Nat.le_trans hszy (Nat.le_trans hg2.size hgrow.size)
            have hne9 : (Value.slice (some ⟨g2, 0, none⟩) (done.length + 1) cap2).ownBlock ≠ some O := (fun e => by have := (hown.lt O e).1; omega)
            clear hgrow
            clear HD HDo hall2 hbx hLB hcr eg hs hr hn hs4 hs4_3 x0 x1 hvb
            go_wp2_with fail
            refine ⟨?_, by first | (simp [intOf]; done) | (simp [intOf]; omega)⟩
            exact ⟨j + 1, _, done ++ [(vB D, vN D)], by go_num, by omega, HT2, by rw [List.length_append, List.length_singleton]; omega, by simpa [World.setCell] using hsz3, G.set HGa _ (Or.inl hwfO), Hx.other hw hneBO _ _, Hx.set ho _ _, EOwn.set hown hne9 _ _⟩
        · have hV3 : done = S.vals.map fun p => vP (fmV i S.step (decide (0 < L.length)) (kOf L) low high (vK p.1 p.2)) := by rw [HT.out, List.take_of_length_le (by simp; omega)]
          subst hV3
          have hr1 := Hx.kept hr HGf (by simp)
          have hrl := hr.lt
          have hneN : (Value.slice ua un uc).ownBlock ≠ some (w.heap.size + 1 + 1) := fun e => by have := (HO.lt _ e).1; omega
          have hneO2 : ¬ O = w.heap.size + 1 + 1 := by omega
          have hneO3 : ¬ w.heap.size + 1 + 1 = O := by omega
          have hr1_0 := hr1.cell 0; have hr1_1 := hr1.cell 1; have hr1_2 := hr1.cell 2; have hr1_3 := hr1.cell 3; have hr1_4 := hr1.cell 4; have hr1_f0 := hr1.free 0; have hr1_f1 := hr1.free 1; have hr1_f2 := hr1.free 2; have hr1_f3 := hr1.free 3; have hr1_f4 := hr1.free 4; have hr1_l := hr1.lt; have ho_0 := ho.cell 0; have ho_1 := ho.cell 1; have ho_2 := ho.cell 2; have ho_3 := ho.cell 3; have ho_4 := ho.cell 4
          have HGe := G.trans HG HGf
          clear HT HDo
          go_wp2_with fail
          refine ret_cell_tmp [.string (labelB nm (labTexts S.name L)), .int .i64 S.start, .int .i64 S.step, .slice ua un uc, .int .i64 S.cons] (w.heap.size + 1 + 1) 24 rfl rfl (Tryz.isAgg24 _) (Tryz.sizeOf24 _) rfl ?_ ?_
          · exact (by first | exact Hx.go hr1 | exact Hx.go2)
          · rw [hfin.out]
            exact ⟨_, rfl, (show ERow valE _ (.slice ua un uc) (S.vals.map fun p => vP (fmV i S.step (decide (0 < L.length)) (kOf L) low high (vK p.1 p.2))) from EOwn.row (E := 28) (base := wl.heap.size) (by have hb0 := (HO); (repeat first | with_reducible exact hb0 | with_reducible apply EOwn.drewN | with_reducible apply EOwn.drew | with_reducible apply EOwn.alloc | (with_reducible apply EOwn.set; (case hne => (first | assumption | omega | (simp; done) | (simp; omega))))))), (by exact G.go HGe)⟩
end Go.Proofs.YtfomknfjidbdcaaGreatDoor
