/-
  The walks of both lists of names, and of the law on all other names. Printed by genothers.py.
-/
import Derived.Test.YtkablhamnepfnaaGreatDoorFsLaw
import Derived.Laws.EntriesVeiled
namespace Go.Proofs.YtkablhamnepfnaaGreatDoor
open Go.RowKit
/-- the functions' names -/
def fsNames : List ByteArray := [fs0, fs1, fs2, fs3, fs4, fs5, fs6, fs7]
def NamesPost (w : World) (e : Ending) (w' : World) : Prop := ∃ A c, e = .returned (.slice A 8 c) ∧ ERow strE w' (.slice A 8 c) fsNames ∧ w.grownBy w' none
set_option maxHeartbeats 8000000 in
theorem names20_any (w : World) : Calls Tryz.prog 13 #[] w fun e w' => NamesPost w e w' := by
  have HG := G.refl w none
  go_enter Tryz.func13, Tryz.ntmps13
  go_wp2_with (go_at_call 21; (with_reducible refine (fsRows_any _).mono ?_); rintro e wl ⟨LB, rfl, hLB, hgn⟩; replace HG := G.trans (w := w) (by exact G.go HG) hgn; clear hgn)
  go_loopw [1, 3, 6] (fun sv _ iv wr => ∃ (j : Nat) (ts : List ByteArray), iv = .int .i64 j ∧ j ≤ 8 ∧ Hid (ts = fsNames.take j) ∧ ts.length ≤ 8 ∧ wl.grownBy wr none ∧ EOwn strE 9 wr wl.heap.size sv ts) (fun _ _ iv _ => 8 - (intOf iv).toNat)
  case atStart => exact ⟨0, [], rfl, by omega, Lib.hid rfl, by simp, G.refl _ _, EOwn.nil _ _ _ _⟩
  case round =>
    obtain ⟨j, ts, rfl, hj, HT, hts, hgl, HO⟩ := hrel
    obtain ⟨ua, un, uc, rfl⟩ : ∃ a n c, u1 = .slice a n c := by rcases HO.form with ⟨e, _⟩ | ⟨_, _, e, _⟩ <;> exact ⟨_, _, _, e⟩
    by_cases hlt : j < 8
    · have hjr : j < (fsRows).length := by rw [fsRows_len]; exact hlt
      have hnm : ((fsRows)[j]).name = fsNames[j]'(by exact hlt) := by
        revert hjr hlt; clear HO HT hts hgl hj; intro hlt hjr
        match j, hlt with
        | 0, _ => rfl
        | 1, _ => rfl
        | 2, _ => rfl
        | 3, _ => rfl
        | 4, _ => rfl
        | 5, _ => rfl
        | 6, _ => rfl
        | 7, _ => rfl
        | k + 8, h => omega
      have hst : fsNames.take (j + 1) = fsNames.take j ++ [fsNames[j]'(by exact hlt)] := by rw [List.take_add_one, List.getElem?_eq_getElem (show j < fsNames.length from hlt)]; rfl
      have x0 := (hLB.cell (j * 4 + 0)).trans (frowE.flat_at (fsRows) j hjr 0 _ rfl)
      have x1 := (hLB.cell (j * 4 + 1)).trans (frowE.flat_at (fsRows) j hjr 1 _ rfl)
      have x2 := (hLB.cell (j * 4 + 2)).trans (frowE.flat_at (fsRows) j hjr 2 _ rfl)
      have x3 := (hLB.cell (j * 4 + 3)).trans (frowE.flat_at (fsRows) j hjr 3 _ rfl)
      rw [← G.cell hgl (a := ⟨LB, _, none⟩) hLB.lt (by simp)] at x0 x1 x2 x3
      rw [hnm] at x0
      have HT2 : Hid (ts ++ [fsNames[j]'(by exact hlt)] = fsNames.take (j + 1)) := Lib.hid (by rw [HT.out]; exact hst.symm)
      clear hnm hst HT
      generalize fsNames[j]'(by exact hlt) = nj at *
      rw [show (fsRows)[j].f = Value.func (.func (fsRows)[j].fn) #[] (fsRows)[j].cap from rfl] at x3
      generalize (fsRows)[j].fn = g at *
      generalize (fsRows)[j].cap = cap at *
      generalize (fsRows)[j].need = n1 at *
      generalize (fsRows)[j].most = n2 at *
      rw [Nat.add_zero] at x0
      have hbl := Nat.lt_of_lt_of_le hLB.lt hgl.size
      go_wp2_with (at_builtin; refine stop_own ?_)
      unfold StopO
      refine wpList_append_el strE rfl _ _ 30 9 rfl Tryz.underlying30 info_strL wl.heap.size (.slice ua un uc) ts rfl _ nj 9 rfl ?_ ⟨EOwn.alloc (EOwn.alloc HO _) _, Hx.new' (by simp) rfl, Nat.le_trans hgl.size (by first | (simp; done) | (simp; omega)), by omega⟩
      intro g2 cap2 wa hown hgrow
      have hga := G.trans' (row := none) (G.alloc (G.alloc hgl _) _) hgrow (fun c e => Or.inl (HO.lt c e).1)
      clear hgrow x0 x1 x2 x3 HO hgl
      go_wp2_with fail
      refine ⟨?_, by first | (simp [intOf]; done) | (simp [intOf]; omega)⟩
      exact ⟨j + 1, ts ++ [nj], by first | rfl | go_num, by omega, HT2, by rw [List.length_append, List.length_singleton]; have := congrArg List.length HT2.out; simp at this; omega, hga, hown⟩
    · obtain rfl : j = 8 := by omega
      have hall : ts = fsNames := HT.out
      subst hall
      have hrow := HO.row
      go_wp2_with fail
      go_ret
      obtain ⟨A, c, e, -, -, -⟩ := id hrow
      rw [e] at hrow ⊢
      exact ⟨A, c, rfl, hrow, G.trans HG hgl⟩
set_option maxHeartbeats 8000000 in
theorem refNames20_any (w : World) : Calls Tryz.prog 14 #[] w fun e w' => NamesPost w e w' := by
  have HG := G.refl w none
  go_enter Tryz.func14, Tryz.ntmps14
  go_wp2_with fail
  go_ret
  exact ⟨_, _, rfl, ERow.of_hx (ts := fsNames) (by decide) (by decide) (Hx.new' rfl rfl), (by exact G.go HG)⟩
theorem strCell {X : List ByteArray} {w wr : World} {b o i : Nat} (h : ∀ i (hi : i < X.length) j u, (strE.cells X[i])[j]? = some u → w.cell? ⟨b, o + i * strE.k + j, none⟩ = some u) (hg : w.grownBy wr none) (hb : b < w.heap.size) (hi : i < X.length) : wr.cell? ⟨b, o + i, none⟩ = some (.string X[i]) := by
  have c0 : w.cell? ⟨b, o + i, none⟩ = some (.string X[i]) := by have := h i hi 0 _ rfl; simpa [strE] using this
  exact (G.cell hg (a := ⟨b, o + i, none⟩) hb (by simp)).trans c0
set_option maxHeartbeats 8000000 in
set_option maxRecDepth 100000 in
theorem others20_any (nm : ByteArray) (S : Ser) (sv lv : Value) (L : List (Bool × Int)) (w : World) (h : ERow valE w sv S.vals) (hl : ERow valE w lv L) (hF : ∀ p ∈ L, -9223372036854775808 ≤ p.2 ∧ p.2 ≤ 9223372036854775807) (hp : Pow10 w) :
    Calls Tryz.prog 11 #[.string nm, .agg #[.string S.name, .int .i64 S.start, .int .i64 S.step, sv, .int .i64 S.cons], lv] w fun e w' => e = .returned (.bool true) ∧ w.grownBy w' none := by
  have HG := G.refl w none
  have HP := Lib.hid hp; clear hp
  have HV := Lib.hid h
  have HLV := Lib.hid hl
  have HK := Lib.hid (fun w2 hpp => lawKnown20_any w2 hpp)
  have HN1 := Lib.hid (fun w2 => names20_any w2)
  have HN2 := Lib.hid (fun w2 => refNames20_any w2)
  obtain ⟨A, c, rfl, -, -, -⟩ := h
  obtain ⟨A2, c2, rfl, -, -, -⟩ := hl
  go_enter Tryz.func11, Tryz.ntmps11
  go_upto_region 0 with (fail)
  go_cut [4, 6] (fun p4 p6 wc => p4 = .pointer (some ⟨w.heap.size, 0, none⟩) ∧ p6 = .bool false ∧ w.grownBy wc none ∧ Hx wc w.heap.size [.string S.name, .int .i64 S.start, .int .i64 S.step, .slice A S.vals.length c, .int .i64 S.cons] 24)
  case first =>
    go_wp2_with fail
    go_meet
    exact ⟨rfl, rfl, (by exact G.go HG), Hx.new _ _ _⟩
  obtain ⟨rfl, rfl, HG, hs⟩ := hcut
  rename World => wx
  by_cases g : 300 < nm.size
  · go_wp2_with fail
    go_ret
    exact ⟨rfl, (by exact G.go HG)⟩
  have HA := Lib.hid (fun w2 h hl hpp => applied20_any nm S (.slice A S.vals.length c) (.slice A2 L.length c2) L w2 h hl hF (by omega) hpp)
  have hgx := G.refl wx none
  go_upto_region 3 with (fail)
  go_cut [4, 6, 7, 8] (fun p4 p6 p7 p8 wd => ∃ B1 d1 B2 d2, p4 = .pointer (some ⟨w.heap.size, 0, none⟩) ∧ p6 = .bool false ∧ p7 = .slice B1 8 d1 ∧ p8 = .slice B2 8 d2 ∧ wx.grownBy wd none ∧ ERow strE wd (.slice B1 8 d1) fsNames ∧ ERow strE wd (.slice B2 8 d2) fsNames)
  case first =>
    go_wp2_with (first | (go_at_call 13; (with_reducible refine (HN1.out _).mono ?_); rintro e wn ⟨B1, d1, rfl, hr1, hgn⟩; replace hgx := G.trans (w := wx) (by exact G.go hgx) hgn; clear hgn) | (go_at_call 14; (with_reducible refine (HN2.out _).mono ?_); rintro e wn ⟨B2, d2, rfl, hr2, hgn⟩; replace hgx := G.trans (w := wx) (by exact G.go hgx) hgn; replace hr1 := hr1.kept0 hgn; clear hgn))
    go_meet
    exact ⟨_, _, _, _, rfl, rfl, rfl, rfl, (by exact G.go hgx), hr1, hr2⟩
  obtain ⟨B1, d1, B2, d2, rfl, rfl, rfl, rfl, hgd, hr1, hr2⟩ := hcut
  replace HG := G.trans HG hgd
  replace hs := Hx.kept hs hgd (by simp)
  clear hgx hgd
  rename World => wy
  obtain ⟨_, _, e1, -, -, q1⟩ := hr1
  cases e1
  have Q1 := Lib.hid q1; clear q1
  obtain ⟨_, _, e2, -, -, q2⟩ := hr2
  cases e2
  have Q2 := Lib.hid q2; clear q2
  go_wp2_with fail
  go_loopw [9] (fun iv wr => ∃ (j : Nat), iv = .int .i64 j ∧ j ≤ 8 ∧ wy.grownBy wr none) (fun iv _ => 8 - (intOf iv).toNat)
  case atStart => exact ⟨0, rfl, by omega, (by have hb0 := (G.refl wy none); (repeat first | with_reducible exact hb0 | with_reducible refine G.drewN ?_ _ | with_reducible refine G.drew ?_ | with_reducible refine G.alloc ?_ _ | with_reducible refine G.set ?_ _ (Or.inr rfl) | (with_reducible refine G.set ?_ _ (Or.inl ?_); rotate_left; focus (first | omega | (simp; done) | (simp; omega)))))⟩
  case round =>
    obtain ⟨j, rfl, hj, hgx⟩ := hrel
    by_cases hlt : j < 8
    · obtain ⟨b1, o1, rfl, hb1, hc1⟩ := Q1.out (by decide)
      have x0 := strCell hc1 hgx hb1 (i := j) hlt
      obtain ⟨b2, o2, rfl, hb2, hc2⟩ := Q2.out (by decide)
      have y0 := strCell hc2 hgx hb2 (i := j) hlt
      clear hc1 hc2
      generalize fsNames[j]'(by exact hlt) = nj at *
      go_wp2_with fail
      go_quiet (fail)
      go_wp2_with fail
      refine ⟨?_, by first | (simp [intOf]; done) | (simp [intOf]; omega)⟩
      exact ⟨j + 1, by go_num, by omega, (by exact G.go hgx)⟩
    · replace HG := G.trans HG hgx
      replace hs := Hx.kept hs hgx (by simp)
      have hs_0 := hs.cell 0; have hs_f0 := hs.free 0; have hs_1 := hs.cell 1; have hs_f1 := hs.free 1; have hs_2 := hs.cell 2; have hs_f2 := hs.free 2; have hs_3 := hs.cell 3; have hs_f3 := hs.free 3; have hs_4 := hs.cell 4; have hs_f4 := hs.free 4; have hs_l := hs.lt
      clear Q1 Q2 HN1 HN2 hgx
      go_wp2_with (first | (go_at_call 12; (with_reducible refine (HA.out _ (HV.out.kept0 (by exact G.go HG)) (HLV.out.kept0 (by exact G.go HG)) (Pow10.kept (w := w) HP.out (by exact G.go HG))).mono ?_); rintro e wn ⟨rfl, hgn⟩; replace HG := G.trans (w := w) (by exact G.go HG) hgn; clear hgn) | (go_at_call 15; (with_reducible refine (HK.out _ (Pow10.kept (w := w) HP.out (by exact G.go HG))).mono ?_); rintro e wn ⟨rfl, hgn⟩; replace HG := G.trans (w := w) (by exact G.go HG) hgn; clear hgn))
      go_ret
      exact ⟨rfl, (by exact G.go HG)⟩
end Go.Proofs.YtkablhamnepfnaaGreatDoor
