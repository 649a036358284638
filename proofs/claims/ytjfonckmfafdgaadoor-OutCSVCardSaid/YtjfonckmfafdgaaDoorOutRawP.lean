/-
  The walk of Raw. Printed by genout.py.
-/
import Derived.Test.YtjfonckmfafdgaaDoorOutQuote
import Derived.Test.YtjfonckmfafdgaaDoorOutRow
import Derived.Deep.CutBlock
namespace Go.Proofs.YtjfonckmfafdgaaDoor
open Go.RowKit

theorem rawP_step {L : List SerP} {i : Nat} (h : i < L.length) : rawP (sersOf L) (i + 1) = rawP (sersOf L) i ++ rawS L[i].1 := by
  show joinP [] _ i ++ ((if i = 0 then [] else []) ++ rawS (serAt (sersOf L) i)) = _
  rw [sersOf_at h]; simp [rawP]
theorem rawV_step {S : Ser} {k : Nat} : rawV S (k + 1) = rawV S k ++ ((if k = 0 then [] else [44]) ++ prL (atW S.vals k)) := rfl
set_option maxHeartbeats 16000000 in
set_option maxRecDepth 100000 in
theorem outRaw_any (L : List SerP) (v : Value) (w : World) (h : SerRow w v L) (hF : Few (sersOf L)) (hp : Pow10 w) :
    Calls Tryd.prog 9 #[v] w fun e w' => e = .returned (.string ⟨(rawP (sersOf L) L.length).toArray⟩) ∧ w.grownBy w' none := by
  have HP := Lib.hid hp; clear hp
  have HA := Lib.hid h.2
  have HF := Lib.hid hF
  have hn := hF.n
  rw [sersOf_len] at hn
  have HG := G.refl w none
  obtain ⟨A, c, rfl, q1, q2, q3⟩ := h.1
  have Q3 := Lib.hid q3; clear q3 h hF
  obtain ⟨V, hV⟩ : ∃ V, Hid ((rawP (sersOf L) L.length) = V) := ⟨_, Lib.hid rfl⟩
  rw [hV.out]
  go_enter Tryd.func9, Tryd.ntmps9
  go_wp2_with fail
  go_loopw [5, 6, 7, 12] (fun _ _ _ iv wr => ∃ (i : Nat), iv = .int .i64 i ∧ i ≤ L.length ∧ Bld wr w.heap.size w.heap.size (rawP (sersOf L) i) ∧ w.grownBy wr none) (fun _ _ _ iv _ => L.length - (intOf iv).toNat)
  case atStart => exact ⟨0, rfl, by omega, Bld.fresh w, (by exact G.go HG)⟩
  case round =>
    clear HG
    obtain ⟨i, rfl, hi, HD, HG⟩ := hrel
    rename World => wo
    have hdl := HD.lt.2
    have hl : Hid ((rawP (sersOf L) i).length ≤ 400000) := Lib.hid (HF.out.rawP_len (by rw [sersOf_len]; exact hi))
    by_cases hlt : i < L.length
    · obtain ⟨b, o, rfl, hbl, hc⟩ := Q3.out (by omega)
      obtain ⟨x0, x1, x2, x3, x4⟩ := serCells hc HG hbl hlt
      have hI := HF.out.at (k := i) (by rw [sersOf_len]; exact hlt)
      rw [sersOf_at hlt] at hI
      have hS : isSer L[i].1 = true := (HF.out.one L[i].1 (List.mem_map.2 ⟨_, List.getElem_mem hlt, rfl⟩)).2.2
      have hrow := HA.out L[i] (List.getElem_mem hlt)
      have hstep : Hid (rawP (sersOf L) (i + 1) = rawP (sersOf L) i ++ rawS L[i].1) := Lib.hid (rawP_step hlt)
      generalize rawP (sersOf L) i = T at *
      generalize L[i] = p at *
      obtain ⟨S, A2, c2⟩ := p
      simp only [slV] at x0 x1 x2 x3 x4 hrow
      dsimp only at x0 x1 x2 x3 x4 hrow hI hS hstep
      have hb0 := hI.a0; have hb1 := hI.a1; have hb2 := hI.b0; have hb3 := hI.b1; have hb4 := hI.l; have hb5 := hI.n
      have hend := hI.endB
      have HR := Lib.hid hrow
      obtain ⟨A3, c3, e3, r1, r2, r3⟩ := hrow
      cases e3
      have R3 := Lib.hid r3
      have HI := Lib.hid hI; have HS := Lib.hid hS
      clear r3 hI hS hc HF HA hend
      have hen : endS S = S.start + S.vals.length * S.step := rfl
      have hr1 := HI.out.rawH_len
      have hRs : Hid (rawS S = rawH S ++ (rawV S S.vals.length ++ [10])) := Lib.hid rfl
      have hRl := Lib.hid (fun k hk => HI.out.rawV_len (k := k) hk)
      have hfl : Hid (flatB [S.name, ⟨#[44]⟩, dgB S.start, ⟨#[44]⟩, dgB (endS S), ⟨#[44]⟩, dgB S.step, ⟨#[124]⟩] = rawH S) := Lib.hid (by simp [flatB, rawH, dgB])
      have hEl : -9223372036854775808 ≤ endS S ∧ endS S ≤ 9223372036854775807 := by have := HI.out.endB; omega
      have HE := Lib.hid (fun w h => end_any S A2 c2 w h HS.out HI.out)
      clear hen
      generalize endS S = E at *
      generalize rawH S = RH at *
      go_upto_region 4 with (fail)
      go_cut [5] (fun p5 wg => p5 = .pointer (some ⟨wo.heap.size, 0, none⟩) ∧ wo.grownBy wg none ∧ Hx wg wo.heap.size [.string S.name, .int .i64 S.start, .int .i64 S.step, .slice A2 S.vals.length c2, .int .i64 S.cons] 29)
      case first =>
        have HGr := G.refl wo none
        go_wp2_with fail
        go_meet
        exact ⟨rfl, (by exact G.go HGr), Hx.new _ _ _⟩
      obtain ⟨rfl, hgg, hs⟩ := hcut
      rename World => wg
      have hsz := hgg.size
      replace HG := G.trans (w := w) HG hgg
      have HD' := Lib.hid (HD.of_grown hgg); clear HD
      have HGx := Lib.hid HG
      have hsg := Lib.hid hs
      go_upto_region 5 with (fail)
      refine wp_region_rel (n := 13) (S := [fun v _ => v = .pointer (some ⟨w.heap.size, 0, none⟩), fun v _ => v = .pointer (some ⟨wo.heap.size, 0, none⟩), fun v _ => v = .string S.name, fun v _ => v = .pointer (some ⟨wo.heap.size, 1, none⟩), fun v _ => v = .int .i64 S.start, fun v _ => v = .string (dgB S.start), fun v _ => v = .agg #[.string S.name, .int .i64 S.start, .int .i64 S.step, .slice A2 S.vals.length c2, .int .i64 S.cons], fun v _ => v = .int .i64 E, fun v _ => v = .string (dgB E), fun v _ => v = .pointer (some ⟨wo.heap.size, 2, none⟩), fun v _ => v = .int .i64 S.step, fun v _ => v = .string (dgB S.step), Laid wg [S.name, ⟨#[44]⟩, dgB S.start, ⟨#[44]⟩, dgB E, ⟨#[44]⟩, dgB S.step, ⟨#[124]⟩]]) (G.refl _ none) (by kernel_rfl) (by kernel_rfl) ?_ ?_ ?_
      · intro i v y1 y2 hg12 hS
        match i, hS with
        | 0, h => exact h
        | 1, h => exact h
        | 2, h => exact h
        | 3, h => exact h
        | 4, h => exact h
        | 5, h => exact h
        | 6, h => exact h
        | 7, h => exact h
        | 8, h => exact h
        | 9, h => exact h
        | 10, h => exact h
        | 11, h => exact h
        | 12, h => exact Laid.grown h hg12
        | k + 13, h => exact trivial
      · simp only [List.take_succ_cons, List.take_zero, relOps]
        refine ⟨fun VV y1 hg1 hV => ?_, fun VV y1 hg1 hV => ?_, fun VV y1 hg1 hV => ?_, fun VV y1 hg1 hV => ?_, fun VV y1 hg1 hV => ?_, fun VV y1 hg1 hV => ?_, fun VV y1 hg1 hV => ?_, fun VV y1 hg1 hV => ?_, fun VV y1 hg1 hV => ?_, fun VV y1 hg1 hV => ?_, fun VV y1 hg1 hV => ?_, fun VV y1 hg1 hV => ?_, fun VV y1 hg1 hV => ?_, trivial⟩
        · clear hV
          replace hs := Hx.kept hs hg1 (by simp); have hs_0 := hs.cell 0; have hs_1 := hs.cell 1; have hs_2 := hs.cell 2; have hs_3 := hs.cell 3; have hs_4 := hs.cell 4; have hs_f0 := hs.free 0; have hs_f1 := hs.free 1; have hs_f2 := hs.free 2; have hs_f3 := hs.free 3; have hs_f4 := hs.free 4; have hs_l := hs.lt
          simp only [putAll]
          go_wp2_with fail
          exact ⟨rfl, rfl, G.refl _ none, rfl⟩
        · clear hV
          replace hs := Hx.kept hs hg1 (by simp); have hs_0 := hs.cell 0; have hs_1 := hs.cell 1; have hs_2 := hs.cell 2; have hs_3 := hs.cell 3; have hs_4 := hs.cell 4; have hs_f0 := hs.free 0; have hs_f1 := hs.free 1; have hs_f2 := hs.free 2; have hs_f3 := hs.free 3; have hs_f4 := hs.free 4; have hs_l := hs.lt
          simp only [putAll]
          go_wp2_with fail
          exact ⟨rfl, rfl, G.refl _ none, rfl⟩
        · have e1 := hV 1 (by kernel_rfl); clear hV
          replace hs := Hx.kept hs hg1 (by simp); have hs_0 := hs.cell 0; have hs_1 := hs.cell 1; have hs_2 := hs.cell 2; have hs_3 := hs.cell 3; have hs_4 := hs.cell 4; have hs_f0 := hs.free 0; have hs_f1 := hs.free 1; have hs_f2 := hs.free 2; have hs_f3 := hs.free 3; have hs_f4 := hs.free 4; have hs_l := hs.lt
          simp only [atS, List.getD_cons_succ, List.getD_cons_zero] at e1
          simp only [putAll, e1]
          go_wp2_with fail
          exact ⟨rfl, rfl, G.refl _ none, rfl⟩
        · clear hV
          replace hs := Hx.kept hs hg1 (by simp); have hs_0 := hs.cell 0; have hs_1 := hs.cell 1; have hs_2 := hs.cell 2; have hs_3 := hs.cell 3; have hs_4 := hs.cell 4; have hs_f0 := hs.free 0; have hs_f1 := hs.free 1; have hs_f2 := hs.free 2; have hs_f3 := hs.free 3; have hs_f4 := hs.free 4; have hs_l := hs.lt
          simp only [putAll]
          go_wp2_with fail
          exact ⟨rfl, rfl, G.refl _ none, rfl⟩
        · have e3 := hV 3 (by kernel_rfl); clear hV
          replace hs := Hx.kept hs hg1 (by simp); have hs_0 := hs.cell 0; have hs_1 := hs.cell 1; have hs_2 := hs.cell 2; have hs_3 := hs.cell 3; have hs_4 := hs.cell 4; have hs_f0 := hs.free 0; have hs_f1 := hs.free 1; have hs_f2 := hs.free 2; have hs_f3 := hs.free 3; have hs_f4 := hs.free 4; have hs_l := hs.lt
          simp only [atS, List.getD_cons_succ, List.getD_cons_zero] at e3
          simp only [putAll, e3]
          go_wp2_with fail
          exact ⟨rfl, rfl, G.refl _ none, rfl⟩
        · have e4 := hV 4 (by kernel_rfl); clear hV
          replace hs := Hx.kept hs hg1 (by simp); have hs_0 := hs.cell 0; have hs_1 := hs.cell 1; have hs_2 := hs.cell 2; have hs_3 := hs.cell 3; have hs_4 := hs.cell 4; have hs_f0 := hs.free 0; have hs_f1 := hs.free 1; have hs_f2 := hs.free 2; have hs_f3 := hs.free 3; have hs_f4 := hs.free 4; have hs_l := hs.lt
          simp only [atS, List.getD_cons_succ, List.getD_cons_zero] at e4
          simp only [putAll, e4]
          go_wp2_with (go_at_call 23; (with_reducible refine (dg_any S.start _ (by omega) (by omega) (Pow10.kept (w := w) HP.out (by have hb0 := (G.trans HGx.out hg1); (repeat first | with_reducible exact hb0 | with_reducible refine G.drewN ?_ _ | with_reducible refine G.drew ?_ | with_reducible refine G.alloc ?_ _ | with_reducible refine G.set ?_ _ (Or.inr rfl) | (with_reducible refine G.set ?_ _ (Or.inl ?_); rotate_left; focus (first | omega | (simp; done) | (simp; omega))))))).mono ?_); rintro e wn ⟨rfl, hgn⟩)
          exact ⟨rfl, rfl, hgn, rfl⟩
        · clear hV
          replace hs := Hx.kept hs hg1 (by simp); have hs_0 := hs.cell 0; have hs_1 := hs.cell 1; have hs_2 := hs.cell 2; have hs_3 := hs.cell 3; have hs_4 := hs.cell 4; have hs_f0 := hs.free 0; have hs_f1 := hs.free 1; have hs_f2 := hs.free 2; have hs_f3 := hs.free 3; have hs_f4 := hs.free 4; have hs_l := hs.lt
          simp only [putAll]
          go_wp2_with fail
          exact ⟨rfl, rfl, G.refl _ none, rfl⟩
        · have e6 := hV 6 (by kernel_rfl); clear hV
          replace hs := Hx.kept hs hg1 (by simp); have hs_0 := hs.cell 0; have hs_1 := hs.cell 1; have hs_2 := hs.cell 2; have hs_3 := hs.cell 3; have hs_4 := hs.cell 4; have hs_f0 := hs.free 0; have hs_f1 := hs.free 1; have hs_f2 := hs.free 2; have hs_f3 := hs.free 3; have hs_f4 := hs.free 4; have hs_l := hs.lt
          simp only [atS, List.getD_cons_succ, List.getD_cons_zero] at e6
          simp only [putAll, e6]
          go_wp2_with (go_at_call 24; (with_reducible refine (HE.out _ (HR.out.kept0 (G.trans HGx.out hg1))).mono ?_); rintro e wn ⟨rfl, hgn⟩)
          exact ⟨rfl, rfl, hgn, rfl⟩
        · have e7 := hV 7 (by kernel_rfl); clear hV
          replace hs := Hx.kept hs hg1 (by simp); have hs_0 := hs.cell 0; have hs_1 := hs.cell 1; have hs_2 := hs.cell 2; have hs_3 := hs.cell 3; have hs_4 := hs.cell 4; have hs_f0 := hs.free 0; have hs_f1 := hs.free 1; have hs_f2 := hs.free 2; have hs_f3 := hs.free 3; have hs_f4 := hs.free 4; have hs_l := hs.lt
          simp only [atS, List.getD_cons_succ, List.getD_cons_zero] at e7
          simp only [putAll, e7]
          go_wp2_with (go_at_call 23; (with_reducible refine (dg_any E _ (by omega) (by omega) (Pow10.kept (w := w) HP.out (by have hb0 := (G.trans HGx.out hg1); (repeat first | with_reducible exact hb0 | with_reducible refine G.drewN ?_ _ | with_reducible refine G.drew ?_ | with_reducible refine G.alloc ?_ _ | with_reducible refine G.set ?_ _ (Or.inr rfl) | (with_reducible refine G.set ?_ _ (Or.inl ?_); rotate_left; focus (first | omega | (simp; done) | (simp; omega))))))).mono ?_); rintro e wn ⟨rfl, hgn⟩)
          exact ⟨rfl, rfl, hgn, rfl⟩
        · clear hV
          replace hs := Hx.kept hs hg1 (by simp); have hs_0 := hs.cell 0; have hs_1 := hs.cell 1; have hs_2 := hs.cell 2; have hs_3 := hs.cell 3; have hs_4 := hs.cell 4; have hs_f0 := hs.free 0; have hs_f1 := hs.free 1; have hs_f2 := hs.free 2; have hs_f3 := hs.free 3; have hs_f4 := hs.free 4; have hs_l := hs.lt
          simp only [putAll]
          go_wp2_with fail
          exact ⟨rfl, rfl, G.refl _ none, rfl⟩
        · have e9 := hV 9 (by kernel_rfl); clear hV
          replace hs := Hx.kept hs hg1 (by simp); have hs_0 := hs.cell 0; have hs_1 := hs.cell 1; have hs_2 := hs.cell 2; have hs_3 := hs.cell 3; have hs_4 := hs.cell 4; have hs_f0 := hs.free 0; have hs_f1 := hs.free 1; have hs_f2 := hs.free 2; have hs_f3 := hs.free 3; have hs_f4 := hs.free 4; have hs_l := hs.lt
          simp only [atS, List.getD_cons_succ, List.getD_cons_zero] at e9
          simp only [putAll, e9]
          go_wp2_with fail
          exact ⟨rfl, rfl, G.refl _ none, rfl⟩
        · have e10 := hV 10 (by kernel_rfl); clear hV
          replace hs := Hx.kept hs hg1 (by simp); have hs_0 := hs.cell 0; have hs_1 := hs.cell 1; have hs_2 := hs.cell 2; have hs_3 := hs.cell 3; have hs_4 := hs.cell 4; have hs_f0 := hs.free 0; have hs_f1 := hs.free 1; have hs_f2 := hs.free 2; have hs_f3 := hs.free 3; have hs_f4 := hs.free 4; have hs_l := hs.lt
          simp only [atS, List.getD_cons_succ, List.getD_cons_zero] at e10
          simp only [putAll, e10]
          go_wp2_with (go_at_call 23; (with_reducible refine (dg_any S.step _ (by omega) (by omega) (Pow10.kept (w := w) HP.out (by have hb0 := (G.trans HGx.out hg1); (repeat first | with_reducible exact hb0 | with_reducible refine G.drewN ?_ _ | with_reducible refine G.drew ?_ | with_reducible refine G.alloc ?_ _ | with_reducible refine G.set ?_ _ (Or.inr rfl) | (with_reducible refine G.set ?_ _ (Or.inl ?_); rotate_left; focus (first | omega | (simp; done) | (simp; omega))))))).mono ?_); rintro e wn ⟨rfl, hgn⟩)
          exact ⟨rfl, rfl, hgn, rfl⟩
        · have e2 := hV 2 (by kernel_rfl); have e5 := hV 5 (by kernel_rfl); have e8 := hV 8 (by kernel_rfl); have e11 := hV 11 (by kernel_rfl); clear hV
          replace hs := Hx.kept hs hg1 (by simp); have hs_0 := hs.cell 0; have hs_1 := hs.cell 1; have hs_2 := hs.cell 2; have hs_3 := hs.cell 3; have hs_4 := hs.cell 4; have hs_f0 := hs.free 0; have hs_f1 := hs.free 1; have hs_f2 := hs.free 2; have hs_f3 := hs.free 3; have hs_f4 := hs.free 4; have hs_l := hs.lt
          simp only [atS, List.getD_cons_succ, List.getD_cons_zero] at e2 e5 e8 e11
          simp only [putAll, e2, e5, e8, e11]
          go_wp2_with fail
          exact ⟨rfl, rfl, World.grownBy_alloc _ _ none, Laid.new hg1 (by rfl) (by simp)⟩
      · intro VV y1 hg1 hV
        have e0 := hV 0 (by omega); have e1 := hV 1 (by omega); have e2 := hV 2 (by omega); have e3 := hV 3 (by omega); have e4 := hV 4 (by omega); have e5 := hV 5 (by omega); have e6 := hV 6 (by omega); have e7 := hV 7 (by omega); have e8 := hV 8 (by omega); have e9 := hV 9 (by omega); have e10 := hV 10 (by omega); have e11 := hV 11 (by omega); have e12 := hV 12 (by omega); clear hV
        simp only [atS, List.getD_cons_succ, List.getD_cons_zero] at e0 e1 e2 e3 e4 e5 e6 e7 e8 e9 e10 e11 e12
        simp only [List.take_succ_cons, List.take_zero, List.drop_succ_cons, List.drop_zero, putAll, e0, e1, e2, e3, e4, e5, e6, e7, e8, e9, e10, e11]
        replace hs := Hx.kept hs hg1 (by simp); have hs_0 := hs.cell 0; have hs_1 := hs.cell 1; have hs_2 := hs.cell 2; have hs_3 := hs.cell 3; have hs_4 := hs.cell 4; have hs_f0 := hs.free 0; have hs_f1 := hs.free 1; have hs_f2 := hs.free 2; have hs_f3 := hs.free 3; have hs_f4 := hs.free 4; have hs_l := hs.lt
        have hg2 := hg1
        clear hs HG hg1
        obtain ⟨lb, lv, lg, lx⟩ := e12
        simp only [lv]
        clear hs_0 hs_1 hs_2 hs_3 hs_4 hs_f0 hs_f1 hs_f2 hs_f3 hs_f4 hs_l
        go_wp2_with (go_at_call 22; (with_reducible refine (lays_at (B := w.heap.size) [S.name, ⟨#[44]⟩, dgB S.start, ⟨#[44]⟩, dgB E, ⟨#[44]⟩, dgB S.step, ⟨#[124]⟩] T _ lx (by simp) lg HD'.out hg2 rfl (by have := hl.out; omega) (by rw [hfl.out]; omega) (by simp) (by omega)).mono ?_); rintro e wn ⟨rfl, HD, hw1⟩; have hs := Hx.wr hsg.out hw1 (by omega) (by decide); have HG := G.wr HGx.out hw1 (Nat.le_refl _); have hs_0 := hs.cell 0; have hs_1 := hs.cell 1; have hs_2 := hs.cell 2; have hs_3 := hs.cell 3; have hs_4 := hs.cell 4; have hs_f0 := hs.free 0; have hs_f1 := hs.free 1; have hs_f2 := hs.free 2; have hs_f3 := hs.free 3; have hs_f4 := hs.free 4; have hs_l := hs.lt; clear hw1)
        rw [hfl.out] at HD
        clear HD'
        go_loopw [6, 7, 33] (fun _ _ kv ws => ∃ (k : Nat), kv = .int .i64 k ∧ k ≤ S.vals.length ∧ Bld ws w.heap.size w.heap.size (T ++ (RH ++ rawV S k)) ∧ w.grownBy ws none ∧ Hx ws wo.heap.size [.string S.name, .int .i64 S.start, .int .i64 S.step, .slice A2 S.vals.length c2, .int .i64 S.cons] 29) (fun _ _ kv _ => S.vals.length - (intOf kv).toNat)
        case atStart => exact ⟨0, rfl, by omega, HD.conv (by simp [rawV, joinP]), HG, hs⟩
        case round =>
          clear HG HD hs hs_0 hs_1 hs_2 hs_3 hs_4 hs_f0 hs_f1 hs_f2 hs_f3 hs_f4 hs_l
          obtain ⟨k, rfl, hk, HD, HG, hs⟩ := hrel
          rename World => wi
          have hdi := HD.lt.2
          have hsi := hs.lt
          have hrl := hRl.out k hk
          have hlU : Hid ((T ++ (RH ++ rawV S k)).length ≤ 500000) := Lib.hid (by have := hl.out; simp only [List.length_append]; omega)
          have hs_0 := hs.cell 0; have hs_1 := hs.cell 1; have hs_2 := hs.cell 2; have hs_3 := hs.cell 3; have hs_4 := hs.cell 4; have hs_f0 := hs.free 0; have hs_f1 := hs.free 1; have hs_f2 := hs.free 2; have hs_f3 := hs.free 3; have hs_f4 := hs.free 4; have hs_l := hs.lt; 
          by_cases hkl : k < S.vals.length
          · obtain ⟨b2, o2, rfl, hb2, hc2⟩ := R3.out (by omega)
            obtain ⟨y0, y1⟩ := valCells hc2 HG hb2 hkl
            have hst : Hid (rawV S (k + 1) = rawV S k ++ ((if k = 0 then [] else [44]) ++ prL S.vals[k])) := Lib.hid (by rw [rawV_step, atW_lt hkl])
            have hvb := isR_bound (all_at HI.out.v k hkl)
            have HPr := Lib.hid (fun w hp => print_any S.vals[k].1 S.vals[k].2 w hvb.1 hvb.2 hp)
            have hz := printV_size S.vals[k].1 S.vals[k].2
            have hpl : Hid (prL S.vals[k] = (printV S.vals[k].1 S.vals[k].2).data.toList) := Lib.hid rfl
            clear hc2 hvb
            generalize prL S.vals[k] = ZL at *
            generalize printV S.vals[k].1 S.vals[k].2 = Z at *
            generalize S.vals[k].1 = vb at *
            generalize S.vals[k].2 = vn at *
            generalize hU : T ++ (RH ++ rawV S k) = U at *
            have hU' := Lib.hid hU; clear hU
            have hlU2 : Hid ((U ++ (if k = 0 then [] else [44])).length ≤ 600000) := Lib.hid (by have := hlU.out; rw [List.length_append]; split <;> simp <;> omega)
            have HD' := Lib.hid HD; clear HD
            go_wp2_with (first | (go_at_call 25; (with_reducible refine (comma_any (B := w.heap.size) ⟨#[44]⟩ k U _ (HD'.out.alloc _) (by have := hlU.out; omega) (by decide) (by simp; omega)).mono ?_); rintro e wn ⟨rfl, HD, hw1⟩; have hv := Hx.wr (Hx.new wi #[.bool vb, .int .i64 vn] 33) hw1 (by omega) (by decide); replace hs := Hx.wr (hs.alloc _) hw1 (by omega) (by decide); replace HG := G.wr (G.alloc HG _) hw1 (Nat.le_refl _); have hdi := HD.lt.2; have hs_0 := hs.cell 0; have hs_1 := hs.cell 1; have hs_2 := hs.cell 2; have hs_3 := hs.cell 3; have hs_4 := hs.cell 4; have hs_f0 := hs.free 0; have hs_f1 := hs.free 1; have hs_f2 := hs.free 2; have hs_f3 := hs.free 3; have hs_f4 := hs.free 4; have hs_l := hs.lt; have hv_0 := hv.cell 0; have hv_1 := hv.cell 1; have hv_f0 := hv.free 0; have hv_f1 := hv.free 1; have hv_l := hv.lt; clear hw1) | (go_at_call 26; (with_reducible refine (HPr.out _ (Pow10.kept (w := w) HP.out HG)).mono ?_); rintro e wn ⟨rfl, hgn⟩; replace HD := HD.of_grown hgn; replace hs := hs.kept hgn (by simp); replace HG := G.trans (w := w) HG hgn; have hdi := HD.lt.2; have hs_0 := hs.cell 0; have hs_1 := hs.cell 1; have hs_2 := hs.cell 2; have hs_3 := hs.cell 3; have hs_4 := hs.cell 4; have hs_f0 := hs.free 0; have hs_f1 := hs.free 1; have hs_f2 := hs.free 2; have hs_f3 := hs.free 3; have hs_f4 := hs.free 4; have hs_l := hs.lt; clear hgn) | (go_at_call 22; (with_reducible refine (lays_of (B := w.heap.size) [Z] _ _ _ rfl (by simp) (by simp) (by simp) HD rfl (by exact Nat.le_trans hlU2.out (by omega)) (by rw [flat1, size_list']; omega) (by simp) (by omega)).mono ?_); rintro e wn ⟨rfl, HD, hw1⟩; replace hs := Hx.wr hs hw1 (by omega) (by decide); replace HG := G.wr HG hw1 (Nat.le_refl _); clear hw1))
            refine ⟨?_, by first | (simp [intOf]; done) | (simp [intOf]; omega)⟩
            exact ⟨k + 1, by go_num, by omega, HD.conv (by rw [hst.out, hpl.out, flat1, ← hU'.out]; simp), HG, hs⟩
          · obtain rfl : k = S.vals.length := by omega
            go_wp2_with (go_at_call 22; (with_reducible refine (lays_of (B := w.heap.size) [⟨#[10]⟩] _ _ _ rfl (by simp) (by simp) (by simp) HD rfl (by have := hlU.out; omega) (by rw [flat1]; simp) (by simp) (by omega)).mono ?_); rintro e wn ⟨rfl, HD, hw1⟩; replace HG := G.wr HG hw1 (Nat.le_refl _); clear hw1)
            refine ⟨?_, by first | (simp [intOf]; done) | (simp [intOf]; omega)⟩
            exact ⟨i + 1, by go_num, by omega, HD.conv (by rw [hstep.out, hRs.out, flat1]; simp), HG⟩
    · obtain rfl : i = L.length := by omega
      rw [hV.out] at HD
      go_wp2_with (go_at_call 27; (with_reducible refine (string_any (B := w.heap.size) _ _ HD (by have := HG.size; omega)).mono ?_); rintro e wz ⟨rfl, hbz⟩; have HGz := G.of_below (Below.trans (G.below HG) hbz))
      go_ret
      exact ⟨rfl, HGz⟩
end Go.Proofs.YtjfonckmfafdgaaDoor
