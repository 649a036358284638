/-
  The walk of CSV. Printed by genout.py.
-/
import Derived.Test.YtjfonckmfafdgaaDoorOutQuote
import Derived.Test.YtjfonckmfafdgaaDoorOutRow
import Derived.Test.YtjfonckmfafdgaaDoorOutFields
import Derived.Test.YtjfonckmfafdgaaDoorOutCSVSpec
import Derived.Deep.CutBlock
namespace Go.Proofs.YtjfonckmfafdgaaDoor
open Go.RowKit

theorem csvP_step {L : List SerP} {i : Nat} (h : i < L.length) : csvP (sersOf L) (i + 1) = csvP (sersOf L) i ++ csvS L[i].1 := by
  show joinP [] _ i ++ ((if i = 0 then [] else []) ++ csvS (serAt (sersOf L) i)) = _
  rw [sersOf_at h]; simp [csvP]
theorem csvV_step {S : Ser} {k : Nat} : csvV S (k + 1) = csvV S k ++ csvPt S k := by
  show joinP [] _ k ++ ((if k = 0 then [] else []) ++ csvPt S k) = _
  simp [csvV]
set_option maxHeartbeats 16000000 in
set_option maxRecDepth 100000 in
theorem outCSV_any (L : List SerP) (v : Value) (w : World) (h : SerRow w v L) (hF : Few (sersOf L)) (hm : MaxLen w) (hp : Pow10 w) :
    Calls Tryd.prog 20 #[v] w fun e w' => e = .returned (.string ⟨(csvP (sersOf L) L.length).toArray⟩) ∧ w.grownBy w' none := by
  have HM := Lib.hid hm; clear hm
  have HP := Lib.hid hp; clear hp
  have HA := Lib.hid h.2
  have HF := Lib.hid hF
  have hn := hF.n
  rw [sersOf_len] at hn
  have HG := G.refl w none
  obtain ⟨A, c, rfl, q1, q2, q3⟩ := h.1
  have Q3 := Lib.hid q3; clear q3 h hF
  obtain ⟨V, hV⟩ : ∃ V, Hid ((csvP (sersOf L) L.length) = V) := ⟨_, Lib.hid rfl⟩
  rw [hV.out]
  go_enter Tryd.func20, Tryd.ntmps20
  go_wp2_with fail
  go_loopw [5, 6, 7, 12] (fun _ _ _ iv wr => ∃ (i : Nat), iv = .int .i64 i ∧ i ≤ L.length ∧ Bld wr w.heap.size w.heap.size (csvP (sersOf L) i) ∧ w.grownBy wr none) (fun _ _ _ iv _ => L.length - (intOf iv).toNat)
  case atStart => exact ⟨0, rfl, by omega, Bld.fresh w, (by exact G.go HG)⟩
  case round =>
    clear HG
    obtain ⟨i, rfl, hi, HD, HG⟩ := hrel
    rename World => wo
    have hdl := HD.lt.2
    have hl : Hid ((csvP (sersOf L) i).length ≤ 2000000) := Lib.hid (HF.out.csvP_len (by rw [sersOf_len]; exact hi))
    by_cases hlt : i < L.length
    · obtain ⟨b, o, rfl, hbl, hc⟩ := Q3.out (by omega)
      obtain ⟨x0, x1, x2, x3, x4⟩ := serCells hc HG hbl hlt
      have hI := HF.out.at (k := i) (by rw [sersOf_len]; exact hlt)
      rw [sersOf_at hlt] at hI
      have hS : isSer L[i].1 = true := (HF.out.one L[i].1 (List.mem_map.2 ⟨_, List.getElem_mem hlt, rfl⟩)).2.2
      have hrow := HA.out L[i] (List.getElem_mem hlt)
      have hstep : Hid (csvP (sersOf L) (i + 1) = csvP (sersOf L) i ++ csvS L[i].1) := Lib.hid (csvP_step hlt)
      generalize csvP (sersOf L) i = T at *
      generalize L[i] = p at *
      obtain ⟨S, A2, c2⟩ := p
      simp only [slV] at x0 x1 x2 x3 x4 hrow
      dsimp only at x0 x1 x2 x3 x4 hrow hI hS hstep
      have hb0 := hI.a0; have hb1 := hI.a1; have hb2 := hI.b0; have hb3 := hI.b1; have hb4 := hI.l; have hb5 := hI.n
      have hend := hI.endB
      have HR := Lib.hid hrow
      obtain ⟨A3, c3, e3, r1, r2, r3⟩ := hrow
      cases e3
      have R3 := Lib.hid r3
      have HI := Lib.hid hI; have HS := Lib.hid hS
      clear r3 hI hS hc HF HA hend
      have hRl := Lib.hid (fun k hk => HI.out.csvV_len (k := k) hk)
      have hQ := Lib.hid (fun w hm => field_any S.name w (by omega) hm)
      have hql := fieldL_len S.name.data.toList
      have hn0 : S.name.data.toList.length = S.name.size := by simp
      have hRs : Hid (csvS S = csvV S S.vals.length) := Lib.hid rfl
      have hT := Lib.hid (fun k (hk : k ≤ 120) => HI.out.time hk)
      have hPl := Lib.hid (fun k => HI.out.csvPt_len k)
      have hPt : Hid (∀ k, csvPt S k = fieldL S.name.data.toList ++ (44 :: (clockL (capT (timeS S k)) ++ (44 :: (prN [] (atW S.vals k) ++ [10]))))) := Lib.hid (fun _ => rfl)
      generalize fieldL S.name.data.toList = Q at *
      clear hql hn0
      have HD' := Lib.hid HD; clear HD
      go_wp2_with fail
      have HD := HD'.out.alloc (.cells #[.string S.name, .int .i64 S.start, .int .i64 S.step, .slice A2 S.vals.length c2, .int .i64 S.cons] 29)
      have hs := Hx.new wo #[.string S.name, .int .i64 S.start, .int .i64 S.step, .slice A2 S.vals.length c2, .int .i64 S.cons] 29
      go_loopw [6, 7, 19] (fun _ _ kv ws => ∃ (k : Nat), kv = .int .i64 k ∧ k ≤ S.vals.length ∧ Bld ws w.heap.size w.heap.size (T ++ csvV S k) ∧ w.grownBy ws none ∧ Hx ws wo.heap.size [.string S.name, .int .i64 S.start, .int .i64 S.step, .slice A2 S.vals.length c2, .int .i64 S.cons] 29) (fun _ _ kv _ => S.vals.length - (intOf kv).toNat)
      case atStart => exact ⟨0, rfl, by omega, HD.conv (by simp [csvV, joinP]), (by exact G.go HG), hs⟩
      case round =>
        clear HG HD hs
        obtain ⟨k, rfl, hk, HD, HG, hs⟩ := hrel
        rename World => wi
        have hdi := HD.lt.2
        have hsi := hs.lt
        have hrl := hRl.out k hk
        have hlU : Hid ((T ++ csvV S k).length ≤ 2200000) := Lib.hid (by have := hl.out; simp only [List.length_append]; omega)
        have hs_0 := hs.cell 0; have hs_1 := hs.cell 1; have hs_2 := hs.cell 2; have hs_3 := hs.cell 3; have hs_4 := hs.cell 4; have hs_f0 := hs.free 0; have hs_f1 := hs.free 1; have hs_f2 := hs.free 2; have hs_f3 := hs.free 3; have hs_f4 := hs.free 4; have hs_l := hs.lt; 
        by_cases hkl : k < S.vals.length
        · obtain ⟨b2, o2, rfl, hb2, hc2⟩ := R3.out (by omega)
          obtain ⟨y0, y1⟩ := valCells hc2 HG hb2 hkl
          have hst : Hid (csvV S (k + 1) = csvV S k ++ csvPt S k) := Lib.hid csvV_step
          have hvb := isR_bound (all_at HI.out.v k hkl)
          have HPr := Lib.hid (fun w hp => outPrint_any ⟨#[]⟩ S.vals[k].1 S.vals[k].2 w hvb.1 hvb.2 hp)
          have hT2 := hT.out k (by omega)
          have hpl := hPl.out k
          have hfl : Hid (flatB [⟨Q.toArray⟩, ⟨#[44]⟩, clockB (capT (timeS S k)), ⟨#[44]⟩, prB [] S.vals[k].1 S.vals[k].2, ⟨#[10]⟩] = csvPt S k) := Lib.hid (by rw [hPt.out, atW_lt hkl]; simp [flatB, prB, clockB])
          have htm : S.start + (k : Int) * S.step = timeS S k := rfl
          clear hc2 hvb
          dsimp only at HPr
          generalize csvPt S k = JP at *
          generalize timeS S k = TM at *
          generalize hMe : (k : Int) * S.step = M at *
          generalize prB [] S.vals[k].1 S.vals[k].2 = Z at *
          generalize S.vals[k].1 = vb at *
          generalize S.vals[k].2 = vn at *
          generalize hU : T ++ csvV S k = U at *
          have hU' := Lib.hid hU; clear hU
          have HD' := Lib.hid HD; clear HD
          go_upto_region 7 with (fail)
          go_cut [6, 7] (fun p6 p7 wg => p6 = .int .i64 k ∧ p7 = .pointer (some ⟨wi.heap.size, 0, none⟩) ∧ wi.grownBy wg none ∧ Hx wg wi.heap.size [.bool vb, .int .i64 vn] 33)
          case first =>
            have HGr := G.refl wi none
            go_wp2_with fail
            go_meet
            exact ⟨rfl, rfl, (by exact G.go HGr), Hx.new _ _ _⟩
          obtain ⟨rfl, rfl, hgg, hv⟩ := hcut
          rename World => wg
          have hsz := hgg.size
          replace HG := G.trans (w := w) HG hgg
          have HD2 := Lib.hid (HD'.out.of_grown hgg); clear HD'
          replace hs := hs.kept hgg (by simp)
          have HGx := Lib.hid HG
          have hsg := Lib.hid hs
          have hs_0 := hs.cell 0; have hs_1 := hs.cell 1; have hs_2 := hs.cell 2; have hs_3 := hs.cell 3; have hs_4 := hs.cell 4; have hs_f0 := hs.free 0; have hs_f1 := hs.free 1; have hs_f2 := hs.free 2; have hs_f3 := hs.free 3; have hs_f4 := hs.free 4; have hs_l := hs.lt; have hv_0 := hv.cell 0; have hv_1 := hv.cell 1; have hv_f0 := hv.free 0; have hv_f1 := hv.free 1; have hv_l := hv.lt; 
          go_upto_region 8 with (fail)
          refine wp_region_rel (n := 15) (S := [fun v _ => v = .pointer (some ⟨w.heap.size, 0, none⟩), fun v _ => v = .pointer (some ⟨wo.heap.size, 0, none⟩), fun v _ => v = .string S.name, fun v _ => v = .string ⟨Q.toArray⟩, fun v _ => v = .pointer (some ⟨wo.heap.size, 1, none⟩), fun v _ => v = .int .i64 S.start, fun v _ => v = .int .i64 k, fun v _ => v = .pointer (some ⟨wo.heap.size, 2, none⟩), fun v _ => v = .int .i64 S.step, fun v _ => v = .int .i64 M, fun v _ => v = .int .i64 TM, fun v _ => v = .string (clockB (capT TM)), fun v _ => v = .agg #[.bool vb, .int .i64 vn], fun v _ => v = .string Z, Laid wg [⟨Q.toArray⟩, ⟨#[44]⟩, clockB (capT TM), ⟨#[44]⟩, Z, ⟨#[10]⟩]]) (G.refl _ none) (by kernel_rfl) (by kernel_rfl) ?_ ?_ ?_
          · intro i v y1 y2 hg12 hS
            match i, hS with
            | 0, h => exact h
            | 1, h => exact h
            | 2, h => exact h
            | 3, h => exact h
            | 4, h => exact h
            | 5, h => exact h
            | 6, h => exact h
            | 7, h => exact h
            | 8, h => exact h
            | 9, h => exact h
            | 10, h => exact h
            | 11, h => exact h
            | 12, h => exact h
            | 13, h => exact h
            | 14, h => exact Laid.grown h hg12
            | k + 15, h => exact trivial
          · simp only [List.take_succ_cons, List.take_zero, relOps]
            refine ⟨fun VV y1 hg1 hV => ?_, fun VV y1 hg1 hV => ?_, fun VV y1 hg1 hV => ?_, fun VV y1 hg1 hV => ?_, fun VV y1 hg1 hV => ?_, fun VV y1 hg1 hV => ?_, fun VV y1 hg1 hV => ?_, fun VV y1 hg1 hV => ?_, fun VV y1 hg1 hV => ?_, fun VV y1 hg1 hV => ?_, fun VV y1 hg1 hV => ?_, fun VV y1 hg1 hV => ?_, fun VV y1 hg1 hV => ?_, fun VV y1 hg1 hV => ?_, fun VV y1 hg1 hV => ?_, trivial⟩
            · clear hV
              replace hs := Hx.kept hs hg1 (by simp); replace hv := Hx.kept hv hg1 (by simp); have hs_0 := hs.cell 0; have hs_1 := hs.cell 1; have hs_2 := hs.cell 2; have hs_3 := hs.cell 3; have hs_4 := hs.cell 4; have hs_f0 := hs.free 0; have hs_f1 := hs.free 1; have hs_f2 := hs.free 2; have hs_f3 := hs.free 3; have hs_f4 := hs.free 4; have hs_l := hs.lt; have hv_0 := hv.cell 0; have hv_1 := hv.cell 1; have hv_f0 := hv.free 0; have hv_f1 := hv.free 1; have hv_l := hv.lt
              simp only [putAll]
              go_wp2_with fail
              exact ⟨rfl, rfl, G.refl _ none, rfl⟩
            · clear hV
              replace hs := Hx.kept hs hg1 (by simp); replace hv := Hx.kept hv hg1 (by simp); have hs_0 := hs.cell 0; have hs_1 := hs.cell 1; have hs_2 := hs.cell 2; have hs_3 := hs.cell 3; have hs_4 := hs.cell 4; have hs_f0 := hs.free 0; have hs_f1 := hs.free 1; have hs_f2 := hs.free 2; have hs_f3 := hs.free 3; have hs_f4 := hs.free 4; have hs_l := hs.lt; have hv_0 := hv.cell 0; have hv_1 := hv.cell 1; have hv_f0 := hv.free 0; have hv_f1 := hv.free 1; have hv_l := hv.lt
              simp only [putAll]
              go_wp2_with fail
              exact ⟨rfl, rfl, G.refl _ none, rfl⟩
            · have e1 := hV 1 (by kernel_rfl); clear hV
              replace hs := Hx.kept hs hg1 (by simp); replace hv := Hx.kept hv hg1 (by simp); have hs_0 := hs.cell 0; have hs_1 := hs.cell 1; have hs_2 := hs.cell 2; have hs_3 := hs.cell 3; have hs_4 := hs.cell 4; have hs_f0 := hs.free 0; have hs_f1 := hs.free 1; have hs_f2 := hs.free 2; have hs_f3 := hs.free 3; have hs_f4 := hs.free 4; have hs_l := hs.lt; have hv_0 := hv.cell 0; have hv_1 := hv.cell 1; have hv_f0 := hv.free 0; have hv_f1 := hv.free 1; have hv_l := hv.lt
              simp only [atS, List.getD_cons_succ, List.getD_cons_zero] at e1
              simp only [putAll, e1]
              go_wp2_with fail
              exact ⟨rfl, rfl, G.refl _ none, rfl⟩
            · have e2 := hV 2 (by kernel_rfl); clear hV
              replace hs := Hx.kept hs hg1 (by simp); replace hv := Hx.kept hv hg1 (by simp); have hs_0 := hs.cell 0; have hs_1 := hs.cell 1; have hs_2 := hs.cell 2; have hs_3 := hs.cell 3; have hs_4 := hs.cell 4; have hs_f0 := hs.free 0; have hs_f1 := hs.free 1; have hs_f2 := hs.free 2; have hs_f3 := hs.free 3; have hs_f4 := hs.free 4; have hs_l := hs.lt; have hv_0 := hv.cell 0; have hv_1 := hv.cell 1; have hv_f0 := hv.free 0; have hv_f1 := hv.free 1; have hv_l := hv.lt
              simp only [atS, List.getD_cons_succ, List.getD_cons_zero] at e2
              simp only [putAll, e2]
              go_wp2_with (go_at_call 39; (with_reducible refine (hQ.out _ (MaxLen.kept (w := w) HM.out (by have hb0 := (G.trans HGx.out hg1); (repeat first | with_reducible exact hb0 | with_reducible refine G.drewN ?_ _ | with_reducible refine G.drew ?_ | with_reducible refine G.alloc ?_ _ | with_reducible refine G.set ?_ _ (Or.inr rfl) | (with_reducible refine G.set ?_ _ (Or.inl ?_); rotate_left; focus (first | omega | (simp; done) | (simp; omega))))))).mono ?_); rintro e wn ⟨rfl, hgn⟩)
              exact ⟨rfl, rfl, hgn, rfl⟩
            · clear hV
              replace hs := Hx.kept hs hg1 (by simp); replace hv := Hx.kept hv hg1 (by simp); have hs_0 := hs.cell 0; have hs_1 := hs.cell 1; have hs_2 := hs.cell 2; have hs_3 := hs.cell 3; have hs_4 := hs.cell 4; have hs_f0 := hs.free 0; have hs_f1 := hs.free 1; have hs_f2 := hs.free 2; have hs_f3 := hs.free 3; have hs_f4 := hs.free 4; have hs_l := hs.lt; have hv_0 := hv.cell 0; have hv_1 := hv.cell 1; have hv_f0 := hv.free 0; have hv_f1 := hv.free 1; have hv_l := hv.lt
              simp only [putAll]
              go_wp2_with fail
              exact ⟨rfl, rfl, G.refl _ none, rfl⟩
            · have e4 := hV 4 (by kernel_rfl); clear hV
              replace hs := Hx.kept hs hg1 (by simp); replace hv := Hx.kept hv hg1 (by simp); have hs_0 := hs.cell 0; have hs_1 := hs.cell 1; have hs_2 := hs.cell 2; have hs_3 := hs.cell 3; have hs_4 := hs.cell 4; have hs_f0 := hs.free 0; have hs_f1 := hs.free 1; have hs_f2 := hs.free 2; have hs_f3 := hs.free 3; have hs_f4 := hs.free 4; have hs_l := hs.lt; have hv_0 := hv.cell 0; have hv_1 := hv.cell 1; have hv_f0 := hv.free 0; have hv_f1 := hv.free 1; have hv_l := hv.lt
              simp only [atS, List.getD_cons_succ, List.getD_cons_zero] at e4
              simp only [putAll, e4]
              go_wp2_with fail
              exact ⟨rfl, rfl, G.refl _ none, rfl⟩
            · clear hV
              replace hs := Hx.kept hs hg1 (by simp); replace hv := Hx.kept hv hg1 (by simp); have hs_0 := hs.cell 0; have hs_1 := hs.cell 1; have hs_2 := hs.cell 2; have hs_3 := hs.cell 3; have hs_4 := hs.cell 4; have hs_f0 := hs.free 0; have hs_f1 := hs.free 1; have hs_f2 := hs.free 2; have hs_f3 := hs.free 3; have hs_f4 := hs.free 4; have hs_l := hs.lt; have hv_0 := hv.cell 0; have hv_1 := hv.cell 1; have hv_f0 := hv.free 0; have hv_f1 := hv.free 1; have hv_l := hv.lt
              simp only [putAll]
              go_wp2_with fail
              exact ⟨rfl, rfl, G.refl _ none, rfl⟩
            · clear hV
              replace hs := Hx.kept hs hg1 (by simp); replace hv := Hx.kept hv hg1 (by simp); have hs_0 := hs.cell 0; have hs_1 := hs.cell 1; have hs_2 := hs.cell 2; have hs_3 := hs.cell 3; have hs_4 := hs.cell 4; have hs_f0 := hs.free 0; have hs_f1 := hs.free 1; have hs_f2 := hs.free 2; have hs_f3 := hs.free 3; have hs_f4 := hs.free 4; have hs_l := hs.lt; have hv_0 := hv.cell 0; have hv_1 := hv.cell 1; have hv_f0 := hv.free 0; have hv_f1 := hv.free 1; have hv_l := hv.lt
              simp only [putAll]
              go_wp2_with fail
              exact ⟨rfl, rfl, G.refl _ none, rfl⟩
            · have e7 := hV 7 (by kernel_rfl); clear hV
              replace hs := Hx.kept hs hg1 (by simp); replace hv := Hx.kept hv hg1 (by simp); have hs_0 := hs.cell 0; have hs_1 := hs.cell 1; have hs_2 := hs.cell 2; have hs_3 := hs.cell 3; have hs_4 := hs.cell 4; have hs_f0 := hs.free 0; have hs_f1 := hs.free 1; have hs_f2 := hs.free 2; have hs_f3 := hs.free 3; have hs_f4 := hs.free 4; have hs_l := hs.lt; have hv_0 := hv.cell 0; have hv_1 := hv.cell 1; have hv_f0 := hv.free 0; have hv_f1 := hv.free 1; have hv_l := hv.lt
              simp only [atS, List.getD_cons_succ, List.getD_cons_zero] at e7
              simp only [putAll, e7]
              go_wp2_with fail
              exact ⟨rfl, rfl, G.refl _ none, rfl⟩
            · have e6 := hV 6 (by kernel_rfl); have e8 := hV 8 (by kernel_rfl); clear hV
              replace hs := Hx.kept hs hg1 (by simp); replace hv := Hx.kept hv hg1 (by simp); have hs_0 := hs.cell 0; have hs_1 := hs.cell 1; have hs_2 := hs.cell 2; have hs_3 := hs.cell 3; have hs_4 := hs.cell 4; have hs_f0 := hs.free 0; have hs_f1 := hs.free 1; have hs_f2 := hs.free 2; have hs_f3 := hs.free 3; have hs_f4 := hs.free 4; have hs_l := hs.lt; have hv_0 := hv.cell 0; have hv_1 := hv.cell 1; have hv_f0 := hv.free 0; have hv_f1 := hv.free 1; have hv_l := hv.lt
              simp only [atS, List.getD_cons_succ, List.getD_cons_zero] at e6 e8
              simp only [putAll, e6, e8]
              go_wp2_with fail
              exact ⟨rfl, rfl, G.refl _ none, by first | rfl | (rw [hMe]; done) | (rw [htm]; done) | (simp [hMe]; done) | (simp [htm]; done)⟩
            · have e5 := hV 5 (by kernel_rfl); have e9 := hV 9 (by kernel_rfl); clear hV
              replace hs := Hx.kept hs hg1 (by simp); replace hv := Hx.kept hv hg1 (by simp); have hs_0 := hs.cell 0; have hs_1 := hs.cell 1; have hs_2 := hs.cell 2; have hs_3 := hs.cell 3; have hs_4 := hs.cell 4; have hs_f0 := hs.free 0; have hs_f1 := hs.free 1; have hs_f2 := hs.free 2; have hs_f3 := hs.free 3; have hs_f4 := hs.free 4; have hs_l := hs.lt; have hv_0 := hv.cell 0; have hv_1 := hv.cell 1; have hv_f0 := hv.free 0; have hv_f1 := hv.free 1; have hv_l := hv.lt
              simp only [atS, List.getD_cons_succ, List.getD_cons_zero] at e5 e9
              simp only [putAll, e5, e9]
              go_wp2_with fail
              exact ⟨rfl, rfl, G.refl _ none, by first | rfl | (rw [hMe]; done) | (rw [htm]; done) | (simp [hMe]; done) | (simp [htm]; done)⟩
            · have e10 := hV 10 (by kernel_rfl); clear hV
              replace hs := Hx.kept hs hg1 (by simp); replace hv := Hx.kept hv hg1 (by simp); have hs_0 := hs.cell 0; have hs_1 := hs.cell 1; have hs_2 := hs.cell 2; have hs_3 := hs.cell 3; have hs_4 := hs.cell 4; have hs_f0 := hs.free 0; have hs_f1 := hs.free 1; have hs_f2 := hs.free 2; have hs_f3 := hs.free 3; have hs_f4 := hs.free 4; have hs_l := hs.lt; have hv_0 := hv.cell 0; have hv_1 := hv.cell 1; have hv_f0 := hv.free 0; have hv_f1 := hv.free 1; have hv_l := hv.lt
              simp only [atS, List.getD_cons_succ, List.getD_cons_zero] at e10
              simp only [putAll, e10]
              go_wp2_with (go_at_call 40; (with_reducible refine (clock_prog TM _ (by omega) (by omega) (Pow10.kept (w := w) HP.out (by have hb0 := (G.trans HGx.out hg1); (repeat first | with_reducible exact hb0 | with_reducible refine G.drewN ?_ _ | with_reducible refine G.drew ?_ | with_reducible refine G.alloc ?_ _ | with_reducible refine G.set ?_ _ (Or.inr rfl) | (with_reducible refine G.set ?_ _ (Or.inl ?_); rotate_left; focus (first | omega | (simp; done) | (simp; omega))))))).mono ?_); rintro e wn ⟨rfl, hgn⟩)
              exact ⟨rfl, rfl, hgn, rfl⟩
            · clear hV
              replace hs := Hx.kept hs hg1 (by simp); replace hv := Hx.kept hv hg1 (by simp); have hs_0 := hs.cell 0; have hs_1 := hs.cell 1; have hs_2 := hs.cell 2; have hs_3 := hs.cell 3; have hs_4 := hs.cell 4; have hs_f0 := hs.free 0; have hs_f1 := hs.free 1; have hs_f2 := hs.free 2; have hs_f3 := hs.free 3; have hs_f4 := hs.free 4; have hs_l := hs.lt; have hv_0 := hv.cell 0; have hv_1 := hv.cell 1; have hv_f0 := hv.free 0; have hv_f1 := hv.free 1; have hv_l := hv.lt
              simp only [putAll]
              go_wp2_with fail
              exact ⟨rfl, rfl, G.refl _ none, rfl⟩
            · have e12 := hV 12 (by kernel_rfl); clear hV
              replace hs := Hx.kept hs hg1 (by simp); replace hv := Hx.kept hv hg1 (by simp); have hs_0 := hs.cell 0; have hs_1 := hs.cell 1; have hs_2 := hs.cell 2; have hs_3 := hs.cell 3; have hs_4 := hs.cell 4; have hs_f0 := hs.free 0; have hs_f1 := hs.free 1; have hs_f2 := hs.free 2; have hs_f3 := hs.free 3; have hs_f4 := hs.free 4; have hs_l := hs.lt; have hv_0 := hv.cell 0; have hv_1 := hv.cell 1; have hv_f0 := hv.free 0; have hv_f1 := hv.free 1; have hv_l := hv.lt
              simp only [atS, List.getD_cons_succ, List.getD_cons_zero] at e12
              simp only [putAll, e12]
              go_wp2_with (go_at_call 38; (with_reducible refine (HPr.out _ (Pow10.kept (w := w) HP.out (by have hb0 := (G.trans HGx.out hg1); (repeat first | with_reducible exact hb0 | with_reducible refine G.drewN ?_ _ | with_reducible refine G.drew ?_ | with_reducible refine G.alloc ?_ _ | with_reducible refine G.set ?_ _ (Or.inr rfl) | (with_reducible refine G.set ?_ _ (Or.inl ?_); rotate_left; focus (first | omega | (simp; done) | (simp; omega))))))).mono ?_); rintro e wn ⟨rfl, hgn⟩)
              exact ⟨rfl, rfl, hgn, rfl⟩
            · have e3 := hV 3 (by kernel_rfl); have e11 := hV 11 (by kernel_rfl); have e13 := hV 13 (by kernel_rfl); clear hV
              replace hs := Hx.kept hs hg1 (by simp); replace hv := Hx.kept hv hg1 (by simp); have hs_0 := hs.cell 0; have hs_1 := hs.cell 1; have hs_2 := hs.cell 2; have hs_3 := hs.cell 3; have hs_4 := hs.cell 4; have hs_f0 := hs.free 0; have hs_f1 := hs.free 1; have hs_f2 := hs.free 2; have hs_f3 := hs.free 3; have hs_f4 := hs.free 4; have hs_l := hs.lt; have hv_0 := hv.cell 0; have hv_1 := hv.cell 1; have hv_f0 := hv.free 0; have hv_f1 := hv.free 1; have hv_l := hv.lt
              simp only [atS, List.getD_cons_succ, List.getD_cons_zero] at e3 e11 e13
              simp only [putAll, e3, e11, e13]
              go_wp2_with fail
              exact ⟨rfl, rfl, World.grownBy_alloc _ _ none, Laid.new hg1 (by rfl) (by simp)⟩
          · intro VV y1 hg1 hV
            have e0 := hV 0 (by omega); have e1 := hV 1 (by omega); have e2 := hV 2 (by omega); have e3 := hV 3 (by omega); have e4 := hV 4 (by omega); have e5 := hV 5 (by omega); have e6 := hV 6 (by omega); have e7 := hV 7 (by omega); have e8 := hV 8 (by omega); have e9 := hV 9 (by omega); have e10 := hV 10 (by omega); have e11 := hV 11 (by omega); have e12 := hV 12 (by omega); have e13 := hV 13 (by omega); have e14 := hV 14 (by omega); clear hV
            simp only [atS, List.getD_cons_succ, List.getD_cons_zero] at e0 e1 e2 e3 e4 e5 e6 e7 e8 e9 e10 e11 e12 e13 e14
            simp only [List.take_succ_cons, List.take_zero, List.drop_succ_cons, List.drop_zero, putAll, e0, e1, e2, e3, e4, e5, e6, e7, e8, e9, e10, e11, e12, e13]
            replace hs := Hx.kept hs hg1 (by simp); replace hv := Hx.kept hv hg1 (by simp); have hs_0 := hs.cell 0; have hs_1 := hs.cell 1; have hs_2 := hs.cell 2; have hs_3 := hs.cell 3; have hs_4 := hs.cell 4; have hs_f0 := hs.free 0; have hs_f1 := hs.free 1; have hs_f2 := hs.free 2; have hs_f3 := hs.free 3; have hs_f4 := hs.free 4; have hs_l := hs.lt; have hv_0 := hv.cell 0; have hv_1 := hv.cell 1; have hv_f0 := hv.free 0; have hv_f1 := hv.free 1; have hv_l := hv.lt
            have hg2 := hg1
            clear hs HG hg1
            obtain ⟨lb, lv, lg, lx⟩ := e14
            simp only [lv]
            clear hs_0 hs_1 hs_2 hs_3 hs_4 hs_f0 hs_f1 hs_f2 hs_f3 hs_f4 hs_l
            go_wp2_with (go_at_call 22; (with_reducible refine (lays_at (B := w.heap.size) [⟨Q.toArray⟩, ⟨#[44]⟩, clockB (capT TM), ⟨#[44]⟩, Z, ⟨#[10]⟩] _ _ lx (by simp) (by omega) HD2.out hg2 rfl (by exact Nat.le_trans hlU.out (by omega)) (by rw [hfl.out]; omega) (by simp) (by omega)).mono ?_); rintro e wn ⟨rfl, HD, hw1⟩; have hs := Hx.wr hsg.out hw1 (by omega) (by decide); have HG := G.wr HGx.out hw1 (Nat.le_refl _); clear hw1)
            refine ⟨?_, by first | (simp [intOf]; done) | (simp [intOf]; omega)⟩
            exact ⟨k + 1, by go_num, by omega, HD.conv (by rw [hst.out, hfl.out, ← hU'.out]; simp), HG, hs⟩
        · obtain rfl : k = S.vals.length := by omega
          go_wp2_with fail
          refine ⟨?_, by first | (simp [intOf]; done) | (simp [intOf]; omega)⟩
          exact ⟨i + 1, by go_num, by omega, HD.conv (by rw [hstep.out, hRs.out]), HG⟩
    · obtain rfl : i = L.length := by omega
      rw [hV.out] at HD
      go_wp2_with (go_at_call 27; (with_reducible refine (string_any (B := w.heap.size) _ _ HD (by have := HG.size; omega)).mono ?_); rintro e wz ⟨rfl, hbz⟩; have HGz := G.of_below (Below.trans (G.below HG) hbz))
      go_ret
      exact ⟨rfl, HGz⟩
end Go.Proofs.YtjfonckmfafdgaaDoor
