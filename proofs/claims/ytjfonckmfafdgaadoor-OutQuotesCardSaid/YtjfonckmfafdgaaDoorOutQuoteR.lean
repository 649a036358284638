/-
  The walk of the reference's Quote. Printed by genoutquoter.py.
-/
import Derived.Test.YtjfonckmfafdgaaDoorOutByte
namespace Go.Proofs.YtjfonckmfafdgaaDoor
open Go.RowKit
set_option maxHeartbeats 16000000 in
set_option maxRecDepth 100000 in
theorem refQuote_any (s : ByteArray) (w : World) (hs : s.size ≤ 1000000) :
    Calls Tryd.prog 16 #[.string s] w fun e w' => e = .returned (.string ⟨(quoteL s.data.toList).toArray⟩) ∧ w.grownBy w' none := by
  have hV : Hid (∀ i, i = s.size → 34 :: (s.data.toList.take i).flatMap qc ++ [34] = quoteL s.data.toList) := Lib.hid (fun i hi => by subst hi; rw [List.take_of_length_le (by simp)]; rfl)
  generalize quoteL s.data.toList = V at *
  have HL := Lib.hid (take_le s)
  have HG := G.refl w none
  go_enter Tryd.func16, Tryd.ntmps16
  go_wp2_with fail
  go_loopw [3, 4] (fun mv iv wr => ∃ (i : Nat), iv = .int .i64 i ∧ i ≤ s.size ∧ EOwn byteE 5 wr w.heap.size mv (34 :: (s.data.toList.take i).flatMap qc) ∧ w.grownBy wr none) (fun _ iv _ => s.size - (intOf iv).toNat)
  case atStart => exact ⟨0, rfl, by omega, (by refine EOwn.of_hxB (L := byteE) (ts := [34]) ((Hx.new _ #[.int .u8 34] 5).conv (by rfl)) (by simp) rfl (by decide)), (by exact G.go HG)⟩
  case round =>
    clear HG
    obtain ⟨i, rfl, hi, HO, HG⟩ := hrel
    have hsz := HG.size
    have hl : Hid ((34 :: (s.data.toList.take i).flatMap qc).length ≤ 6000001) := Lib.hid (by rw [List.length_cons]; have := HL.out i; omega)
    by_cases hlt : i < s.size
    · have hq := Lib.hid (take_qc hlt)
      have c256 : s[i].toNat < 256 := s[i].toNat_lt
      have a34 := u8_34 s[i]
      have a92 := u8_92 s[i]
      obtain ⟨c, hc⟩ : ∃ c, s[i] = c := ⟨_, rfl⟩
      rw [hc] at c256 a34 a92
      have hq : Hid ((s.data.toList.take (i + 1)).flatMap qc = (s.data.toList.take i).flatMap qc ++ qc c) := Lib.hid (by rw [hq.out, hc])
      by_cases h1 : c = 34 ∨ c = 92
      · have hqc := Lib.hid (qc_a h1)
        have h1' := Lib.hid h1
        clear h1 a34 a92
        rcases h1'.out with h1 | h1
        · have a1 : ((c.toNat : Int) == 34) = true := by rw [h1]; rfl
          clear h1
          go_wp2_with (at_builtin; refine wpList_append_row byteE rfl _ _ 37 5 rfl Tryd.underlying37 info_byte w.heap.size u3 (34 :: (s.data.toList.take i).flatMap qc) rfl (.slice (some ⟨wr.heap.size, 0, none⟩) 2 2) [92, c] rfl ?_ ?_; rotate_left; exact ⟨(by have hb0 := (HO); (repeat first | with_reducible exact hb0 | with_reducible apply EOwn.drewN | with_reducible apply EOwn.drew | with_reducible apply EOwn.alloc | (with_reducible apply EOwn.set; (case hne => (first | assumption | omega | (simp; done) | (simp; omega)))))), ERow.of_hx (L := byteE) (ts := [92, c]) (Nat.le_refl 2) (by decide) ((Hx.new _ #[.int .u8 92, .int .u8 (c.toNat : Int)] 5).conv (by rfl)), by simp; omega, by have := hl.out; simp only [List.length_cons, List.length_nil] at this ⊢; omega⟩; intro v3 w3 hown hgrow; have HG3 := EOwn.grow (w0 := w) (by have hb0 := (HO); (repeat first | with_reducible exact hb0 | with_reducible apply EOwn.drewN | with_reducible apply EOwn.drew | with_reducible apply EOwn.alloc | (with_reducible apply EOwn.set; (case hne => (first | assumption | omega | (simp; done) | (simp; omega)))))) (by exact G.go HG) hgrow)
          refine ⟨?_, by first | (simp [intOf]; done) | (simp [intOf]; omega)⟩
          exact ⟨i + 1, by go_num, by omega, hown.conv (by rw [hq.out, hqc.out]; simp), HG3⟩
        · have a1 : ((c.toNat : Int) == 34) = false := by rw [h1]; rfl
          have a2 : ((c.toNat : Int) == 92) = true := by rw [h1]; rfl
          clear h1
          go_wp2_with (at_builtin; refine wpList_append_row byteE rfl _ _ 37 5 rfl Tryd.underlying37 info_byte w.heap.size u3 (34 :: (s.data.toList.take i).flatMap qc) rfl (.slice (some ⟨wr.heap.size, 0, none⟩) 2 2) [92, c] rfl ?_ ?_; rotate_left; exact ⟨(by have hb0 := (HO); (repeat first | with_reducible exact hb0 | with_reducible apply EOwn.drewN | with_reducible apply EOwn.drew | with_reducible apply EOwn.alloc | (with_reducible apply EOwn.set; (case hne => (first | assumption | omega | (simp; done) | (simp; omega)))))), ERow.of_hx (L := byteE) (ts := [92, c]) (Nat.le_refl 2) (by decide) ((Hx.new _ #[.int .u8 92, .int .u8 (c.toNat : Int)] 5).conv (by rfl)), by simp; omega, by have := hl.out; simp only [List.length_cons, List.length_nil] at this ⊢; omega⟩; intro v3 w3 hown hgrow; have HG3 := EOwn.grow (w0 := w) (by have hb0 := (HO); (repeat first | with_reducible exact hb0 | with_reducible apply EOwn.drewN | with_reducible apply EOwn.drew | with_reducible apply EOwn.alloc | (with_reducible apply EOwn.set; (case hne => (first | assumption | omega | (simp; done) | (simp; omega)))))) (by exact G.go HG) hgrow)
          refine ⟨?_, by first | (simp [intOf]; done) | (simp [intOf]; omega)⟩
          exact ⟨i + 1, by go_num, by omega, hown.conv (by rw [hq.out, hqc.out]; simp), HG3⟩
      have a1 : ((c.toNat : Int) == 34) = false := by rw [a34]; simp; exact fun h => h1 (Or.inl h)
      have a2 : ((c.toNat : Int) == 92) = false := by rw [a92]; simp; exact fun h => h1 (Or.inr h)
      clear a34 a92
      by_cases h2 : c.toNat < 32
      · have hqc := Lib.hid (qc_b h1 h2)
        have g1 : ((c.toNat : Int) / 16) = ((c.toNat / 16 : Nat) : Int) := by omega
        have g2 := and15 c.toNat c256
        have g3 : c.toNat / 16 < 16 := by omega
        have g4 : c.toNat % 16 < 16 := by omega
        have H1 := Lib.hid (fun w => hexR_any (c.toNat / 16) w g3)
        have H2 := Lib.hid (fun w => hexR_any (c.toNat % 16) w g4)
        clear h1
        generalize c.toNat / 16 = X at *
        generalize c.toNat % 16 = Y at *
        generalize hexD X = hx at *
        generalize hexD Y = hy at *
        have h2' : (c.toNat : Int) < 32 := by omega
        go_wp2_with fail
        refine wp_region_rel (n := 12) (S := [fun v _ => v = u3, fun v _ => v = .string s, fun v _ => v = .int .i64 i, fun v _ => v = .int .u8 (c.toNat : Int), fun v _ => v = .int .u8 X, fun v _ => v = .int .u8 (hx.toNat : Int), fun v _ => v = .string s, fun v _ => v = .int .i64 i, fun v _ => v = .int .u8 (c.toNat : Int), fun v _ => v = .int .u8 Y, fun v _ => v = .int .u8 (hy.toNat : Int), LaidB wr [92, 117, 48, 48, hx, hy]]) (G.refl _ none) (by kernel_rfl) (by kernel_rfl) ?_ ?_ ?_
        · intro i v y1 y2 hg12 hS
          match i, hS with
          | 0, h => exact h
          | 1, h => exact h
          | 2, h => exact h
          | 3, h => exact h
          | 4, h => exact h
          | 5, h => exact h
          | 6, h => exact h
          | 7, h => exact h
          | 8, h => exact h
          | 9, h => exact h
          | 10, h => exact h
          | 11, h => exact LaidB.grown h hg12
          | k + 12, h => exact trivial
        · simp only [List.take_succ_cons, List.take_zero, relOps]
          refine ⟨fun VV y1 hg1 hV => ?_, fun VV y1 hg1 hV => ?_, fun VV y1 hg1 hV => ?_, fun VV y1 hg1 hV => ?_, fun VV y1 hg1 hV => ?_, fun VV y1 hg1 hV => ?_, fun VV y1 hg1 hV => ?_, fun VV y1 hg1 hV => ?_, fun VV y1 hg1 hV => ?_, fun VV y1 hg1 hV => ?_, fun VV y1 hg1 hV => ?_, fun VV y1 hg1 hV => ?_, trivial⟩
          · clear hV
            
            simp only [putAll]
            go_wp2_with fail
            exact ⟨rfl, rfl, G.refl _ none, rfl⟩
          · clear hV
            
            simp only [putAll]
            go_wp2_with fail
            exact ⟨rfl, rfl, G.refl _ none, rfl⟩
          · clear hV
            
            simp only [putAll]
            go_wp2_with fail
            exact ⟨rfl, rfl, G.refl _ none, rfl⟩
          · have e1 := hV 1 (by kernel_rfl); have e2 := hV 2 (by kernel_rfl); clear hV
            
            simp only [atS, List.getD_cons_succ, List.getD_cons_zero] at e1 e2
            simp only [putAll, e1, e2]
            go_wp2_with fail
            exact ⟨rfl, rfl, G.refl _ none, rfl⟩
          · have e3 := hV 3 (by kernel_rfl); clear hV
            
            simp only [atS, List.getD_cons_succ, List.getD_cons_zero] at e3
            simp only [putAll, e3]
            go_wp2_with fail
            exact ⟨rfl, rfl, G.refl _ none, (by first | rfl | (rw [g1]; done) | (rw [g2]; done) | (simp; done))⟩
          · have e4 := hV 4 (by kernel_rfl); clear hV
            
            simp only [atS, List.getD_cons_succ, List.getD_cons_zero] at e4
            simp only [putAll, e4]
            go_wp2_with (go_at_call 37; (with_reducible refine (H1.out _).mono ?_); rintro e wn ⟨rfl, rfl⟩)
            exact ⟨rfl, rfl, G.refl _ none, rfl⟩
          · clear hV
            
            simp only [putAll]
            go_wp2_with fail
            exact ⟨rfl, rfl, G.refl _ none, rfl⟩
          · clear hV
            
            simp only [putAll]
            go_wp2_with fail
            exact ⟨rfl, rfl, G.refl _ none, rfl⟩
          · have e6 := hV 6 (by kernel_rfl); have e7 := hV 7 (by kernel_rfl); clear hV
            
            simp only [atS, List.getD_cons_succ, List.getD_cons_zero] at e6 e7
            simp only [putAll, e6, e7]
            go_wp2_with fail
            exact ⟨rfl, rfl, G.refl _ none, rfl⟩
          · have e8 := hV 8 (by kernel_rfl); clear hV
            
            simp only [atS, List.getD_cons_succ, List.getD_cons_zero] at e8
            simp only [putAll, e8]
            go_wp2_with fail
            exact ⟨rfl, rfl, G.refl _ none, (by first | rfl | (rw [g1]; done) | (rw [g2]; done) | (simp; done))⟩
          · have e9 := hV 9 (by kernel_rfl); clear hV
            
            simp only [atS, List.getD_cons_succ, List.getD_cons_zero] at e9
            simp only [putAll, e9]
            go_wp2_with (go_at_call 37; (with_reducible refine (H2.out _).mono ?_); rintro e wn ⟨rfl, rfl⟩)
            exact ⟨rfl, rfl, G.refl _ none, rfl⟩
          · have e5 := hV 5 (by kernel_rfl); have e10 := hV 10 (by kernel_rfl); clear hV
            
            simp only [atS, List.getD_cons_succ, List.getD_cons_zero] at e5 e10
            simp only [putAll, e5, e10]
            go_wp2_with fail
            exact ⟨rfl, rfl, World.grownBy_alloc _ _ none, LaidB.new hg1 (by rfl) (by rfl)⟩
        · intro VV y1 hg1 hV
          have e0 := hV 0 (by omega); have e1 := hV 1 (by omega); have e2 := hV 2 (by omega); have e3 := hV 3 (by omega); have e4 := hV 4 (by omega); have e5 := hV 5 (by omega); have e6 := hV 6 (by omega); have e7 := hV 7 (by omega); have e8 := hV 8 (by omega); have e9 := hV 9 (by omega); have e10 := hV 10 (by omega); have e11 := hV 11 (by omega); clear hV
          simp only [atS, List.getD_cons_succ, List.getD_cons_zero] at e0 e1 e2 e3 e4 e5 e6 e7 e8 e9 e10 e11
          simp only [List.take_succ_cons, List.take_zero, List.drop_succ_cons, List.drop_zero, putAll, e0, e1, e2, e3, e4, e5, e6, e7, e8, e9, e10]
          
          have hg2 := hg1
          replace HG := G.trans (w := w) HG hg1; clear hg1
          obtain ⟨lb, lv, lg, lx⟩ := e11
          have lrow : ERow byteE y1 (.slice (some ⟨lb, 0, none⟩) 6 6) [92, 117, 48, 48, hx, hy] := ERow.of_hx (ts := [92, 117, 48, 48, hx, hy]) (Nat.le_refl 6) (by decide) lx
          simp only [lv, List.length_cons, List.length_nil, Nat.zero_add, Nat.reduceAdd]
          go_simp
          go_wp2_with (at_builtin; refine wpList_append_row byteE rfl _ _ 37 5 rfl Tryd.underlying37 info_byte w.heap.size u3 (34 :: (s.data.toList.take i).flatMap qc) rfl (.slice (some ⟨lb, 0, none⟩) 6 6) [92, 117, 48, 48, hx, hy] rfl ?_ ?_; rotate_left; exact ⟨HO.kept0 hg2, lrow, by have := hg2.size; omega, by have := hl.out; simp only [List.length_cons, List.length_nil] at this ⊢; omega⟩; intro v3 w3 hown hgrow; have HG3 := EOwn.grow (w0 := w) (HO.kept0 hg2) HG hgrow)
          refine ⟨?_, by first | (simp [intOf]; done) | (simp [intOf]; omega)⟩
          exact ⟨i + 1, by go_num, by omega, hown.conv (by rw [hq.out, hqc.out]; simp), HG3⟩
      · have hqc := Lib.hid (qc_c h1 h2)
        have h2' : ¬ (c.toNat : Int) < 32 := by omega
        clear h1
        go_wp2_with (at_builtin; refine wpList_append_row byteE rfl _ _ 37 5 rfl Tryd.underlying37 info_byte w.heap.size u3 (34 :: (s.data.toList.take i).flatMap qc) rfl (.slice (some ⟨wr.heap.size, 0, none⟩) 1 1) [c] rfl ?_ ?_; rotate_left; exact ⟨(by have hb0 := (HO); (repeat first | with_reducible exact hb0 | with_reducible apply EOwn.drewN | with_reducible apply EOwn.drew | with_reducible apply EOwn.alloc | (with_reducible apply EOwn.set; (case hne => (first | assumption | omega | (simp; done) | (simp; omega)))))), ERow.of_hx (L := byteE) (ts := [c]) (Nat.le_refl 1) (by decide) ((Hx.new _ #[.int .u8 (c.toNat : Int)] 5).conv (by rfl)), by simp; omega, by have := hl.out; simp only [List.length_cons, List.length_nil] at this ⊢; omega⟩; intro v3 w3 hown hgrow; have HG3 := EOwn.grow (w0 := w) (by have hb0 := (HO); (repeat first | with_reducible exact hb0 | with_reducible apply EOwn.drewN | with_reducible apply EOwn.drew | with_reducible apply EOwn.alloc | (with_reducible apply EOwn.set; (case hne => (first | assumption | omega | (simp; done) | (simp; omega)))))) (by exact G.go HG) hgrow)
        refine ⟨?_, by first | (simp [intOf]; done) | (simp [intOf]; omega)⟩
        exact ⟨i + 1, by go_num, by omega, hown.conv (by rw [hq.out, hqc.out]; simp), HG3⟩
    · obtain rfl : i = s.size := by omega
      have hVs := Lib.hid (hV.out s.size rfl)
      go_wp2_with (at_builtin; refine wpList_append_row byteE rfl _ _ 37 5 rfl Tryd.underlying37 info_byte w.heap.size u3 (34 :: (s.data.toList.take s.size).flatMap qc) rfl (.slice (some ⟨wr.heap.size, 0, none⟩) 1 1) [34] rfl ?_ ?_; rotate_left; exact ⟨(by have hb0 := (HO); (repeat first | with_reducible exact hb0 | with_reducible apply EOwn.drewN | with_reducible apply EOwn.drew | with_reducible apply EOwn.alloc | (with_reducible apply EOwn.set; (case hne => (first | assumption | omega | (simp; done) | (simp; omega)))))), ERow.of_hx (L := byteE) (ts := [34]) (Nat.le_refl 1) (by decide) ((Hx.new _ #[.int .u8 34] 5).conv (by rfl)), by simp; omega, by have := hl.out; simp only [List.length_cons, List.length_nil] at this ⊢; omega⟩; intro v3 w3 hown hgrow; have HG3 := EOwn.grow (w0 := w) (by have hb0 := (HO); (repeat first | with_reducible exact hb0 | with_reducible apply EOwn.drewN | with_reducible apply EOwn.drew | with_reducible apply EOwn.alloc | (with_reducible apply EOwn.set; (case hne => (first | assumption | omega | (simp; done) | (simp; omega)))))) (by exact G.go HG) hgrow)
      rw [conv_row 37 5 9 rfl rfl rfl hown.row]
      go_wp2_with fail
      go_ret
      exact ⟨ret_string (by rw [← hVs.out]; simp), HG3⟩
end Go.Proofs.YtjfonckmfafdgaaDoor
