/-
  The walk of Quote.
-/
import Derived.Test.YtjfonckmfafdgaaDoorOutPut
import Derived.Test.YtjfonckmfafdgaaDoorGrowBase
import Derived.Deep.CutBlock
namespace Go.Proofs.YtjfonckmfafdgaaDoor
open Go.RowKit
theorem qc_a {c : UInt8} (h : c = 34 ∨ c = 92) : qc c = [92, c] := by unfold qc; rw [if_pos h]
theorem qc_b {c : UInt8} (h : ¬ (c = 34 ∨ c = 92)) (h2 : c.toNat < 32) : qc c = [92, 117, 48, 48, hexD (c.toNat / 16), hexD (c.toNat % 16)] := by unfold qc; rw [if_neg h, if_pos h2]
theorem qc_c {c : UInt8} (h : ¬ (c = 34 ∨ c = 92)) (h2 : ¬ c.toNat < 32) : qc c = [c] := by unfold qc; rw [if_neg h, if_neg h2]
theorem piece_one {s : ByteArray} {i : Nat} (h : i < s.size) : (s.extract i (i + 1)).data.toList = [s[i]] := by
  rw [ByteArray.data_extract, Array.toList_extract, List.extract_eq_take_drop, Nat.add_sub_cancel_left, drop_cons s i h]; rfl
theorem take_qc {s : ByteArray} {i : Nat} (h : i < s.size) : (s.data.toList.take (i + 1)).flatMap qc = (s.data.toList.take i).flatMap qc ++ qc s[i] := by
  rw [List.take_succ_eq_append_getElem (by simpa using h), List.flatMap_append]; simp; rfl
theorem take_le (s : ByteArray) (i : Nat) : ((s.data.toList.take i).flatMap qc).length ≤ 6 * s.size := by
  have h1 := (qcs_len (s.data.toList.take i)).2
  have h2 : (s.data.toList.take i).length ≤ s.size := by rw [List.length_take, size_list']; omega
  omega
theorem u8_34 (c : UInt8) : ((c.toNat : Int) == 34) = decide (c = 34) := by rw [Bool.eq_iff_iff]; simp [← UInt8.toNat_inj]; omega
theorem u8_92 (c : UInt8) : ((c.toNat : Int) == 92) = decide (c = 92) := by rw [Bool.eq_iff_iff]; simp [← UInt8.toNat_inj]; omega
def hexS : ByteArray := ⟨#[48, 49, 50, 51, 52, 53, 54, 55, 56, 57, 97, 98, 99, 100, 101, 102]⟩
theorem hex_piece {n : Nat} (h : n < 16) : hexS.extract n (n + 1) = ⟨#[hexD n]⟩ := by
  have : ∀ k : Fin 16, hexS.extract k.val (k.val + 1) = ⟨#[hexD k.val]⟩ := by decide +kernel
  exact this ⟨n, h⟩
theorem and15 (c : Nat) (h : c < 256) : bits .and .u8 (c : Int) 15 = ((c % 16 : Nat) : Int) := by
  have : ∀ k : Fin 256, bits .and .u8 (k.val : Int) 15 = ((k.val % 16 : Nat) : Int) := by decide +kernel
  exact this ⟨c, h⟩
set_option maxHeartbeats 8000000 in
set_option maxRecDepth 100000 in
theorem quote_any (s : ByteArray) (w : World) (hs : s.size ≤ 1000000) :
    Calls Tryd.prog 15 #[.string s] w fun e w' => e = .returned (.string ⟨(quoteL s.data.toList).toArray⟩) ∧ w.grownBy w' none := by
  have hV : Hid (∀ i, i = s.size → 34 :: (s.data.toList.take i).flatMap qc ++ [34] = quoteL s.data.toList) := Lib.hid (fun i hi => by subst hi; rw [List.take_of_length_le (by simp)]; rfl)
  generalize quoteL s.data.toList = V at *
  have HL := Lib.hid (take_le s)
  have HG := G.refl w none
  go_enter Tryd.func15, Tryd.ntmps15
  go_wp2_with (go_at_call 22; (with_reducible refine (lays_of (B := w.heap.size) [⟨#[34]⟩] [] _ _ rfl (by simp) (by simp) (by simp) (Bld.fresh w) rfl (by simp) (by simp [flatB]) (by simp) (by simp)).mono ?_); rintro e wn ⟨rfl, HD, hw1⟩; replace HG := G.wr (w := w.alloc (.cells #[.pointer none, .slice none 0 0] 45)) (by exact G.go HG) hw1 (Nat.le_refl _))
  go_loopw [4, 5, 13] (fun _ _ iv wr => ∃ (i : Nat), iv = .int .i64 i ∧ i ≤ s.size ∧ Bld wr w.heap.size w.heap.size (34 :: (s.data.toList.take i).flatMap qc) ∧ w.grownBy wr none) (fun _ _ iv _ => s.size - (intOf iv).toNat)
  case atStart => exact ⟨0, rfl, by omega, HD.conv (by simp [flatB]), HG⟩
  case round =>
    clear HG HD
    obtain ⟨i, rfl, hi, HD, HG⟩ := hrel
    have hsz := HG.size
    have hl : Hid ((34 :: (s.data.toList.take i).flatMap qc).length ≤ 90000000) := Lib.hid (by rw [List.length_cons]; have := HL.out i; omega)
    by_cases hlt : i < s.size
    · have hp := Lib.hid (piece_one hlt)
      have hq := Lib.hid (take_qc hlt)
      have HD' := Lib.hid HD; clear HD
      have c256 : s[i].toNat < 256 := s[i].toNat_lt
      have a34 := u8_34 s[i]
      have a92 := u8_92 s[i]
      obtain ⟨c, hc⟩ : ∃ c, s[i] = c := ⟨_, rfl⟩
      rw [hc] at c256 a34 a92
      have hp : Hid ((s.extract i (i + 1)).data.toList = [c]) := Lib.hid (by rw [hp.out, hc])
      have hq : Hid ((s.data.toList.take (i + 1)).flatMap qc = (s.data.toList.take i).flatMap qc ++ qc c) := Lib.hid (by rw [hq.out, hc])
      by_cases h1 : c = 34 ∨ c = 92
      · have hqc := Lib.hid (qc_a h1)
        have e1 : (((c.toNat : Int) == 34) || ((c.toNat : Int) == 92)) = true := by rw [a34, a92]; simpa using h1
        have h1' := Lib.hid h1
        clear h1 a34 a92
        rcases h1'.out with h1 | h1
        · have a1 : ((c.toNat : Int) == 34) = true := by rw [h1]; rfl
          clear h1
          go_wp2_with (go_at_call 22; (with_reducible refine (lays_of (B := w.heap.size) [⟨#[92]⟩, s.extract i (i + 1)] (34 :: (s.data.toList.take i).flatMap qc) _ _ rfl (by simp) (by simp) (by simp) HD'.out rfl hl.out (by rw [flat2, hp.out]; simp) (by simp) (by omega)).mono ?_); rintro e wn ⟨rfl, HD, hw1⟩; replace HG := G.wr (by exact G.go HG) hw1 (Nat.le_refl _))
          refine ⟨?_, by first | (simp [intOf]; done) | (simp [intOf]; omega)⟩
          exact ⟨i + 1, by go_num, by omega, HD.conv (by rw [hq.out, hqc.out, flat2, hp.out]; simp), HG⟩
        · have a1 : ((c.toNat : Int) == 34) = false := by rw [h1]; rfl
          have a2 : ((c.toNat : Int) == 92) = true := by rw [h1]; rfl
          clear h1
          go_wp2_with (go_at_call 22; (with_reducible refine (lays_of (B := w.heap.size) [⟨#[92]⟩, s.extract i (i + 1)] (34 :: (s.data.toList.take i).flatMap qc) _ _ rfl (by simp) (by simp) (by simp) HD'.out rfl hl.out (by rw [flat2, hp.out]; simp) (by simp) (by omega)).mono ?_); rintro e wn ⟨rfl, HD, hw1⟩; replace HG := G.wr (by exact G.go HG) hw1 (Nat.le_refl _))
          refine ⟨?_, by first | (simp [intOf]; done) | (simp [intOf]; omega)⟩
          exact ⟨i + 1, by go_num, by omega, HD.conv (by rw [hq.out, hqc.out, flat2, hp.out]; simp), HG⟩
      have a1 : ((c.toNat : Int) == 34) = false := by rw [a34]; simp; exact fun h => h1 (Or.inl h)
      have a2 : ((c.toNat : Int) == 92) = false := by rw [a92]; simp; exact fun h => h1 (Or.inr h)
      clear a34 a92
      by_cases h2 : c.toNat < 32
      · have hqc := Lib.hid (qc_b h1 h2)
        have g1 : ((c.toNat : Int) / 16) = ((c.toNat / 16 : Nat) : Int) := by omega
        have g2 := and15 c.toNat c256
        have g3 : c.toNat / 16 < 16 := by omega
        have g4 : c.toNat % 16 < 16 := by omega
        have p1 := Lib.hid (hex_piece g3)
        have p2 := Lib.hid (hex_piece g4)
        clear h1
        generalize c.toNat / 16 = X at *
        generalize c.toNat % 16 = Y at *
        have h2' : (c.toNat : Int) < 32 := by omega
        go_wp2_with fail
        refine wp_region_rel (n := 14) (S := [fun v _ => v = .pointer (some ⟨w.heap.size, 0, none⟩), fun v _ => v = .int .u8 (c.toNat : Int), fun v _ => v = .int .u8 X, fun v _ => v = .int .u8 (c.toNat : Int), fun v _ => v = .int .u8 X, fun v _ => v = .int .u8 (X + 1), fun v _ => v = .string ⟨#[hexD X]⟩, fun v _ => v = .int .u8 (c.toNat : Int), fun v _ => v = .int .u8 Y, fun v _ => v = .int .u8 (c.toNat : Int), fun v _ => v = .int .u8 Y, fun v _ => v = .int .u8 (Y + 1), fun v _ => v = .string ⟨#[hexD Y]⟩, Laid wr [⟨#[92, 117, 48, 48]⟩, ⟨#[hexD X]⟩, ⟨#[hexD Y]⟩]]) (G.refl _ none) (by kernel_rfl) (by kernel_rfl) ?_ ?_ ?_
        · intro i v y1 y2 hg12 hS
          match i, hS with
          | 0, h => exact h
          | 1, h => exact h
          | 2, h => exact h
          | 3, h => exact h
          | 4, h => exact h
          | 5, h => exact h
          | 6, h => exact h
          | 7, h => exact h
          | 8, h => exact h
          | 9, h => exact h
          | 10, h => exact h
          | 11, h => exact h
          | 12, h => exact h
          | 13, h => exact Laid.grown h hg12
          | k + 14, h => exact trivial
        · simp only [List.take_succ_cons, List.take_zero, relOps]
          refine ⟨fun VV y1 hg1 hV => ?_, fun VV y1 hg1 hV => ?_, fun VV y1 hg1 hV => ?_, fun VV y1 hg1 hV => ?_, fun VV y1 hg1 hV => ?_, fun VV y1 hg1 hV => ?_, fun VV y1 hg1 hV => ?_, fun VV y1 hg1 hV => ?_, fun VV y1 hg1 hV => ?_, fun VV y1 hg1 hV => ?_, fun VV y1 hg1 hV => ?_, fun VV y1 hg1 hV => ?_, fun VV y1 hg1 hV => ?_, fun VV y1 hg1 hV => ?_, trivial⟩
          · clear hV
            
            simp only [putAll]
            go_wp2_with fail
            exact ⟨rfl, rfl, G.refl _ none, rfl⟩
          · clear hV
            
            simp only [putAll]
            go_wp2_with fail
            exact ⟨rfl, rfl, G.refl _ none, rfl⟩
          · have e1 := hV 1 (by kernel_rfl); clear hV
            
            simp only [atS, List.getD_cons_succ, List.getD_cons_zero] at e1
            simp only [putAll, e1]
            go_wp2_with fail
            exact ⟨rfl, rfl, G.refl _ none, (by first | rfl | (rw [g1]; done) | (rw [g2]; done) | (simp; done))⟩
          · clear hV
            
            simp only [putAll]
            go_wp2_with fail
            exact ⟨rfl, rfl, G.refl _ none, rfl⟩
          · have e3 := hV 3 (by kernel_rfl); clear hV
            
            simp only [atS, List.getD_cons_succ, List.getD_cons_zero] at e3
            simp only [putAll, e3]
            go_wp2_with fail
            exact ⟨rfl, rfl, G.refl _ none, (by first | rfl | (rw [g1]; done) | (rw [g2]; done) | (simp; done))⟩
          · have e4 := hV 4 (by kernel_rfl); clear hV
            
            simp only [atS, List.getD_cons_succ, List.getD_cons_zero] at e4
            simp only [putAll, e4]
            go_wp2_with fail
            exact ⟨rfl, rfl, G.refl _ none, (by first | rfl | (rw [g1]; done) | (rw [g2]; done) | (simp; done))⟩
          · have e2 := hV 2 (by kernel_rfl); have e5 := hV 5 (by kernel_rfl); clear hV
            
            simp only [atS, List.getD_cons_succ, List.getD_cons_zero] at e2 e5
            simp only [putAll, e2, e5]
            go_wp2_with fail
            exact ⟨rfl, rfl, G.refl _ none, (by first | rfl | (exact congrArg Value.string p1.out))⟩
          · clear hV
            
            simp only [putAll]
            go_wp2_with fail
            exact ⟨rfl, rfl, G.refl _ none, rfl⟩
          · have e7 := hV 7 (by kernel_rfl); clear hV
            
            simp only [atS, List.getD_cons_succ, List.getD_cons_zero] at e7
            simp only [putAll, e7]
            go_wp2_with fail
            exact ⟨rfl, rfl, G.refl _ none, (by first | rfl | (rw [g1]; done) | (rw [g2]; done) | (simp; done))⟩
          · clear hV
            
            simp only [putAll]
            go_wp2_with fail
            exact ⟨rfl, rfl, G.refl _ none, rfl⟩
          · have e9 := hV 9 (by kernel_rfl); clear hV
            
            simp only [atS, List.getD_cons_succ, List.getD_cons_zero] at e9
            simp only [putAll, e9]
            go_wp2_with fail
            exact ⟨rfl, rfl, G.refl _ none, (by first | rfl | (rw [g1]; done) | (rw [g2]; done) | (simp; done))⟩
          · have e10 := hV 10 (by kernel_rfl); clear hV
            
            simp only [atS, List.getD_cons_succ, List.getD_cons_zero] at e10
            simp only [putAll, e10]
            go_wp2_with fail
            exact ⟨rfl, rfl, G.refl _ none, (by first | rfl | (rw [g1]; done) | (rw [g2]; done) | (simp; done))⟩
          · have e8 := hV 8 (by kernel_rfl); have e11 := hV 11 (by kernel_rfl); clear hV
            
            simp only [atS, List.getD_cons_succ, List.getD_cons_zero] at e8 e11
            simp only [putAll, e8, e11]
            go_wp2_with fail
            exact ⟨rfl, rfl, G.refl _ none, (by first | rfl | (exact congrArg Value.string p2.out))⟩
          · have e6 := hV 6 (by kernel_rfl); have e12 := hV 12 (by kernel_rfl); clear hV
            
            simp only [atS, List.getD_cons_succ, List.getD_cons_zero] at e6 e12
            simp only [putAll, e6, e12]
            go_wp2_with fail
            exact ⟨rfl, rfl, World.grownBy_alloc _ _ none, Laid.new hg1 (by rfl) (by simp)⟩
        · intro VV y1 hg1 hV
          have e0 := hV 0 (by omega); have e1 := hV 1 (by omega); have e2 := hV 2 (by omega); have e3 := hV 3 (by omega); have e4 := hV 4 (by omega); have e5 := hV 5 (by omega); have e6 := hV 6 (by omega); have e7 := hV 7 (by omega); have e8 := hV 8 (by omega); have e9 := hV 9 (by omega); have e10 := hV 10 (by omega); have e11 := hV 11 (by omega); have e12 := hV 12 (by omega); have e13 := hV 13 (by omega); clear hV
          simp only [atS, List.getD_cons_succ, List.getD_cons_zero] at e0 e1 e2 e3 e4 e5 e6 e7 e8 e9 e10 e11 e12 e13
          simp only [List.take_succ_cons, List.take_zero, List.drop_succ_cons, List.drop_zero, putAll, e0, e1, e2, e3, e4, e5, e6, e7, e8, e9, e10, e11, e12]
          
          have hg2 := hg1
          have hgx := Lib.hid hg1; have HG0 := Lib.hid HG; replace HG := G.trans (w := w) HG hg1; clear hg1
          obtain ⟨g13, e13v, e13g, e13x⟩ := e13
          simp only [e13v]
          clear hg2
          go_wp2_with (go_at_call 22; (with_reducible refine (lays_at (B := w.heap.size) [⟨#[92, 117, 48, 48]⟩, ⟨#[hexD X]⟩, ⟨#[hexD Y]⟩] (34 :: (s.data.toList.take i).flatMap qc) _ e13x (by simp) e13g HD'.out hgx.out rfl hl.out (by rw [flat3]; simp) (by simp) (by omega)).mono ?_); rintro e wn ⟨rfl, HD, hw1⟩; replace HG := G.wr HG0.out hw1 (Nat.le_refl _))
          refine ⟨?_, by first | (simp [intOf]; done) | (simp [intOf]; omega)⟩
          exact ⟨i + 1, by go_num, by omega, HD.conv (by rw [hq.out, hqc.out, flat3]; simp), HG⟩
      · have hqc := Lib.hid (qc_c h1 h2)
        have h2' : ¬ (c.toNat : Int) < 32 := by omega
        clear h1
        go_wp2_with (go_at_call 22; (with_reducible refine (lays_of (B := w.heap.size) [s.extract i (i + 1)] (34 :: (s.data.toList.take i).flatMap qc) _ _ rfl (by simp) (by simp) (by simp) HD'.out rfl hl.out (by rw [flat1, hp.out]; simp) (by simp) (by omega)).mono ?_); rintro e wn ⟨rfl, HD, hw1⟩; replace HG := G.wr (by exact G.go HG) hw1 (Nat.le_refl _))
        refine ⟨?_, by first | (simp [intOf]; done) | (simp [intOf]; omega)⟩
        exact ⟨i + 1, by go_num, by omega, HD.conv (by rw [hq.out, hqc.out, flat1, hp.out]; simp), HG⟩
    · obtain rfl : i = s.size := by omega
      have HD' := Lib.hid HD; clear HD
      have hVs := Lib.hid (hV.out s.size rfl)
      have hd0 := HD'.out.lt
      go_wp2_with (first | (go_at_call 22; (with_reducible refine (lays_of (B := w.heap.size) [⟨#[34]⟩] (34 :: (s.data.toList.take s.size).flatMap qc) _ _ rfl (by simp) (by simp) (by simp) HD'.out rfl hl.out (by rw [flat1]; simp) (by simp) (by omega)).mono ?_); rintro e wn ⟨rfl, HD, hw1⟩; replace HG := G.wr (by exact G.go HG) hw1 (Nat.le_refl _)) | (go_at_call 27; (with_reducible refine (string_any (B := w.heap.size) _ _ HD (by have := HG.size; omega)).mono ?_); rintro e wz ⟨rfl, hbz⟩; have HGz := G.of_below (Below.trans (G.below HG) hbz)))
      go_ret
      exact ⟨ret_string (by rw [← hVs.out]; simp [flatB]), HGz⟩
end Go.Proofs.YtjfonckmfafdgaaDoor
