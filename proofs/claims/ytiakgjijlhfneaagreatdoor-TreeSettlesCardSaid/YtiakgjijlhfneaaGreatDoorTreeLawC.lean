/-
  The walks of the laws that a node printed and read again is it, and that a text read and printed settles.
-/
import Derived.Test.YtiakgjijlhfneaaGreatDoorTreeLawB
namespace Go.Proofs.YtiakgjijlhfneaaGreatDoor
open Go.RowKit
theorem parse_code {s : ByteArray} {x : Int} (h : parseN s = .err x) : x = 8 ∨ x = 12 := by
  unfold parseN at h
  rcases hl : lexL s 0 with _ | ts
  · rw [hl] at h; cases h; exact Or.inl rfl
  · rw [hl] at h
    simp only [] at h
    rcases he : exprS 64 ts with ⟨b, q⟩ | e
    · rw [he] at h
      simp only [] at h
      split at h
      · cases h
      · cases h; exact Or.inl rfl
    · rw [he] at h; cases h; exact expr_code _ _ _ he
set_option maxHeartbeats 8000000 in
theorem treeBackLaw (a : Nd) (A : Option Addr) (c : Nat) (w : World) (hN : NdV w (fun _ => True) a (nodeC a.kind a.text a.num A a.kids.length c)) (hp : Pow10 w) :
    Calls Tryz.prog 4 #[.agg #[.int .i64 a.kind, .string a.text, .int .i64 a.num, .slice A a.kids.length c]] w fun e w' => e = .returned (.bool true) ∧ w.grownBy w' none := by
  have HG := G.refl w none
  have hb0 := Hx.new w #[.int .i64 a.kind, .string a.text, .int .i64 a.num, .slice A a.kids.length c] 24
  have HK := Lib.hid (fun W (hg : w.grownBy W none) => known15_any W (Pow10.kept hp hg))
  have HH1 := Lib.hid (fun W (hg : w.grownBy W none) => heavy_any 301 a 300 A c w W _ (by omega) (by omega) (by omega) hN hg)
  by_cases h1 : hvN a 300 < 0
  · generalize hvN a 300 = r at *
    go_enter Tryz.func4, Tryz.ntmps4
    go_wp2_with (go_at_call 11; (with_reducible refine (HH1.out _ (by exact G.go HG)).mono ?_); rintro e wn ⟨⟨rfl, -, -⟩, hgn⟩; replace hb0 := Hx.kept (by first | exact Hx.go hb0 | exact Hx.go2) hgn (by simp); have hb0_0 := hb0.cell 0; have hb0_1 := hb0.cell 1; have hb0_2 := hb0.cell 2; have hb0_3 := hb0.cell 3; have hb0_l := hb0.lt; replace HG := G.trans (w := w) (by exact G.go HG) hgn; clear hgn)
    go_ret
    exact ⟨rfl, (by exact G.go HG)⟩
  have hm1 := hv_big rfl (by omega : 0 ≤ hvN a 300)
  have HI2 := Lib.hid (fun W (hg : w.grownBy W none) => isTR_any a A c w W _ (by omega) hN hg)
  cases hq : mayN a 0
  · rw [hq] at HI2
    generalize hvN a 300 = r at *
    go_enter Tryz.func4, Tryz.ntmps4
    go_wp2_with (first | (go_at_call 11; (with_reducible refine (HH1.out _ (by exact G.go HG)).mono ?_); rintro e wn ⟨⟨rfl, -, -⟩, hgn⟩; replace hb0 := Hx.kept (by first | exact Hx.go hb0 | exact Hx.go2) hgn (by simp); have hb0_0 := hb0.cell 0; have hb0_1 := hb0.cell 1; have hb0_2 := hb0.cell 2; have hb0_3 := hb0.cell 3; have hb0_l := hb0.lt; replace HG := G.trans (w := w) (by exact G.go HG) hgn; clear hgn) | (go_at_call 12; (with_reducible refine (HI2.out _ (by exact G.go HG)).mono ?_); rintro e wn ⟨rfl, hgn⟩; replace hb0 := Hx.kept (by first | exact Hx.go hb0 | exact Hx.go2) hgn (by simp); have hb0_0 := hb0.cell 0; have hb0_1 := hb0.cell 1; have hb0_2 := hb0.cell 2; have hb0_3 := hb0.cell 3; have hb0_l := hb0.lt; replace HG := G.trans (w := w) (by exact G.go HG) hgn; clear hgn))
    go_ret
    exact ⟨rfl, (by exact G.go HG)⟩
  rw [hq] at HI2
  have hwell := well_of_may a 0 hq
  have htm := text_mass a hwell
  have HP1 := Lib.hid (fun W (hg : w.grownBy W none) => printT_any a A c w W _ (by omega) hN hg hp)
  rw [printN_yes hq] at HP1
  have HR := Lib.hid (fun W => parseT_any ⟨(textN a).toArray⟩ W (by rw [Lib.size_mk]; omega) (text_toks hwell (by omega)))
  rw [parse_text hq] at HR
  have HS2 := Lib.hid (fun A1 c1 w1 W ok1 (h1 : NdV w1 ok1 a _) (hg1 : w1.grownBy W none) (hg : w.grownBy W none) => refSame_any 300 a a A1 A c1 c w1 w W ok1 _ (by omega) (by omega) h1 hN hg1 hg)
  simp only [sameN_refl] at HS2
  clear hN hq hwell htm
  generalize hvN a 300 = r at *
  generalize (⟨(textN a).toArray⟩ : ByteArray) = Z at *
  go_enter Tryz.func4, Tryz.ntmps4
  go_wp2_with (first | (go_at_call 11; (with_reducible refine (HH1.out _ (by exact G.go HG)).mono ?_); rintro e wn ⟨⟨rfl, -, -⟩, hgn⟩; replace hb0 := Hx.kept (by first | exact Hx.go hb0 | exact Hx.go2) hgn (by simp); have hb0_0 := hb0.cell 0; have hb0_1 := hb0.cell 1; have hb0_2 := hb0.cell 2; have hb0_3 := hb0.cell 3; have hb0_l := hb0.lt; replace HG := G.trans (w := w) (by exact G.go HG) hgn; clear hgn) | (go_at_call 12; (with_reducible refine (HI2.out _ (by exact G.go HG)).mono ?_); rintro e wn ⟨rfl, hgn⟩; replace hb0 := Hx.kept (by first | exact Hx.go hb0 | exact Hx.go2) hgn (by simp); have hb0_0 := hb0.cell 0; have hb0_1 := hb0.cell 1; have hb0_2 := hb0.cell 2; have hb0_3 := hb0.cell 3; have hb0_l := hb0.lt; replace HG := G.trans (w := w) (by exact G.go HG) hgn; clear hgn) | (go_at_call 13; (with_reducible refine (HP1.out _ (by exact G.go HG)).mono ?_); rintro e wn ⟨rfl, hgn⟩; replace hb0 := Hx.kept (by first | exact Hx.go hb0 | exact Hx.go2) hgn (by simp); have hb0_0 := hb0.cell 0; have hb0_1 := hb0.cell 1; have hb0_2 := hb0.cell 2; have hb0_3 := hb0.cell 3; have hb0_l := hb0.lt; replace HG := G.trans (w := w) (by exact G.go HG) hgn; clear hgn) | (go_at_call 7; (with_reducible refine (HR.out _).mono ?_); rintro e w1 ⟨A1, c1, rfl, hN1, hgn⟩; replace hb0 := Hx.kept (by first | exact Hx.go hb0 | exact Hx.go2) hgn (by simp); have hb0_0 := hb0.cell 0; have hb0_1 := hb0.cell 1; have hb0_2 := hb0.cell 2; have hb0_3 := hb0.cell 3; have hb0_l := hb0.lt; have hb1 := Hx.new w1 #[.int .i64 a.kind, .string a.text, .int .i64 a.num, .slice A1 a.kids.length c1] 24; replace HG := G.trans (w := w) (by exact G.go HG) hgn; have HN1 := Lib.hid hN1; have hw1 := G.refl w1 none; clear hN1 hgn) | (go_at_call 9; (with_reducible refine (HS2.out _ _ _ _ _ HN1.out (by exact G.go hw1) (by exact G.go HG)).mono ?_); rintro e w3 ⟨rfl, hgn⟩; replace HG := G.trans (w := w) (by exact G.go HG) hgn; clear hgn) | (go_at_call 10; (with_reducible refine (HK.out _ (by exact G.go HG)).mono ?_); rintro e w3 ⟨rfl, hgn⟩; replace HG := G.trans (w := w) (by exact G.go HG) hgn; clear hgn))
  go_ret
  exact ⟨rfl, (by exact G.go HG)⟩
set_option maxHeartbeats 8000000 in
theorem treeSettlesLaw (s : ByteArray) (w : World) (hp : Pow10 w) : Calls Tryz.prog 5 #[.string s] w fun e w' => e = .returned (.bool true) ∧ w.grownBy w' none := by
  have HG := G.refl w none
  have HK := Lib.hid (fun W (hg : w.grownBy W none) => known15_any W (Pow10.kept hp hg))
  by_cases hs : 300 < s.size
  · go_enter Tryz.func5, Tryz.ntmps5
    go_wp2_with fail
    go_ret
    exact ⟨rfl, (by exact G.go HG)⟩
  have HP := Lib.hid (fun W => parseT_any s W (by omega) (small_toks (by omega)))
  cases hq : parseN s with
  | err x =>
    have HR := Lib.hid (fun W => parseTR_any s W (by omega) (small_toks (by omega)))
    rw [hq] at HP HR
    have hx := parse_code hq
    have hx2 : (x != 0) = true := by simp; omega
    clear hq hx
    go_enter Tryz.func5, Tryz.ntmps5
    go_wp2_with (first | (go_at_call 7; (with_reducible refine (HP.out _).mono ?_); rintro e w1 ⟨rfl, hgn⟩; replace HG := G.trans (w := w) (by exact G.go HG) hgn; clear hgn) | (go_at_call 8; (with_reducible refine (HR.out _).mono ?_); rintro e w2 ⟨rfl, hgn⟩; replace HG := G.trans (w := w) (by exact G.go HG) hgn; clear hgn) | (go_at_call 10; (with_reducible refine (HK.out _ (by exact G.go HG)).mono ?_); rintro e w3 ⟨rfl, hgn⟩; replace HG := G.trans (w := w) (by exact G.go HG) hgn; clear hgn))
    go_ret
    exact ⟨rfl, (by exact G.go HG)⟩
  | ok a r =>
    rw [hq] at HP
    have hm := parse_mass (by omega) hq
    obtain ⟨hmay, htx⟩ := parse_fine (by omega) hq
    have hwell := well_of_may a 0 hmay
    have HT := Lib.hid (fun A c w0 W ok h0 hg hpp => printT_any a A c w0 W ok (by omega) h0 hg hpp)
    have HI := Lib.hid (fun A c w0 W ok h0 hg => isT_any a A c w0 W ok (by omega) h0 hg)
    have HR := Lib.hid (fun W => parseT_any ⟨(textN a).toArray⟩ W (by rw [Lib.size_mk]; omega) (text_toks hwell (by omega)))
    have HS := Lib.hid (fun A1 A2 c1 c2 w1 w2 w ok1 ok2 h1 h2 h3 h4 => refSame_any 950 a a A1 A2 c1 c2 w1 w2 w ok1 ok2 (by omega) (by omega) h1 h2 h3 h4)
    simp only [printN_yes hmay] at HT
    simp only [hmay] at HI
    rw [parse_text hmay] at HR
    simp only [sameN_refl] at HS
    clear hq hmay htx hwell
    generalize (⟨(textN a).toArray⟩ : ByteArray) = Z at *
    have hz : (Z.toList == Z.toList) = true := by simp
    go_enter Tryz.func5, Tryz.ntmps5
    go_wp2_with (first | (go_at_call 7; first | ((with_reducible refine (HP.out _).mono ?_); rintro e w1 ⟨A1, c1, rfl, hN1, hgn⟩; have hb1 := Hx.new w1 #[.int .i64 a.kind, .string a.text, .int .i64 a.num, .slice A1 a.kids.length c1] 24; replace HG := G.trans (w := w) (by exact G.go HG) hgn; have HN1 := Lib.hid hN1; have hpp1 := Lib.hid (Pow10.kept hp HG); have hw1 := G.refl w1 none; clear hN1 hgn) | ((with_reducible refine (HR.out _).mono ?_); rintro e w2 ⟨A2, c2, rfl, hN2, hgn⟩; replace hb1 := Hx.kept (by first | exact Hx.go hb1 | exact Hx.go2) hgn (by simp); have hb1_0 := hb1.cell 0; have hb1_1 := hb1.cell 1; have hb1_2 := hb1.cell 2; have hb1_3 := hb1.cell 3; have hb1_l := hb1.lt; have hb2 := Hx.new w2 #[.int .i64 a.kind, .string a.text, .int .i64 a.num, .slice A2 a.kids.length c2] 24; replace HG := G.trans (w := w) (by exact G.go HG) hgn; replace hw1 := G.trans (w := w1) (by exact G.go hw1) hgn; have HN2 := Lib.hid hN2; have hpp2 := Lib.hid (Pow10.kept hp HG); have hw2 := G.refl w2 none; clear hN2 hgn)) | (go_at_call 13; first | ((with_reducible refine (HT.out _ _ _ _ _ HN2.out (by exact G.go hw2) hpp2.out).mono ?_); rintro e wn ⟨rfl, hgn⟩; replace hb1 := Hx.kept (by first | exact Hx.go hb1 | exact Hx.go2) hgn (by simp); have hb1_0 := hb1.cell 0; have hb1_1 := hb1.cell 1; have hb1_2 := hb1.cell 2; have hb1_3 := hb1.cell 3; have hb1_l := hb1.lt; replace hb2 := Hx.kept (by first | exact Hx.go hb2 | exact Hx.go2) hgn (by simp); have hb2_0 := hb2.cell 0; have hb2_1 := hb2.cell 1; have hb2_2 := hb2.cell 2; have hb2_3 := hb2.cell 3; have hb2_l := hb2.lt; replace HG := G.trans (w := w) (by exact G.go HG) hgn; replace hw1 := G.trans (w := w1) (by exact G.go hw1) hgn; clear hgn) | ((with_reducible refine (HT.out _ _ _ _ _ HN1.out (by exact G.go hw1) hpp1.out).mono ?_); rintro e wn ⟨rfl, hgn⟩; replace hb1 := Hx.kept (by first | exact Hx.go hb1 | exact Hx.go2) hgn (by simp); have hb1_0 := hb1.cell 0; have hb1_1 := hb1.cell 1; have hb1_2 := hb1.cell 2; have hb1_3 := hb1.cell 3; have hb1_l := hb1.lt; replace HG := G.trans (w := w) (by exact G.go HG) hgn; replace hw1 := G.trans (w := w1) (by exact G.go hw1) hgn; clear hgn)) | (go_at_call 14; (with_reducible refine (HI.out _ _ _ _ _ HN1.out (by exact G.go hw1)).mono ?_); rintro e wn ⟨rfl, hgn⟩; replace HG := G.trans (w := w) (by exact G.go HG) hgn; clear hgn) | (go_at_call 9; (with_reducible refine (HS.out _ _ _ _ _ _ _ _ _ HN2.out HN1.out (by exact G.go hw2) (by exact G.go hw1)).mono ?_); rintro e w3 ⟨rfl, hgn⟩; replace hb1 := Hx.kept (by first | exact Hx.go hb1 | exact Hx.go2) hgn (by simp); have hb1_0 := hb1.cell 0; have hb1_1 := hb1.cell 1; have hb1_2 := hb1.cell 2; have hb1_3 := hb1.cell 3; have hb1_l := hb1.lt; replace hb2 := Hx.kept (by first | exact Hx.go hb2 | exact Hx.go2) hgn (by simp); have hb2_0 := hb2.cell 0; have hb2_1 := hb2.cell 1; have hb2_2 := hb2.cell 2; have hb2_3 := hb2.cell 3; have hb2_l := hb2.lt; replace HG := G.trans (w := w) (by exact G.go HG) hgn; replace hw1 := G.trans (w := w1) (by exact G.go hw1) hgn; replace hw2 := G.trans (w := w2) (by exact G.go hw2) hgn; clear hgn) | (go_at_call 10; (with_reducible refine (HK.out _ (by exact G.go HG)).mono ?_); rintro e w3 ⟨rfl, hgn⟩; replace HG := G.trans (w := w) (by exact G.go HG) hgn; clear hgn))
    go_ret
    exact ⟨rfl, (by exact G.go HG)⟩
end Go.Proofs.YtiakgjijlhfneaaGreatDoor
