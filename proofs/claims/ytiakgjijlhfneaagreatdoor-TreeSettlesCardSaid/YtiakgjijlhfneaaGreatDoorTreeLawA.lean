/-
  The walks of what the laws on nodes share, and of the law that a text is read alike.
-/
import Derived.Test.YtiakgjijlhfneaaGreatDoorTreeRead
import Derived.Test.YtiakgjijlhfneaaGreatDoorTreeRef
import Derived.Test.YtiakgjijlhfneaaGreatDoorTreeIsPr
import Derived.Test.YtiakgjijlhfneaaGreatDoorTreeNode
import Derived.Test.YtiakgjijlhfneaaGreatDoorTreePlain
namespace Go.Proofs.YtiakgjijlhfneaaGreatDoor
open Go.RowKit
mutual
theorem sameN_refl : ∀ a : Nd, sameN a a = true
  | .mk k t n ks => by rw [sameN, sameL_refl ks]; simp
theorem sameL_refl : ∀ l : List Nd, sameL l l = true
  | [] => by rw [sameL]
  | a :: l => by rw [sameL, sameN_refl a, sameL_refl l]; rfl
end
theorem small_toks {s : ByteArray} (hs : s.size ≤ 1000) : ∀ ts, lexL s 0 = some ts → ∀ t ∈ ts, t.2.size ≤ 1000 := fun ts h t ht => by
  have h1 := (lex_good h).2
  have h2 := tok_le ht
  omega
theorem text_toks {a : Nd} (hw : wellN a = true) (hm : massN a ≤ 950) : ∀ ts, lexL ⟨(textN a).toArray⟩ 0 = some ts → ∀ t ∈ ts, t.2.size ≤ 1000 := fun ts h t ht => by
  rw [lex_text hw] at h
  obtain rfl := Option.some.inj h
  have := tokN_size a hw t ht
  omega
theorem none_ndv (w : World) : NdV w (fun _ => True) Nd.none (nodeC Nd.none.kind Nd.none.text Nd.none.num none Nd.none.kids.length 0) := NdV.leaf w _ 0 (by omega) (by decide)
set_option maxHeartbeats 4000000 in
theorem known15_any (w : World) (hp : Pow10 w) : Calls Tryz.prog 10 #[] w fun e w' => e = .returned (.bool true) ∧ w.grownBy w' none := by
  have HG := G.refl w none
  have HP := Lib.hid (fun W => parseT_any knownB W (by decide) (small_toks (by decide)))
  simp only [known_parse] at HP
  have HQ := Lib.hid (fun W W2 A c ok hN hg hpp => printT_any knownN A c W W2 ok (Nat.le_trans known_mass (by omega)) hN hg hpp)
  simp only [printN_yes known_may, known_text] at HQ
  replace HQ : Hid (∀ (W W2 : World) (A : Option Addr) (c : Nat) (ok : Nat → Prop), NdV W ok knownN (nodeC knownN.kind knownN.text knownN.num A knownN.kids.length c) → W.grownBy W2 none → Pow10 W → Calls Tryz.prog 13 #[.agg #[.int .i64 knownN.kind, .string knownN.text, .int .i64 knownN.num, .slice A knownN.kids.length c]] W2 fun e w' => e = .returned (.string ⟨#[115, 99, 97, 108, 101, 40, 97, 46, 42, 44, 49, 46, 53, 41]⟩) ∧ W2.grownBy w' none) := HQ
  unfold knownB at HP
  generalize knownN = k at *
  go_enter Tryz.func10, Tryz.ntmps10
  go_wp2_with (first | (go_at_call 7; (with_reducible refine (HP.out _).mono ?_); rintro e wn ⟨A, c, rfl, hN, hgn⟩; have hb1 := Hx.new wn #[.int .i64 k.kind, .string k.text, .int .i64 k.num, .slice A k.kids.length c] 24; replace HG := G.trans (w := w) (by exact G.go HG) hgn; have HN := Lib.hid hN; have hpp := Lib.hid (Pow10.kept hp HG); have hw2 := G.refl wn none; clear hN hgn) | (go_at_call 13; (with_reducible refine (HQ.out _ _ _ _ _ HN.out (by exact G.go hw2) hpp.out).mono ?_); rintro e wm ⟨rfl, hgm⟩; replace HG := G.trans (w := w) (by exact G.go HG) hgm; clear hgm))
  go_ret
  exact ⟨rfl, (by exact G.go HG)⟩
set_option maxHeartbeats 4000000 in
theorem treeParsesLaw (s : ByteArray) (w : World) (hp : Pow10 w) : Calls Tryz.prog 3 #[.string s] w fun e w' => e = .returned (.bool true) ∧ w.grownBy w' none := by
  have HG := G.refl w none
  have HK := Lib.hid (fun W (hg : w.grownBy W none) => known15_any W (Pow10.kept hp hg))
  by_cases hs : 300 < s.size
  · go_enter Tryz.func3, Tryz.ntmps3
    go_wp2_with fail
    go_ret
    exact ⟨rfl, (by exact G.go HG)⟩
  have HP := Lib.hid (fun W => parseT_any s W (by omega) (small_toks (by omega)))
  have HR := Lib.hid (fun W => parseTR_any s W (by omega) (small_toks (by omega)))
  have HM := Lib.hid (fun a r h => @parse_mass s a r (by omega) h)
  cases hq : parseN s with
  | ok a r =>
    rw [hq] at HP HR
    have hm := HM.out a r hq
    have HS := Lib.hid (fun A1 A2 c1 c2 w1 w2 w ok1 ok2 h1 h2 h3 h4 => refSame_any 950 a a A1 A2 c1 c2 w1 w2 w ok1 ok2 (by omega) (by omega) h1 h2 h3 h4)
    simp only [sameN_refl] at HS
    clear hq HM
    go_enter Tryz.func3, Tryz.ntmps3
    go_wp2_with (first | (go_at_call 7; (with_reducible refine (HP.out _).mono ?_); rintro e w1 ⟨A1, c1, rfl, hN1, hgn⟩; have hb1 := Hx.new w1 #[.int .i64 a.kind, .string a.text, .int .i64 a.num, .slice A1 a.kids.length c1] 24; replace HG := G.trans (w := w) (by exact G.go HG) hgn; have HN1 := Lib.hid hN1; have hw1 := G.refl w1 none; clear hN1 hgn) | (go_at_call 8; (with_reducible refine (HR.out _).mono ?_); rintro e w2 ⟨A2, c2, rfl, hN2, hgn⟩; replace hb1 := Hx.kept (by first | exact Hx.go hb1 | exact Hx.go2) hgn (by simp); have hb1_0 := hb1.cell 0; have hb1_1 := hb1.cell 1; have hb1_2 := hb1.cell 2; have hb1_3 := hb1.cell 3; have hb1_l := hb1.lt; replace HG := G.trans (w := w) (by exact G.go HG) hgn; replace hw1 := G.trans (w := w1) (by exact G.go hw1) hgn; have HN2 := Lib.hid hN2; have hw2 := G.refl w2 none; clear hN2 hgn) | (go_at_call 9; (with_reducible refine (HS.out _ _ _ _ _ _ _ _ _ HN1.out HN2.out (by exact G.go hw1) (by exact G.go hw2)).mono ?_); rintro e w3 ⟨rfl, hgn⟩; replace HG := G.trans (w := w) (by exact G.go HG) hgn; clear hgn) | (go_at_call 10; (with_reducible refine (HK.out _ (by exact G.go HG)).mono ?_); rintro e w3 ⟨rfl, hgn⟩; replace HG := G.trans (w := w) (by exact G.go HG) hgn; clear hgn))
    go_ret
    exact ⟨rfl, (by exact G.go HG)⟩
  | err x =>
    rw [hq] at HP HR
    have HS := Lib.hid (fun w => refSame_any 950 Nd.none Nd.none none none 0 0 w w w _ _ (by decide) (by omega) (none_ndv w) (none_ndv w) (G.refl w none) (G.refl w none))
    simp only [sameN_refl] at HS
    have HS2 : Hid (∀ w, Calls Tryz.prog 9 #[.agg #[.int .i64 0, .string ⟨#[]⟩, .int .i64 0, .slice none 0 0], .agg #[.int .i64 0, .string ⟨#[]⟩, .int .i64 0, .slice none 0 0]] w fun e w' => e = .returned (.bool true) ∧ w.grownBy w' none) := HS
    clear hq HM HS
    go_enter Tryz.func3, Tryz.ntmps3
    go_wp2_with (first | (go_at_call 7; (with_reducible refine (HP.out _).mono ?_); rintro e w1 ⟨rfl, hgn⟩; have hb1 := Hx.new w1 #[.int .i64 0, .string ⟨#[]⟩, .int .i64 0, .slice none 0 0] 24; replace HG := G.trans (w := w) (by exact G.go HG) hgn; clear hgn) | (go_at_call 8; (with_reducible refine (HR.out _).mono ?_); rintro e w2 ⟨rfl, hgn⟩; replace hb1 := Hx.kept (by first | exact Hx.go hb1 | exact Hx.go2) hgn (by simp); have hb1_0 := hb1.cell 0; have hb1_1 := hb1.cell 1; have hb1_2 := hb1.cell 2; have hb1_3 := hb1.cell 3; have hb1_l := hb1.lt; replace HG := G.trans (w := w) (by exact G.go HG) hgn; clear hgn) | (go_at_call 9; (with_reducible refine (HS2.out _).mono ?_); rintro e w3 ⟨rfl, hgn⟩; replace HG := G.trans (w := w) (by exact G.go HG) hgn; clear hgn) | (go_at_call 10; (with_reducible refine (HK.out _ (by exact G.go HG)).mono ?_); rintro e w3 ⟨rfl, hgn⟩; replace HG := G.trans (w := w) (by exact G.go HG) hgn; clear hgn))
    go_ret
    exact ⟨rfl, (by exact G.go HG)⟩
end Go.Proofs.YtiakgjijlhfneaaGreatDoor
