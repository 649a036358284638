/-
  The walk of the law on calls within one another.
-/
import Derived.Test.YtiakgjijlhfneaaDoorTreeLawA
namespace Go.Proofs.YtiakgjijlhfneaaDoor
open Go.RowKit
set_option maxHeartbeats 8000000 in
set_option maxRecDepth 1000000 in
theorem treeDeepLaw (n : Int) (w : World) (h1 : -9223372036854775808 ≤ n) (h2 : n ≤ 9223372036854775807) (hp : Pow10 w) : Calls Tryd.prog 3 #[.int .i64 n] w fun e w' => e = .returned (.bool true) ∧ w.grownBy w' none := by
  have HG := G.refl w none
  have HK := Lib.hid (fun W (hg : w.grownBy W none) => known15_any W (Pow10.kept hp hg))
  by_cases g1 : n < 0
  · go_enter Tryd.func3, Tryd.ntmps3
    go_wp2_with (go_at_call 4; (with_reducible refine (HK.out _ (by exact G.go HG)).mono ?_); rintro e w3 ⟨rfl, hgn⟩; replace HG := G.trans (w := w) (by exact G.go HG) hgn; clear hgn)
    go_ret
    exact ⟨rfl, (by exact G.go HG)⟩
  by_cases g2 : 100 < n
  · go_enter Tryd.func3, Tryd.ntmps3
    go_wp2_with (go_at_call 4; (with_reducible refine (HK.out _ (by exact G.go HG)).mono ?_); rintro e w3 ⟨rfl, hgn⟩; replace HG := G.trans (w := w) (by exact G.go HG) hgn; clear hgn)
    go_ret
    exact ⟨rfl, (by exact G.go HG)⟩
  obtain ⟨m, rfl⟩ : ∃ m : Nat, n = m := ⟨n.toNat, by omega⟩
  have hm : m ≤ 100 := by omega
  have h0 : Hid (nestB 0 = ⟨#[97]⟩) := Lib.hid nestB_zero
  have hs := Lib.hid nestB_succ
  have hsz := Lib.hid nestB_size
  have HP := Lib.hid (fun W => parseT_any (nestB m) W (by rw [nestB_size]; omega) (small_toks (by rw [nestB_size]; omega)))
  have HD := Lib.hid (fun A c w0 W ok h0 hg => depth_any 700 (nestN m) A c w0 W ok (by rw [nest_mass]; omega) (by omega) h0 hg)
  simp only [nest_depth] at HD
  push_cast at HD
  have HS := Lib.hid (fun w => refSame_any 950 Nd.none Nd.none none none 0 0 w w w _ _ (by decide) (by omega) (none_ndv w) (none_ndv w) (G.refl w none) (G.refl w none))
  simp only [sameN_refl] at HS
  have HS2 : Hid (∀ w, Calls Tryd.prog 6 #[.agg #[.int .i64 0, .string ⟨#[]⟩, .int .i64 0, .slice none 0 0], .agg #[.int .i64 0, .string ⟨#[]⟩, .int .i64 0, .slice none 0 0]] w fun e w' => e = .returned (.bool true) ∧ w.grownBy w' none) := HS
  clear HS
  have hok := Lib.hid (@nest_ok m)
  have hbad := Lib.hid (@nest_bad m)
  go_enter Tryd.func3, Tryd.ntmps3
  go_wp2_with fail
  go_loopw [3, 4] (fun sv iv wr => ∃ (i : Nat), iv = .int .i64 i ∧ sv = .string (nestB i) ∧ i ≤ m ∧ wr = w) (fun _ iv _ => m - (intOf iv).toNat)
  case atStart => exact ⟨0, rfl, by rw [h0.out], by omega, rfl⟩
  case round =>
    obtain ⟨i, rfl, rfl, hi, rfl⟩ := hrel
    by_cases hlt : i < m
    · have hst := Lib.hid (hs.out i)
      have hz := hsz.out i
      generalize nestB i = Z at *
      go_wp2_with fail
      refine ⟨?_, by first | (simp [intOf]; done) | (simp [intOf]; omega)⟩
      exact ⟨i + 1, by go_num, by rw [hst.out], by omega, by first | rfl | trivial⟩
    · obtain rfl : i = m := by omega
      by_cases h64 : i < 64
      · have hp1 := hok.out h64
        rw [hp1] at HP
        generalize nestB i = Z at *
        generalize nestN i = k at *
        clear hp1 hok hbad hs hsz h0
        go_wp2_with (first | (go_at_call 5; (with_reducible refine (HP.out _).mono ?_); rintro e w1 ⟨A1, c1, rfl, hN1, hgn⟩; have hb1 := Hx.new w1 #[.int .i64 k.kind, .string k.text, .int .i64 k.num, .slice A1 k.kids.length c1] 25; replace HG := G.trans (w := wr) (by exact G.go HG) hgn; have HN1 := Lib.hid hN1; have hw1 := G.refl w1 none; clear hN1 hgn) | (go_at_call 7; (with_reducible refine (HD.out _ _ _ _ _ HN1.out (by exact G.go hw1)).mono ?_); rintro e w3 ⟨rfl, hgn⟩; replace HG := G.trans (w := wr) (by exact G.go HG) hgn; clear hgn) | (go_at_call 4; (with_reducible refine (HK.out _ (by exact G.go HG)).mono ?_); rintro e w3 ⟨rfl, hgn⟩; replace HG := G.trans (w := wr) (by exact G.go HG) hgn; clear hgn))
        go_ret
        exact ⟨rfl, (by exact G.go HG)⟩
      · have hp1 := hbad.out (by omega)
        rw [hp1] at HP
        generalize nestB i = Z at *
        clear hp1 hok hbad hs hsz h0 HD
        go_wp2_with (first | (go_at_call 5; (with_reducible refine (HP.out _).mono ?_); rintro e w1 ⟨rfl, hgn⟩; have hb1 := Hx.new w1 #[.int .i64 0, .string ⟨#[]⟩, .int .i64 0, .slice none 0 0] 25; replace HG := G.trans (w := wr) (by exact G.go HG) hgn; clear hgn) | (go_at_call 6; (with_reducible refine (HS2.out _).mono ?_); rintro e w3 ⟨rfl, hgn⟩; replace HG := G.trans (w := wr) (by exact G.go HG) hgn; clear hgn) | (go_at_call 4; (with_reducible refine (HK.out _ (by exact G.go HG)).mono ?_); rintro e w3 ⟨rfl, hgn⟩; replace HG := G.trans (w := wr) (by exact G.go HG) hgn; clear hgn))
        go_ret
        exact ⟨rfl, (by exact G.go HG)⟩
end Go.Proofs.YtiakgjijlhfneaaDoor
