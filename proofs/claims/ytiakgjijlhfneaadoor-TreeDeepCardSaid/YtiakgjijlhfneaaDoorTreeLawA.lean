/-
  The walks of what the laws on nodes share, and of the law that a text is read alike.
-/
import Derived.Test.YtiakgjijlhfneaaDoorTreeRead
import Derived.Test.YtiakgjijlhfneaaDoorTreeIsPr
import Derived.Test.YtiakgjijlhfneaaDoorTreeNode
import Derived.Test.YtiakgjijlhfneaaDoorTreePlain
namespace Go.Proofs.YtiakgjijlhfneaaDoor
open Go.RowKit
mutual
theorem sameN_refl : ∀ a : Nd, sameN a a = true
  | .mk k t n ks => by rw [sameN, sameL_refl ks]; simp
theorem sameL_refl : ∀ l : List Nd, sameL l l = true
  | [] => by rw [sameL]
  | a :: l => by rw [sameL, sameN_refl a, sameL_refl l]; rfl
end
theorem small_toks {s : ByteArray} (hs : s.size ≤ 1000) : ∀ ts, lexL s 0 = some ts → ∀ t ∈ ts, t.2.size ≤ 1000 := fun ts h t ht => by
  have h1 := (lex_good h).2
  have h2 := tok_le ht
  omega
theorem text_toks {a : Nd} (hw : wellN a = true) (hm : massN a ≤ 950) : ∀ ts, lexL ⟨(textN a).toArray⟩ 0 = some ts → ∀ t ∈ ts, t.2.size ≤ 1000 := fun ts h t ht => by
  rw [lex_text hw] at h
  obtain rfl := Option.some.inj h
  have := tokN_size a hw t ht
  omega
theorem none_ndv (w : World) : NdV w (fun _ => True) Nd.none (nodeC Nd.none.kind Nd.none.text Nd.none.num none Nd.none.kids.length 0) := NdV.leaf w _ 0 (by omega) (by decide)
set_option maxHeartbeats 4000000 in
theorem known15_any (w : World) (hp : Pow10 w) : Calls Tryd.prog 4 #[] w fun e w' => e = .returned (.bool true) ∧ w.grownBy w' none := by
  have HG := G.refl w none
  have HP := Lib.hid (fun W => parseT_any knownB W (by decide) (small_toks (by decide)))
  simp only [known_parse] at HP
  have HQ := Lib.hid (fun W W2 A c ok hN hg hpp => printT_any knownN A c W W2 ok (Nat.le_trans known_mass (by omega)) hN hg hpp)
  simp only [printN_yes known_may, known_text] at HQ
  replace HQ : Hid (∀ (W W2 : World) (A : Option Addr) (c : Nat) (ok : Nat → Prop), NdV W ok knownN (nodeC knownN.kind knownN.text knownN.num A knownN.kids.length c) → W.grownBy W2 none → Pow10 W → Calls Tryd.prog 8 #[.agg #[.int .i64 knownN.kind, .string knownN.text, .int .i64 knownN.num, .slice A knownN.kids.length c]] W2 fun e w' => e = .returned (.string ⟨#[115, 99, 97, 108, 101, 40, 97, 46, 42, 44, 49, 46, 53, 41]⟩) ∧ W2.grownBy w' none) := HQ
  unfold knownB at HP
  generalize knownN = k at *
  go_enter Tryd.func4, Tryd.ntmps4
  go_wp2_with (first | (go_at_call 5; (with_reducible refine (HP.out _).mono ?_); rintro e wn ⟨A, c, rfl, hN, hgn⟩; have hb1 := Hx.new wn #[.int .i64 k.kind, .string k.text, .int .i64 k.num, .slice A k.kids.length c] 25; replace HG := G.trans (w := w) (by exact G.go HG) hgn; have HN := Lib.hid hN; have hpp := Lib.hid (Pow10.kept hp HG); have hw2 := G.refl wn none; clear hN hgn) | (go_at_call 8; (with_reducible refine (HQ.out _ _ _ _ _ HN.out (by exact G.go hw2) hpp.out).mono ?_); rintro e wm ⟨rfl, hgm⟩; replace HG := G.trans (w := w) (by exact G.go HG) hgm; clear hgm))
  go_ret
  exact ⟨rfl, (by exact G.go HG)⟩
end Go.Proofs.YtiakgjijlhfneaaDoor
