/-
  The walks of the reference parser's next, bad and word. Printed by gentreeref.py.
  What the reference's loop over a call's kids holds, in plain words.
  The walk of the reference parser's expr. Printed by gentreerefx.py.
  The walk of the reference's reader of a text. Printed by gentreeparse.py.
-/
import Derived.Test.YtiakgjijlhfneaaGreatDoorTreeRead
import Derived.Test.YtiakgjijlhfneaaGreatDoorRefParse
import Derived.Test.YtiakgjijlhfneaaGreatDoorRegionMix
namespace Go.Proofs.YtiakgjijlhfneaaGreatDoor
open Go.RowKit
section
variable {b : Nat} {tv : Value} {TL : List Tok} {i : Nat} {e : Int} {w : World} (hl : TL.length ≤ 100000) (hi : i ≤ TL.length) (h : Psr 52 71 w b tv TL i e)
include hl hi h
set_option maxRecDepth 100000 in
set_option maxHeartbeats 4000000 in
theorem pnext_any (k : Int) (hk : 0 < k) : Calls Tryz.prog 37 #[.pointer (some ⟨b, 0, none⟩), .int .i64 k] w fun e w' => e = .returned (.bool (((tokAt TL i).1 : Int) == k)) ∧ w.grownBy w' none := by
  have HG := G.refl w none
  have hl2 := hl
  have hi2 := hi
  obtain ⟨A, cap, rfl, hc, hcell⟩ := h.form
  have HC := Lib.hid hcell; clear hcell
  have hs := h.box
  clear h
  have hs_0 := hs.cell 0; have hs_1 := hs.cell 1; have hs_2 := hs.cell 2; have hs_l := hs.lt
  by_cases hlt : i < TL.length
  · obtain ⟨g, rfl, hgb, hgl, x0, x1⟩ := HC.out i hlt
    rw [tokAt_lt hlt]
    generalize TL[i] = t at *
    go_enter Tryz.func37, Tryz.ntmps37
    go_wp2_with fail
    go_quiet (fail)
    go_wp2_with fail
    go_ret
    exact ⟨rfl, (by exact G.go HG)⟩
  · rw [tokAt_end hlt]
    have e0 : (((0, noText).1 : Nat) : Int) = 0 := rfl
    have e1 : ((0 : Int) == k) = false := by simp; omega
    rw [e0, e1]
    go_enter Tryz.func37, Tryz.ntmps37
    go_wp2_with fail
    go_quiet (fail)
    go_wp2_with fail
    go_ret
    exact ⟨rfl, (by exact G.go HG)⟩
end
set_option maxHeartbeats 4000000 in
theorem refBad_any {b : Nat} {tv : Value} {TL : List Tok} {i : Nat} {w : World} (h : Psr 52 71 w b tv TL i 0) (x : Int) : Calls Tryz.prog 24 #[.pointer (some ⟨b, 0, none⟩), .int .i64 x] w fun e w' => e = .returned (.agg #[.int .i64 0, .string ⟨#[]⟩, .int .i64 0, .slice none 0 0]) ∧ Psr 52 71 w' b tv TL i x ∧ w.grownBy w' (some b) := by
  have HG := G.refl w (some b)
  have hs := h.box
  have hs_2 := hs.cell 2; have hs_f2 := hs.free 2; have hs_l := hs.lt
  go_enter Tryz.func24, Tryz.ntmps24
  go_wp2_with fail
  refine ret_cell [.int .i64 0, .string ⟨#[]⟩, .int .i64 0, .slice none 0 0] w.heap.size 24 rfl rfl (Tryz.isAgg24 _) (Tryz.sizeOf24 _) rfl ?_ ?_
  · exact Hx.go2
  · exact ⟨rfl, Psr.go, (by exact G.go HG)⟩
/-- what a word that is no call is handed back as -/
def WordR (o : Option Nd) (e : Ending) : Prop := match o with
  | some a => ∃ k t n, a = .mk k t n [] ∧ (-9223372036854775808 ≤ n ∧ n ≤ 9223372036854775807) ∧ t.size ≤ 1000 ∧ e = .returned (.tuple #[.agg #[.int .i64 k, .string t, .int .i64 n, .slice none 0 0], .bool true])
  | none => ∃ k t n, e = .returned (.tuple #[.agg #[.int .i64 k, .string t, .int .i64 n, .slice none 0 0], .bool false])
set_option maxHeartbeats 8000000 in
set_option maxRecDepth 100000 in
theorem refWord15_any (w : World) (t : ByteArray) (ht : t.size ≤ 1000) :
    Calls Tryz.prog 39 #[.string t] w fun e w' => WordR (wordS t) e ∧ w.grownBy w' none := by
  have HG := G.refl w none
  have HPa := Lib.hid (fun w => refPath_any t w (by omega))
  have HPp := Lib.hid (fun w => refParse_any t w (by omega))
  have c1 := text_const t trueB
  have c2 := text_const t falseB
  rw [show trueB.data.toList = [116, 114, 117, 101] from rfl] at c1
  rw [show falseB.data.toList = [102, 97, 108, 115, 101] from rfl] at c2
  have hw := word_parts t
  unfold parseV at HPp
  have HT := Lib.hid ht
  have hn := Hx.new w #[.int .i64 0, .string ⟨#[]⟩, .int .i64 0, .slice none 0 0] 24
  clear ht
  cases hy : parseO t with
  | some n =>
    rw [hy] at hw HPp
    rw [hw]
    have hr := parse_range hy
    have hb : -4611686018427387904 ≤ n ∧ n ≤ 4611686018427387904 := by simpa [isR] using hr
    simp only [valV, valC, Option.isSome_some] at HPp
    clear hy hw hr
    go_enter Tryz.func39, Tryz.ntmps39
    go_wp2_with (go_at_call 40; (with_reducible refine (HPp.out _).mono ?_); rintro e wn ⟨rfl, hgn⟩; have hg2 := G.trans (w := w) (by exact G.go HG) hgn; replace hn := Hx.kept (by first | exact Hx.go hn | exact Hx.go2) hgn (by simp); have hn_0 := hn.cell 0; have hn_1 := hn.cell 1; have hn_2 := hn.cell 2; have hn_3 := hn.cell 3; have hn_f0 := hn.free 0; have hn_f1 := hn.free 1; have hn_f2 := hn.free 2; have hn_f3 := hn.free 3; have hn_l := hn.lt; replace HG := hg2; clear hg2 hgn)
    refine ret_cell_tmp [.int .i64 3, .string ⟨#[]⟩, .int .i64 n, .slice none 0 0] w.heap.size 24 rfl rfl (Tryz.isAgg24 _) (Tryz.sizeOf24 _) rfl (by first | exact Hx.go hn | exact Hx.go2) ?_
    exact ⟨⟨3, ⟨#[]⟩, n, rfl, by omega, by decide, rfl⟩, (by exact G.go HG)⟩
  | none =>
    rw [hy] at hw HPp
    simp only [valV, valC, Option.isSome_none] at HPp
    by_cases e1 : t = trueB
    · rw [if_pos e1] at hw
      rw [hw]
      rw [decide_eq_true e1] at c1
      clear hy hw e1
      go_enter Tryz.func39, Tryz.ntmps39
      go_wp2_with (go_at_call 40; (with_reducible refine (HPp.out _).mono ?_); rintro e wn ⟨rfl, hgn⟩; have hg2 := G.trans (w := w) (by exact G.go HG) hgn; replace hn := Hx.kept (by first | exact Hx.go hn | exact Hx.go2) hgn (by simp); have hn_0 := hn.cell 0; have hn_1 := hn.cell 1; have hn_2 := hn.cell 2; have hn_3 := hn.cell 3; have hn_f0 := hn.free 0; have hn_f1 := hn.free 1; have hn_f2 := hn.free 2; have hn_f3 := hn.free 3; have hn_l := hn.lt; replace HG := hg2; clear hg2 hgn)
      refine ret_cell_tmp [.int .i64 5, .string ⟨#[]⟩, .int .i64 1, .slice none 0 0] w.heap.size 24 rfl rfl (Tryz.isAgg24 _) (Tryz.sizeOf24 _) rfl (by first | exact Hx.go hn | exact Hx.go2) ?_
      exact ⟨⟨5, ⟨#[]⟩, 1, rfl, by omega, by decide, rfl⟩, (by exact G.go HG)⟩
    rw [if_neg e1] at hw
    rw [decide_eq_false e1] at c1
    clear e1
    by_cases e2 : t = falseB
    · rw [if_pos e2] at hw
      rw [hw]
      rw [decide_eq_true e2] at c2
      clear hy hw e2
      go_enter Tryz.func39, Tryz.ntmps39
      go_wp2_with (go_at_call 40; (with_reducible refine (HPp.out _).mono ?_); rintro e wn ⟨rfl, hgn⟩; have hg2 := G.trans (w := w) (by exact G.go HG) hgn; replace hn := Hx.kept (by first | exact Hx.go hn | exact Hx.go2) hgn (by simp); have hn_0 := hn.cell 0; have hn_1 := hn.cell 1; have hn_2 := hn.cell 2; have hn_3 := hn.cell 3; have hn_f0 := hn.free 0; have hn_f1 := hn.free 1; have hn_f2 := hn.free 2; have hn_f3 := hn.free 3; have hn_l := hn.lt; replace HG := hg2; clear hg2 hgn)
      refine ret_cell_tmp [.int .i64 5, .string ⟨#[]⟩, .int .i64 0, .slice none 0 0] w.heap.size 24 rfl rfl (Tryz.isAgg24 _) (Tryz.sizeOf24 _) rfl (by first | exact Hx.go hn | exact Hx.go2) ?_
      exact ⟨⟨5, ⟨#[]⟩, 0, rfl, by omega, by decide, rfl⟩, (by exact G.go HG)⟩
    rw [if_neg e2] at hw
    rw [decide_eq_false e2] at c2
    clear e2
    cases hp : pathB t
    · rw [hp] at HPa hw
      rw [if_neg (by simp)] at hw
      rw [hw]
      clear hy hw hp
      go_enter Tryz.func39, Tryz.ntmps39
      go_wp2_with (first | (go_at_call 40; (with_reducible refine (HPp.out _).mono ?_); rintro e wn ⟨rfl, hgn⟩; have hg2 := G.trans (w := w) (by exact G.go HG) hgn; replace hn := Hx.kept (by first | exact Hx.go hn | exact Hx.go2) hgn (by simp); have hn_0 := hn.cell 0; have hn_1 := hn.cell 1; have hn_2 := hn.cell 2; have hn_3 := hn.cell 3; have hn_f0 := hn.free 0; have hn_f1 := hn.free 1; have hn_f2 := hn.free 2; have hn_f3 := hn.free 3; have hn_l := hn.lt; replace HG := hg2; clear hg2 hgn) | (go_at_call 41; (with_reducible refine (HPa.out _).mono ?_); rintro e wn ⟨rfl, rfl⟩))
      refine ret_cell_tmp [.int .i64 2, .string t, .int .i64 0, .slice none 0 0] w.heap.size 24 rfl rfl (Tryz.isAgg24 _) (Tryz.sizeOf24 _) rfl (by first | exact Hx.go hn | exact Hx.go2) ?_
      exact ⟨⟨2, t, 0, rfl⟩, (by exact G.go HG)⟩
    · rw [hp] at HPa hw
      rw [if_pos rfl] at hw
      rw [hw]
      clear hy hw hp
      go_enter Tryz.func39, Tryz.ntmps39
      go_wp2_with (first | (go_at_call 40; (with_reducible refine (HPp.out _).mono ?_); rintro e wn ⟨rfl, hgn⟩; have hg2 := G.trans (w := w) (by exact G.go HG) hgn; replace hn := Hx.kept (by first | exact Hx.go hn | exact Hx.go2) hgn (by simp); have hn_0 := hn.cell 0; have hn_1 := hn.cell 1; have hn_2 := hn.cell 2; have hn_3 := hn.cell 3; have hn_f0 := hn.free 0; have hn_f1 := hn.free 1; have hn_f2 := hn.free 2; have hn_f3 := hn.free 3; have hn_l := hn.lt; replace HG := hg2; clear hg2 hgn) | (go_at_call 41; (with_reducible refine (HPa.out _).mono ?_); rintro e wn ⟨rfl, rfl⟩))
      refine ret_cell_tmp [.int .i64 2, .string t, .int .i64 0, .slice none 0 0] w.heap.size 24 rfl rfl (Tryz.isAgg24 _) (Tryz.sizeOf24 _) rfl (by first | exact Hx.go hn | exact Hx.go2) ?_
      exact ⟨⟨2, t, 0, rfl, by omega, HT.out, rfl⟩, (by exact G.go HG)⟩
end Go.Proofs.YtiakgjijlhfneaaGreatDoor
namespace Go.Proofs.YtiakgjijlhfneaaGreatDoor
open Go.RowKit
/-- at the loop's head: no kid yet, or behind one -/
def HeadRel (f : Nat) (t : ByteArray) (TL : List Tok) (Q : Rd Nd) (acc : List NdP) (j : Nat) : Prop := j ≤ TL.length ∧ acc.length ≤ j ∧ ((acc = [] ∧ Q = callQ f t (TL.drop j)) ∨ (∃ acc0 p j0, acc = acc0 ++ [p] ∧ CallRel f t TL Q acc0 j0 ∧ exprS f (TL.drop j0) = .ok p.1 (TL.drop j)))
section
variable {f : Nat} {t : ByteArray} {TL : List Tok} {Q : Rd Nd} {acc : List NdP} {j : Nat} (h : HeadRel f t TL Q acc j)
include h
theorem HeadRel.close (h4 : (tokAt TL j).1 = 4) : Q = .ok (.mk 1 t 0 (acc.map (·.1))) (TL.drop (j + 1)) ∧ j < TL.length := by
  have hlt : j < TL.length := by
    rcases Nat.lt_or_ge j TL.length with g | g
    · exact g
    · rw [tokAt_end (by omega)] at h4; cases h4
  obtain ⟨_, _, ⟨rfl, rfl⟩ | ⟨acc0, p, j0, rfl, hc, he⟩⟩ := h
  · refine ⟨?_, hlt⟩
    unfold callQ
    rw [headK_tok, if_pos h4, tail_drop]; rfl
  · exact ⟨((hc.next rfl he (by omega)).1 h4).1, hlt⟩
theorem HeadRel.first (h0 : acc = []) (h4 : ¬ (tokAt TL j).1 = 4) : CallRel f t TL Q acc j := by
  obtain ⟨hj, _, ⟨rfl, rfl⟩ | ⟨acc0, p, j0, rfl, hc, he⟩⟩ := h
  · exact CallRel.start hj (by rw [headK_tok]; exact h4)
  · simp at h0
theorem HeadRel.comma (h0 : ¬ acc = []) (h5 : (tokAt TL j).1 = 5) : CallRel f t TL Q acc (j + 1) := by
  obtain ⟨hj, _, ⟨rfl, rfl⟩ | ⟨acc0, p, j0, rfl, hc, he⟩⟩ := h
  · exact absurd rfl h0
  · exact (hc.next rfl he hj).2.1 h5
theorem HeadRel.bad (h0 : ¬ acc = []) (h4 : ¬ (tokAt TL j).1 = 4) (h5 : ¬ (tokAt TL j).1 = 5) : Q = .err 8 := by
  obtain ⟨hj, _, ⟨rfl, rfl⟩ | ⟨acc0, p, j0, rfl, hc, he⟩⟩ := h
  · exact absurd rfl h0
  · exact (hc.next rfl he hj).2.2 h4 h5
end
theorem HeadRel.start {f : Nat} {t : ByteArray} {TL : List Tok} {i : Nat} (hi : i ≤ TL.length) : HeadRel f t TL (callQ f t (TL.drop i)) [] i := ⟨hi, Nat.zero_le _, Or.inl ⟨rfl, rfl⟩⟩
theorem HeadRel.more {f : Nat} {t : ByteArray} {TL : List Tok} {Q : Rd Nd} {acc : List NdP} {j k : Nat} {p : NdP} (h : CallRel f t TL Q acc j) (he : exprS f (TL.drop j) = .ok p.1 (TL.drop k)) (hk : k ≤ TL.length) (hjk : j < k) : HeadRel f t TL Q (acc ++ [p]) k :=
  ⟨hk, by obtain ⟨_, _, _, h3, _⟩ := h; rw [List.length_append, List.length_singleton]; omega, Or.inr ⟨acc, p, j, rfl, h, he⟩⟩
theorem Kids.setb {w : World} {base : Nat} {v : Value} {acc : List NdP} (h : Kids w base v acc) {c : Nat} (hc : c < base) (i : Nat) (u : Value) : Kids (w.setCell ⟨c, i, none⟩ u) base v acc := h.kept_b (b := c) (G.set (G.refl w _) _ (Or.inr rfl)) hc
/-- a call's kids, as far as the walk has come -/
theorem Kids.go {w : World} {base : Nat} {v : Value} {acc : List NdP} (h : Kids w base v acc := by (repeat first | with_reducible assumption | with_reducible apply Kids.drewN | with_reducible apply Kids.drew | with_reducible apply Kids.alloc | (with_reducible apply Kids.setb; rotate_left; omega))) : Kids w base v acc := h
/-- what is read, told alike in both cases -/
def RdOf (TL : List Tok) (R : Rd Nd) (a : Nd) (k : Nat) (e : Int) : Prop := match R with
  | .ok a' r => a = a' ∧ r = TL.drop k ∧ k ≤ TL.length ∧ e = 0
  | .err x => e = x
theorem RdP.both {T E : TypeId} {w w' : World} {b : Nat} {tv : Value} {TL : List Tok} {R : Rd Nd} {e : Ending} (h : RdP T E w b tv TL R e w') :
    ∃ a A c k x, e = .returned (.agg #[.int .i64 a.kind, .string a.text, .int .i64 a.num, .slice A a.kids.length c]) ∧ NdV w' (fun k => w.heap.size ≤ k) a (ndC (a, A, c)) ∧ Psr T E w' b tv TL k x ∧ w.grownBy w' (some b) ∧ RdOf TL R a k x := by
  cases R with
  | ok a r =>
    obtain ⟨k, A, c, h1, h2, h3, h4, h5, h6⟩ := h
    exact ⟨a, A, c, k, 0, h3, h4, h5, h6, rfl, h1, h2, rfl⟩
  | err x =>
    obtain ⟨k, h1, h2, h3⟩ := h
    exact ⟨Nd.none, none, 0, k, x, h1, NdV.leaf w' _ 0 (by omega) (by decide), h2, h3, rfl⟩
/-- a call handed back -/
theorem RdP.kids {T E : TypeId} {w w' : World} {b : Nat} {tv : Value} {TL : List Tok} {base m n c : Nat} {A : Option Addr} {acc : List NdP} {t : ByteArray} {e : Ending} (hk : Kids w' base (.slice A n c) acc) (ht : t.size ≤ 140737488351232) (hb : w.heap.size ≤ base) (hm : m ≤ TL.length)
    (he : e = .returned (.agg #[.int .i64 1, .string t, .int .i64 0, .slice A n c])) (hp : Psr T E w' b tv TL m 0) (hg : w.grownBy w' (some b)) : RdP T E w b tv TL (.ok (.mk 1 t 0 (acc.map (·.1))) (TL.drop m)) e w' := by
  have hl : (acc.map (·.1)).length = acc.length := by simp
  obtain ⟨rfl, hn⟩ := hk.node ht
  refine ⟨m, A, c, rfl, hm, ?_, ?_, hp, hg⟩
  · rw [he]
    show _ = Ending.returned (.agg #[.int .i64 1, .string t, .int .i64 0, .slice A (acc.map (·.1)).length c])
    rw [hl]
  · show NdV w' _ (.mk 1 t 0 (acc.map (·.1))) (nodeC 1 t 0 A (acc.map (·.1)).length c)
    rw [hl]
    exact hn.mono (fun k _ hk => Nat.le_trans hb hk)
end Go.Proofs.YtiakgjijlhfneaaGreatDoor
namespace Go.Proofs.YtiakgjijlhfneaaGreatDoor
open Go.RowKit
section
variable {b : Nat} {tv : Value} {TL : List Tok} (HT : ∀ t ∈ TL, t.2.size ≤ 1000) (hl : TL.length ≤ 5000)
include HT hl
set_option maxHeartbeats 16000000 in
set_option maxRecDepth 100000 in
theorem refExpr_any (f : Nat) : ∀ (d : Int) (i : Nat) (w : World), d + f = 64 → 0 ≤ d → i ≤ TL.length → Psr 52 71 w b tv TL i 0 →
    Calls Tryz.prog 23 #[.pointer (some ⟨b, 0, none⟩), .int .i64 d] w (RdP 52 71 w b tv TL (exprS f (TL.drop i))) := by
  induction f with
  | zero =>
    intro d i w hd hd0 hi h
    have HG := G.refl w (some b)
    have hbl := h.lt
    have HTo := Lib.hid h.own_lt
    have hne1 : b ≠ w.heap.size := by omega
    have hno1 : tv.ownBlock ≠ some w.heap.size := fun e => by have := HTo.out _ e; omega
    have hn1 := Hx.new w #[.int .i64 0, .string ⟨#[]⟩, .int .i64 0, .slice none 0 0] 24
    obtain rfl : d = 64 := by omega
    rw [show exprS 0 (TL.drop i) = .err 12 from by rw [exprS]]
    have hb := h.box; have hb_0 := hb.cell 0; have hb_1 := hb.cell 1; have hb_2 := hb.cell 2; have hb_f0 := hb.free 0; have hb_f1 := hb.free 1; have hb_f2 := hb.free 2; have hb_l := hb.lt
    go_enter Tryz.func23, Tryz.ntmps23
    go_wp2_with (go_at_call 24; (with_reducible refine (refBad_any (Psr.go) 12).mono ?_); rintro e w7 ⟨rfl, hp7, hg7⟩; replace HG := G.trans (w := w) (by exact G.go HG) hg7; replace hn1 := Hx.kept (by first | exact Hx.go hn1 | exact Hx.go2) hg7 (fun e => by have := Option.some.inj e; omega); clear hg7 h hb hb_0 hb_f0 hb_1 hb_f1 hb_2 hb_f2 hb_l; have h := hp7; clear hp7; have hn1_0 := hn1.cell 0; have hn1_1 := hn1.cell 1; have hn1_2 := hn1.cell 2; have hn1_3 := hn1.cell 3; have hn1_f0 := hn1.free 0; have hn1_f1 := hn1.free 1; have hn1_f2 := hn1.free 2; have hn1_f3 := hn1.free 3; have hn1_l := hn1.lt; )
    refine ret_cell [.int .i64 0, .string ⟨#[]⟩, .int .i64 0, .slice none 0 0] w.heap.size 24 rfl rfl (Tryz.isAgg24 _) (Tryz.sizeOf24 _) rfl (by first | exact Hx.go hn1 | exact Hx.go2) ?_
    exact ⟨i, rfl, Psr.go, (by exact G.go HG)⟩
  | succ f ih =>
    intro d i w hd hd0 hi h
    have HG := G.refl w (some b)
    have hbl := h.lt
    have HTo := Lib.hid h.own_lt
    have hne1 : b ≠ w.heap.size := by omega
    have hno1 : tv.ownBlock ≠ some w.heap.size := fun e => by have := HTo.out _ e; omega
    have hn1 := Hx.new w #[.int .i64 0, .string ⟨#[]⟩, .int .i64 0, .slice none 0 0] 24
    have hd64 : ¬ (64 : Int) ≤ d := by omega
    have hwr : IntKind.i64.wrap ((i : Int) + 1) = (i : Int) + 1 := by rw [IntKind.wrap_i64]; omega
    have HE := Lib.hid (fun (i : Nat) (w : World) hi h => ih (d + 1) i w (by omega) (by omega) hi h)
    have hd1 : 0 ≤ d ∧ d ≤ 100 := by omega
    clear ih hd hd0
    have hnil : ¬ i < TL.length → (tokAt TL i).1 = 0 := fun g => by rw [tokAt_end g]
    have HN1 := Lib.hid (fun w' (h : Psr 52 71 w' b tv TL i 0) => pnext_any (by omega) hi h 1 (by omega))
    have HN2 := Lib.hid (fun w' (h : Psr 52 71 w' b tv TL i 0) => pnext_any (by omega) hi h 2 (by omega))
    by_cases hbad : ¬ (tokAt TL i).1 = 1 ∧ ¬ (tokAt TL i).1 = 2
    · have hq : exprS (f + 1) (TL.drop i) = .err 8 := by
        by_cases hlt : i < TL.length
        · rw [tokAt_lt hlt] at hbad
          rw [drop_hd hlt, exprS_cons, if_neg hbad.2, if_neg hbad.1]
        · rw [List.drop_eq_nil_of_le (by omega), exprS]
      rw [hq]
      have b1 : (((tokAt TL i).1 : Int) == 1) = false := by simp; omega
      have b2 : (((tokAt TL i).1 : Int) == 2) = false := by simp; omega
      rw [b1] at HN1
      rw [b2] at HN2
      clear hq hbad hnil HE b1 b2
      have hb := h.box; have hb_0 := hb.cell 0; have hb_1 := hb.cell 1; have hb_2 := hb.cell 2; have hb_f0 := hb.free 0; have hb_f1 := hb.free 1; have hb_f2 := hb.free 2; have hb_l := hb.lt
      go_enter Tryz.func23, Tryz.ntmps23
      go_wp2_with (first | (go_at_call 37; (with_reducible refine (HN2.out _ Psr.go).mono ?_); rintro e wn ⟨rfl, hgn⟩; have h5 := Psr.kept Psr.go hgn; replace hn1 := Hx.kept (by first | exact Hx.go hn1 | exact Hx.go2) hgn (by simp); replace HG := G.trans (w := w) (by exact G.go HG) (G.any hgn _); clear hgn h hb hb_0 hb_f0 hb_1 hb_f1 hb_2 hb_f2 hb_l; have h := h5; clear h5; have hb := h.box; have hb_0 := hb.cell 0; have hb_1 := hb.cell 1; have hb_2 := hb.cell 2; have hb_f0 := hb.free 0; have hb_f1 := hb.free 1; have hb_f2 := hb.free 2; have hb_l := hb.lt; have hn1_0 := hn1.cell 0; have hn1_1 := hn1.cell 1; have hn1_2 := hn1.cell 2; have hn1_3 := hn1.cell 3; have hn1_f0 := hn1.free 0; have hn1_f1 := hn1.free 1; have hn1_f2 := hn1.free 2; have hn1_f3 := hn1.free 3; have hn1_l := hn1.lt; ) | (go_at_call 37; (with_reducible refine (HN1.out _ Psr.go).mono ?_); rintro e wn ⟨rfl, hgn⟩; have h5 := Psr.kept Psr.go hgn; replace hn1 := Hx.kept (by first | exact Hx.go hn1 | exact Hx.go2) hgn (by simp); replace HG := G.trans (w := w) (by exact G.go HG) (G.any hgn _); clear hgn h hb hb_0 hb_f0 hb_1 hb_f1 hb_2 hb_f2 hb_l; have h := h5; clear h5; have hb := h.box; have hb_0 := hb.cell 0; have hb_1 := hb.cell 1; have hb_2 := hb.cell 2; have hb_f0 := hb.free 0; have hb_f1 := hb.free 1; have hb_f2 := hb.free 2; have hb_l := hb.lt; have hn1_0 := hn1.cell 0; have hn1_1 := hn1.cell 1; have hn1_2 := hn1.cell 2; have hn1_3 := hn1.cell 3; have hn1_f0 := hn1.free 0; have hn1_f1 := hn1.free 1; have hn1_f2 := hn1.free 2; have hn1_f3 := hn1.free 3; have hn1_l := hn1.lt; ) | (go_at_call 24; (with_reducible refine (refBad_any (Psr.go) 8).mono ?_); rintro e w7 ⟨rfl, hp7, hg7⟩; replace HG := G.trans (w := w) (by exact G.go HG) hg7; replace hn1 := Hx.kept (by first | exact Hx.go hn1 | exact Hx.go2) hg7 (fun e => by have := Option.some.inj e; omega); clear hg7 h hb hb_0 hb_f0 hb_1 hb_f1 hb_2 hb_f2 hb_l; have h := hp7; clear hp7; have hn1_0 := hn1.cell 0; have hn1_1 := hn1.cell 1; have hn1_2 := hn1.cell 2; have hn1_3 := hn1.cell 3; have hn1_f0 := hn1.free 0; have hn1_f1 := hn1.free 1; have hn1_f2 := hn1.free 2; have hn1_f3 := hn1.free 3; have hn1_l := hn1.lt; ))
      refine ret_cell [.int .i64 0, .string ⟨#[]⟩, .int .i64 0, .slice none 0 0] w.heap.size 24 rfl rfl (Tryz.isAgg24 _) (Tryz.sizeOf24 _) rfl (by first | exact Hx.go hn1 | exact Hx.go2) ?_
      exact ⟨i, rfl, Psr.go, (by exact G.go HG)⟩
    have hlt : i < TL.length := by
      rcases Nat.lt_or_ge i TL.length with g | g
      · exact g
      · have := hnil (by omega); omega
    clear hnil
    have hkt : (tokAt TL i).2.size ≤ 1000 := by rw [tokAt_lt hlt]; exact HT _ (List.getElem_mem hlt)
    by_cases k2 : (tokAt TL i).1 = 2
    · have hq : exprS (f + 1) (TL.drop i) = .ok (.mk 4 (tokAt TL i).2 0 []) (TL.drop (i + 1)) := by
        rw [tokAt_lt hlt] at k2 ⊢
        rw [drop_hd hlt, exprS_cons, if_pos k2]
      rw [hq]
      have b2 : (((tokAt TL i).1 : Int) == 2) = true := by simp; omega
      rw [b2] at HN2
      clear hq hbad k2 HE b2 HN1
      have hb := h.box; have hb_0 := hb.cell 0; have hb_1 := hb.cell 1; have hb_2 := hb.cell 2; have hb_f0 := hb.free 0; have hb_f1 := hb.free 1; have hb_f2 := hb.free 2; have hb_l := hb.lt
      go_enter Tryz.func23, Tryz.ntmps23
      go_upto_region 3 with (fail)
      go_cut [4, 15] (fun p4 p15 wc => p4 = .pointer (some ⟨w.heap.size, 0, none⟩) ∧ p15 = .bool true ∧ w.grownBy wc (some b) ∧ Psr 52 71 wc b tv TL i 0 ∧ Hx wc w.heap.size [.int .i64 0, .string ⟨#[]⟩, .int .i64 0, .slice none 0 0] 24)
      case first =>
        go_wp2_with (go_at_call 37; (with_reducible refine (HN2.out _ Psr.go).mono ?_); rintro e wn ⟨rfl, hgn⟩; have h5 := Psr.kept Psr.go hgn; replace hn1 := Hx.kept (by first | exact Hx.go hn1 | exact Hx.go2) hgn (by simp); replace HG := G.trans (w := w) (by exact G.go HG) (G.any hgn _); clear hgn h hb hb_0 hb_f0 hb_1 hb_f1 hb_2 hb_f2 hb_l; have h := h5; clear h5; have hb := h.box; have hb_0 := hb.cell 0; have hb_1 := hb.cell 1; have hb_2 := hb.cell 2; have hb_f0 := hb.free 0; have hb_f1 := hb.free 1; have hb_f2 := hb.free 2; have hb_l := hb.lt; have hn1_0 := hn1.cell 0; have hn1_1 := hn1.cell 1; have hn1_2 := hn1.cell 2; have hn1_3 := hn1.cell 3; have hn1_f0 := hn1.free 0; have hn1_f1 := hn1.free 1; have hn1_f2 := hn1.free 2; have hn1_f3 := hn1.free 3; have hn1_l := hn1.lt; )
        go_meet
        exact ⟨rfl, rfl, (by exact G.go HG), Psr.go, Hx.go2⟩
      obtain ⟨rfl, rfl, HG, h, hn1⟩ := hcut
      rename World => wq
      obtain ⟨VA, VC, rfl, hVC, hcell⟩ := h.form; obtain ⟨VG, rfl, hVg, hVl, x0, x1⟩ := hcell i hlt; rw [← tokAt_lt hlt] at x0 x1; clear hcell
      have hb := h.box; have hb_0 := hb.cell 0; have hb_1 := hb.cell 1; have hb_2 := hb.cell 2; have hb_f0 := hb.free 0; have hb_f1 := hb.free 1; have hb_f2 := hb.free 2; have hb_l := hb.lt; have hn1_0 := hn1.cell 0; have hn1_1 := hn1.cell 1; have hn1_2 := hn1.cell 2; have hn1_3 := hn1.cell 3; have hn1_f0 := hn1.free 0; have hn1_f1 := hn1.free 1; have hn1_f2 := hn1.free 2; have hn1_f3 := hn1.free 3; have hn1_l := hn1.lt
      have hwl := hn1_l
      go_wp2_with fail
      obtain ⟨FF, hFF⟩ : ∃ FF : Nat → (Nat → Value) → World → Prop, FF = fun tt VV y => (tt = 0 ∧ y = wq.drew) ∨ (0 < tt ∧ y = (wq.drew).alloc (.cells #[.int .i64 0, .string ⟨#[]⟩, .int .i64 0, .slice none 0 0] 24) ∧ VV 12 = .pointer (some ⟨wq.heap.size, 0, none⟩)) := ⟨_, rfl⟩
      replace hFF := Lib.hid hFF
      refine wp_region_mix (n := 13) (S := [fun v => v = .pointer (some ⟨b, 0, none⟩), fun v => v = .pointer (some ⟨b, 0, none⟩), fun v => v = .pointer (some ⟨b, 0, none⟩), fun v => v = .slice (some ⟨VG, 0, none⟩) TL.length VC, fun v => v = .pointer (some ⟨b, 0, none⟩), fun v => v = .pointer (some ⟨b, 0, none⟩), fun v => v = .pointer (some ⟨b, 1, none⟩), fun v => v = .int .i64 i, fun v => v = .pointer (some ⟨VG, i * 2, none⟩), fun v => v = .pointer (some ⟨VG, i * 2 + 1, none⟩), fun v => v = .string (tokAt TL i).2, fun v => v = .agg #[.int .i64 4, .string (tokAt TL i).2, .int .i64 0, .slice none 0 0], fun _ => True]) (ch := [12]) (F := FF) (by kernel_rfl) (by kernel_rfl) (by kernel_rfl) ?_ ?_ ?_ ?_
      · intro t V V' y hVV hF; rw [hFF.out] at hF ⊢; rcases hF with hF | ⟨h1, h2, h3⟩; (exact Or.inl hF); (exact Or.inr ⟨h1, h2, by rw [← hVV 12 (by decide)]; exact h3⟩)
      · intro V; rw [hFF.out]; exact Or.inl ⟨rfl, rfl⟩
      · simp only [List.take_succ_cons, List.take_zero, mixOps]
        refine ⟨?_, ?_, ?_, ?_, ?_, ?_, ?_, ?_, ?_, ?_, ?_, ?_, ?_, trivial⟩
        · rw [if_neg (by decide)]
          intro VV y1 tt hV1 hV
          clear hV
          have hgy : wq.grownBy y1 none := by
            rw [hFF.out] at hV1
            rcases hV1 with ⟨-, rfl⟩ | ⟨-, rfl, -⟩
            · exact (by have hb0 := (G.refl wq none); (repeat first | with_reducible exact hb0 | with_reducible refine G.drewN ?_ _ | with_reducible refine G.drew ?_ | with_reducible refine G.alloc ?_ _ | with_reducible refine G.set ?_ _ (Or.inr rfl) | (with_reducible refine G.set ?_ _ (Or.inl ?_); rotate_left; focus (first | omega | (simp; done) | (simp; omega)))))
            · exact (by have hb0 := (G.refl wq none); (repeat first | with_reducible exact hb0 | with_reducible refine G.drewN ?_ _ | with_reducible refine G.drew ?_ | with_reducible refine G.alloc ?_ _ | with_reducible refine G.set ?_ _ (Or.inr rfl) | (with_reducible refine G.set ?_ _ (Or.inl ?_); rotate_left; focus (first | omega | (simp; done) | (simp; omega)))))
          have z0 := (G.cell hgy (a := ⟨b, 0, none⟩) hb_l (by simp)).trans hb_0
          have z1 := (G.cell hgy (a := ⟨b, 1, none⟩) hb_l (by simp)).trans hb_1
          have z2 := (G.cell hgy (a := ⟨VG, i * 2, none⟩) hVl (by simp)).trans x0
          have z3 := (G.cell hgy (a := ⟨VG, i * 2 + 1, none⟩) hVl (by simp)).trans x1
          simp only [putAll]
          go_wp2_with fail
          exact ⟨rfl, rfl, rfl, rfl⟩
        · rw [if_neg (by decide)]
          intro VV y1 tt hV1 hV
          have e0 := hV 0 (by kernel_rfl) (by decide)
          clear hV
          simp only [List.getD_cons_succ, List.getD_cons_zero] at e0
          have hgy : wq.grownBy y1 none := by
            rw [hFF.out] at hV1
            rcases hV1 with ⟨-, rfl⟩ | ⟨-, rfl, -⟩
            · exact (by have hb0 := (G.refl wq none); (repeat first | with_reducible exact hb0 | with_reducible refine G.drewN ?_ _ | with_reducible refine G.drew ?_ | with_reducible refine G.alloc ?_ _ | with_reducible refine G.set ?_ _ (Or.inr rfl) | (with_reducible refine G.set ?_ _ (Or.inl ?_); rotate_left; focus (first | omega | (simp; done) | (simp; omega)))))
            · exact (by have hb0 := (G.refl wq none); (repeat first | with_reducible exact hb0 | with_reducible refine G.drewN ?_ _ | with_reducible refine G.drew ?_ | with_reducible refine G.alloc ?_ _ | with_reducible refine G.set ?_ _ (Or.inr rfl) | (with_reducible refine G.set ?_ _ (Or.inl ?_); rotate_left; focus (first | omega | (simp; done) | (simp; omega)))))
          have z0 := (G.cell hgy (a := ⟨b, 0, none⟩) hb_l (by simp)).trans hb_0
          have z1 := (G.cell hgy (a := ⟨b, 1, none⟩) hb_l (by simp)).trans hb_1
          have z2 := (G.cell hgy (a := ⟨VG, i * 2, none⟩) hVl (by simp)).trans x0
          have z3 := (G.cell hgy (a := ⟨VG, i * 2 + 1, none⟩) hVl (by simp)).trans x1
          simp only [putAll, e0]
          go_wp2_with fail
          exact ⟨rfl, rfl, rfl, rfl⟩
        · rw [if_neg (by decide)]
          intro VV y1 tt hV1 hV
          have e1 := hV 1 (by kernel_rfl) (by decide)
          clear hV
          simp only [List.getD_cons_succ, List.getD_cons_zero] at e1
          have hgy : wq.grownBy y1 none := by
            rw [hFF.out] at hV1
            rcases hV1 with ⟨-, rfl⟩ | ⟨-, rfl, -⟩
            · exact (by have hb0 := (G.refl wq none); (repeat first | with_reducible exact hb0 | with_reducible refine G.drewN ?_ _ | with_reducible refine G.drew ?_ | with_reducible refine G.alloc ?_ _ | with_reducible refine G.set ?_ _ (Or.inr rfl) | (with_reducible refine G.set ?_ _ (Or.inl ?_); rotate_left; focus (first | omega | (simp; done) | (simp; omega)))))
            · exact (by have hb0 := (G.refl wq none); (repeat first | with_reducible exact hb0 | with_reducible refine G.drewN ?_ _ | with_reducible refine G.drew ?_ | with_reducible refine G.alloc ?_ _ | with_reducible refine G.set ?_ _ (Or.inr rfl) | (with_reducible refine G.set ?_ _ (Or.inl ?_); rotate_left; focus (first | omega | (simp; done) | (simp; omega)))))
          have z0 := (G.cell hgy (a := ⟨b, 0, none⟩) hb_l (by simp)).trans hb_0
          have z1 := (G.cell hgy (a := ⟨b, 1, none⟩) hb_l (by simp)).trans hb_1
          have z2 := (G.cell hgy (a := ⟨VG, i * 2, none⟩) hVl (by simp)).trans x0
          have z3 := (G.cell hgy (a := ⟨VG, i * 2 + 1, none⟩) hVl (by simp)).trans x1
          simp only [putAll, e1]
          go_wp2_with fail
          exact ⟨rfl, rfl, rfl, rfl⟩
        · rw [if_neg (by decide)]
          intro VV y1 tt hV1 hV
          have e2 := hV 2 (by kernel_rfl) (by decide)
          clear hV
          simp only [List.getD_cons_succ, List.getD_cons_zero] at e2
          have hgy : wq.grownBy y1 none := by
            rw [hFF.out] at hV1
            rcases hV1 with ⟨-, rfl⟩ | ⟨-, rfl, -⟩
            · exact (by have hb0 := (G.refl wq none); (repeat first | with_reducible exact hb0 | with_reducible refine G.drewN ?_ _ | with_reducible refine G.drew ?_ | with_reducible refine G.alloc ?_ _ | with_reducible refine G.set ?_ _ (Or.inr rfl) | (with_reducible refine G.set ?_ _ (Or.inl ?_); rotate_left; focus (first | omega | (simp; done) | (simp; omega)))))
            · exact (by have hb0 := (G.refl wq none); (repeat first | with_reducible exact hb0 | with_reducible refine G.drewN ?_ _ | with_reducible refine G.drew ?_ | with_reducible refine G.alloc ?_ _ | with_reducible refine G.set ?_ _ (Or.inr rfl) | (with_reducible refine G.set ?_ _ (Or.inl ?_); rotate_left; focus (first | omega | (simp; done) | (simp; omega)))))
          have z0 := (G.cell hgy (a := ⟨b, 0, none⟩) hb_l (by simp)).trans hb_0
          have z1 := (G.cell hgy (a := ⟨b, 1, none⟩) hb_l (by simp)).trans hb_1
          have z2 := (G.cell hgy (a := ⟨VG, i * 2, none⟩) hVl (by simp)).trans x0
          have z3 := (G.cell hgy (a := ⟨VG, i * 2 + 1, none⟩) hVl (by simp)).trans x1
          simp only [putAll, e2]
          go_wp2_with fail
          exact ⟨rfl, rfl, rfl, rfl⟩
        · rw [if_neg (by decide)]
          intro VV y1 tt hV1 hV
          clear hV
          have hgy : wq.grownBy y1 none := by
            rw [hFF.out] at hV1
            rcases hV1 with ⟨-, rfl⟩ | ⟨-, rfl, -⟩
            · exact (by have hb0 := (G.refl wq none); (repeat first | with_reducible exact hb0 | with_reducible refine G.drewN ?_ _ | with_reducible refine G.drew ?_ | with_reducible refine G.alloc ?_ _ | with_reducible refine G.set ?_ _ (Or.inr rfl) | (with_reducible refine G.set ?_ _ (Or.inl ?_); rotate_left; focus (first | omega | (simp; done) | (simp; omega)))))
            · exact (by have hb0 := (G.refl wq none); (repeat first | with_reducible exact hb0 | with_reducible refine G.drewN ?_ _ | with_reducible refine G.drew ?_ | with_reducible refine G.alloc ?_ _ | with_reducible refine G.set ?_ _ (Or.inr rfl) | (with_reducible refine G.set ?_ _ (Or.inl ?_); rotate_left; focus (first | omega | (simp; done) | (simp; omega)))))
          have z0 := (G.cell hgy (a := ⟨b, 0, none⟩) hb_l (by simp)).trans hb_0
          have z1 := (G.cell hgy (a := ⟨b, 1, none⟩) hb_l (by simp)).trans hb_1
          have z2 := (G.cell hgy (a := ⟨VG, i * 2, none⟩) hVl (by simp)).trans x0
          have z3 := (G.cell hgy (a := ⟨VG, i * 2 + 1, none⟩) hVl (by simp)).trans x1
          simp only [putAll]
          go_wp2_with fail
          exact ⟨rfl, rfl, rfl, rfl⟩
        · rw [if_neg (by decide)]
          intro VV y1 tt hV1 hV
          have e4 := hV 4 (by kernel_rfl) (by decide)
          clear hV
          simp only [List.getD_cons_succ, List.getD_cons_zero] at e4
          have hgy : wq.grownBy y1 none := by
            rw [hFF.out] at hV1
            rcases hV1 with ⟨-, rfl⟩ | ⟨-, rfl, -⟩
            · exact (by have hb0 := (G.refl wq none); (repeat first | with_reducible exact hb0 | with_reducible refine G.drewN ?_ _ | with_reducible refine G.drew ?_ | with_reducible refine G.alloc ?_ _ | with_reducible refine G.set ?_ _ (Or.inr rfl) | (with_reducible refine G.set ?_ _ (Or.inl ?_); rotate_left; focus (first | omega | (simp; done) | (simp; omega)))))
            · exact (by have hb0 := (G.refl wq none); (repeat first | with_reducible exact hb0 | with_reducible refine G.drewN ?_ _ | with_reducible refine G.drew ?_ | with_reducible refine G.alloc ?_ _ | with_reducible refine G.set ?_ _ (Or.inr rfl) | (with_reducible refine G.set ?_ _ (Or.inl ?_); rotate_left; focus (first | omega | (simp; done) | (simp; omega)))))
          have z0 := (G.cell hgy (a := ⟨b, 0, none⟩) hb_l (by simp)).trans hb_0
          have z1 := (G.cell hgy (a := ⟨b, 1, none⟩) hb_l (by simp)).trans hb_1
          have z2 := (G.cell hgy (a := ⟨VG, i * 2, none⟩) hVl (by simp)).trans x0
          have z3 := (G.cell hgy (a := ⟨VG, i * 2 + 1, none⟩) hVl (by simp)).trans x1
          simp only [putAll, e4]
          go_wp2_with fail
          exact ⟨rfl, rfl, rfl, rfl⟩
        · rw [if_neg (by decide)]
          intro VV y1 tt hV1 hV
          have e5 := hV 5 (by kernel_rfl) (by decide)
          clear hV
          simp only [List.getD_cons_succ, List.getD_cons_zero] at e5
          have hgy : wq.grownBy y1 none := by
            rw [hFF.out] at hV1
            rcases hV1 with ⟨-, rfl⟩ | ⟨-, rfl, -⟩
            · exact (by have hb0 := (G.refl wq none); (repeat first | with_reducible exact hb0 | with_reducible refine G.drewN ?_ _ | with_reducible refine G.drew ?_ | with_reducible refine G.alloc ?_ _ | with_reducible refine G.set ?_ _ (Or.inr rfl) | (with_reducible refine G.set ?_ _ (Or.inl ?_); rotate_left; focus (first | omega | (simp; done) | (simp; omega)))))
            · exact (by have hb0 := (G.refl wq none); (repeat first | with_reducible exact hb0 | with_reducible refine G.drewN ?_ _ | with_reducible refine G.drew ?_ | with_reducible refine G.alloc ?_ _ | with_reducible refine G.set ?_ _ (Or.inr rfl) | (with_reducible refine G.set ?_ _ (Or.inl ?_); rotate_left; focus (first | omega | (simp; done) | (simp; omega)))))
          have z0 := (G.cell hgy (a := ⟨b, 0, none⟩) hb_l (by simp)).trans hb_0
          have z1 := (G.cell hgy (a := ⟨b, 1, none⟩) hb_l (by simp)).trans hb_1
          have z2 := (G.cell hgy (a := ⟨VG, i * 2, none⟩) hVl (by simp)).trans x0
          have z3 := (G.cell hgy (a := ⟨VG, i * 2 + 1, none⟩) hVl (by simp)).trans x1
          simp only [putAll, e5]
          go_wp2_with fail
          exact ⟨rfl, rfl, rfl, rfl⟩
        · rw [if_neg (by decide)]
          intro VV y1 tt hV1 hV
          have e6 := hV 6 (by kernel_rfl) (by decide)
          clear hV
          simp only [List.getD_cons_succ, List.getD_cons_zero] at e6
          have hgy : wq.grownBy y1 none := by
            rw [hFF.out] at hV1
            rcases hV1 with ⟨-, rfl⟩ | ⟨-, rfl, -⟩
            · exact (by have hb0 := (G.refl wq none); (repeat first | with_reducible exact hb0 | with_reducible refine G.drewN ?_ _ | with_reducible refine G.drew ?_ | with_reducible refine G.alloc ?_ _ | with_reducible refine G.set ?_ _ (Or.inr rfl) | (with_reducible refine G.set ?_ _ (Or.inl ?_); rotate_left; focus (first | omega | (simp; done) | (simp; omega)))))
            · exact (by have hb0 := (G.refl wq none); (repeat first | with_reducible exact hb0 | with_reducible refine G.drewN ?_ _ | with_reducible refine G.drew ?_ | with_reducible refine G.alloc ?_ _ | with_reducible refine G.set ?_ _ (Or.inr rfl) | (with_reducible refine G.set ?_ _ (Or.inl ?_); rotate_left; focus (first | omega | (simp; done) | (simp; omega)))))
          have z0 := (G.cell hgy (a := ⟨b, 0, none⟩) hb_l (by simp)).trans hb_0
          have z1 := (G.cell hgy (a := ⟨b, 1, none⟩) hb_l (by simp)).trans hb_1
          have z2 := (G.cell hgy (a := ⟨VG, i * 2, none⟩) hVl (by simp)).trans x0
          have z3 := (G.cell hgy (a := ⟨VG, i * 2 + 1, none⟩) hVl (by simp)).trans x1
          simp only [putAll, e6]
          go_wp2_with fail
          exact ⟨rfl, rfl, rfl, rfl⟩
        · rw [if_neg (by decide)]
          intro VV y1 tt hV1 hV
          have e3 := hV 3 (by kernel_rfl) (by decide); have e7 := hV 7 (by kernel_rfl) (by decide)
          clear hV
          simp only [List.getD_cons_succ, List.getD_cons_zero] at e3 e7
          have hgy : wq.grownBy y1 none := by
            rw [hFF.out] at hV1
            rcases hV1 with ⟨-, rfl⟩ | ⟨-, rfl, -⟩
            · exact (by have hb0 := (G.refl wq none); (repeat first | with_reducible exact hb0 | with_reducible refine G.drewN ?_ _ | with_reducible refine G.drew ?_ | with_reducible refine G.alloc ?_ _ | with_reducible refine G.set ?_ _ (Or.inr rfl) | (with_reducible refine G.set ?_ _ (Or.inl ?_); rotate_left; focus (first | omega | (simp; done) | (simp; omega)))))
            · exact (by have hb0 := (G.refl wq none); (repeat first | with_reducible exact hb0 | with_reducible refine G.drewN ?_ _ | with_reducible refine G.drew ?_ | with_reducible refine G.alloc ?_ _ | with_reducible refine G.set ?_ _ (Or.inr rfl) | (with_reducible refine G.set ?_ _ (Or.inl ?_); rotate_left; focus (first | omega | (simp; done) | (simp; omega)))))
          have z0 := (G.cell hgy (a := ⟨b, 0, none⟩) hb_l (by simp)).trans hb_0
          have z1 := (G.cell hgy (a := ⟨b, 1, none⟩) hb_l (by simp)).trans hb_1
          have z2 := (G.cell hgy (a := ⟨VG, i * 2, none⟩) hVl (by simp)).trans x0
          have z3 := (G.cell hgy (a := ⟨VG, i * 2 + 1, none⟩) hVl (by simp)).trans x1
          simp only [putAll, e3, e7]
          go_wp2_with fail
          exact ⟨rfl, rfl, rfl, rfl⟩
        · rw [if_neg (by decide)]
          intro VV y1 tt hV1 hV
          have e8 := hV 8 (by kernel_rfl) (by decide)
          clear hV
          simp only [List.getD_cons_succ, List.getD_cons_zero] at e8
          have hgy : wq.grownBy y1 none := by
            rw [hFF.out] at hV1
            rcases hV1 with ⟨-, rfl⟩ | ⟨-, rfl, -⟩
            · exact (by have hb0 := (G.refl wq none); (repeat first | with_reducible exact hb0 | with_reducible refine G.drewN ?_ _ | with_reducible refine G.drew ?_ | with_reducible refine G.alloc ?_ _ | with_reducible refine G.set ?_ _ (Or.inr rfl) | (with_reducible refine G.set ?_ _ (Or.inl ?_); rotate_left; focus (first | omega | (simp; done) | (simp; omega)))))
            · exact (by have hb0 := (G.refl wq none); (repeat first | with_reducible exact hb0 | with_reducible refine G.drewN ?_ _ | with_reducible refine G.drew ?_ | with_reducible refine G.alloc ?_ _ | with_reducible refine G.set ?_ _ (Or.inr rfl) | (with_reducible refine G.set ?_ _ (Or.inl ?_); rotate_left; focus (first | omega | (simp; done) | (simp; omega)))))
          have z0 := (G.cell hgy (a := ⟨b, 0, none⟩) hb_l (by simp)).trans hb_0
          have z1 := (G.cell hgy (a := ⟨b, 1, none⟩) hb_l (by simp)).trans hb_1
          have z2 := (G.cell hgy (a := ⟨VG, i * 2, none⟩) hVl (by simp)).trans x0
          have z3 := (G.cell hgy (a := ⟨VG, i * 2 + 1, none⟩) hVl (by simp)).trans x1
          simp only [putAll, e8]
          go_wp2_with fail
          exact ⟨rfl, rfl, rfl, rfl⟩
        · rw [if_neg (by decide)]
          intro VV y1 tt hV1 hV
          have e9 := hV 9 (by kernel_rfl) (by decide)
          clear hV
          simp only [List.getD_cons_succ, List.getD_cons_zero] at e9
          have hgy : wq.grownBy y1 none := by
            rw [hFF.out] at hV1
            rcases hV1 with ⟨-, rfl⟩ | ⟨-, rfl, -⟩
            · exact (by have hb0 := (G.refl wq none); (repeat first | with_reducible exact hb0 | with_reducible refine G.drewN ?_ _ | with_reducible refine G.drew ?_ | with_reducible refine G.alloc ?_ _ | with_reducible refine G.set ?_ _ (Or.inr rfl) | (with_reducible refine G.set ?_ _ (Or.inl ?_); rotate_left; focus (first | omega | (simp; done) | (simp; omega)))))
            · exact (by have hb0 := (G.refl wq none); (repeat first | with_reducible exact hb0 | with_reducible refine G.drewN ?_ _ | with_reducible refine G.drew ?_ | with_reducible refine G.alloc ?_ _ | with_reducible refine G.set ?_ _ (Or.inr rfl) | (with_reducible refine G.set ?_ _ (Or.inl ?_); rotate_left; focus (first | omega | (simp; done) | (simp; omega)))))
          have z0 := (G.cell hgy (a := ⟨b, 0, none⟩) hb_l (by simp)).trans hb_0
          have z1 := (G.cell hgy (a := ⟨b, 1, none⟩) hb_l (by simp)).trans hb_1
          have z2 := (G.cell hgy (a := ⟨VG, i * 2, none⟩) hVl (by simp)).trans x0
          have z3 := (G.cell hgy (a := ⟨VG, i * 2 + 1, none⟩) hVl (by simp)).trans x1
          simp only [putAll, e9]
          go_wp2_with fail
          exact ⟨rfl, rfl, rfl, rfl⟩
        · rw [if_neg (by decide)]
          intro VV y1 tt hV1 hV
          have e10 := hV 10 (by kernel_rfl) (by decide)
          clear hV
          simp only [List.getD_cons_succ, List.getD_cons_zero] at e10
          have hgy : wq.grownBy y1 none := by
            rw [hFF.out] at hV1
            rcases hV1 with ⟨-, rfl⟩ | ⟨-, rfl, -⟩
            · exact (by have hb0 := (G.refl wq none); (repeat first | with_reducible exact hb0 | with_reducible refine G.drewN ?_ _ | with_reducible refine G.drew ?_ | with_reducible refine G.alloc ?_ _ | with_reducible refine G.set ?_ _ (Or.inr rfl) | (with_reducible refine G.set ?_ _ (Or.inl ?_); rotate_left; focus (first | omega | (simp; done) | (simp; omega)))))
            · exact (by have hb0 := (G.refl wq none); (repeat first | with_reducible exact hb0 | with_reducible refine G.drewN ?_ _ | with_reducible refine G.drew ?_ | with_reducible refine G.alloc ?_ _ | with_reducible refine G.set ?_ _ (Or.inr rfl) | (with_reducible refine G.set ?_ _ (Or.inl ?_); rotate_left; focus (first | omega | (simp; done) | (simp; omega)))))
          have z0 := (G.cell hgy (a := ⟨b, 0, none⟩) hb_l (by simp)).trans hb_0
          have z1 := (G.cell hgy (a := ⟨b, 1, none⟩) hb_l (by simp)).trans hb_1
          have z2 := (G.cell hgy (a := ⟨VG, i * 2, none⟩) hVl (by simp)).trans x0
          have z3 := (G.cell hgy (a := ⟨VG, i * 2 + 1, none⟩) hVl (by simp)).trans x1
          simp only [putAll, e10]
          go_wp2_with fail
          exact ⟨rfl, rfl, rfl, rfl⟩
        · rw [if_pos (by decide)]
          intro VV y1 hV1 hV
          replace hV1 : FF 0 VV y1 := hV1
          clear hV
          rw [hFF.out] at hV1
          rcases hV1 with ⟨-, rfl⟩ | ⟨h, -⟩
          rotate_left
          · omega
          simp only [putAll]
          go_simp
          go_wp2_with fail
          exact ⟨rfl, rfl, by rw [hFF.out]; exact Or.inr ⟨by decide, rfl, by simp [upd, slotOf, Act.put]⟩⟩
      · intro VV y1 hV1 hV
        have e0 := hV 0 (by omega) (by decide); have e1 := hV 1 (by omega) (by decide); have e2 := hV 2 (by omega) (by decide); have e3 := hV 3 (by omega) (by decide); have e4 := hV 4 (by omega) (by decide); have e5 := hV 5 (by omega) (by decide); have e6 := hV 6 (by omega) (by decide); have e7 := hV 7 (by omega) (by decide); have e8 := hV 8 (by omega) (by decide); have e9 := hV 9 (by omega) (by decide); have e10 := hV 10 (by omega) (by decide); have e11 := hV 11 (by omega) (by decide); clear hV
        simp only [List.getD_cons_succ, List.getD_cons_zero] at e0 e1 e2 e3 e4 e5 e6 e7 e8 e9 e10 e11
        rw [hFF.out] at hV1
        clear hFF
        obtain ⟨h, -⟩ | ⟨-, rfl, e12⟩ := hV1
        · cases h
        simp only [List.take_succ_cons, List.take_zero, List.drop_succ_cons, List.drop_zero, putAll, e0, e1, e2, e3, e4, e5, e6, e7, e8, e9, e10, e11, e12]
        have hn2 : Hx (wq.drew.alloc (.cells #[.int .i64 0, .string ⟨#[]⟩, .int .i64 0, .slice none 0 0] 24)) wq.heap.size [.int .i64 0, .string ⟨#[]⟩, .int .i64 0, .slice none 0 0] 24 := Hx.new wq.drew _ _
        replace HG := (show w.grownBy (wq.drew.alloc (.cells #[.int .i64 0, .string ⟨#[]⟩, .int .i64 0, .slice none 0 0] 24)) (some b) from (by exact G.go HG))
        replace hn1 := (show Hx (wq.drew.alloc (.cells #[.int .i64 0, .string ⟨#[]⟩, .int .i64 0, .slice none 0 0] 24)) w.heap.size [.int .i64 0, .string ⟨#[]⟩, .int .i64 0, .slice none 0 0] 24 from (by first | exact Hx.go hn1 | exact Hx.go2))
        have h5 := (show Psr 52 71 (wq.drew.alloc (.cells #[.int .i64 0, .string ⟨#[]⟩, .int .i64 0, .slice none 0 0] 24)) b _ TL i 0 from Psr.go)
        clear h x0 x1 e0 e1 e2 e3 e4 e5 e6 e7 e8 e9 e10 e11 e12 hb hb_0 hb_f0 hb_1 hb_f1 hb_2 hb_f2 hb_l hn1_0 hn1_f0 hn1_1 hn1_f1 hn1_2 hn1_f2 hn1_3 hn1_f3 hn1_l
        have h := h5
        clear h5
        have hwq : w.heap.size < wq.heap.size := hwl
        have hnb : b ≠ wq.heap.size := by omega
        generalize (wq.drew.alloc (.cells #[.int .i64 0, .string ⟨#[]⟩, .int .i64 0, .slice none 0 0] 24)) = wy at *
        have hbx := h.lt
        have hnb2 : w.heap.size ≠ wq.heap.size := by omega
        have hnoq : (Value.slice (some ⟨VG, 0, none⟩) TL.length VC).ownBlock ≠ some wq.heap.size := fun e => by have e2 : VG = wq.heap.size := Option.some.inj e; omega
        have hb := h.box; have hb_0 := hb.cell 0; have hb_1 := hb.cell 1; have hb_2 := hb.cell 2; have hb_f0 := hb.free 0; have hb_f1 := hb.free 1; have hb_f2 := hb.free 2; have hb_l := hb.lt; have hn1_0 := hn1.cell 0; have hn1_1 := hn1.cell 1; have hn1_2 := hn1.cell 2; have hn1_3 := hn1.cell 3; have hn1_f0 := hn1.free 0; have hn1_f1 := hn1.free 1; have hn1_f2 := hn1.free 2; have hn1_f3 := hn1.free 3; have hn1_l := hn1.lt; have hn2_0 := hn2.cell 0; have hn2_1 := hn2.cell 1; have hn2_2 := hn2.cell 2; have hn2_3 := hn2.cell 3; have hn2_f0 := hn2.free 0; have hn2_f1 := hn2.free 1; have hn2_f2 := hn2.free 2; have hn2_f3 := hn2.free 3; have hn2_l := hn2.lt
        go_wp2_with fail
        refine ret_cell [.int .i64 4, .string (tokAt TL i).2, .int .i64 0, .slice none 0 0] w.heap.size 24 rfl rfl (Tryz.isAgg24 _) (Tryz.sizeOf24 _) rfl (by first | exact Hx.go hn1 | exact Hx.go2) ?_
        exact RdP.leaf (i := i + 1) (by omega) rfl (by omega) (by omega) Psr.go (by exact G.go HG)
    have k1 : (tokAt TL i).1 = 1 := by omega
    have b1 : (((tokAt TL i).1 : Int) == 1) = true := by simp; omega
    have b2 : (((tokAt TL i).1 : Int) == 2) = false := by simp; omega
    rw [b1] at HN1
    rw [b2] at HN2
    have HId := Lib.hid (fun w => refIdent_any (tokAt TL i).2 w (by omega))
    have hidb : (identAt (tokAt TL i).2 0 && decide (0 < (tokAt TL i).2.size)) = identB (tokAt TL i).2 := rfl
    rw [hidb] at HId
    have hq1 : identB (tokAt TL i).2 = true → (tokAt TL (i + 1)).1 = 3 → exprS (f + 1) (TL.drop i) = callQ f (tokAt TL i).2 (TL.drop (i + 2)) ∧ i + 1 < TL.length := by
      intro c1 c2
      have hlt2 : i + 1 < TL.length := by
        rcases Nat.lt_or_ge (i + 1) TL.length with g | g
        · exact g
        · rw [tokAt_end (by omega)] at c2; cases c2
      rw [tokAt_lt hlt] at k1 c1 ⊢
      rw [tokAt_lt hlt2] at c2
      exact ⟨by rw [drop_hd hlt, drop_hd hlt2, exprS_callQ k1 c1 c2], hlt2⟩
    have hq2 : ¬ (identB (tokAt TL i).2 = true ∧ (tokAt TL (i + 1)).1 = 3) → exprS (f + 1) (TL.drop i) = wordR (tokAt TL i).2 (TL.drop (i + 1)) := by
      intro hc
      rw [← headK_tok] at hc
      rw [tokAt_lt hlt] at k1 hc ⊢
      rw [drop_hd hlt, exprS_word k1 hc]
      rfl
    generalize exprS (f + 1) (TL.drop i) = Q at *
    have HW := Lib.hid (fun w => refWord15_any w (tokAt TL i).2 hkt)
    have HN3 := Lib.hid (fun w' (h : Psr 52 71 w' b tv TL (i + 1) 0) => pnext_any (by omega) (by omega) h 3 (by omega))
    replace hq1 := Lib.hid hq1
    replace hq2 := Lib.hid hq2
    replace HT := Lib.hid HT
    clear hidb b1 b2 k1 k2 hbad
    have hb := h.box; have hb_0 := hb.cell 0; have hb_1 := hb.cell 1; have hb_2 := hb.cell 2; have hb_f0 := hb.free 0; have hb_f1 := hb.free 1; have hb_f2 := hb.free 2; have hb_l := hb.lt
    go_enter Tryz.func23, Tryz.ntmps23
    go_upto_region 9 with (first | (go_at_call 37; (with_reducible refine (HN2.out _ Psr.go).mono ?_); rintro e wn ⟨rfl, hgn⟩; have h5 := Psr.kept Psr.go hgn; replace hn1 := Hx.kept (by first | exact Hx.go hn1 | exact Hx.go2) hgn (by simp); replace HG := G.trans (w := w) (by exact G.go HG) (G.any hgn _); clear hgn h hb hb_0 hb_f0 hb_1 hb_f1 hb_2 hb_f2 hb_l; have h := h5; clear h5; have hb := h.box; have hb_0 := hb.cell 0; have hb_1 := hb.cell 1; have hb_2 := hb.cell 2; have hb_f0 := hb.free 0; have hb_f1 := hb.free 1; have hb_f2 := hb.free 2; have hb_l := hb.lt; have hn1_0 := hn1.cell 0; have hn1_1 := hn1.cell 1; have hn1_2 := hn1.cell 2; have hn1_3 := hn1.cell 3; have hn1_f0 := hn1.free 0; have hn1_f1 := hn1.free 1; have hn1_f2 := hn1.free 2; have hn1_f3 := hn1.free 3; have hn1_l := hn1.lt; ) | (go_at_call 37; (with_reducible refine (HN1.out _ Psr.go).mono ?_); rintro e wn ⟨rfl, hgn⟩; have h5 := Psr.kept Psr.go hgn; replace hn1 := Hx.kept (by first | exact Hx.go hn1 | exact Hx.go2) hgn (by simp); replace HG := G.trans (w := w) (by exact G.go HG) (G.any hgn _); clear hgn h hb hb_0 hb_f0 hb_1 hb_f1 hb_2 hb_f2 hb_l; have h := h5; clear h5; have hb := h.box; have hb_0 := hb.cell 0; have hb_1 := hb.cell 1; have hb_2 := hb.cell 2; have hb_f0 := hb.free 0; have hb_f1 := hb.free 1; have hb_f2 := hb.free 2; have hb_l := hb.lt; have hn1_0 := hn1.cell 0; have hn1_1 := hn1.cell 1; have hn1_2 := hn1.cell 2; have hn1_3 := hn1.cell 3; have hn1_f0 := hn1.free 0; have hn1_f1 := hn1.free 1; have hn1_f2 := hn1.free 2; have hn1_f3 := hn1.free 3; have hn1_l := hn1.lt; ))
    go_cut [4, 6] (fun p4 p6 wc => p4 = .pointer (some ⟨w.heap.size, 0, none⟩) ∧ p6 = .string (tokAt TL i).2 ∧ w.grownBy wc (some b) ∧ Psr 52 71 wc b tv TL i 0 ∧ Hx wc w.heap.size [.int .i64 0, .string ⟨#[]⟩, .int .i64 0, .slice none 0 0] 24)
    case first =>
      obtain ⟨VA, VC, rfl, hVC, hcell⟩ := h.form; obtain ⟨VG, rfl, hVg, hVl, x0, x1⟩ := hcell i hlt; rw [← tokAt_lt hlt] at x0 x1; clear hcell
      have hb := h.box; have hb_0 := hb.cell 0; have hb_1 := hb.cell 1; have hb_2 := hb.cell 2; have hb_f0 := hb.free 0; have hb_f1 := hb.free 1; have hb_f2 := hb.free 2; have hb_l := hb.lt
      go_wp2_with fail
      go_quiet (fail)
      go_wp2_with fail
      go_meet
      exact ⟨rfl, rfl, (by exact G.go HG), Psr.go, Hx.go2⟩
    obtain ⟨rfl, rfl, HG, h, hn1⟩ := hcut
    rename World => wq
    generalize (tokAt TL i).2 = kt at *
    have hb := h.box; have hb_0 := hb.cell 0; have hb_1 := hb.cell 1; have hb_2 := hb.cell 2; have hb_f0 := hb.free 0; have hb_f1 := hb.free 1; have hb_f2 := hb.free 2; have hb_l := hb.lt; have hn1_0 := hn1.cell 0; have hn1_1 := hn1.cell 1; have hn1_2 := hn1.cell 2; have hn1_3 := hn1.cell 3; have hn1_f0 := hn1.free 0; have hn1_f1 := hn1.free 1; have hn1_f2 := hn1.free 2; have hn1_f3 := hn1.free 3; have hn1_l := hn1.lt
    by_cases h3 : (tokAt TL (i + 1)).1 = 3
    rotate_left
    · replace hq2 := hq2.out (fun hc => h3 hc.2)
      have b3 : (((tokAt TL (i + 1)).1 : Int) == 3) = false := by simp; omega
      rw [b3] at HN3
      clear b3 hq1 h3 HE
      cases hw : wordS kt with
      | some a =>
        rw [word_some hw] at hq2
        rw [hw] at HW
        obtain rfl := hq2
        clear hw
        go_wp2_with (first | (go_at_call 37; (with_reducible refine (HN3.out _ Psr.go).mono ?_); rintro e wn ⟨rfl, hgn⟩; have h5 := Psr.kept Psr.go hgn; replace hn1 := Hx.kept (by first | exact Hx.go hn1 | exact Hx.go2) hgn (by simp); replace HG := G.trans (w := w) (by exact G.go HG) (G.any hgn _); clear hgn h hb hb_0 hb_f0 hb_1 hb_f1 hb_2 hb_f2 hb_l; have h := h5; clear h5; have hb := h.box; have hb_0 := hb.cell 0; have hb_1 := hb.cell 1; have hb_2 := hb.cell 2; have hb_f0 := hb.free 0; have hb_f1 := hb.free 1; have hb_f2 := hb.free 2; have hb_l := hb.lt; have hn1_0 := hn1.cell 0; have hn1_1 := hn1.cell 1; have hn1_2 := hn1.cell 2; have hn1_3 := hn1.cell 3; have hn1_f0 := hn1.free 0; have hn1_f1 := hn1.free 1; have hn1_f2 := hn1.free 2; have hn1_f3 := hn1.free 3; have hn1_l := hn1.lt; ) | (go_at_call 39; (with_reducible refine (HW.out _).mono ?_); rintro e w6 ⟨hR6, hg6⟩; obtain ⟨k7, t7, n7, rfl, hb7, ht7, rfl⟩ := hR6; have h5 := Psr.kept Psr.go hg6; replace hn1 := Hx.kept (by first | exact Hx.go hn1 | exact Hx.go2) hg6 (by simp); replace HG := G.trans (w := w) (by exact G.go HG) (G.any hg6 _); clear hg6 h hb hb_0 hb_f0 hb_1 hb_f1 hb_2 hb_f2 hb_l; have h := h5; clear h5; have hb := h.box; have hb_0 := hb.cell 0; have hb_1 := hb.cell 1; have hb_2 := hb.cell 2; have hb_f0 := hb.free 0; have hb_f1 := hb.free 1; have hb_f2 := hb.free 2; have hb_l := hb.lt; have hn1_0 := hn1.cell 0; have hn1_1 := hn1.cell 1; have hn1_2 := hn1.cell 2; have hn1_3 := hn1.cell 3; have hn1_f0 := hn1.free 0; have hn1_f1 := hn1.free 1; have hn1_f2 := hn1.free 2; have hn1_f3 := hn1.free 3; have hn1_l := hn1.lt; ))
        refine ret_cell [.int .i64 k7, .string t7, .int .i64 n7, .slice none 0 0] w.heap.size 24 rfl rfl (Tryz.isAgg24 _) (Tryz.sizeOf24 _) rfl (by first | exact Hx.go hn1 | exact Hx.go2) ?_
        exact RdP.leaf (i := i + 1) (by omega) rfl hb7 (by omega) Psr.go (by exact G.go HG)
      | none =>
        rw [word_none hw] at hq2
        rw [hw] at HW
        obtain rfl := hq2
        clear hw
        go_wp2_with (first | (go_at_call 37; (with_reducible refine (HN3.out _ Psr.go).mono ?_); rintro e wn ⟨rfl, hgn⟩; have h5 := Psr.kept Psr.go hgn; replace hn1 := Hx.kept (by first | exact Hx.go hn1 | exact Hx.go2) hgn (by simp); replace HG := G.trans (w := w) (by exact G.go HG) (G.any hgn _); clear hgn h hb hb_0 hb_f0 hb_1 hb_f1 hb_2 hb_f2 hb_l; have h := h5; clear h5; have hb := h.box; have hb_0 := hb.cell 0; have hb_1 := hb.cell 1; have hb_2 := hb.cell 2; have hb_f0 := hb.free 0; have hb_f1 := hb.free 1; have hb_f2 := hb.free 2; have hb_l := hb.lt; have hn1_0 := hn1.cell 0; have hn1_1 := hn1.cell 1; have hn1_2 := hn1.cell 2; have hn1_3 := hn1.cell 3; have hn1_f0 := hn1.free 0; have hn1_f1 := hn1.free 1; have hn1_f2 := hn1.free 2; have hn1_f3 := hn1.free 3; have hn1_l := hn1.lt; ) | (go_at_call 39; (with_reducible refine (HW.out _).mono ?_); rintro e w6 ⟨hR6, hg6⟩; obtain ⟨k7, t7, n7, rfl⟩ := hR6; have h5 := Psr.kept Psr.go hg6; replace hn1 := Hx.kept (by first | exact Hx.go hn1 | exact Hx.go2) hg6 (by simp); replace HG := G.trans (w := w) (by exact G.go HG) (G.any hg6 _); clear hg6 h hb hb_0 hb_f0 hb_1 hb_f1 hb_2 hb_f2 hb_l; have h := h5; clear h5; have hb := h.box; have hb_0 := hb.cell 0; have hb_1 := hb.cell 1; have hb_2 := hb.cell 2; have hb_f0 := hb.free 0; have hb_f1 := hb.free 1; have hb_f2 := hb.free 2; have hb_l := hb.lt; have hn1_0 := hn1.cell 0; have hn1_1 := hn1.cell 1; have hn1_2 := hn1.cell 2; have hn1_3 := hn1.cell 3; have hn1_f0 := hn1.free 0; have hn1_f1 := hn1.free 1; have hn1_f2 := hn1.free 2; have hn1_f3 := hn1.free 3; have hn1_l := hn1.lt; ) | (go_at_call 24; (with_reducible refine (refBad_any (Psr.go) 8).mono ?_); rintro e w7 ⟨rfl, hp7, hg7⟩; replace HG := G.trans (w := w) (by exact G.go HG) hg7; replace hn1 := Hx.kept (by first | exact Hx.go hn1 | exact Hx.go2) hg7 (fun e => by have := Option.some.inj e; omega); clear hg7 h hb hb_0 hb_f0 hb_1 hb_f1 hb_2 hb_f2 hb_l; have h := hp7; clear hp7; have hn1_0 := hn1.cell 0; have hn1_1 := hn1.cell 1; have hn1_2 := hn1.cell 2; have hn1_3 := hn1.cell 3; have hn1_f0 := hn1.free 0; have hn1_f1 := hn1.free 1; have hn1_f2 := hn1.free 2; have hn1_f3 := hn1.free 3; have hn1_l := hn1.lt; ))
        refine ret_cell [.int .i64 0, .string ⟨#[]⟩, .int .i64 0, .slice none 0 0] w.heap.size 24 rfl rfl (Tryz.isAgg24 _) (Tryz.sizeOf24 _) rfl (by first | exact Hx.go hn1 | exact Hx.go2) ?_
        exact ⟨i + 1, rfl, Psr.go, (by exact G.go HG)⟩
    have b3 : (((tokAt TL (i + 1)).1 : Int) == 3) = true := by simp; omega
    rw [b3] at HN3
    clear b3
    cases hid : identB kt
    · replace hq2 := hq2.out (fun hc => by rw [hid] at hc; cases hc.1)
      rw [hid] at HId
      clear hq1 h3 hid HE
      cases hw : wordS kt with
      | some a =>
        rw [word_some hw] at hq2
        rw [hw] at HW
        obtain rfl := hq2
        clear hw
        go_wp2_with (first | (go_at_call 37; (with_reducible refine (HN3.out _ Psr.go).mono ?_); rintro e wn ⟨rfl, hgn⟩; have h5 := Psr.kept Psr.go hgn; replace hn1 := Hx.kept (by first | exact Hx.go hn1 | exact Hx.go2) hgn (by simp); replace HG := G.trans (w := w) (by exact G.go HG) (G.any hgn _); clear hgn h hb hb_0 hb_f0 hb_1 hb_f1 hb_2 hb_f2 hb_l; have h := h5; clear h5; have hb := h.box; have hb_0 := hb.cell 0; have hb_1 := hb.cell 1; have hb_2 := hb.cell 2; have hb_f0 := hb.free 0; have hb_f1 := hb.free 1; have hb_f2 := hb.free 2; have hb_l := hb.lt; have hn1_0 := hn1.cell 0; have hn1_1 := hn1.cell 1; have hn1_2 := hn1.cell 2; have hn1_3 := hn1.cell 3; have hn1_f0 := hn1.free 0; have hn1_f1 := hn1.free 1; have hn1_f2 := hn1.free 2; have hn1_f3 := hn1.free 3; have hn1_l := hn1.lt; ) | (go_at_call 38; (with_reducible refine (HId.out _).mono ?_); rintro e wn ⟨rfl, rfl⟩) | (go_at_call 39; (with_reducible refine (HW.out _).mono ?_); rintro e w6 ⟨hR6, hg6⟩; obtain ⟨k7, t7, n7, rfl, hb7, ht7, rfl⟩ := hR6; have h5 := Psr.kept Psr.go hg6; replace hn1 := Hx.kept (by first | exact Hx.go hn1 | exact Hx.go2) hg6 (by simp); replace HG := G.trans (w := w) (by exact G.go HG) (G.any hg6 _); clear hg6 h hb hb_0 hb_f0 hb_1 hb_f1 hb_2 hb_f2 hb_l; have h := h5; clear h5; have hb := h.box; have hb_0 := hb.cell 0; have hb_1 := hb.cell 1; have hb_2 := hb.cell 2; have hb_f0 := hb.free 0; have hb_f1 := hb.free 1; have hb_f2 := hb.free 2; have hb_l := hb.lt; have hn1_0 := hn1.cell 0; have hn1_1 := hn1.cell 1; have hn1_2 := hn1.cell 2; have hn1_3 := hn1.cell 3; have hn1_f0 := hn1.free 0; have hn1_f1 := hn1.free 1; have hn1_f2 := hn1.free 2; have hn1_f3 := hn1.free 3; have hn1_l := hn1.lt; ))
        refine ret_cell [.int .i64 k7, .string t7, .int .i64 n7, .slice none 0 0] w.heap.size 24 rfl rfl (Tryz.isAgg24 _) (Tryz.sizeOf24 _) rfl (by first | exact Hx.go hn1 | exact Hx.go2) ?_
        exact RdP.leaf (i := i + 1) (by omega) rfl hb7 (by omega) Psr.go (by exact G.go HG)
      | none =>
        rw [word_none hw] at hq2
        rw [hw] at HW
        obtain rfl := hq2
        clear hw
        go_wp2_with (first | (go_at_call 37; (with_reducible refine (HN3.out _ Psr.go).mono ?_); rintro e wn ⟨rfl, hgn⟩; have h5 := Psr.kept Psr.go hgn; replace hn1 := Hx.kept (by first | exact Hx.go hn1 | exact Hx.go2) hgn (by simp); replace HG := G.trans (w := w) (by exact G.go HG) (G.any hgn _); clear hgn h hb hb_0 hb_f0 hb_1 hb_f1 hb_2 hb_f2 hb_l; have h := h5; clear h5; have hb := h.box; have hb_0 := hb.cell 0; have hb_1 := hb.cell 1; have hb_2 := hb.cell 2; have hb_f0 := hb.free 0; have hb_f1 := hb.free 1; have hb_f2 := hb.free 2; have hb_l := hb.lt; have hn1_0 := hn1.cell 0; have hn1_1 := hn1.cell 1; have hn1_2 := hn1.cell 2; have hn1_3 := hn1.cell 3; have hn1_f0 := hn1.free 0; have hn1_f1 := hn1.free 1; have hn1_f2 := hn1.free 2; have hn1_f3 := hn1.free 3; have hn1_l := hn1.lt; ) | (go_at_call 38; (with_reducible refine (HId.out _).mono ?_); rintro e wn ⟨rfl, rfl⟩) | (go_at_call 39; (with_reducible refine (HW.out _).mono ?_); rintro e w6 ⟨hR6, hg6⟩; obtain ⟨k7, t7, n7, rfl⟩ := hR6; have h5 := Psr.kept Psr.go hg6; replace hn1 := Hx.kept (by first | exact Hx.go hn1 | exact Hx.go2) hg6 (by simp); replace HG := G.trans (w := w) (by exact G.go HG) (G.any hg6 _); clear hg6 h hb hb_0 hb_f0 hb_1 hb_f1 hb_2 hb_f2 hb_l; have h := h5; clear h5; have hb := h.box; have hb_0 := hb.cell 0; have hb_1 := hb.cell 1; have hb_2 := hb.cell 2; have hb_f0 := hb.free 0; have hb_f1 := hb.free 1; have hb_f2 := hb.free 2; have hb_l := hb.lt; have hn1_0 := hn1.cell 0; have hn1_1 := hn1.cell 1; have hn1_2 := hn1.cell 2; have hn1_3 := hn1.cell 3; have hn1_f0 := hn1.free 0; have hn1_f1 := hn1.free 1; have hn1_f2 := hn1.free 2; have hn1_f3 := hn1.free 3; have hn1_l := hn1.lt; ) | (go_at_call 24; (with_reducible refine (refBad_any (Psr.go) 8).mono ?_); rintro e w7 ⟨rfl, hp7, hg7⟩; replace HG := G.trans (w := w) (by exact G.go HG) hg7; replace hn1 := Hx.kept (by first | exact Hx.go hn1 | exact Hx.go2) hg7 (fun e => by have := Option.some.inj e; omega); clear hg7 h hb hb_0 hb_f0 hb_1 hb_f1 hb_2 hb_f2 hb_l; have h := hp7; clear hp7; have hn1_0 := hn1.cell 0; have hn1_1 := hn1.cell 1; have hn1_2 := hn1.cell 2; have hn1_3 := hn1.cell 3; have hn1_f0 := hn1.free 0; have hn1_f1 := hn1.free 1; have hn1_f2 := hn1.free 2; have hn1_f3 := hn1.free 3; have hn1_l := hn1.lt; ))
        refine ret_cell [.int .i64 0, .string ⟨#[]⟩, .int .i64 0, .slice none 0 0] w.heap.size 24 rfl rfl (Tryz.isAgg24 _) (Tryz.sizeOf24 _) rfl (by first | exact Hx.go hn1 | exact Hx.go2) ?_
        exact ⟨i + 1, rfl, Psr.go, (by exact G.go HG)⟩
    obtain ⟨hQ0, hlt2⟩ := hq1.out hid h3
    have hrel0 : HeadRel f kt TL Q [] (i + 2) := ⟨by omega, Nat.zero_le _, Or.inl ⟨rfl, hQ0⟩⟩
    rw [hid] at HId
    clear hq1 hq2 HW h3 hid hQ0
    have hwr2 : IntKind.i64.wrap ((i : Int) + 1 + 1) = (i : Int) + 1 + 1 := by rw [IntKind.wrap_i64]; omega
    go_upto_region 17 with (first | (go_at_call 37; (with_reducible refine (HN3.out _ Psr.go).mono ?_); rintro e wn ⟨rfl, hgn⟩; have h5 := Psr.kept Psr.go hgn; replace hn1 := Hx.kept (by first | exact Hx.go hn1 | exact Hx.go2) hgn (by simp); replace HG := G.trans (w := w) (by exact G.go HG) (G.any hgn _); clear hgn h hb hb_0 hb_f0 hb_1 hb_f1 hb_2 hb_f2 hb_l; have h := h5; clear h5; have hb := h.box; have hb_0 := hb.cell 0; have hb_1 := hb.cell 1; have hb_2 := hb.cell 2; have hb_f0 := hb.free 0; have hb_f1 := hb.free 1; have hb_f2 := hb.free 2; have hb_l := hb.lt; have hn1_0 := hn1.cell 0; have hn1_1 := hn1.cell 1; have hn1_2 := hn1.cell 2; have hn1_3 := hn1.cell 3; have hn1_f0 := hn1.free 0; have hn1_f1 := hn1.free 1; have hn1_f2 := hn1.free 2; have hn1_f3 := hn1.free 3; have hn1_l := hn1.lt; ) | (go_at_call 38; (with_reducible refine (HId.out _).mono ?_); rintro e wn ⟨rfl, rfl⟩))
    go_cut [4, 9] (fun p4 p9 wc => ∃ NB, p4 = .pointer (some ⟨w.heap.size, 0, none⟩) ∧ p9 = .pointer (some ⟨NB, 0, none⟩) ∧ w.grownBy wc (some b) ∧ Psr 52 71 wc b tv TL (i + 2) 0 ∧ Hx wc w.heap.size [.int .i64 0, .string ⟨#[]⟩, .int .i64 0, .slice none 0 0] 24 ∧ Hx wc NB [.int .i64 1, .string kt, .int .i64 0, .slice none 0 0] 24 ∧ w.heap.size < NB ∧ b < NB ∧ (∀ c, tv.ownBlock = some c → c < NB))
    case first =>
      go_wp2_with fail
      go_meet
      have hno := h.own_lt
      exact ⟨wn.heap.size, rfl, rfl, (by exact G.go HG), (show Psr 52 71 _ b tv TL (i + 1 + 1) 0 from Psr.go), Hx.go2, Hx.go2, hn1_l, hb_l, hno⟩
    obtain ⟨NB, rfl, rfl, HG, h, hn1, hn2, hNB, hbN, htN⟩ := hcut
    rename World => wz
    have hnN : tv.ownBlock ≠ some NB := fun e => by have := htN _ e; omega
    have hbN2 : b ≠ NB := by omega
    have hzN := hn2.lt
    have hdw : IntKind.i64.wrap (d + 1) = d + 1 := by rw [IntKind.wrap_i64]; omega
    clear HN1 HN2 HN3 HId hlt hlt2 hwr hwr2
    go_wp2_with fail
    go_loopw [86] (fun _ wr => ∃ (j : Nat) (acc : List NdP) (v : Value), w.grownBy wr (some b) ∧ Psr 52 71 wr b tv TL j 0 ∧ Hx wr w.heap.size [.int .i64 0, .string ⟨#[]⟩, .int .i64 0, .slice none 0 0] 24 ∧ Hx wr NB [.int .i64 1, .string kt, .int .i64 0, v] 24 ∧ Kids wr wz.heap.size v acc ∧ wz.heap.size ≤ wr.heap.size ∧ HeadRel f kt TL Q acc j) (fun _ wr => atMeas b TL.length wr)
    case atStart => exact ⟨i + 2, [], .slice none 0 0, HG, h, hn1, hn2, Kids.nil _ _, Nat.le_refl _, hrel0⟩
    case round =>
      clear HG h hn1 hn2 hrel0
      obtain ⟨j, acc, v, HG, h, hn1, hn2, hkd, hwz, hR⟩ := hrel
      rename World => wo
      have hj := hR.1
      have haj := hR.2.1
      have hmeas := atMeas_eq (n := TL.length) (h.box.cell 1)
      have HR := Lib.hid hR; clear hR
      obtain ⟨VA, VC, rfl⟩ := hkd.form
      have HN4 := Lib.hid (fun w' (h : Psr 52 71 w' b tv TL j 0) => pnext_any (by omega) hj h 4 (by omega))
      have HN5 := Lib.hid (fun w' (h : Psr 52 71 w' b tv TL j 0) => pnext_any (by omega) hj h 5 (by omega))
      have hjw : IntKind.i64.wrap ((j : Int) + 1) = (j : Int) + 1 := by rw [IntKind.wrap_i64]; omega
      have hb := h.box; have hb_0 := hb.cell 0; have hb_1 := hb.cell 1; have hb_2 := hb.cell 2; have hb_f0 := hb.free 0; have hb_f1 := hb.free 1; have hb_f2 := hb.free 2; have hb_l := hb.lt; have hn1_0 := hn1.cell 0; have hn1_1 := hn1.cell 1; have hn1_2 := hn1.cell 2; have hn1_3 := hn1.cell 3; have hn1_f0 := hn1.free 0; have hn1_f1 := hn1.free 1; have hn1_f2 := hn1.free 2; have hn1_f3 := hn1.free 3; have hn1_l := hn1.lt; have hn2_0 := hn2.cell 0; have hn2_1 := hn2.cell 1; have hn2_2 := hn2.cell 2; have hn2_3 := hn2.cell 3; have hn2_f0 := hn2.free 0; have hn2_f1 := hn2.free 1; have hn2_f2 := hn2.free 2; have hn2_f3 := hn2.free 3; have hn2_l := hn2.lt
      by_cases c4 : (tokAt TL j).1 = 4
      · obtain ⟨rfl, hlt⟩ := HR.out.close c4
        have b4 : (((tokAt TL j).1 : Int) == 4) = true := by simp; omega
        rw [b4] at HN4
        clear HN5 HE b4 c4 hmeas
        go_wp2_with (go_at_call 37; (with_reducible refine (HN4.out _ Psr.go).mono ?_); rintro e w5 ⟨rfl, hgn⟩; have h5 := Psr.kept Psr.go hgn; replace hkd := Kids.kept hkd hgn; replace hn1 := Hx.kept (by first | exact Hx.go hn1 | exact Hx.go2) hgn (by simp); replace hn2 := Hx.kept (by first | exact Hx.go hn2 | exact Hx.go2) hgn (by simp); replace HG := G.trans (w := w) (by exact G.go HG) (G.any hgn _); replace hwz := Nat.le_trans hwz hgn.size; clear hgn h hb hb_0 hb_f0 hb_1 hb_f1 hb_2 hb_f2 hb_l; have h := h5; clear h5; have hb := h.box; have hb_0 := hb.cell 0; have hb_1 := hb.cell 1; have hb_2 := hb.cell 2; have hb_f0 := hb.free 0; have hb_f1 := hb.free 1; have hb_f2 := hb.free 2; have hb_l := hb.lt; have hn1_0 := hn1.cell 0; have hn1_1 := hn1.cell 1; have hn1_2 := hn1.cell 2; have hn1_3 := hn1.cell 3; have hn1_f0 := hn1.free 0; have hn1_f1 := hn1.free 1; have hn1_f2 := hn1.free 2; have hn1_f3 := hn1.free 3; have hn1_l := hn1.lt; have hn2_0 := hn2.cell 0; have hn2_1 := hn2.cell 1; have hn2_2 := hn2.cell 2; have hn2_3 := hn2.cell 3; have hn2_f0 := hn2.free 0; have hn2_f1 := hn2.free 1; have hn2_f2 := hn2.free 2; have hn2_f3 := hn2.free 3; have hn2_l := hn2.lt; )
        refine ret_cell [.int .i64 1, .string kt, .int .i64 0, .slice VA acc.length VC] w.heap.size 24 rfl rfl (Tryz.isAgg24 _) (Tryz.sizeOf24 _) rfl (by first | exact Hx.go hn1 | exact Hx.go2) ?_
        exact RdP.kids (base := wz.heap.size) Kids.go (by omega) (by omega) (by omega) rfl (show Psr 52 71 _ b tv TL (j + 1) 0 from Psr.go) (by exact G.go HG)
      have b4 : (((tokAt TL j).1 : Int) == 4) = false := by simp; omega
      rw [b4] at HN4
      clear b4
      by_cases h0 : acc = []
      · have hc := HR.out.first h0 c4
        have hlen : (acc.length : Int) = 0 := by rw [h0]; rfl
        have hlen2 : ¬ (0 : Int) < (acc.length : Int) := by omega
        have HC := Lib.hid hc
        clear c4 HN5 hc h0
        go_wp2_with (go_at_call 37; (with_reducible refine (HN4.out _ Psr.go).mono ?_); rintro e w5 ⟨rfl, hgn⟩; have h5 := Psr.kept Psr.go hgn; replace hkd := Kids.kept hkd hgn; replace hn1 := Hx.kept (by first | exact Hx.go hn1 | exact Hx.go2) hgn (by simp); replace hn2 := Hx.kept (by first | exact Hx.go hn2 | exact Hx.go2) hgn (by simp); replace HG := G.trans (w := w) (by exact G.go HG) (G.any hgn _); replace hwz := Nat.le_trans hwz hgn.size; clear hgn h hb hb_0 hb_f0 hb_1 hb_f1 hb_2 hb_f2 hb_l; have h := h5; clear h5; have hb := h.box; have hb_0 := hb.cell 0; have hb_1 := hb.cell 1; have hb_2 := hb.cell 2; have hb_f0 := hb.free 0; have hb_f1 := hb.free 1; have hb_f2 := hb.free 2; have hb_l := hb.lt; have hn1_0 := hn1.cell 0; have hn1_1 := hn1.cell 1; have hn1_2 := hn1.cell 2; have hn1_3 := hn1.cell 3; have hn1_f0 := hn1.free 0; have hn1_f1 := hn1.free 1; have hn1_f2 := hn1.free 2; have hn1_f3 := hn1.free 3; have hn1_l := hn1.lt; have hn2_0 := hn2.cell 0; have hn2_1 := hn2.cell 1; have hn2_2 := hn2.cell 2; have hn2_3 := hn2.cell 3; have hn2_f0 := hn2.free 0; have hn2_f1 := hn2.free 1; have hn2_f2 := hn2.free 2; have hn2_f3 := hn2.free 3; have hn2_l := hn2.lt; )
        obtain ⟨FF, hFF⟩ : ∃ FF : Nat → (Nat → Value) → World → Prop, FF = fun tt VV y => w.grownBy y (some b) ∧ Hx y w.heap.size [.int .i64 0, .string ⟨#[]⟩, .int .i64 0, .slice none 0 0] 24 ∧ Hx y NB [.int .i64 1, .string kt, .int .i64 0, .slice VA acc.length VC] 24 ∧ wz.heap.size ≤ y.heap.size ∧ ((tt = 0 ∧ Psr 52 71 y b tv TL j 0 ∧ Kids y wz.heap.size (Value.slice VA acc.length VC) acc) ∨ (tt = 1 ∧ ∃ a A3 c3 k x, VV 5 = .agg #[.int .i64 a.kind, .string a.text, .int .i64 a.num, .slice A3 a.kids.length c3] ∧ Psr 52 71 y b tv TL k x ∧ Kids y wz.heap.size (Value.slice VA acc.length VC) acc ∧ NdV y (fun k => wz.heap.size ≤ k ∧ some k ≠ (Value.slice VA acc.length VC).ownBlock) a (ndC (a, A3, c3)) ∧ RdOf TL (exprS f (TL.drop j)) a k x) ∨ (tt = 2 ∧ ∃ a A3 c3 k x g, VV 6 = .slice (some ⟨g, 0, none⟩) 1 1 ∧ Hx y g (ndC (a, A3, c3)) 24 ∧ Psr 52 71 y b tv TL k x ∧ Kids y wz.heap.size (Value.slice VA acc.length VC) acc ∧ NdV y (fun k => wz.heap.size ≤ k ∧ some k ≠ (Value.slice VA acc.length VC).ownBlock) a (ndC (a, A3, c3)) ∧ RdOf TL (exprS f (TL.drop j)) a k x) ∨ (tt = 3 ∧ ∃ a A3 c3 k x A4 c4, VV 7 = .slice A4 (acc.length + 1) c4 ∧ Psr 52 71 y b tv TL k x ∧ Kids y wz.heap.size (.slice A4 (acc.length + 1) c4) (acc ++ [(a, A3, c3)]) ∧ RdOf TL (exprS f (TL.drop j)) a k x)) := ⟨_, rfl⟩
        replace hFF := Lib.hid hFF
        refine wp_region_mix (n := 9) (S := [fun v => v = .pointer (some ⟨NB, 3, none⟩), fun v => v = (Value.slice VA acc.length VC), fun v => v = .pointer (some ⟨b, 0, none⟩), fun v => v = .int .i64 d, fun v => v = .int .i64 (d + 1), fun _ => True, fun _ => True, fun _ => True, fun v => v = .pointer (some ⟨NB, 3, none⟩)]) (ch := [5, 6, 7]) (F := FF) (by kernel_rfl) (by kernel_rfl) (by kernel_rfl) ?_ ?_ ?_ ?_
        · intro t V V' y hVV hF; rw [hFF.out] at hF ⊢; have q5 := hVV 5 (by decide); have q6 := hVV 6 (by decide); have q7 := hVV 7 (by decide); simp only [q5, q6, q7] at hF; exact hF
        · intro V; rw [hFF.out]; exact ⟨(by exact G.go HG), Hx.go2, Hx.go2, by first | exact hwz | (simp [World.setCell]; omega), Or.inl ⟨rfl, (show Psr 52 71 _ b tv TL (j) 0 from Psr.go), Kids.go⟩⟩
        · simp only [List.take_succ_cons, List.take_zero, mixOps]
          refine ⟨?_, ?_, ?_, ?_, ?_, ?_, ?_, ?_, ?_, trivial⟩
          · rw [if_neg (by decide)]
            intro VV y1 tt hV1 hV
            clear hV
            have hm2 : Hx y1 NB [.int .i64 1, .string kt, .int .i64 0, .slice VA acc.length VC] 24 := by rw [hFF.out] at hV1; exact hV1.2.2.1
            have hm2_3 := hm2.cell 3; have hm2_l := hm2.lt
            simp only [putAll]
            go_wp2_with fail
            exact ⟨rfl, rfl, rfl, rfl⟩
          · rw [if_neg (by decide)]
            intro VV y1 tt hV1 hV
            have e0 := hV 0 (by kernel_rfl) (by decide)
            clear hV
            simp only [List.getD_cons_succ, List.getD_cons_zero] at e0
            have hm2 : Hx y1 NB [.int .i64 1, .string kt, .int .i64 0, .slice VA acc.length VC] 24 := by rw [hFF.out] at hV1; exact hV1.2.2.1
            have hm2_3 := hm2.cell 3; have hm2_l := hm2.lt
            simp only [putAll, e0]
            go_wp2_with fail
            exact ⟨rfl, rfl, rfl, rfl⟩
          · rw [if_neg (by decide)]
            intro VV y1 tt hV1 hV
            clear hV
            have hm2 : Hx y1 NB [.int .i64 1, .string kt, .int .i64 0, .slice VA acc.length VC] 24 := by rw [hFF.out] at hV1; exact hV1.2.2.1
            have hm2_3 := hm2.cell 3; have hm2_l := hm2.lt
            simp only [putAll]
            go_wp2_with fail
            exact ⟨rfl, rfl, rfl, rfl⟩
          · rw [if_neg (by decide)]
            intro VV y1 tt hV1 hV
            clear hV
            have hm2 : Hx y1 NB [.int .i64 1, .string kt, .int .i64 0, .slice VA acc.length VC] 24 := by rw [hFF.out] at hV1; exact hV1.2.2.1
            have hm2_3 := hm2.cell 3; have hm2_l := hm2.lt
            simp only [putAll]
            go_wp2_with fail
            exact ⟨rfl, rfl, rfl, rfl⟩
          · rw [if_neg (by decide)]
            intro VV y1 tt hV1 hV
            have e3 := hV 3 (by kernel_rfl) (by decide)
            clear hV
            simp only [List.getD_cons_succ, List.getD_cons_zero] at e3
            have hm2 : Hx y1 NB [.int .i64 1, .string kt, .int .i64 0, .slice VA acc.length VC] 24 := by rw [hFF.out] at hV1; exact hV1.2.2.1
            have hm2_3 := hm2.cell 3; have hm2_l := hm2.lt
            simp only [putAll, e3]
            go_wp2_with fail
            exact ⟨rfl, rfl, rfl, rfl⟩
          · rw [if_pos (by decide)]
            intro VV y1 hV1 hV
            replace hV1 : FF 0 VV y1 := hV1
            have e2 := hV 2 (by kernel_rfl) (by decide); have e4 := hV 4 (by kernel_rfl) (by decide)
            clear hV
            simp only [List.getD_cons_succ, List.getD_cons_zero] at e2 e4
            rw [hFF.out] at hV1
            obtain ⟨g1, g2, g3, g4, ⟨-, k1, k2⟩ | ⟨h, -⟩ | ⟨h, -⟩ | ⟨h, -⟩⟩ := hV1
            rotate_left
            · cases h
            · cases h
            · cases h
            simp only [putAll, e2, e4]
            go_simp
            go_wp2_with (go_at_call 23; (with_reducible refine (HE.out _ _ (by omega) k1).mono ?_); rintro e w6 hR6; obtain ⟨a6, A6, c6, k6, x6, rfl, hN6, hp6, hg6, hr6⟩ := hR6.both; clear hR6)
            exact ⟨rfl, rfl, by rw [hFF.out]; exact ⟨G.trans g1 hg6, g2.kept hg6 (fun e => by have := Option.some.inj e; omega), g3.kept hg6 (fun e => by have := Option.some.inj e; omega), Nat.le_trans g4 hg6.size, Or.inr (Or.inl ⟨rfl, a6, A6, c6, k6, x6, by simp [upd, slotOf, Act.put], hp6, k2.kept_b hg6 (by omega), hN6.mono (fun k _ hk => ⟨by omega, fun e => by have := (k2.lt _ e.symm).2; omega⟩), hr6⟩)⟩⟩
          · rw [if_pos (by decide)]
            intro VV y1 hV1 hV
            replace hV1 : FF 1 VV y1 := hV1
            clear hV
            rw [hFF.out] at hV1
            obtain ⟨g1, g2, g3, g4, ⟨h, -⟩ | ⟨-, a, A3, c3, k, x, e5, k1, k2, k3, k4⟩ | ⟨h, -⟩ | ⟨h, -⟩⟩ := hV1
            · cases h
            rotate_left
            · cases h
            · cases h
            simp only [putAll, e5]
            go_simp
            go_wp2_with fail
            exact ⟨rfl, rfl, by rw [hFF.out]; exact ⟨(by exact G.go g1), g2.alloc _, g3.alloc _, Nat.le_trans g4 (by simp), Or.inr (Or.inr (Or.inl ⟨rfl, a, A3, c3, k, x, y1.heap.size, by simp [upd, slotOf, Act.put], Hx.new' rfl rfl, k1.alloc _, k2.alloc _, k3.kept (World.grownBy_alloc _ _ _), k4⟩))⟩⟩
          · rw [if_pos (by decide)]
            intro VV y1 hV1 hV
            replace hV1 : FF 2 VV y1 := hV1
            have e1 := hV 1 (by kernel_rfl) (by decide)
            clear hV
            simp only [List.getD_cons_succ, List.getD_cons_zero] at e1
            rw [hFF.out] at hV1
            obtain ⟨g1, g2, g3, g4, ⟨h, -⟩ | ⟨h, -⟩ | ⟨-, a, A3, c3, k, x, g, e6, kx, k1, k2, k3, k4⟩ | ⟨h, -⟩⟩ := hV1
            · cases h
            · cases h
            rotate_left
            · cases h
            simp only [putAll, e1, e6]
            go_simp
            go_wp2_with (at_builtin; refine wpList_append_kid rfl _ _ 22 rfl Tryz.underlying22 info_node wz.heap.size _ acc rfl _ (a, A3, c3) 24 rfl ?_ ⟨k2, kx, k3, g4, by omega⟩; intro A4 c4 w4 hk4 hg4)
            exact ⟨rfl, rfl, by rw [hFF.out]; exact ⟨G.trans' g1 hg4 (fun c e => Or.inl (by have := (k2.lt c e).1; omega)), g2.kept hg4 (fun e => by have := (k2.lt _ e.symm).1; omega), g3.kept hg4 (fun e => by have := (k2.lt _ e.symm).1; omega), Nat.le_trans g4 hg4.size, Or.inr (Or.inr (Or.inr ⟨rfl, a, A3, c3, k, x, A4, c4, by simp [upd, slotOf, Act.put], k1.kept_row hg4 (fun c e => (k2.lt c e).1) (by omega) (fun c e => by have := htN c e; omega), hk4, k4⟩))⟩⟩
          · rw [if_neg (by decide)]
            intro VV y1 tt hV1 hV
            clear hV
            have hm2 : Hx y1 NB [.int .i64 1, .string kt, .int .i64 0, .slice VA acc.length VC] 24 := by rw [hFF.out] at hV1; exact hV1.2.2.1
            have hm2_3 := hm2.cell 3; have hm2_l := hm2.lt
            simp only [putAll]
            go_wp2_with fail
            exact ⟨rfl, rfl, rfl, rfl⟩
        · intro VV y1 hV1 hV
          have e0 := hV 0 (by omega) (by decide); have e1 := hV 1 (by omega) (by decide); have e2 := hV 2 (by omega) (by decide); have e3 := hV 3 (by omega) (by decide); have e4 := hV 4 (by omega) (by decide); have e8 := hV 8 (by omega) (by decide); clear hV
          simp only [List.getD_cons_succ, List.getD_cons_zero] at e0 e1 e2 e3 e4 e8
          rw [hFF.out] at hV1
          clear hFF
          obtain ⟨g1, g2, g3, g4, ⟨h, -⟩ | ⟨h, -⟩ | ⟨h, -⟩ | ⟨-, a, A3, c3, k, x, A4, c4, e7, k1, k2, k4⟩⟩ := hV1
          · cases h
          · cases h
          · cases h
          simp only [List.take_succ_cons, List.take_zero, List.drop_succ_cons, List.drop_zero, putAll, e0, e1, e2, e3, e4, e7, e8]
          clear h hn1 hn2 HG hkd e0 e1 e2 e3 e4 e7 e8 hb hb_0 hb_f0 hb_1 hb_f1 hb_2 hb_f2 hb_l hn1_0 hn1_f0 hn1_1 hn1_f1 hn1_2 hn1_f2 hn1_3 hn1_f3 hn1_l hn2_0 hn2_f0 hn2_1 hn2_f1 hn2_2 hn2_f2 hn2_3 hn2_f3 hn2_l
          have HG := g1; have hn1 := g2; have hn2 := g3; have h := k1; clear g1 g2 g3 k1
          have hnN1 : (Value.slice A4 (acc.length + 1) c4).ownBlock ≠ some NB := fun e => by have := (k2.lt _ e).1; omega
          have hq8 := G.refl y1 (some NB)
          have hb := h.box; have hb_0 := hb.cell 0; have hb_1 := hb.cell 1; have hb_2 := hb.cell 2; have hb_f0 := hb.free 0; have hb_f1 := hb.free 1; have hb_f2 := hb.free 2; have hb_l := hb.lt; have hn1_0 := hn1.cell 0; have hn1_1 := hn1.cell 1; have hn1_2 := hn1.cell 2; have hn1_3 := hn1.cell 3; have hn1_f0 := hn1.free 0; have hn1_f1 := hn1.free 1; have hn1_f2 := hn1.free 2; have hn1_f3 := hn1.free 3; have hn1_l := hn1.lt; have hn2_0 := hn2.cell 0; have hn2_1 := hn2.cell 1; have hn2_2 := hn2.cell 2; have hn2_3 := hn2.cell 3; have hn2_f0 := hn2.free 0; have hn2_f1 := hn2.free 1; have hn2_f2 := hn2.free 2; have hn2_f3 := hn2.free 3; have hn2_l := hn2.lt
          cases he : exprS f (TL.drop j) with
          | err x2 =>
            rw [he] at k4
            obtain rfl : x = x2 := k4
            have hx := expr_code f _ x he
            have hx2 : (x != 0) = true := by simp; omega
            obtain rfl := HC.out.bad he
            clear he hx HE
            go_wp2_with fail
            refine ret_cell [.int .i64 0, .string ⟨#[]⟩, .int .i64 0, .slice none 0 0] w.heap.size 24 rfl rfl (Tryz.isAgg24 _) (Tryz.sizeOf24 _) rfl (by first | exact Hx.go hn1 | exact Hx.go2) ?_
            exact ⟨k, rfl, Psr.go, (by exact G.go HG)⟩
          | ok a2 r =>
            obtain ⟨m, hjm, hm, rfl⟩ := expr_reach (by omega) he
            rw [he] at k4
            obtain ⟨rfl, hr, hk, rfl⟩ := k4
            obtain rfl := drop_inj hr hm hk
            replace he := Lib.hid he
            clear HE
            go_wp2_with fail
            go_roundw
            case rel => exact ⟨k, acc ++ [(a, A3, c3)], _, (by exact G.go HG), Psr.go, Hx.go2, Hx.go2, Kids.go, by simp [World.setCell]; omega, HeadRel.more (p := (a, A3, c3)) HC.out he.out hk (by omega)⟩
            case measure =>
              rw [hmeas, atMeas_eq (n := TL.length) ((Psr.other h hbN2 hnN 3 _).box.cell 1)]
              omega
      · have hlen2 : (0 : Int) < (acc.length : Int) := by have := List.length_pos_iff.2 h0; omega
        by_cases c5 : (tokAt TL j).1 = 5
        · have hc := HR.out.comma h0 c5
          have hj1 : j + 1 ≤ TL.length := by obtain ⟨_, _, _, _, h⟩ := hc; exact h
          have HC := Lib.hid hc
          have b5 : (((tokAt TL j).1 : Int) == 5) = true := by simp; omega
          rw [b5] at HN5
          clear c4 c5 hc b5 h0
          go_wp2_with (first | (go_at_call 37; (with_reducible refine (HN4.out _ Psr.go).mono ?_); rintro e w5 ⟨rfl, hgn⟩; have h5 := Psr.kept Psr.go hgn; replace hkd := Kids.kept hkd hgn; replace hn1 := Hx.kept (by first | exact Hx.go hn1 | exact Hx.go2) hgn (by simp); replace hn2 := Hx.kept (by first | exact Hx.go hn2 | exact Hx.go2) hgn (by simp); replace HG := G.trans (w := w) (by exact G.go HG) (G.any hgn _); replace hwz := Nat.le_trans hwz hgn.size; clear hgn h hb hb_0 hb_f0 hb_1 hb_f1 hb_2 hb_f2 hb_l; have h := h5; clear h5; have hb := h.box; have hb_0 := hb.cell 0; have hb_1 := hb.cell 1; have hb_2 := hb.cell 2; have hb_f0 := hb.free 0; have hb_f1 := hb.free 1; have hb_f2 := hb.free 2; have hb_l := hb.lt; have hn1_0 := hn1.cell 0; have hn1_1 := hn1.cell 1; have hn1_2 := hn1.cell 2; have hn1_3 := hn1.cell 3; have hn1_f0 := hn1.free 0; have hn1_f1 := hn1.free 1; have hn1_f2 := hn1.free 2; have hn1_f3 := hn1.free 3; have hn1_l := hn1.lt; have hn2_0 := hn2.cell 0; have hn2_1 := hn2.cell 1; have hn2_2 := hn2.cell 2; have hn2_3 := hn2.cell 3; have hn2_f0 := hn2.free 0; have hn2_f1 := hn2.free 1; have hn2_f2 := hn2.free 2; have hn2_f3 := hn2.free 3; have hn2_l := hn2.lt; ) | (go_at_call 37; (with_reducible refine (HN5.out _ Psr.go).mono ?_); rintro e w5 ⟨rfl, hgn⟩; have h5 := Psr.kept Psr.go hgn; replace hkd := Kids.kept hkd hgn; replace hn1 := Hx.kept (by first | exact Hx.go hn1 | exact Hx.go2) hgn (by simp); replace hn2 := Hx.kept (by first | exact Hx.go hn2 | exact Hx.go2) hgn (by simp); replace HG := G.trans (w := w) (by exact G.go HG) (G.any hgn _); replace hwz := Nat.le_trans hwz hgn.size; clear hgn h hb hb_0 hb_f0 hb_1 hb_f1 hb_2 hb_f2 hb_l; have h := h5; clear h5; have hb := h.box; have hb_0 := hb.cell 0; have hb_1 := hb.cell 1; have hb_2 := hb.cell 2; have hb_f0 := hb.free 0; have hb_f1 := hb.free 1; have hb_f2 := hb.free 2; have hb_l := hb.lt; have hn1_0 := hn1.cell 0; have hn1_1 := hn1.cell 1; have hn1_2 := hn1.cell 2; have hn1_3 := hn1.cell 3; have hn1_f0 := hn1.free 0; have hn1_f1 := hn1.free 1; have hn1_f2 := hn1.free 2; have hn1_f3 := hn1.free 3; have hn1_l := hn1.lt; have hn2_0 := hn2.cell 0; have hn2_1 := hn2.cell 1; have hn2_2 := hn2.cell 2; have hn2_3 := hn2.cell 3; have hn2_f0 := hn2.free 0; have hn2_f1 := hn2.free 1; have hn2_f2 := hn2.free 2; have hn2_f3 := hn2.free 3; have hn2_l := hn2.lt; ))
          obtain ⟨FF, hFF⟩ : ∃ FF : Nat → (Nat → Value) → World → Prop, FF = fun tt VV y => w.grownBy y (some b) ∧ Hx y w.heap.size [.int .i64 0, .string ⟨#[]⟩, .int .i64 0, .slice none 0 0] 24 ∧ Hx y NB [.int .i64 1, .string kt, .int .i64 0, .slice VA acc.length VC] 24 ∧ wz.heap.size ≤ y.heap.size ∧ ((tt = 0 ∧ Psr 52 71 y b tv TL (j + 1) 0 ∧ Kids y wz.heap.size (Value.slice VA acc.length VC) acc) ∨ (tt = 1 ∧ ∃ a A3 c3 k x, VV 5 = .agg #[.int .i64 a.kind, .string a.text, .int .i64 a.num, .slice A3 a.kids.length c3] ∧ Psr 52 71 y b tv TL k x ∧ Kids y wz.heap.size (Value.slice VA acc.length VC) acc ∧ NdV y (fun k => wz.heap.size ≤ k ∧ some k ≠ (Value.slice VA acc.length VC).ownBlock) a (ndC (a, A3, c3)) ∧ RdOf TL (exprS f (TL.drop (j + 1))) a k x) ∨ (tt = 2 ∧ ∃ a A3 c3 k x g, VV 6 = .slice (some ⟨g, 0, none⟩) 1 1 ∧ Hx y g (ndC (a, A3, c3)) 24 ∧ Psr 52 71 y b tv TL k x ∧ Kids y wz.heap.size (Value.slice VA acc.length VC) acc ∧ NdV y (fun k => wz.heap.size ≤ k ∧ some k ≠ (Value.slice VA acc.length VC).ownBlock) a (ndC (a, A3, c3)) ∧ RdOf TL (exprS f (TL.drop (j + 1))) a k x) ∨ (tt = 3 ∧ ∃ a A3 c3 k x A4 c4, VV 7 = .slice A4 (acc.length + 1) c4 ∧ Psr 52 71 y b tv TL k x ∧ Kids y wz.heap.size (.slice A4 (acc.length + 1) c4) (acc ++ [(a, A3, c3)]) ∧ RdOf TL (exprS f (TL.drop (j + 1))) a k x)) := ⟨_, rfl⟩
          replace hFF := Lib.hid hFF
          refine wp_region_mix (n := 9) (S := [fun v => v = .pointer (some ⟨NB, 3, none⟩), fun v => v = (Value.slice VA acc.length VC), fun v => v = .pointer (some ⟨b, 0, none⟩), fun v => v = .int .i64 d, fun v => v = .int .i64 (d + 1), fun _ => True, fun _ => True, fun _ => True, fun v => v = .pointer (some ⟨NB, 3, none⟩)]) (ch := [5, 6, 7]) (F := FF) (by kernel_rfl) (by kernel_rfl) (by kernel_rfl) ?_ ?_ ?_ ?_
          · intro t V V' y hVV hF; rw [hFF.out] at hF ⊢; have q5 := hVV 5 (by decide); have q6 := hVV 6 (by decide); have q7 := hVV 7 (by decide); simp only [q5, q6, q7] at hF; exact hF
          · intro V; rw [hFF.out]; exact ⟨(by exact G.go HG), Hx.go2, Hx.go2, by first | exact hwz | (simp [World.setCell]; omega), Or.inl ⟨rfl, (show Psr 52 71 _ b tv TL ((j + 1)) 0 from Psr.go), Kids.go⟩⟩
          · simp only [List.take_succ_cons, List.take_zero, mixOps]
            refine ⟨?_, ?_, ?_, ?_, ?_, ?_, ?_, ?_, ?_, trivial⟩
            · rw [if_neg (by decide)]
              intro VV y1 tt hV1 hV
              clear hV
              have hm2 : Hx y1 NB [.int .i64 1, .string kt, .int .i64 0, .slice VA acc.length VC] 24 := by rw [hFF.out] at hV1; exact hV1.2.2.1
              have hm2_3 := hm2.cell 3; have hm2_l := hm2.lt
              simp only [putAll]
              go_wp2_with fail
              exact ⟨rfl, rfl, rfl, rfl⟩
            · rw [if_neg (by decide)]
              intro VV y1 tt hV1 hV
              have e0 := hV 0 (by kernel_rfl) (by decide)
              clear hV
              simp only [List.getD_cons_succ, List.getD_cons_zero] at e0
              have hm2 : Hx y1 NB [.int .i64 1, .string kt, .int .i64 0, .slice VA acc.length VC] 24 := by rw [hFF.out] at hV1; exact hV1.2.2.1
              have hm2_3 := hm2.cell 3; have hm2_l := hm2.lt
              simp only [putAll, e0]
              go_wp2_with fail
              exact ⟨rfl, rfl, rfl, rfl⟩
            · rw [if_neg (by decide)]
              intro VV y1 tt hV1 hV
              clear hV
              have hm2 : Hx y1 NB [.int .i64 1, .string kt, .int .i64 0, .slice VA acc.length VC] 24 := by rw [hFF.out] at hV1; exact hV1.2.2.1
              have hm2_3 := hm2.cell 3; have hm2_l := hm2.lt
              simp only [putAll]
              go_wp2_with fail
              exact ⟨rfl, rfl, rfl, rfl⟩
            · rw [if_neg (by decide)]
              intro VV y1 tt hV1 hV
              clear hV
              have hm2 : Hx y1 NB [.int .i64 1, .string kt, .int .i64 0, .slice VA acc.length VC] 24 := by rw [hFF.out] at hV1; exact hV1.2.2.1
              have hm2_3 := hm2.cell 3; have hm2_l := hm2.lt
              simp only [putAll]
              go_wp2_with fail
              exact ⟨rfl, rfl, rfl, rfl⟩
            · rw [if_neg (by decide)]
              intro VV y1 tt hV1 hV
              have e3 := hV 3 (by kernel_rfl) (by decide)
              clear hV
              simp only [List.getD_cons_succ, List.getD_cons_zero] at e3
              have hm2 : Hx y1 NB [.int .i64 1, .string kt, .int .i64 0, .slice VA acc.length VC] 24 := by rw [hFF.out] at hV1; exact hV1.2.2.1
              have hm2_3 := hm2.cell 3; have hm2_l := hm2.lt
              simp only [putAll, e3]
              go_wp2_with fail
              exact ⟨rfl, rfl, rfl, rfl⟩
            · rw [if_pos (by decide)]
              intro VV y1 hV1 hV
              replace hV1 : FF 0 VV y1 := hV1
              have e2 := hV 2 (by kernel_rfl) (by decide); have e4 := hV 4 (by kernel_rfl) (by decide)
              clear hV
              simp only [List.getD_cons_succ, List.getD_cons_zero] at e2 e4
              rw [hFF.out] at hV1
              obtain ⟨g1, g2, g3, g4, ⟨-, k1, k2⟩ | ⟨h, -⟩ | ⟨h, -⟩ | ⟨h, -⟩⟩ := hV1
              rotate_left
              · cases h
              · cases h
              · cases h
              simp only [putAll, e2, e4]
              go_simp
              go_wp2_with (go_at_call 23; (with_reducible refine (HE.out _ _ (by omega) k1).mono ?_); rintro e w6 hR6; obtain ⟨a6, A6, c6, k6, x6, rfl, hN6, hp6, hg6, hr6⟩ := hR6.both; clear hR6)
              exact ⟨rfl, rfl, by rw [hFF.out]; exact ⟨G.trans g1 hg6, g2.kept hg6 (fun e => by have := Option.some.inj e; omega), g3.kept hg6 (fun e => by have := Option.some.inj e; omega), Nat.le_trans g4 hg6.size, Or.inr (Or.inl ⟨rfl, a6, A6, c6, k6, x6, by simp [upd, slotOf, Act.put], hp6, k2.kept_b hg6 (by omega), hN6.mono (fun k _ hk => ⟨by omega, fun e => by have := (k2.lt _ e.symm).2; omega⟩), hr6⟩)⟩⟩
            · rw [if_pos (by decide)]
              intro VV y1 hV1 hV
              replace hV1 : FF 1 VV y1 := hV1
              clear hV
              rw [hFF.out] at hV1
              obtain ⟨g1, g2, g3, g4, ⟨h, -⟩ | ⟨-, a, A3, c3, k, x, e5, k1, k2, k3, k4⟩ | ⟨h, -⟩ | ⟨h, -⟩⟩ := hV1
              · cases h
              rotate_left
              · cases h
              · cases h
              simp only [putAll, e5]
              go_simp
              go_wp2_with fail
              exact ⟨rfl, rfl, by rw [hFF.out]; exact ⟨(by exact G.go g1), g2.alloc _, g3.alloc _, Nat.le_trans g4 (by simp), Or.inr (Or.inr (Or.inl ⟨rfl, a, A3, c3, k, x, y1.heap.size, by simp [upd, slotOf, Act.put], Hx.new' rfl rfl, k1.alloc _, k2.alloc _, k3.kept (World.grownBy_alloc _ _ _), k4⟩))⟩⟩
            · rw [if_pos (by decide)]
              intro VV y1 hV1 hV
              replace hV1 : FF 2 VV y1 := hV1
              have e1 := hV 1 (by kernel_rfl) (by decide)
              clear hV
              simp only [List.getD_cons_succ, List.getD_cons_zero] at e1
              rw [hFF.out] at hV1
              obtain ⟨g1, g2, g3, g4, ⟨h, -⟩ | ⟨h, -⟩ | ⟨-, a, A3, c3, k, x, g, e6, kx, k1, k2, k3, k4⟩ | ⟨h, -⟩⟩ := hV1
              · cases h
              · cases h
              rotate_left
              · cases h
              simp only [putAll, e1, e6]
              go_simp
              go_wp2_with (at_builtin; refine wpList_append_kid rfl _ _ 22 rfl Tryz.underlying22 info_node wz.heap.size _ acc rfl _ (a, A3, c3) 24 rfl ?_ ⟨k2, kx, k3, g4, by omega⟩; intro A4 c4 w4 hk4 hg4)
              exact ⟨rfl, rfl, by rw [hFF.out]; exact ⟨G.trans' g1 hg4 (fun c e => Or.inl (by have := (k2.lt c e).1; omega)), g2.kept hg4 (fun e => by have := (k2.lt _ e.symm).1; omega), g3.kept hg4 (fun e => by have := (k2.lt _ e.symm).1; omega), Nat.le_trans g4 hg4.size, Or.inr (Or.inr (Or.inr ⟨rfl, a, A3, c3, k, x, A4, c4, by simp [upd, slotOf, Act.put], k1.kept_row hg4 (fun c e => (k2.lt c e).1) (by omega) (fun c e => by have := htN c e; omega), hk4, k4⟩))⟩⟩
            · rw [if_neg (by decide)]
              intro VV y1 tt hV1 hV
              clear hV
              have hm2 : Hx y1 NB [.int .i64 1, .string kt, .int .i64 0, .slice VA acc.length VC] 24 := by rw [hFF.out] at hV1; exact hV1.2.2.1
              have hm2_3 := hm2.cell 3; have hm2_l := hm2.lt
              simp only [putAll]
              go_wp2_with fail
              exact ⟨rfl, rfl, rfl, rfl⟩
          · intro VV y1 hV1 hV
            have e0 := hV 0 (by omega) (by decide); have e1 := hV 1 (by omega) (by decide); have e2 := hV 2 (by omega) (by decide); have e3 := hV 3 (by omega) (by decide); have e4 := hV 4 (by omega) (by decide); have e8 := hV 8 (by omega) (by decide); clear hV
            simp only [List.getD_cons_succ, List.getD_cons_zero] at e0 e1 e2 e3 e4 e8
            rw [hFF.out] at hV1
            clear hFF
            obtain ⟨g1, g2, g3, g4, ⟨h, -⟩ | ⟨h, -⟩ | ⟨h, -⟩ | ⟨-, a, A3, c3, k, x, A4, c4, e7, k1, k2, k4⟩⟩ := hV1
            · cases h
            · cases h
            · cases h
            simp only [List.take_succ_cons, List.take_zero, List.drop_succ_cons, List.drop_zero, putAll, e0, e1, e2, e3, e4, e7, e8]
            clear h hn1 hn2 HG hkd e0 e1 e2 e3 e4 e7 e8 hb hb_0 hb_f0 hb_1 hb_f1 hb_2 hb_f2 hb_l hn1_0 hn1_f0 hn1_1 hn1_f1 hn1_2 hn1_f2 hn1_3 hn1_f3 hn1_l hn2_0 hn2_f0 hn2_1 hn2_f1 hn2_2 hn2_f2 hn2_3 hn2_f3 hn2_l
            have HG := g1; have hn1 := g2; have hn2 := g3; have h := k1; clear g1 g2 g3 k1
            have hnN1 : (Value.slice A4 (acc.length + 1) c4).ownBlock ≠ some NB := fun e => by have := (k2.lt _ e).1; omega
            have hq8 := G.refl y1 (some NB)
            have hb := h.box; have hb_0 := hb.cell 0; have hb_1 := hb.cell 1; have hb_2 := hb.cell 2; have hb_f0 := hb.free 0; have hb_f1 := hb.free 1; have hb_f2 := hb.free 2; have hb_l := hb.lt; have hn1_0 := hn1.cell 0; have hn1_1 := hn1.cell 1; have hn1_2 := hn1.cell 2; have hn1_3 := hn1.cell 3; have hn1_f0 := hn1.free 0; have hn1_f1 := hn1.free 1; have hn1_f2 := hn1.free 2; have hn1_f3 := hn1.free 3; have hn1_l := hn1.lt; have hn2_0 := hn2.cell 0; have hn2_1 := hn2.cell 1; have hn2_2 := hn2.cell 2; have hn2_3 := hn2.cell 3; have hn2_f0 := hn2.free 0; have hn2_f1 := hn2.free 1; have hn2_f2 := hn2.free 2; have hn2_f3 := hn2.free 3; have hn2_l := hn2.lt
            cases he : exprS f (TL.drop (j + 1)) with
            | err x2 =>
              rw [he] at k4
              obtain rfl : x = x2 := k4
              have hx := expr_code f _ x he
              have hx2 : (x != 0) = true := by simp; omega
              obtain rfl := HC.out.bad he
              clear he hx HE
              go_wp2_with fail
              refine ret_cell [.int .i64 0, .string ⟨#[]⟩, .int .i64 0, .slice none 0 0] w.heap.size 24 rfl rfl (Tryz.isAgg24 _) (Tryz.sizeOf24 _) rfl (by first | exact Hx.go hn1 | exact Hx.go2) ?_
              exact ⟨k, rfl, Psr.go, (by exact G.go HG)⟩
            | ok a2 r =>
              obtain ⟨m, hjm, hm, rfl⟩ := expr_reach (by omega) he
              rw [he] at k4
              obtain ⟨rfl, hr, hk, rfl⟩ := k4
              obtain rfl := drop_inj hr hm hk
              replace he := Lib.hid he
              clear HE
              go_wp2_with fail
              go_roundw
              case rel => exact ⟨k, acc ++ [(a, A3, c3)], _, (by exact G.go HG), Psr.go, Hx.go2, Hx.go2, Kids.go, by simp [World.setCell]; omega, HeadRel.more (p := (a, A3, c3)) HC.out he.out hk (by omega)⟩
              case measure =>
                rw [hmeas, atMeas_eq (n := TL.length) ((Psr.other h hbN2 hnN 3 _).box.cell 1)]
                omega
        · obtain rfl := HR.out.bad h0 c4 c5
          have b5 : (((tokAt TL j).1 : Int) == 5) = false := by simp; omega
          rw [b5] at HN5
          clear c4 c5 b5 h0 HE
          go_wp2_with (first | (go_at_call 37; (with_reducible refine (HN4.out _ Psr.go).mono ?_); rintro e w5 ⟨rfl, hgn⟩; have h5 := Psr.kept Psr.go hgn; replace hkd := Kids.kept hkd hgn; replace hn1 := Hx.kept (by first | exact Hx.go hn1 | exact Hx.go2) hgn (by simp); replace hn2 := Hx.kept (by first | exact Hx.go hn2 | exact Hx.go2) hgn (by simp); replace HG := G.trans (w := w) (by exact G.go HG) (G.any hgn _); replace hwz := Nat.le_trans hwz hgn.size; clear hgn h hb hb_0 hb_f0 hb_1 hb_f1 hb_2 hb_f2 hb_l; have h := h5; clear h5; have hb := h.box; have hb_0 := hb.cell 0; have hb_1 := hb.cell 1; have hb_2 := hb.cell 2; have hb_f0 := hb.free 0; have hb_f1 := hb.free 1; have hb_f2 := hb.free 2; have hb_l := hb.lt; have hn1_0 := hn1.cell 0; have hn1_1 := hn1.cell 1; have hn1_2 := hn1.cell 2; have hn1_3 := hn1.cell 3; have hn1_f0 := hn1.free 0; have hn1_f1 := hn1.free 1; have hn1_f2 := hn1.free 2; have hn1_f3 := hn1.free 3; have hn1_l := hn1.lt; have hn2_0 := hn2.cell 0; have hn2_1 := hn2.cell 1; have hn2_2 := hn2.cell 2; have hn2_3 := hn2.cell 3; have hn2_f0 := hn2.free 0; have hn2_f1 := hn2.free 1; have hn2_f2 := hn2.free 2; have hn2_f3 := hn2.free 3; have hn2_l := hn2.lt; ) | (go_at_call 37; (with_reducible refine (HN5.out _ Psr.go).mono ?_); rintro e w5 ⟨rfl, hgn⟩; have h5 := Psr.kept Psr.go hgn; replace hkd := Kids.kept hkd hgn; replace hn1 := Hx.kept (by first | exact Hx.go hn1 | exact Hx.go2) hgn (by simp); replace hn2 := Hx.kept (by first | exact Hx.go hn2 | exact Hx.go2) hgn (by simp); replace HG := G.trans (w := w) (by exact G.go HG) (G.any hgn _); replace hwz := Nat.le_trans hwz hgn.size; clear hgn h hb hb_0 hb_f0 hb_1 hb_f1 hb_2 hb_f2 hb_l; have h := h5; clear h5; have hb := h.box; have hb_0 := hb.cell 0; have hb_1 := hb.cell 1; have hb_2 := hb.cell 2; have hb_f0 := hb.free 0; have hb_f1 := hb.free 1; have hb_f2 := hb.free 2; have hb_l := hb.lt; have hn1_0 := hn1.cell 0; have hn1_1 := hn1.cell 1; have hn1_2 := hn1.cell 2; have hn1_3 := hn1.cell 3; have hn1_f0 := hn1.free 0; have hn1_f1 := hn1.free 1; have hn1_f2 := hn1.free 2; have hn1_f3 := hn1.free 3; have hn1_l := hn1.lt; have hn2_0 := hn2.cell 0; have hn2_1 := hn2.cell 1; have hn2_2 := hn2.cell 2; have hn2_3 := hn2.cell 3; have hn2_f0 := hn2.free 0; have hn2_f1 := hn2.free 1; have hn2_f2 := hn2.free 2; have hn2_f3 := hn2.free 3; have hn2_l := hn2.lt; ) | (go_at_call 24; (with_reducible refine (refBad_any (Psr.go) 8).mono ?_); rintro e w7 ⟨rfl, hp7, hg7⟩; replace HG := G.trans (w := w) (by exact G.go HG) hg7; replace hn1 := Hx.kept (by first | exact Hx.go hn1 | exact Hx.go2) hg7 (fun e => by have := Option.some.inj e; omega); clear hg7 h hb hb_0 hb_f0 hb_1 hb_f1 hb_2 hb_f2 hb_l; have h := hp7; clear hp7; have hn1_0 := hn1.cell 0; have hn1_1 := hn1.cell 1; have hn1_2 := hn1.cell 2; have hn1_3 := hn1.cell 3; have hn1_f0 := hn1.free 0; have hn1_f1 := hn1.free 1; have hn1_f2 := hn1.free 2; have hn1_f3 := hn1.free 3; have hn1_l := hn1.lt; ))
          refine ret_cell [.int .i64 0, .string ⟨#[]⟩, .int .i64 0, .slice none 0 0] w.heap.size 24 rfl rfl (Tryz.isAgg24 _) (Tryz.sizeOf24 _) rfl (by first | exact Hx.go hn1 | exact Hx.go2) ?_
          exact ⟨j, rfl, Psr.go, (by exact G.go HG)⟩
end
end Go.Proofs.YtiakgjijlhfneaaGreatDoor
namespace Go.Proofs.YtiakgjijlhfneaaGreatDoor
open Go.RowKit
set_option maxHeartbeats 16000000 in
set_option maxRecDepth 100000 in
theorem parseTR_any (s : ByteArray) (w : World) (hs : s.size ≤ 4000) (HT : ∀ ts, lexL s 0 = some ts → ∀ t ∈ ts, t.2.size ≤ 1000) : Calls Tryz.prog 8 #[.string s] w (PaP w (parseN s)) := by
  have HG := G.refl w none
  have hn1 := Hx.new w #[.int .i64 0, .string ⟨#[]⟩, .int .i64 0, .slice none 0 0] 24
  have HL := Lib.hid (fun w => refLex_any s w (by omega))
  cases hl : lexL s 0 with
  | none =>
    have hq : parseN s = .err 8 := by unfold parseN; rw [hl]
    rw [hq]
    rw [hl] at HL
    clear hq hl HT
    go_enter Tryz.func8, Tryz.ntmps8
    go_wp2_with (go_at_call 22; (with_reducible refine (HL.out _).mono ?_); rintro e wn ⟨hbn, rfl⟩; have hgn := G.of_below hbn; replace HG := G.trans (w := w) (by exact G.go HG) hgn; replace hn1 := Hx.kept (by first | exact Hx.go hn1 | exact Hx.go2) hgn (by simp); clear hgn hbn; have hn1_0 := hn1.cell 0; have hn1_1 := hn1.cell 1; have hn1_2 := hn1.cell 2; have hn1_3 := hn1.cell 3; have hn1_f0 := hn1.free 0; have hn1_f1 := hn1.free 1; have hn1_f2 := hn1.free 2; have hn1_f3 := hn1.free 3; have hn1_l := hn1.lt; )
    refine ret_cell_tmp [.int .i64 0, .string ⟨#[]⟩, .int .i64 0, .slice none 0 0] w.heap.size 24 rfl rfl (Tryz.isAgg24 _) (Tryz.sizeOf24 _) rfl (by first | exact Hx.go hn1 | exact Hx.go2) ?_
    exact ⟨rfl, (by exact G.go HG)⟩
  | some ts =>
    have hn := lexL_len hl
    have hlen : ts.length ≤ 5000 := by omega
    have hT := HT ts hl
    have HE := Lib.hid (fun b tv w h => refExpr_any (b := b) (tv := tv) hT hlen 64 0 0 w (by omega) (by omega) (by omega) h)
    rw [parseN_some hl]
    obtain ⟨R, hR⟩ : ∃ R, Hid (parsR ts = R) := ⟨_, Lib.hid rfl⟩
    rw [hR.out]
    rw [hl] at HL
    rw [List.drop_zero] at HE
    clear hl HT hT
    go_enter Tryz.func8, Tryz.ntmps8
    go_upto_region 4 with ((go_at_call 22; (with_reducible refine (HL.out _).mono ?_); rintro e wn ⟨hbn, v, rfl, hrow⟩; have hgn := G.of_below hbn; replace HG := G.trans (w := w) (by exact G.go HG) hgn; replace hn1 := Hx.kept (by first | exact Hx.go hn1 | exact Hx.go2) hgn (by simp); have hwn := hgn.size; obtain ⟨VA, VC, rfl⟩ : ∃ A c, v = .slice A ts.length c := (by rcases hrow.form with ⟨rfl, e⟩ | ⟨g, cap, rfl, _⟩; (exact ⟨none, 0, by rw [e]; rfl⟩); (exact ⟨_, cap, rfl⟩)); clear hgn hbn; have hn1_0 := hn1.cell 0; have hn1_1 := hn1.cell 1; have hn1_2 := hn1.cell 2; have hn1_3 := hn1.cell 3; have hn1_f0 := hn1.free 0; have hn1_f1 := hn1.free 1; have hn1_f2 := hn1.free 2; have hn1_f3 := hn1.free 3; have hn1_l := hn1.lt; ))
    go_cut [2, 3, 4, 6] (fun p2 p3 p4 p6 wc => ∃ PB VA VC, p2 = .pointer (some ⟨w.heap.size, 0, none⟩) ∧ p3 = .int .i64 0 ∧ p4 = .slice VA ts.length VC ∧ p6 = .pointer (some ⟨PB, 0, none⟩) ∧ w.grownBy wc none ∧ Psr 52 71 wc PB (.slice VA ts.length VC) ts 0 0 ∧ Hx wc w.heap.size [.int .i64 0, .string ⟨#[]⟩, .int .i64 0, .slice none 0 0] 24 ∧ w.heap.size < PB)
    case first =>
      go_wp2_with fail
      go_meet
      have hlt : w.heap.size < wn.heap.size := hn1_l
      exact ⟨wn.heap.size, VA, VC, rfl, rfl, rfl, rfl, (by exact G.go HG), ⟨Hx.new' rfl rfl, ⟨_, hrow.alloc _⟩, fun e => by have := (hrow.lt _ e).2; omega⟩, Hx.go2, hlt⟩
    obtain ⟨PB, VA, VC, rfl, rfl, rfl, rfl, HG, h, hn1, hPB⟩ := hcut
    rename World => wx
    have hne1 : PB ≠ w.heap.size := by omega
    have hlx := h.lt
    have hb := h.box; have hb_0 := hb.cell 0; have hb_1 := hb.cell 1; have hb_2 := hb.cell 2; have hb_f0 := hb.free 0; have hb_f1 := hb.free 1; have hb_f2 := hb.free 2; have hb_l := hb.lt; have hn1_0 := hn1.cell 0; have hn1_1 := hn1.cell 1; have hn1_2 := hn1.cell 2; have hn1_3 := hn1.cell 3; have hn1_f0 := hn1.free 0; have hn1_f1 := hn1.free 1; have hn1_f2 := hn1.free 2; have hn1_f3 := hn1.free 3; have hn1_l := hn1.lt
    cases he : exprS 64 ts with
    | err x =>
      rw [he] at HE
      obtain rfl := hR.out.symm.trans (parsR_err he)
      have hx := expr_code 64 _ x he
      have hx1 : (x == 0) = false := by simp; omega
      have hx2 : (x != 0) = true := by simp; omega
      clear he hx hR
      go_wp2_with (go_at_call 23; (with_reducible refine (HE.out _ _ _ Psr.go).mono ?_); rintro e w7 ⟨k7, rfl, h, hg7⟩; replace HG := G.trans' (row := none) (by exact G.go HG) hg7 (fun c e => Or.inl (by have := Option.some.inj e; omega)); replace hn1 := Hx.kept (by first | exact Hx.go hn1 | exact Hx.go2) hg7 (fun e => by have := Option.some.inj e; omega); clear hb hb_0 hb_1 hb_2 hb_f0 hb_f1 hb_f2 hb_l hg7; have hb := h.box; have hb_0 := hb.cell 0; have hb_1 := hb.cell 1; have hb_2 := hb.cell 2; have hb_f0 := hb.free 0; have hb_f1 := hb.free 1; have hb_f2 := hb.free 2; have hb_l := hb.lt; have hn1_0 := hn1.cell 0; have hn1_1 := hn1.cell 1; have hn1_2 := hn1.cell 2; have hn1_3 := hn1.cell 3; have hn1_f0 := hn1.free 0; have hn1_f1 := hn1.free 1; have hn1_f2 := hn1.free 2; have hn1_f3 := hn1.free 3; have hn1_l := hn1.lt; )
      go_region
      all_goals (go_wp2_with fail; refine ret_cell_tmp [.int .i64 0, .string ⟨#[]⟩, .int .i64 0, .slice none 0 0] w.heap.size 24 rfl rfl (Tryz.isAgg24 _) (Tryz.sizeOf24 _) rfl (by first | exact Hx.go hn1 | exact Hx.go2) ?_; exact ⟨rfl, (by exact G.go HG)⟩)
    | ok a r =>
      obtain ⟨m, hm0, hm, rfl⟩ := expr_reach (i := 0) (by omega) (show exprS 64 (ts.drop 0) = _ by rw [List.drop_zero]; exact he)
      rw [he] at HE
      by_cases hml : m < ts.length
      · rw [drop_hd hml] at he
        obtain rfl := hR.out.symm.trans (parsR_more he)
        clear he hR
        go_wp2_with (first | (go_at_call 23; (with_reducible refine (HE.out _ _ _ Psr.go).mono ?_); rintro e w7 ⟨k7, A7, c7, hr7, hk7, rfl, hN7, h, hg7⟩; replace HG := G.trans' (row := none) (by exact G.go HG) hg7 (fun c e => Or.inl (by have := Option.some.inj e; omega)); replace hn1 := Hx.kept (by first | exact Hx.go hn1 | exact Hx.go2) hg7 (fun e => by have := Option.some.inj e; omega); clear hb hb_0 hb_1 hb_2 hb_f0 hb_f1 hb_f2 hb_l hg7; obtain rfl := (drop_inj hr7 hm hk7).symm; have hq7 := G.refl w7 (some w.heap.size); have hb := h.box; have hb_0 := hb.cell 0; have hb_1 := hb.cell 1; have hb_2 := hb.cell 2; have hb_f0 := hb.free 0; have hb_f1 := hb.free 1; have hb_f2 := hb.free 2; have hb_l := hb.lt; have hn1_0 := hn1.cell 0; have hn1_1 := hn1.cell 1; have hn1_2 := hn1.cell 2; have hn1_3 := hn1.cell 3; have hn1_f0 := hn1.free 0; have hn1_f1 := hn1.free 1; have hn1_f2 := hn1.free 2; have hn1_f3 := hn1.free 3; have hn1_l := hn1.lt; ) | (go_at_call 24; (with_reducible refine (refBad_any (Psr.go) 8).mono ?_); rintro e w8 ⟨rfl, h, hg8⟩; replace HG := G.trans' (row := none) (by exact G.go HG) hg8 (fun c e => Or.inl (by have := Option.some.inj e; omega)); replace hn1 := Hx.kept (by first | exact Hx.go hn1 | exact Hx.go2) hg8 (fun e => by have := Option.some.inj e; omega); clear hb hb_0 hb_1 hb_2 hb_f0 hb_f1 hb_f2 hb_l hg8; have hb := h.box; have hb_0 := hb.cell 0; have hb_1 := hb.cell 1; have hb_2 := hb.cell 2; have hb_f0 := hb.free 0; have hb_f1 := hb.free 1; have hb_f2 := hb.free 2; have hb_l := hb.lt; have hn1_0 := hn1.cell 0; have hn1_1 := hn1.cell 1; have hn1_2 := hn1.cell 2; have hn1_3 := hn1.cell 3; have hn1_f0 := hn1.free 0; have hn1_f1 := hn1.free 1; have hn1_f2 := hn1.free 2; have hn1_f3 := hn1.free 3; have hn1_l := hn1.lt; ))
        go_region
        all_goals (go_wp2_with fail; refine ret_cell_tmp [.int .i64 0, .string ⟨#[]⟩, .int .i64 0, .slice none 0 0] w.heap.size 24 rfl rfl (Tryz.isAgg24 _) (Tryz.sizeOf24 _) rfl (by first | exact Hx.go hn1 | exact Hx.go2) ?_; exact ⟨rfl, (by exact G.go HG)⟩)
      · rw [List.drop_eq_nil_of_le (by omega)] at he
        obtain rfl := hR.out.symm.trans (parsR_end he)
        clear he hR
        go_wp2_with (go_at_call 23; (with_reducible refine (HE.out _ _ _ Psr.go).mono ?_); rintro e w7 ⟨k7, A7, c7, hr7, hk7, rfl, hN7, h, hg7⟩; replace HG := G.trans' (row := none) (by exact G.go HG) hg7 (fun c e => Or.inl (by have := Option.some.inj e; omega)); replace hn1 := Hx.kept (by first | exact Hx.go hn1 | exact Hx.go2) hg7 (fun e => by have := Option.some.inj e; omega); clear hb hb_0 hb_1 hb_2 hb_f0 hb_f1 hb_f2 hb_l hg7; obtain rfl := (drop_inj hr7 hm hk7).symm; have hq7 := G.refl w7 (some w.heap.size); have hb := h.box; have hb_0 := hb.cell 0; have hb_1 := hb.cell 1; have hb_2 := hb.cell 2; have hb_f0 := hb.free 0; have hb_f1 := hb.free 1; have hb_f2 := hb.free 2; have hb_l := hb.lt; have hn1_0 := hn1.cell 0; have hn1_1 := hn1.cell 1; have hn1_2 := hn1.cell 2; have hn1_3 := hn1.cell 3; have hn1_f0 := hn1.free 0; have hn1_f1 := hn1.free 1; have hn1_f2 := hn1.free 2; have hn1_f3 := hn1.free 3; have hn1_l := hn1.lt; )
        refine ret_cell_tmp [.int .i64 a.kind, .string a.text, .int .i64 a.num, .slice A7 a.kids.length c7] w.heap.size 24 rfl rfl (Tryz.isAgg24 _) (Tryz.sizeOf24 _) rfl (by first | exact Hx.go hn1 | exact Hx.go2) ?_
        exact ⟨A7, c7, rfl, (NdV.row hN7 (by exact G.go hq7) (fun k hk e => by have := Option.some.inj e; omega)).mono (fun _ _ _ => trivial), (by exact G.go HG)⟩
end Go.Proofs.YtiakgjijlhfneaaGreatDoor
