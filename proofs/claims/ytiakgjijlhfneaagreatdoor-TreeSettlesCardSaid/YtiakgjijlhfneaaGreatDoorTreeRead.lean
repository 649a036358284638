/-
  A parser in memory, a call's kids in memory, and what a reader of nodes leaves behind. No program is walked here.
  The walks of the parser's small functions.
  The walk of the parser's word. Printed by gentreepar.py.
  The walk of the parser: a call, and an expression.
  The walk of the parser's expression. Printed by gentreeexpr.py.
  The walk of the reader of a text. Printed by gentreeparse.py.
-/
import Derived.Test.YtiakgjijlhfneaaGreatDoorTreePlain
import Derived.Test.YtiakgjijlhfneaaGreatDoorTreeNode
import Derived.Test.YtiakgjijlhfneaaGreatDoorGrowBase
import Derived.Test.YtiakgjijlhfneaaGreatDoorLexRefLex
import Derived.Test.YtiakgjijlhfneaaGreatDoorTreeMayA
namespace Go.Proofs.YtiakgjijlhfneaaGreatDoor
open Go.RowKit
/-- a parser at b: its words, how far it is, an error -/
structure Psr (T E : TypeId) (w : World) (b : Nat) (tv : Value) (TL : List Tok) (i : Nat) (e : Int) : Prop where
  box : Hx w b [tv, .int .i64 i, .int .i64 e] T
  row : ∃ base, TokRow E w base tv TL
  ne : tv.ownBlock ≠ some b
section
variable {T E : TypeId} {w w' : World} {b : Nat} {tv : Value} {TL : List Tok} {i : Nat} {e : Int}
theorem Psr.kept (h : Psr T E w b tv TL i e) (hg : w.grownBy w' none) : Psr T E w' b tv TL i e := ⟨h.box.kept hg (by simp), by obtain ⟨base, hr⟩ := h.row; exact ⟨base, hr.kept0 hg⟩, h.ne⟩
theorem Psr.alloc (h : Psr T E w b tv TL i e) (o : Obj) : Psr T E (w.alloc o) b tv TL i e := h.kept (World.grownBy_alloc w o none)
theorem Psr.drew (h : Psr T E w b tv TL i e) : Psr T E w.drew b tv TL i e := h.kept (G.drew (G.refl w none))
theorem Psr.drewN (h : Psr T E w b tv TL i e) (n : Nat) : Psr T E (w.drewN n) b tv TL i e := h.kept (G.drewN (G.refl w none) n)
theorem Psr.lt (h : Psr T E w b tv TL i e) : b < w.heap.size := h.box.lt
/-- another row has turned, which lies behind the parser's blocks -/
theorem Psr.kept_row {row : Option Nat} {base : Nat} (h : Psr T E w b tv TL i e) (hg : w.grownBy w' row) (hb : ∀ c, row = some c → base ≤ c) (hlt : b < base) (ht : ∀ c, tv.ownBlock = some c → c < base) : Psr T E w' b tv TL i e := by
  refine ⟨h.box.kept hg (fun e => by have := hb b e.symm; omega), ?_, h.ne⟩
  obtain ⟨bs, hr⟩ := h.row
  refine ⟨bs, hr.kept hg ?_⟩
  cases hc : tv.ownBlock with
  | none => exact Or.inl rfl
  | some c => exact Or.inr (fun e => by have := hb c e.symm; have := ht c hc; omega)
theorem Psr.own_lt (h : Psr T E w b tv TL i e) : ∀ c, tv.ownBlock = some c → c < w.heap.size := fun c hc => by
  obtain ⟨bs, hr⟩ := h.row
  exact (hr.lt c hc).2
/-- the parser moves on -/
theorem Psr.at {j : Nat} (h : Psr T E w b tv TL i e) : Psr T E (w.setCell ⟨b, 1, none⟩ (.int .i64 j)) b tv TL j e := by
  refine ⟨(h.box.set 1 _).conv rfl, ?_, h.ne⟩
  obtain ⟨bs, hr⟩ := h.row
  exact ⟨bs, hr.set h.ne 1 _⟩
theorem Psr.err {x : Int} (h : Psr T E w b tv TL i e) : Psr T E (w.setCell ⟨b, 2, none⟩ (.int .i64 x)) b tv TL i x := by
  refine ⟨(h.box.set 2 _).conv rfl, ?_, h.ne⟩
  obtain ⟨bs, hr⟩ := h.row
  exact ⟨bs, hr.set h.ne 2 _⟩
theorem Psr.at1 (h : Psr T E w b tv TL i e) : Psr T E (w.setCell ⟨b, 1, none⟩ (.int .i64 ((i : Int) + 1))) b tv TL (i + 1) e := Psr.at (j := i + 1) h
theorem Psr.at2 (h : Psr T E w b tv TL (i + 1) e) : Psr T E (w.setCell ⟨b, 1, none⟩ (.int .i64 ((i : Int) + 1 + 1))) b tv TL (i + 1 + 1) e := by
  have := Psr.at1 h
  rw [show (((i + 1 : Nat) : Int) + 1) = (i : Int) + 1 + 1 from by omega] at this
  exact this
theorem Psr.other (h : Psr T E w b tv TL i e) {c : Nat} (hne : b ≠ c) (ht : tv.ownBlock ≠ some c) (k : Nat) (u : Value) : Psr T E (w.setCell ⟨c, k, none⟩ u) b tv TL i e := by
  refine ⟨h.box.other hne k u, ?_, h.ne⟩
  obtain ⟨bs, hr⟩ := h.row
  exact ⟨bs, hr.set ht k _⟩
/-- a parser, as far as the walk has come -/
theorem Psr.go (h : Psr T E w b tv TL i e := by (repeat first | with_reducible assumption | with_reducible apply Psr.drewN | with_reducible apply Psr.drew | with_reducible apply Psr.at1 | with_reducible apply Psr.at2 | with_reducible apply Psr.err | with_reducible apply Psr.alloc | (with_reducible apply Psr.other; rotate_left; (first | assumption | omega); (first | assumption | omega)))) : Psr T E w b tv TL i e := h
/-- how its row of words lies -/
theorem Psr.form (h : Psr T E w b tv TL i e) : ∃ A cap, tv = .slice A TL.length cap ∧ TL.length ≤ cap ∧ ∀ k (hk : k < TL.length), ∃ g, A = some ⟨g, 0, none⟩ ∧ g ≠ b ∧ g < w.heap.size ∧ w.cell? ⟨g, k * 2, none⟩ = some (.int .i64 TL[k].1) ∧ w.cell? ⟨g, k * 2 + 1, none⟩ = some (.string TL[k].2) := by
  obtain ⟨bs, hr⟩ := h.row
  rcases hr.form with ⟨rfl, rfl⟩ | ⟨g, cap, rfl, _, hg, hc, hcell⟩
  · exact ⟨none, 0, rfl, Nat.le_refl _, fun k hk => absurd hk (by simp)⟩
  · refine ⟨_, cap, rfl, hc, fun k hk => ⟨g, rfl, fun e => ?_, hg, hcell k hk⟩⟩
    exact h.ne (by rw [← e]; rfl)
end
theorem drop_hd {TL : List Tok} {i : Nat} (h : i < TL.length) : TL.drop i = TL[i] :: TL.drop (i + 1) := List.drop_eq_getElem_cons h
theorem headK_drop (TL : List Tok) (i : Nat) : headK (TL.drop i) = if h : i < TL.length then TL[i].1 else 0 := by
  by_cases h : i < TL.length
  · rw [dif_pos h, drop_hd h]; rfl
  · rw [dif_neg h, List.drop_eq_nil_of_le (by omega)]; rfl
/-! a call's kids -/
abbrev NdP := Nd × Option Addr × Nat
def ndC (p : NdP) : List Value := nodeC p.1.kind p.1.text p.1.num p.2.1 p.1.kids.length p.2.2
def nodeE : Elt NdP := { cells := ndC, k := 4, zero := .agg #[.int .i64 0, .string ⟨#[]⟩, .int .i64 0, .slice none 0 0], bytes := 56, len := fun _ => rfl, one := fun _ u h => (by simp [ndC, nodeC] at h; rcases h with rfl | rfl | rfl | rfl <;> rfl), zc := rfl, pos := by omega, small := by omega }
theorem info_node : (Tryz.prog.info? 24).map (fun i => (i.zero, i.size, i.bytes)) = some (some nodeE.zero, nodeE.k, nodeE.bytes) := by kernel_rfl
/-- kids in a row of the call's own, and behind them their own rows -/
structure Kids (w : World) (base : Nat) (v : Value) (acc : List NdP) : Prop where
  own : EOwn nodeE 24 w base v acc
  kid : ∀ p ∈ acc, NdV w (fun k => base ≤ k ∧ some k ≠ v.ownBlock) p.1 (ndC p)
section
variable {w w' : World} {base : Nat} {v : Value} {acc : List NdP}
theorem Kids.nil (w : World) (base : Nat) : Kids w base (.slice none 0 0) [] := ⟨EOwn.nil _ _ _ _, fun p hp => by cases hp⟩
theorem Kids.kept (h : Kids w base v acc) (hg : w.grownBy w' none) : Kids w' base v acc := ⟨h.own.kept0 hg, fun p hp => (h.kid p hp).kept hg⟩
theorem Kids.alloc (h : Kids w base v acc) (o : Obj) : Kids (w.alloc o) base v acc := h.kept (World.grownBy_alloc w o none)
theorem Kids.drew (h : Kids w base v acc) : Kids w.drew base v acc := h.kept (G.drew (G.refl w none))
theorem Kids.drewN (h : Kids w base v acc) (n : Nat) : Kids (w.drewN n) base v acc := h.kept (G.drewN (G.refl w none) n)
theorem Kids.lt (h : Kids w base v acc) : ∀ k, v.ownBlock = some k → base ≤ k ∧ k < w.heap.size := h.own.lt
/-- a block ahead of them has turned -/
theorem Kids.kept_b {b : Nat} (h : Kids w base v acc) (hg : w.grownBy w' (some b)) (hb : b < base) : Kids w' base v acc := by
  refine ⟨h.own.kept hg ?_, fun p hp => (h.kid p hp).row hg (fun k hk e => by have := Option.some.inj e; omega)⟩
  cases hc : v.ownBlock with
  | none => exact Or.inl rfl
  | some c => exact Or.inr (fun e => by have := Option.some.inj e; have := (h.own.lt c hc).1; omega)
theorem Kids.form (h : Kids w base v acc) : ∃ A c, v = .slice A acc.length c := by
  rcases h.own.form with ⟨rfl, rfl⟩ | ⟨g, cap, rfl, _⟩
  · exact ⟨none, 0, rfl⟩
  · exact ⟨_, cap, rfl⟩
/-- the call as a node -/
theorem Kids.node {t : ByteArray} {A : Option Addr} {n c : Nat} (h : Kids w base (.slice A n c) acc) (ht : t.size ≤ 140737488351232) : n = acc.length ∧ NdV w (fun k => base ≤ k) (.mk 1 t 0 (acc.map (·.1))) (nodeC 1 t 0 A n c) := by
  have hlm : (acc.map (·.1)).length = acc.length := List.length_map _
  rcases h.own.form with ⟨e, rfl⟩ | ⟨g, cap, e, hb, hlt, hc, hm, hcell⟩
  · simp only [Value.slice.injEq] at e
    obtain ⟨rfl, rfl, rfl⟩ := e
    exact ⟨rfl, .mk 1 t 0 [] none 0 0 0 (fun _ => []) (by omega) ht (Nat.le_refl _) (Nat.zero_le _) (fun h => absurd h (by simp)) (fun i hi => absurd hi (by simp)) (fun i hi => absurd hi (by simp))⟩
  · simp only [Value.slice.injEq] at e
    obtain ⟨rfl, rfl, rfl⟩ := e
    refine ⟨rfl, ?_⟩
    have key := NdV.mk (w := w) (ok := fun k => base ≤ k) 1 t 0 (acc.map (·.1)) (some ⟨g, 0, none⟩) c g 0 (fun i => ndC (acc.getD i (Nd.none, none, 0))) (by omega) ht (by rw [hlm]; exact hc) hm (fun _ => ⟨rfl, hlt, hb⟩) (fun i hi j u hu => by
      rw [hlm] at hi
      rw [List.getD_eq_getElem?_getD, List.getElem?_eq_getElem hi] at hu
      rw [Nat.zero_add]
      exact hcell i hi j u hu) (fun i hi => by
      rw [hlm] at hi
      rw [List.getElem_map, List.getD_eq_getElem?_getD, List.getElem?_eq_getElem hi]
      exact (h.kid _ (List.getElem_mem hi)).mono (fun k _ hk => hk.1))
    rw [hlm] at key
    exact key
end
/-- an append that tells as well where the row lies behind it -/
theorem run_append_own_new {P : Program} {w : World} (base : Nat) (t ty e : TypeId) (i : TypeInfo) (z : Value) (size bytes : Nat) (ht : P.underlying t = some (.slice e)) (hi : P.info? e = some i) (hz : i.zero = some z)
    (hsize : i.size = size) (hby : i.bytes = bytes) (hzs : z.cells.size = size) (hsz : 0 < size)
    (v : Value) (n : Nat) (xs : List Value) (hown : w.ownsRow base e size v n xs)
    (a : Addr) (m c : Nat) (news : List Value) (hl : news.length = m * size) (hnews : ∀ j u, news[j]? = some u → w.cell? (a.add j) = some u) (h1 : ∀ u ∈ news, u.oneCell' = true)
    (h63 : n + m ≤ maxLen) (hbytes : (n + m) * bytes ≤ 140737488355328) (hbase : base ≤ w.heap.size) :
    ∃ v' w', (Builtin.append_ #[t, t] ty #[v, .slice (some a) m c]).run P w = .ok v' w' ∧ w'.ownsRow base e size v' (n + m) (xs ++ news) ∧ w.grownBy w' v.ownBlock ∧ (∀ k, v'.ownBlock = some k → v.ownBlock = some k ∨ w.heap.size ≤ k) := by
  obtain ⟨v', w', hr, h2, h3, _⟩ := run_append_own (P := P) (w := w) base t ty e i z size bytes ht hi hz hsize hby hzs hsz v n xs hown a m c news hl hnews h1 h63 hbytes hbase
  refine ⟨v', w', hr, h2, h3, ?_⟩
  have hsmall : n + m ≤ 9223372036854775807 := by simp only [maxLen] at h63; omega
  rcases hown.2 with ⟨rfl, rfl⟩ | ⟨g, cap, cur, rfl, hbg, hg, hnc, hcm, hcs, htake⟩
  · have hx : xs = [] := List.eq_nil_of_length_eq_zero (by simpa using hown.1)
    subst hx
    obtain ⟨v2, w2, hr2, g2, _, _⟩ := run_append_own (P := P) (w := w) w.heap.size t ty e i z size bytes ht hi hz hsize hby hzs hsz (.slice none 0 0) 0 [] (World.ownsRow_nil _ _ _ _) a m c news hl hnews h1 h63 hbytes (Nat.le_refl _)
    rw [hr] at hr2
    cases hr2
    exact fun k hk => Or.inr (World.ownsRow.lt g2 k hk).1
  · subst hsize
    subst hby
    by_cases hroom : n + m ≤ cap
    · have hfit : n * i.size + news.length ≤ cur.size := by rw [hl, hcs, ← Nat.add_mul]; exact Nat.mul_le_mul_right _ hroom
      have hr2 := run_append_room (P := P) w t ty e i ht hi g n cap cur hg a m c news hl hnews h1 hroom hfit
      rw [hr] at hr2
      cases hr2
      exact fun k hk => Or.inl hk
    · have holds : ∀ j u, xs[j]? = some u → w.cell? ((⟨g, 0, none⟩ : Addr).add j) = some u := hown.cells (g := g) rfl
      have hr2 := run_append_grow (P := P) w t ty e i z ht hi hz ⟨g, 0, none⟩ n cap xs hown.1 holds a m c news hl hnews (by omega) (by omega) (growslice_fits (by omega) hbytes)
      rw [hr] at hr2
      cases hr2
      intro k hk
      simp only [Value.ownBlock, Option.some.injEq] at hk
      exact Or.inr (by omega)
/-- one kid more -/
theorem wpList_append_kid {P : Program} {ops : Array Oper} {rest : List Oper} {o : Oper} {a : Act} {Q : Exit → Act → World → Prop} {w : World} (hgd : o.guard = none) (s x : Operand) (t : TypeId)
    (ho : o.op = .call { callee := .builtin .append, args := #[s, x], argTypes := #[t, t] }) (ht : P.underlying t = some (.slice 24)) (hE : (P.info? 24).map (fun i => (i.zero, i.size, i.bytes)) = some (some nodeE.zero, nodeE.k, nodeE.bytes))
    (base : Nat) (v : Value) (acc : List NdP) (hs : a.eval s = v) (g : Nat) (p : NdP) (T : TypeId) (hx : a.eval x = .slice (some ⟨g, 0, none⟩) 1 1)
    (h : ∀ A c w', Kids w' base (.slice A (acc.length + 1) c) (acc ++ [p]) → w.grownBy w' v.ownBlock → wpList P ops Q rest (a.put o.dst (.slice A (acc.length + 1) c)) w')
    (hside : Kids w base v acc ∧ Hx w g (ndC p) T ∧ NdV w (fun k => base ≤ k ∧ some k ≠ v.ownBlock) p.1 (ndC p) ∧ base ≤ w.heap.size ∧ acc.length ≤ 100000) : wpList P ops Q (o :: rest) a w := by
  obtain ⟨i0, hi, hz0, hz1, hz2⟩ := info_parts hE
  obtain ⟨h1, h2, hp, h3, h4⟩ := hside
  refine wpList_plain hgd fun K hK => ?_
  obtain ⟨v', w', hr, hown, hgr, hnew⟩ := run_append_own_new (P := P) (w := w) base t o.type 24 i0 nodeE.zero nodeE.k nodeE.bytes ht hi hz0 hz1 hz2 nodeE.zc nodeE.pos v acc.length (acc.flatMap nodeE.cells) h1.own.own ⟨g, 0, none⟩ 1 1 (ndC p) rfl (by
    intro j u hu
    have hadd : (⟨g, 0, none⟩ : Addr).add j = ⟨g, j, none⟩ := by unfold Addr.add; split <;> simp_all
    rw [hadd, h2.cell]; exact hu) (nodeE.one p) (by unfold maxLen; omega) (by
    have h5 : (acc.length + 1) * nodeE.bytes ≤ (100000 + 1) * 56 := Nat.mul_le_mul (by omega) (Nat.le_refl _)
    omega) h3
  have hk : Kids w' base v' (acc ++ [p]) := by
    have e : [p].flatMap nodeE.cells = ndC p := by rw [List.flatMap_cons, List.flatMap_nil, List.append_nil]; rfl
    refine ⟨by unfold EOwn; rw [List.length_append, List.length_singleton, List.flatMap_append, e]; exact hown, fun q hq => ?_⟩
    have hq : NdV w (fun k => base ≤ k ∧ some k ≠ v.ownBlock) q.1 (ndC q) := by
      rcases List.mem_append.1 hq with hq | hq
      · exact h1.kid q hq
      · rw [List.mem_singleton] at hq; subst hq; exact hp
    have hq2 := hq.mono (ok' := fun k => (base ≤ k ∧ some k ≠ v.ownBlock) ∧ k < w.heap.size) (fun k h1 h2 => ⟨h2, h1⟩)
    have hq3 := hq2.row hgr (fun k hk => hk.1.2)
    refine hq3.mono (fun k _ hk => ⟨hk.1.1, fun e => ?_⟩)
    rcases hnew k e.symm with g | g
    · exact hk.1.2 g.symm
    · have := hk.2; omega
  obtain ⟨A, c, rfl⟩ := hk.form
  rw [List.length_append, List.length_singleton] at hk hr
  unfold Oper.wp execOp
  simp only [ho, resolve, invoke, builtin, Sem.run_bind, Sem.run_pure, Result.andThen_ok, List.map_toArray, List.map_cons, List.map_nil, hs, hx, hr]
  exact hK _ _ (by
    have := h A c w' hk hgr
    simpa only [List.length_append, List.length_singleton] using this)
/-- what a reader of a node leaves behind -/
def RdP (T E : TypeId) (w : World) (b : Nat) (tv : Value) (TL : List Tok) : Rd Nd → Ending → World → Prop
  | .ok a r, e, w' => ∃ j A c, r = TL.drop j ∧ j ≤ TL.length ∧ e = .returned (.agg #[.int .i64 a.kind, .string a.text, .int .i64 a.num, .slice A a.kids.length c]) ∧ NdV w' (fun k => w.heap.size ≤ k) a (nodeC a.kind a.text a.num A a.kids.length c) ∧ Psr T E w' b tv TL j 0 ∧ w.grownBy w' (some b)
  | .err x, e, w' => ∃ j, e = .returned (.agg #[.int .i64 0, .string ⟨#[]⟩, .int .i64 0, .slice none 0 0]) ∧ Psr T E w' b tv TL j x ∧ w.grownBy w' (some b)
theorem RdP.ret {T E : TypeId} {w w' : World} {b : Nat} {tv : Value} {TL : List Tok} {R : Rd Nd} {e : Ending} (h : RdP T E w b tv TL R e w') : ∃ v, e = .returned v := by
  cases R with
  | ok a r => obtain ⟨j, A, c, _, _, rfl, _⟩ := h; exact ⟨_, rfl⟩
  | err x => obtain ⟨j, rfl, _⟩ := h; exact ⟨_, rfl⟩
theorem RdP.from {T E : TypeId} {w w1 w' : World} {b : Nat} {tv : Value} {TL : List Tok} {R : Rd Nd} {e : Ending} (hg : w.grownBy w1 (some b)) (h : RdP T E w1 b tv TL R e w') : RdP T E w b tv TL R e w' := by
  cases R with
  | ok a r =>
    obtain ⟨j, A, c, h1, h2, h3, h4, h5, h6⟩ := h
    exact ⟨j, A, c, h1, h2, h3, h4.mono (fun k _ hk => Nat.le_trans hg.size hk), h5, G.trans hg h6⟩
  | err x =>
    obtain ⟨j, h1, h2, h3⟩ := h
    exact ⟨j, h1, h2, G.trans hg h3⟩
/-- what a reader of a text leaves behind -/
def PaP (w : World) : Rd Nd → Ending → World → Prop
  | .ok a _, e, w' => ∃ A c, e = .returned (.tuple #[.agg #[.int .i64 a.kind, .string a.text, .int .i64 a.num, .slice A a.kids.length c], .int .i64 0]) ∧ NdV w' (fun _ => True) a (nodeC a.kind a.text a.num A a.kids.length c) ∧ w.grownBy w' none
  | .err x, e, w' => e = .returned (.tuple #[.agg #[.int .i64 0, .string ⟨#[]⟩, .int .i64 0, .slice none 0 0], .int .i64 x]) ∧ w.grownBy w' none
/-- a node without kids -/
theorem NdV.leaf (w : World) (ok : Nat → Prop) (k : Int) {t : ByteArray} {n : Int} (hn : -9223372036854775808 ≤ n ∧ n ≤ 9223372036854775807) (ht : t.size ≤ 140737488351232) : NdV w ok (.mk k t n []) (nodeC k t n none 0 0) :=
  .mk k t n [] none 0 0 0 (fun _ => []) hn ht (Nat.le_refl _) (Nat.zero_le _) (fun h => absurd h (by simp)) (fun i hi => absurd hi (by simp)) (fun i hi => absurd hi (by simp))
end Go.Proofs.YtiakgjijlhfneaaGreatDoor
namespace Go.Proofs.YtiakgjijlhfneaaGreatDoor
open Go.RowKit
def tokAt (TL : List Tok) (i : Nat) : Tok := TL.getD i (0, noText)
theorem tokAt_lt {TL : List Tok} {i : Nat} (h : i < TL.length) : tokAt TL i = TL[i] := by unfold tokAt; simp [List.getD, List.getElem?_eq_getElem h]
theorem tokAt_end {TL : List Tok} {i : Nat} (h : ¬ i < TL.length) : tokAt TL i = (0, noText) := by unfold tokAt; simp [List.getD, List.getElem?_eq_none (Nat.le_of_not_lt h)]
theorem headK_tok (TL : List Tok) (i : Nat) : headK (TL.drop i) = (tokAt TL i).1 := by
  rw [headK_drop]
  by_cases h : i < TL.length
  · rw [dif_pos h, tokAt_lt h]
  · rw [dif_neg h, tokAt_end h]
theorem field_tok (k : Int) (t : ByteArray) (w : World) : (Instr.field 66 (.agg #[.int .i64 k, .string t]) 0).run Tryz.prog w = .ok (.int .i64 k) w := by kernel_rfl
section
variable {b : Nat} {tv : Value} {TL : List Tok} {i : Nat} {e : Int} {w : World} (hl : TL.length ≤ 100000) (hi : i ≤ TL.length) (h : Psr 44 66 w b tv TL i e)
include hl hi h
set_option maxRecDepth 100000 in
set_option maxHeartbeats 4000000 in
theorem now_any : Calls Tryz.prog 31 #[.pointer (some ⟨b, 0, none⟩)] w fun e w' => e = .returned (.agg #[.int .i64 (tokAt TL i).1, .string (tokAt TL i).2]) ∧ w.grownBy w' none := by
  have HG := G.refl w none
  have hl2 := hl
  obtain ⟨A, cap, rfl, hc, hcell⟩ := h.form
  have HC := Lib.hid hcell; clear hcell
  have hs := h.box
  clear h
  have hs_0 := hs.cell 0; have hs_1 := hs.cell 1; have hs_2 := hs.cell 2; have hs_l := hs.lt
  by_cases hlt : i < TL.length
  · obtain ⟨g, rfl, hgb, hgl, x0, x1⟩ := HC.out i hlt
    rw [tokAt_lt hlt]
    generalize TL[i] = t at *
    go_enter Tryz.func31, Tryz.ntmps31
    go_wp2_with fail
    go_quiet (fail)
    go_wp2_with fail
    go_region
    all_goals (go_wp2_with fail; refine ret_cell [.int .i64 t.1, .string t.2] w.heap.size 66 rfl rfl (Tryz.isAgg66 _) (Tryz.sizeOf66 _) rfl ?_ ⟨rfl, (by exact G.go HG)⟩; exact Hx.go2)
  · rw [tokAt_end hlt]
    go_enter Tryz.func31, Tryz.ntmps31
    go_wp2_with fail
    go_quiet (fail)
    go_wp2_with fail
    refine ret_cell [.int .i64 0, .string noText] w.heap.size 66 rfl rfl (Tryz.isAgg66 _) (Tryz.sizeOf66 _) rfl ?_ ⟨rfl, (by exact G.go HG)⟩
    exact Hx.go2
set_option maxRecDepth 100000 in
set_option maxHeartbeats 4000000 in
theorem takes_no {k : Int} (hk : ¬ ((tokAt TL i).1 : Int) = k) : Calls Tryz.prog 33 #[.pointer (some ⟨b, 0, none⟩), .int .i64 k] w fun e w' => e = .returned (.bool false) ∧ w.grownBy w' none := by
  have HG := G.refl w none
  have HN := Lib.hid (now_any hl hi h)
  have hft := field_tok
  have hk2 : (((tokAt TL i).1 : Int) != k) = true := by simpa using hk
  clear hk h
  generalize tokAt TL i = t at *
  go_enter Tryz.func33, Tryz.ntmps33
  go_wp2_with (go_at_call 31; (with_reducible refine HN.out.mono ?_); rintro e wn ⟨rfl, hgn⟩; replace HG := G.trans (w := w) (by exact G.go HG) hgn; clear hgn)
  go_ret
  exact ⟨rfl, (by exact G.go HG)⟩
set_option maxRecDepth 100000 in
set_option maxHeartbeats 4000000 in
theorem takes_yes {k : Int} (hk : ((tokAt TL i).1 : Int) = k) : Calls Tryz.prog 33 #[.pointer (some ⟨b, 0, none⟩), .int .i64 k] w fun x w' => x = .returned (.bool true) ∧ Psr 44 66 w' b tv TL (i + 1) e ∧ w.grownBy w' (some b) := by
  have HG := G.refl w none
  have HN := Lib.hid (now_any hl hi h)
  have hft := field_tok
  have hk2 : (((tokAt TL i).1 : Int) != k) = false := by simpa using hk
  clear hk
  generalize tokAt TL i = t at *
  go_enter Tryz.func33, Tryz.ntmps33
  go_wp2_with (go_at_call 31; (with_reducible refine HN.out.mono ?_); rintro e wn ⟨rfl, hgn⟩; replace h := h.kept (G.trans (w := w) (by exact G.go HG) hgn); replace HG := G.any (G.trans (w := w) (by exact G.go HG) hgn) (some b); have hs := h.box; have hs_1 := hs.cell 1; have hs_f1 := hs.free 1; have hs_l := hs.lt; clear hgn)
  go_ret
  exact ⟨rfl, h.at1, G.set HG _ (Or.inr rfl)⟩
end
section
variable {b : Nat} {tv : Value} {TL : List Tok} {i : Nat} {w : World} (h : Psr 44 66 w b tv TL i 0)
include h
set_option maxHeartbeats 4000000 in
theorem fail_any (x : Int) : Calls Tryz.prog 21 #[.pointer (some ⟨b, 0, none⟩), .int .i64 x] w fun e w' => e = .returned (.agg #[.int .i64 0, .string ⟨#[]⟩, .int .i64 0, .slice none 0 0]) ∧ Psr 44 66 w' b tv TL i x ∧ w.grownBy w' (some b) := by
  have HG := G.refl w (some b)
  have hs := h.box
  have hs_2 := hs.cell 2; have hs_f2 := hs.free 2; have hs_l := hs.lt
  go_enter Tryz.func21, Tryz.ntmps21
  go_wp2_with fail
  refine ret_cell [.int .i64 0, .string ⟨#[]⟩, .int .i64 0, .slice none 0 0] w.heap.size 24 rfl rfl (Tryz.isAgg24 _) (Tryz.sizeOf24 _) rfl ?_ ?_
  · exact Hx.go2
  · exact ⟨rfl, Psr.go, (by exact G.go HG)⟩
end
/-- a word that is no call -/
theorem word_parts (t : ByteArray) : wordS t = match parseO t with
    | some n => some (.mk 3 ⟨#[]⟩ n [])
    | none => if t = trueB then some (.mk 5 ⟨#[]⟩ 1 []) else if t = falseB then some (.mk 5 ⟨#[]⟩ 0 []) else if pathB t then some (.mk 2 t 0 []) else none := rfl
def wordR (t : ByteArray) (r : List Tok) : Rd Nd := match wordS t with | some a => .ok a r | none => .err 8
/-- a leaf handed back -/
theorem RdP.leaf {T E : TypeId} {w w' : World} {b : Nat} {tv : Value} {TL : List Tok} {i : Nat} {k n : Int} {t : ByteArray} {e : Ending} (hi : i ≤ TL.length) (he : e = .returned (.agg #[.int .i64 k, .string t, .int .i64 n, .slice none 0 0])) (hn : -9223372036854775808 ≤ n ∧ n ≤ 9223372036854775807) (ht : t.size ≤ 140737488351232)
    (hp : Psr T E w' b tv TL i 0) (hg : w.grownBy w' (some b)) : RdP T E w b tv TL (.ok (.mk k t n []) (TL.drop i)) e w' :=
  ⟨i, none, 0, rfl, hi, he, NdV.leaf w' _ k hn ht, hp, hg⟩
theorem word_none {t : ByteArray} {r : List Tok} (h : wordS t = none) : wordR t r = .err 8 := by unfold wordR; rw [h]
theorem word_some {t : ByteArray} {r : List Tok} {a : Nd} (h : wordS t = some a) : wordR t r = .ok a r := by unfold wordR; rw [h]
end Go.Proofs.YtiakgjijlhfneaaGreatDoor
namespace Go.Proofs.YtiakgjijlhfneaaGreatDoor
open Go.RowKit
set_option maxHeartbeats 8000000 in
set_option maxRecDepth 100000 in
theorem tword_any {b : Nat} {tv : Value} {TL : List Tok} {i : Nat} {w : World} (hi : i ≤ TL.length) (h : Psr 44 66 w b tv TL i 0) (t : ByteArray) (ht : t.size ≤ 1000) :
    Calls Tryz.prog 35 #[.pointer (some ⟨b, 0, none⟩), .string t] w (RdP 44 66 w b tv TL (wordR t (TL.drop i))) := by
  have HG := G.refl w none
  have HPa := Lib.hid (fun w => path_any t w (by omega))
  have HPp := Lib.hid (fun w => parse_any t w (by omega))
  have HF := Lib.hid (fun w' (h : Psr 44 66 w' b tv TL i 0) => fail_any h 8)
  have hbl := h.lt
  have hne : b ≠ w.heap.size := by omega
  have hno : tv.ownBlock ≠ some w.heap.size := fun e => by have := h.own_lt _ e; omega
  replace h := Lib.hid h
  have c1 := text_const t trueB
  have c2 := text_const t falseB
  rw [show trueB.data.toList = [116, 114, 117, 101] from rfl] at c1
  rw [show falseB.data.toList = [102, 97, 108, 115, 101] from rfl] at c2
  have hw := word_parts t
  unfold parseV at HPp
  have HT := Lib.hid ht
  have HI := Lib.hid hi
  have hn := Hx.new w #[.int .i64 0, .string ⟨#[]⟩, .int .i64 0, .slice none 0 0] 24
  clear hi ht
  cases hy : parseO t with
  | some n =>
    rw [hy] at hw HPp
    rw [word_some hw]
    have hr := parse_range hy
    have hb : -4611686018427387904 ≤ n ∧ n ≤ 4611686018427387904 := by simpa [isR] using hr
    simp only [valV, valC, Option.isSome_some] at HPp
    clear hy hw hr
    go_enter Tryz.func35, Tryz.ntmps35
    go_wp2_with (go_at_call 54; (with_reducible refine (HPp.out _).mono ?_); rintro e wn ⟨rfl, hgn⟩; have hg2 := G.trans (w := w) (by exact G.go HG) hgn; replace hn := Hx.kept (by first | exact Hx.go hn | exact Hx.go2) hgn (by simp); have hn_0 := hn.cell 0; have hn_1 := hn.cell 1; have hn_2 := hn.cell 2; have hn_3 := hn.cell 3; have hn_f0 := hn.free 0; have hn_f1 := hn.free 1; have hn_f2 := hn.free 2; have hn_f3 := hn.free 3; have hn_l := hn.lt; replace HG := hg2; clear hg2 hgn)
    refine ret_cell [.int .i64 3, .string ⟨#[]⟩, .int .i64 n, .slice none 0 0] w.heap.size 24 rfl rfl (Tryz.isAgg24 _) (Tryz.sizeOf24 _) rfl (by first | exact Hx.go hn | exact Hx.go2) ?_
    exact RdP.leaf HI.out rfl (by omega) (by decide) (h.out.kept (by exact G.go HG)) (G.any (by exact G.go HG) _)
  | none =>
    rw [hy] at hw HPp
    simp only [valV, valC, Option.isSome_none] at HPp
    by_cases e1 : t = trueB
    · rw [if_pos e1] at hw
      rw [word_some hw]
      rw [decide_eq_true e1] at c1
      clear hy hw e1
      go_enter Tryz.func35, Tryz.ntmps35
      go_wp2_with (go_at_call 54; (with_reducible refine (HPp.out _).mono ?_); rintro e wn ⟨rfl, hgn⟩; have hg2 := G.trans (w := w) (by exact G.go HG) hgn; replace hn := Hx.kept (by first | exact Hx.go hn | exact Hx.go2) hgn (by simp); have hn_0 := hn.cell 0; have hn_1 := hn.cell 1; have hn_2 := hn.cell 2; have hn_3 := hn.cell 3; have hn_f0 := hn.free 0; have hn_f1 := hn.free 1; have hn_f2 := hn.free 2; have hn_f3 := hn.free 3; have hn_l := hn.lt; replace HG := hg2; clear hg2 hgn)
      refine ret_cell [.int .i64 5, .string ⟨#[]⟩, .int .i64 1, .slice none 0 0] w.heap.size 24 rfl rfl (Tryz.isAgg24 _) (Tryz.sizeOf24 _) rfl (by first | exact Hx.go hn | exact Hx.go2) ?_
      exact RdP.leaf HI.out rfl (by omega) (by decide) (h.out.kept (by exact G.go HG)) (G.any (by exact G.go HG) _)
    rw [if_neg e1] at hw
    rw [decide_eq_false e1] at c1
    clear e1
    by_cases e2 : t = falseB
    · rw [if_pos e2] at hw
      rw [word_some hw]
      rw [decide_eq_true e2] at c2
      clear hy hw e2
      go_enter Tryz.func35, Tryz.ntmps35
      go_wp2_with (go_at_call 54; (with_reducible refine (HPp.out _).mono ?_); rintro e wn ⟨rfl, hgn⟩; have hg2 := G.trans (w := w) (by exact G.go HG) hgn; replace hn := Hx.kept (by first | exact Hx.go hn | exact Hx.go2) hgn (by simp); have hn_0 := hn.cell 0; have hn_1 := hn.cell 1; have hn_2 := hn.cell 2; have hn_3 := hn.cell 3; have hn_f0 := hn.free 0; have hn_f1 := hn.free 1; have hn_f2 := hn.free 2; have hn_f3 := hn.free 3; have hn_l := hn.lt; replace HG := hg2; clear hg2 hgn)
      refine ret_cell [.int .i64 5, .string ⟨#[]⟩, .int .i64 0, .slice none 0 0] w.heap.size 24 rfl rfl (Tryz.isAgg24 _) (Tryz.sizeOf24 _) rfl (by first | exact Hx.go hn | exact Hx.go2) ?_
      exact RdP.leaf HI.out rfl (by omega) (by decide) (h.out.kept (by exact G.go HG)) (G.any (by exact G.go HG) _)
    rw [if_neg e2] at hw
    rw [decide_eq_false e2] at c2
    clear e2
    cases hp : pathB t
    · rw [hp] at HPa hw
      rw [if_neg (by simp)] at hw
      rw [word_none hw]
      clear hy hw hp
      go_enter Tryz.func35, Tryz.ntmps35
      go_wp2_with (first | (go_at_call 54; (with_reducible refine (HPp.out _).mono ?_); rintro e wn ⟨rfl, hgn⟩; have hg2 := G.trans (w := w) (by exact G.go HG) hgn; replace hn := Hx.kept (by first | exact Hx.go hn | exact Hx.go2) hgn (by simp); have hn_0 := hn.cell 0; have hn_1 := hn.cell 1; have hn_2 := hn.cell 2; have hn_3 := hn.cell 3; have hn_f0 := hn.free 0; have hn_f1 := hn.free 1; have hn_f2 := hn.free 2; have hn_f3 := hn.free 3; have hn_l := hn.lt; replace HG := hg2; clear hg2 hgn) | (go_at_call 55; (with_reducible refine (HPa.out _).mono ?_); rintro e wn ⟨rfl, hbn⟩; have hgn := G.of_below hbn; have hg2 := G.trans (w := w) (by exact G.go HG) hgn; replace hn := Hx.kept (by first | exact Hx.go hn | exact Hx.go2) hgn (by simp); have hn_0 := hn.cell 0; have hn_1 := hn.cell 1; have hn_2 := hn.cell 2; have hn_3 := hn.cell 3; have hn_f0 := hn.free 0; have hn_f1 := hn.free 1; have hn_f2 := hn.free 2; have hn_f3 := hn.free 3; have hn_l := hn.lt; replace HG := hg2; clear hg2 hgn) | (go_at_call 21; (with_reducible refine (HF.out _ (h.out.kept (by exact G.go HG))).mono ?_); rintro e wn ⟨rfl, hpn, hgn⟩; have hg2 := G.trans (w := w) (G.any (by exact G.go HG) (some b)) hgn; replace hn := Hx.kept (by first | exact Hx.go hn | exact Hx.go2) hgn (fun e => by have := Option.some.inj e; omega); have hn_0 := hn.cell 0; have hn_1 := hn.cell 1; have hn_2 := hn.cell 2; have hn_3 := hn.cell 3; have hn_f0 := hn.free 0; have hn_f1 := hn.free 1; have hn_f2 := hn.free 2; have hn_f3 := hn.free 3; have hn_l := hn.lt; replace HG := hg2; clear hg2 hgn))
      refine ret_cell [.int .i64 0, .string ⟨#[]⟩, .int .i64 0, .slice none 0 0] w.heap.size 24 rfl rfl (Tryz.isAgg24 _) (Tryz.sizeOf24 _) rfl (by first | exact Hx.go hn | exact Hx.go2) ?_
      exact ⟨i, rfl, Psr.go, (by exact G.go HG)⟩
    · rw [hp] at HPa hw
      rw [if_pos rfl] at hw
      rw [word_some hw]
      clear hy hw hp
      go_enter Tryz.func35, Tryz.ntmps35
      go_wp2_with (first | (go_at_call 54; (with_reducible refine (HPp.out _).mono ?_); rintro e wn ⟨rfl, hgn⟩; have hg2 := G.trans (w := w) (by exact G.go HG) hgn; replace hn := Hx.kept (by first | exact Hx.go hn | exact Hx.go2) hgn (by simp); have hn_0 := hn.cell 0; have hn_1 := hn.cell 1; have hn_2 := hn.cell 2; have hn_3 := hn.cell 3; have hn_f0 := hn.free 0; have hn_f1 := hn.free 1; have hn_f2 := hn.free 2; have hn_f3 := hn.free 3; have hn_l := hn.lt; replace HG := hg2; clear hg2 hgn) | (go_at_call 55; (with_reducible refine (HPa.out _).mono ?_); rintro e wn ⟨rfl, hbn⟩; have hgn := G.of_below hbn; have hg2 := G.trans (w := w) (by exact G.go HG) hgn; replace hn := Hx.kept (by first | exact Hx.go hn | exact Hx.go2) hgn (by simp); have hn_0 := hn.cell 0; have hn_1 := hn.cell 1; have hn_2 := hn.cell 2; have hn_3 := hn.cell 3; have hn_f0 := hn.free 0; have hn_f1 := hn.free 1; have hn_f2 := hn.free 2; have hn_f3 := hn.free 3; have hn_l := hn.lt; replace HG := hg2; clear hg2 hgn))
      refine ret_cell [.int .i64 2, .string t, .int .i64 0, .slice none 0 0] w.heap.size 24 rfl rfl (Tryz.isAgg24 _) (Tryz.sizeOf24 _) rfl (by first | exact Hx.go hn | exact Hx.go2) ?_
      exact RdP.leaf HI.out rfl (by omega) (by have := HT.out; omega) (h.out.kept (by exact G.go HG)) (G.any (by exact G.go HG) _)
end Go.Proofs.YtiakgjijlhfneaaGreatDoor
namespace Go.Proofs.YtiakgjijlhfneaaGreatDoor
open Go.RowKit
/-- what a call's kids become -/
def callQ (f : Nat) (t : ByteArray) (ts : List Tok) : Rd Nd := if headK ts = 4 then .ok (.mk 1 t 0 []) ts.tail else callR t (kidsS (exprS f) (ts.length + 1) ts)
theorem exprS_callQ {f : Nat} {t u : Tok} {q : List Tok} (h1 : t.1 = 1) (hid : identB t.2 = true) (h3 : u.1 = 3) : exprS (f + 1) (t :: u :: q) = callQ f t.2 q := by
  rw [exprS_call h1 hid h3]
  unfold callQ callR
  rfl
theorem tail_drop (TL : List Tok) (i : Nat) : (TL.drop i).tail = TL.drop (i + 1) := by rw [List.tail_drop]
/-- what is left of a call behind so many kids -/
def CallRel (f : Nat) (t : ByteArray) (TL : List Tok) (Q : Rd Nd) (acc : List NdP) (j : Nat) : Prop := ∃ nb, callR t (kidsApp (acc.map (·.1)) (kidsS (exprS f) nb (TL.drop j))) = Q ∧ TL.length < nb + j ∧ acc.length ≤ j ∧ j ≤ TL.length
theorem CallRel.start {f : Nat} {t : ByteArray} {TL : List Tok} {i : Nat} (hi : i ≤ TL.length) (h4 : ¬ headK (TL.drop i) = 4) : CallRel f t TL (callQ f t (TL.drop i)) [] i := by
  refine ⟨(TL.drop i).length + 1, ?_, by rw [List.length_drop]; omega, by simp, hi⟩
  unfold callQ
  rw [if_neg h4, List.map_nil, kidsApp_nil]
section
variable {f : Nat} {t : ByteArray} {TL : List Tok} {Q : Rd Nd} {acc : List NdP} {j : Nat} (h : CallRel f t TL Q acc j)
include h
theorem CallRel.bad {x : Int} (he : exprS f (TL.drop j) = .err x) : Q = .err x := by
  obtain ⟨nb, h1, h2, h3, h4⟩ := h
  obtain ⟨g, rfl⟩ : ∃ g, nb = g + 1 := ⟨nb - 1, by omega⟩
  rw [kidsS_err he] at h1
  exact h1.symm
theorem CallRel.more {a : Nd} {k : Nat} {p : NdP} (hp : p.1 = a) (he : exprS f (TL.drop j) = .ok a (TL.drop k)) (hk : k < TL.length) : (TL[k].1 = 4 → Q = .ok (.mk 1 t 0 ((acc ++ [p]).map (·.1))) (TL.drop (k + 1))) ∧ (TL[k].1 = 5 → CallRel f t TL Q (acc ++ [p]) (k + 1)) ∧ (¬ TL[k].1 = 4 → ¬ TL[k].1 = 5 → Q = .err 8) := by
  obtain ⟨nb, h1, h2, h3, h4⟩ := h
  obtain ⟨g, rfl⟩ : ∃ g, nb = g + 1 := ⟨nb - 1, by omega⟩
  obtain ⟨m, hm1, hm2, hm3⟩ := expr_reach h4 he
  have hjk : j < k := by
    have := congrArg List.length hm3
    rw [List.length_drop, List.length_drop] at this
    omega
  have he2 := he
  rw [drop_hd hk] at he2
  rw [kidsS_ok he2] at h1
  refine ⟨fun c => ?_, fun c => ?_, fun c1 c2 => ?_⟩
  · rw [if_pos c] at h1
    rw [← h1]
    subst hp
    simp [kidsApp, callR]
  · rw [if_neg (by omega), if_pos c] at h1
    have h5 : callR t (kidsApp (acc.map (·.1) ++ [a]) (kidsS (exprS f) g (TL.drop (k + 1)))) = Q := by
      rw [← kidsApp_snoc]; exact h1
    subst hp
    refine ⟨g, by rw [← h5]; simp, by omega, by rw [List.length_append, List.length_singleton]; omega, by omega⟩
  · rw [if_neg c1, if_neg c2] at h1
    exact h1.symm
theorem CallRel.next {a : Nd} {k : Nat} {p : NdP} (hp : p.1 = a) (he : exprS f (TL.drop j) = .ok a (TL.drop k)) (_hk : k ≤ TL.length) : ((tokAt TL k).1 = 4 → Q = .ok (.mk 1 t 0 ((acc ++ [p]).map (·.1))) (TL.drop (k + 1)) ∧ k < TL.length) ∧ ((tokAt TL k).1 = 5 → CallRel f t TL Q (acc ++ [p]) (k + 1)) ∧ (¬ (tokAt TL k).1 = 4 → ¬ (tokAt TL k).1 = 5 → Q = .err 8) := by
  by_cases hlt : k < TL.length
  · rw [tokAt_lt hlt]
    obtain ⟨h1, h2, h3⟩ := CallRel.more h hp he hlt
    exact ⟨fun c => ⟨h1 c, hlt⟩, h2, h3⟩
  · rw [tokAt_end hlt]
    refine ⟨fun c => absurd c (by decide), fun c => absurd c (by decide), fun _ _ => ?_⟩
    obtain ⟨nb, h1, h2, h3, h4⟩ := h
    obtain ⟨g, rfl⟩ : ∃ g, nb = g + 1 := ⟨nb - 1, by omega⟩
    rw [List.drop_eq_nil_of_le (show TL.length ≤ k by omega)] at he
    rw [kidsS_end he] at h1
    exact h1.symm
theorem CallRel.stop {a : Nd} (he : exprS f (TL.drop j) = .ok a []) : Q = .err 8 := by
  obtain ⟨nb, h1, h2, h3, h4⟩ := h
  obtain ⟨g, rfl⟩ : ∃ g, nb = g + 1 := ⟨nb - 1, by omega⟩
  rw [kidsS_end he] at h1
  exact h1.symm
end
theorem drop_inj {TL : List Tok} {k m : Nat} (h : TL.drop m = TL.drop k) (hm : m ≤ TL.length) (hk : k ≤ TL.length) : k = m := by
  have := congrArg List.length h
  rw [List.length_drop, List.length_drop] at this
  omega
theorem RdP.call {T E : TypeId} {w w' : World} {b : Nat} {tv : Value} {TL : List Tok} {base m c : Nat} {A : Option Addr} {acc : List NdP} {p q : NdP} {t : ByteArray} {e : Ending} (hpq : p.1 = q.1) (hk : Kids w' base (.slice A (acc.length + 1) c) (acc ++ [p])) (ht : t.size ≤ 140737488351232) (hb : w.heap.size ≤ base) (hm : m ≤ TL.length)
    (he : e = .returned (.agg #[.int .i64 1, .string t, .int .i64 0, .slice A (acc.length + 1) c])) (hp : Psr T E w' b tv TL m 0) (hg : w.grownBy w' (some b)) : RdP T E w b tv TL (.ok (.mk 1 t 0 ((acc ++ [q]).map (·.1))) (TL.drop m)) e w' := by
  have hl : ((acc ++ [q]).map (·.1)).length = acc.length + 1 := by simp
  have hm2 : (acc ++ [q]).map (·.1) = (acc ++ [p]).map (·.1) := by simp [hpq]
  obtain ⟨_, hn⟩ := hk.node ht
  refine ⟨m, A, c, rfl, hm, ?_, ?_, hp, hg⟩
  · rw [he]
    show _ = Ending.returned (.agg #[.int .i64 1, .string t, .int .i64 0, .slice A ((acc ++ [q]).map (·.1)).length c])
    rw [hl]
  · show NdV w' _ (.mk 1 t 0 ((acc ++ [q]).map (·.1))) (nodeC 1 t 0 A ((acc ++ [q]).map (·.1)).length c)
    rw [hl, hm2]
    exact hn.mono (fun k _ hk => Nat.le_trans hb hk)
section
variable {b : Nat} {tv : Value} {TL : List Tok} (HT : ∀ t ∈ TL, t.2.size ≤ 1000) (hl : TL.length ≤ 5000)
include HT hl
set_option maxHeartbeats 16000000 in
set_option maxRecDepth 100000 in
theorem call_any {f : Nat} {d : Int} (hd : 0 ≤ d ∧ d ≤ 100) (HE : ∀ (i : Nat) (w : World), i ≤ TL.length → Psr 44 66 w b tv TL i 0 → Calls Tryz.prog 20 #[.pointer (some ⟨b, 0, none⟩), .int .i64 (d + 1)] w (RdP 44 66 w b tv TL (exprS f (TL.drop i))))
    (t : ByteArray) (ht : t.size ≤ 1000) (i : Nat) (hi : i ≤ TL.length) (w : World) (h : Psr 44 66 w b tv TL i 0) :
    Calls Tryz.prog 34 #[.pointer (some ⟨b, 0, none⟩), .string t, .int .i64 d] w (RdP 44 66 w b tv TL (callQ f t (TL.drop i))) := by
  have HG := G.refl w (some b)
  have hbl := h.lt
  have HTo := Lib.hid h.own_lt
  have hl2 := HT
  have hne1 : b ≠ w.heap.size := by omega
  have hne2 : b ≠ w.heap.size + 1 := by omega
  have hno1 : tv.ownBlock ≠ some w.heap.size := fun e => by have := HTo.out _ e; omega
  have hno2 : tv.ownBlock ≠ some (w.heap.size + 1) := fun e => by have := HTo.out _ e; omega
  have hwrap : IntKind.i64.wrap (d + 1) = d + 1 := by rw [IntKind.wrap_i64]; omega
  clear hl2
  replace HE := Lib.hid HE
  by_cases h4 : headK (TL.drop i) = 4
  · have hq : callQ f t (TL.drop i) = .ok (.mk 1 t 0 []) (TL.drop (i + 1)) := by unfold callQ; rw [if_pos h4, tail_drop]
    rw [hq]
    have hlt : i < TL.length := by
      rcases Nat.lt_or_ge i TL.length with g | g
      · exact g
      · rw [List.drop_eq_nil_of_le g] at h4; cases h4
    have HY := Lib.hid (fun w' (h : Psr 44 66 w' b tv TL i 0) => takes_yes (by omega) hi h (k := 4) (by rw [← headK_tok, h4]; rfl))
    clear hq h4 HE
    go_enter Tryz.func34, Tryz.ntmps34
    go_upto_region 1 with (fail)
    go_cut [6, 7] (fun p6 p7 wc => p6 = .pointer (some ⟨w.heap.size, 0, none⟩) ∧ p7 = .pointer (some ⟨w.heap.size + 1, 0, none⟩) ∧ w.grownBy wc (some b) ∧ Psr 44 66 wc b tv TL i 0 ∧ Hx wc w.heap.size [.int .i64 0, .string ⟨#[]⟩, .int .i64 0, .slice none 0 0] 24 ∧ Hx wc (w.heap.size + 1) [.int .i64 1, .string t, .int .i64 0, .slice none 0 0] 24)
    case first =>
      go_wp2_with fail
      go_meet
      exact ⟨rfl, rfl, (by exact G.go HG), Psr.go, Hx.go2, Hx.go2⟩
    obtain ⟨rfl, rfl, HG, h, hn1, hn2⟩ := hcut
    rename World => wx
    have hb := h.box; have hb_0 := hb.cell 0; have hb_1 := hb.cell 1; have hb_2 := hb.cell 2; have hb_f0 := hb.free 0; have hb_f1 := hb.free 1; have hb_f2 := hb.free 2; have hb_l := hb.lt; have hn1_0 := hn1.cell 0; have hn1_1 := hn1.cell 1; have hn1_2 := hn1.cell 2; have hn1_3 := hn1.cell 3; have hn1_f0 := hn1.free 0; have hn1_f1 := hn1.free 1; have hn1_f2 := hn1.free 2; have hn1_f3 := hn1.free 3; have hn1_l := hn1.lt; have hn2_0 := hn2.cell 0; have hn2_1 := hn2.cell 1; have hn2_2 := hn2.cell 2; have hn2_3 := hn2.cell 3; have hn2_f0 := hn2.free 0; have hn2_f1 := hn2.free 1; have hn2_f2 := hn2.free 2; have hn2_f3 := hn2.free 3; have hn2_l := hn2.lt
    go_wp2_with (go_at_call 33; (with_reducible refine (HY.out _ Psr.go).mono ?_); rintro e wn ⟨rfl, hpn, hgn⟩; replace hn1 := Hx.kept hn1 hgn (fun e => by have := Option.some.inj e; omega); replace hn2 := Hx.kept hn2 hgn (fun e => by have := Option.some.inj e; omega); replace HG := G.trans (w := w) HG hgn; have hn1_0 := hn1.cell 0; have hn1_1 := hn1.cell 1; have hn1_2 := hn1.cell 2; have hn1_3 := hn1.cell 3; have hn1_f0 := hn1.free 0; have hn1_f1 := hn1.free 1; have hn1_f2 := hn1.free 2; have hn1_f3 := hn1.free 3; have hn1_l := hn1.lt; have hn2_0 := hn2.cell 0; have hn2_1 := hn2.cell 1; have hn2_2 := hn2.cell 2; have hn2_3 := hn2.cell 3; have hn2_f0 := hn2.free 0; have hn2_f1 := hn2.free 1; have hn2_f2 := hn2.free 2; have hn2_f3 := hn2.free 3; have hn2_l := hn2.lt; clear hgn)
    refine ret_cell [.int .i64 1, .string t, .int .i64 0, .slice none 0 0] w.heap.size 24 rfl rfl (Tryz.isAgg24 _) (Tryz.sizeOf24 _) rfl (by first | exact Hx.go hn1 | exact Hx.go2) ?_
    exact ⟨i + 1, none, 0, rfl, by omega, rfl, NdV.leaf _ _ 1 (by omega) (by omega), Psr.go, (by exact G.go HG)⟩
  have HN := Lib.hid (fun w' (h : Psr 44 66 w' b tv TL i 0) => takes_no (by omega) hi h (k := 4) (by rw [← headK_tok]; omega))
  have hrel0 := CallRel.start (f := f) (t := t) hi h4
  generalize callQ f t (TL.drop i) = Q at *
  clear h4
  go_enter Tryz.func34, Tryz.ntmps34
  go_upto_region 1 with (fail)
  go_cut [6, 7] (fun p6 p7 wc => p6 = .pointer (some ⟨w.heap.size, 0, none⟩) ∧ p7 = .pointer (some ⟨w.heap.size + 1, 0, none⟩) ∧ w.grownBy wc (some b) ∧ Psr 44 66 wc b tv TL i 0 ∧ Hx wc w.heap.size [.int .i64 0, .string ⟨#[]⟩, .int .i64 0, .slice none 0 0] 24 ∧ Hx wc (w.heap.size + 1) [.int .i64 1, .string t, .int .i64 0, .slice none 0 0] 24)
  case first =>
    go_wp2_with fail
    go_meet
    exact ⟨rfl, rfl, (by exact G.go HG), Psr.go, Hx.go2, Hx.go2⟩
  obtain ⟨rfl, rfl, HG, h, hn1, hn2⟩ := hcut
  rename World => wx
  have hb := h.box; have hb_0 := hb.cell 0; have hb_1 := hb.cell 1; have hb_2 := hb.cell 2; have hb_f0 := hb.free 0; have hb_f1 := hb.free 1; have hb_f2 := hb.free 2; have hb_l := hb.lt; have hn1_0 := hn1.cell 0; have hn1_1 := hn1.cell 1; have hn1_2 := hn1.cell 2; have hn1_3 := hn1.cell 3; have hn1_f0 := hn1.free 0; have hn1_f1 := hn1.free 1; have hn1_f2 := hn1.free 2; have hn1_f3 := hn1.free 3; have hn1_l := hn1.lt; have hn2_0 := hn2.cell 0; have hn2_1 := hn2.cell 1; have hn2_2 := hn2.cell 2; have hn2_3 := hn2.cell 3; have hn2_f0 := hn2.free 0; have hn2_f1 := hn2.free 1; have hn2_f2 := hn2.free 2; have hn2_f3 := hn2.free 3; have hn2_l := hn2.lt
  go_wp2_with (go_at_call 33; (with_reducible refine (HN.out _ Psr.go).mono ?_); rintro e wn ⟨rfl, hgn⟩; replace hn1 := Hx.kept hn1 hgn (by simp); replace hn2 := Hx.kept hn2 hgn (by simp); replace h := h.kept hgn; replace HG := G.trans (w := w) HG (G.any hgn _); have hb := h.box; have hb_0 := hb.cell 0; have hb_1 := hb.cell 1; have hb_2 := hb.cell 2; have hb_f0 := hb.free 0; have hb_f1 := hb.free 1; have hb_f2 := hb.free 2; have hb_l := hb.lt; have hn1_0 := hn1.cell 0; have hn1_1 := hn1.cell 1; have hn1_2 := hn1.cell 2; have hn1_3 := hn1.cell 3; have hn1_f0 := hn1.free 0; have hn1_f1 := hn1.free 1; have hn1_f2 := hn1.free 2; have hn1_f3 := hn1.free 3; have hn1_l := hn1.lt; have hn2_0 := hn2.cell 0; have hn2_1 := hn2.cell 1; have hn2_2 := hn2.cell 2; have hn2_3 := hn2.cell 3; have hn2_f0 := hn2.free 0; have hn2_f1 := hn2.free 1; have hn2_f2 := hn2.free 2; have hn2_f3 := hn2.free 3; have hn2_l := hn2.lt; clear hgn)
  clear HN hb hb_0 hb_1 hb_2 hb_f0 hb_f1 hb_f2 hb_l hn1_0 hn1_f0 hn1_1 hn1_f1 hn1_2 hn1_f2 hn1_3 hn1_f3 hn2_0 hn2_f0 hn2_1 hn2_f1 hn2_2 hn2_f2 hn2_3 hn2_f3 hn1_l hn2_l
  go_loopw [8] (fun _ wr => ∃ (j : Nat) (acc : List NdP) (v : Value), w.grownBy wr (some b) ∧ Psr 44 66 wr b tv TL j 0 ∧ Hx wr w.heap.size [.int .i64 0, .string ⟨#[]⟩, .int .i64 0, .slice none 0 0] 24 ∧ Hx wr (w.heap.size + 1) [.int .i64 1, .string t, .int .i64 0, v] 24 ∧ Kids wr (w.heap.size + 2) v acc ∧ CallRel f t TL Q acc j) (fun _ wr => atMeas b TL.length wr)
  case atStart => exact ⟨i, [], .slice none 0 0, HG, h, hn1, hn2, Kids.nil _ _, hrel0⟩
  case round =>
    clear HG h hn1 hn2 hrel0
    obtain ⟨j, acc, v, HG, h, hn1, hn2, hkd, hR⟩ := hrel
    rename World => wo
    have hR2 := hR
    obtain ⟨_, _, _, haj, hj⟩ := hR2
    have HEj := Lib.hid (HE.out j wo hj h)
    have hmeas := atMeas_eq (n := TL.length) (h.box.cell 1)
    have HR := Lib.hid hR; clear hR
    have h0 := Lib.hid h
    obtain ⟨VA, VC, rfl⟩ := hkd.form
    have hwo := HG.size
    have hown : ∀ g, (Value.slice VA acc.length VC).ownBlock = some g → w.heap.size + 2 ≤ g ∧ g < wo.heap.size := hkd.lt
    cases he : exprS f (TL.drop j) with
    | err x =>
      rw [he] at HEj
      have hx := expr_code f _ x he
      have hx2 : (x != 0) = true := by simp; omega
      obtain rfl := CallRel.bad HR.out he
      clear he hx h hmeas hkd HE
      have hn1_0 := hn1.cell 0; have hn1_1 := hn1.cell 1; have hn1_2 := hn1.cell 2; have hn1_3 := hn1.cell 3; have hn1_f0 := hn1.free 0; have hn1_f1 := hn1.free 1; have hn1_f2 := hn1.free 2; have hn1_f3 := hn1.free 3; have hn1_l := hn1.lt; have hn2_0 := hn2.cell 0; have hn2_1 := hn2.cell 1; have hn2_2 := hn2.cell 2; have hn2_3 := hn2.cell 3; have hn2_f0 := hn2.free 0; have hn2_f1 := hn2.free 1; have hn2_f2 := hn2.free 2; have hn2_f3 := hn2.free 3; have hn2_l := hn2.lt
      go_wp2_with (go_at_call 20; (with_reducible refine HEj.out.mono ?_); rintro e w1 ⟨j2, rfl, h, hg1⟩; replace hn1 := Hx.kept hn1 hg1 (fun e => by have := Option.some.inj e; omega); replace hn2 := Hx.kept hn2 hg1 (fun e => by have := Option.some.inj e; omega); replace HG := G.trans (w := w) HG hg1; have hb := h.box; have hb_0 := hb.cell 0; have hb_1 := hb.cell 1; have hb_2 := hb.cell 2; have hb_f0 := hb.free 0; have hb_f1 := hb.free 1; have hb_f2 := hb.free 2; have hb_l := hb.lt; have hn1_0 := hn1.cell 0; have hn1_1 := hn1.cell 1; have hn1_2 := hn1.cell 2; have hn1_3 := hn1.cell 3; have hn1_f0 := hn1.free 0; have hn1_f1 := hn1.free 1; have hn1_f2 := hn1.free 2; have hn1_f3 := hn1.free 3; have hn1_l := hn1.lt; have hn2_0 := hn2.cell 0; have hn2_1 := hn2.cell 1; have hn2_2 := hn2.cell 2; have hn2_3 := hn2.cell 3; have hn2_f0 := hn2.free 0; have hn2_f1 := hn2.free 1; have hn2_f2 := hn2.free 2; have hn2_f3 := hn2.free 3; have hn2_l := hn2.lt; clear hg1)
      refine ret_cell [.int .i64 0, .string ⟨#[]⟩, .int .i64 0, .slice none 0 0] w.heap.size 24 rfl rfl (Tryz.isAgg24 _) (Tryz.sizeOf24 _) rfl (by first | exact Hx.go hn1 | exact Hx.go2) ?_
      exact ⟨j2, rfl, Psr.go, (by exact G.go HG)⟩
    | ok a r =>
      obtain ⟨m, hjm, hm, rfl⟩ := expr_reach hj he
      rw [he] at HEj
      have hnx := CallRel.next HR.out (p := (a, none, 0)) rfl he hm
      replace he := Lib.hid he
      have hkd0 := Lib.hid hkd
      have HG0 := Lib.hid HG
      have hbase : b < w.heap.size + 2 := by omega
      clear h hkd HG HE
      have hn1_0 := hn1.cell 0; have hn1_1 := hn1.cell 1; have hn1_2 := hn1.cell 2; have hn1_3 := hn1.cell 3; have hn1_f0 := hn1.free 0; have hn1_f1 := hn1.free 1; have hn1_f2 := hn1.free 2; have hn1_f3 := hn1.free 3; have hn1_l := hn1.lt; have hn2_0 := hn2.cell 0; have hn2_1 := hn2.cell 1; have hn2_2 := hn2.cell 2; have hn2_3 := hn2.cell 3; have hn2_f0 := hn2.free 0; have hn2_f1 := hn2.free 1; have hn2_f2 := hn2.free 2; have hn2_f3 := hn2.free 3; have hn2_l := hn2.lt
      have hY := fun (k : Int) w' (h : Psr 44 66 w' b tv TL m 0) (hk : ((tokAt TL m).1 : Int) = k) => takes_yes (by omega) hm h hk
      have hN := fun (k : Int) w' (h : Psr 44 66 w' b tv TL m 0) (hk : ¬ ((tokAt TL m).1 : Int) = k) => takes_no (by omega) hm h hk
      by_cases c4 : (tokAt TL m).1 = 4
      · obtain ⟨rfl, hlt⟩ := hnx.1 c4
        have HY4 := Lib.hid (fun w' h => hY 4 w' h (by omega))
        clear hnx hY hN c4
        go_wp2_with (first | (go_at_call 20; (with_reducible refine HEj.out.mono ?_); rintro e w1 ⟨k, A3, c3, hrk, hk, rfl, hN, h, hg1⟩; obtain rfl := (drop_inj hrk hm hk).symm; have hkd := hkd0.out.kept_b hg1 (by omega); replace hn1 := Hx.kept hn1 hg1 (fun e => by have := Option.some.inj e; omega); replace hn2 := Hx.kept hn2 hg1 (fun e => by have := Option.some.inj e; omega); have HG := G.trans (w := w) HG0.out hg1; have hw1 := hg1.size; have hN := Lib.hid hN; have hq := G.refl w1 none; have hb := h.box; have hb_0 := hb.cell 0; have hb_1 := hb.cell 1; have hb_2 := hb.cell 2; have hb_f0 := hb.free 0; have hb_f1 := hb.free 1; have hb_f2 := hb.free 2; have hb_l := hb.lt; have hn1_0 := hn1.cell 0; have hn1_1 := hn1.cell 1; have hn1_2 := hn1.cell 2; have hn1_3 := hn1.cell 3; have hn1_f0 := hn1.free 0; have hn1_f1 := hn1.free 1; have hn1_f2 := hn1.free 2; have hn1_f3 := hn1.free 3; have hn1_l := hn1.lt; have hn2_0 := hn2.cell 0; have hn2_1 := hn2.cell 1; have hn2_2 := hn2.cell 2; have hn2_3 := hn2.cell 3; have hn2_f0 := hn2.free 0; have hn2_f1 := hn2.free 1; have hn2_f2 := hn2.free 2; have hn2_f3 := hn2.free 3; have hn2_l := hn2.lt; clear hrk hk) | (at_builtin; refine wpList_append_kid rfl _ _ 22 rfl Tryz.underlying22 info_node (w.heap.size + 2) _ acc rfl _ (a, A3, c3) 24 rfl ?_ ⟨hkd.kept (by exact G.go hq), Hx.go2, (hN.out.mono (fun k _ hk => ⟨by have := hwo; omega, fun e => by have := (hown k e.symm).2; omega⟩)).kept (by exact G.go hq), by simp; omega, by omega⟩; intro A4 c4 w4 hk4 hg4; replace HG := G.trans' (row := some b) (by exact G.go HG) hg4 (fun c e => Or.inl (by have := (hown c e).1; omega)); replace hn1 := Hx.kept (by first | exact Hx.go hn1 | exact Hx.go2) hg4 (fun e => by have := (hown _ e.symm).1; omega); replace hn2 := Hx.kept (by first | exact Hx.go hn2 | exact Hx.go2) hg4 (fun e => by have := (hown _ e.symm).1; omega); replace h := (h.kept (by exact G.go hq)).kept_row hg4 (fun c e => (hown c e).1) (by omega) (fun c e => by have := HTo.out c e; omega); clear hkd hg4 hq hN; have hb := h.box; have hb_0 := hb.cell 0; have hb_1 := hb.cell 1; have hb_2 := hb.cell 2; have hb_f0 := hb.free 0; have hb_f1 := hb.free 1; have hb_f2 := hb.free 2; have hb_l := hb.lt; have hn1_0 := hn1.cell 0; have hn1_1 := hn1.cell 1; have hn1_2 := hn1.cell 2; have hn1_3 := hn1.cell 3; have hn1_f0 := hn1.free 0; have hn1_f1 := hn1.free 1; have hn1_f2 := hn1.free 2; have hn1_f3 := hn1.free 3; have hn1_l := hn1.lt; have hn2_0 := hn2.cell 0; have hn2_1 := hn2.cell 1; have hn2_2 := hn2.cell 2; have hn2_3 := hn2.cell 3; have hn2_f0 := hn2.free 0; have hn2_f1 := hn2.free 1; have hn2_f2 := hn2.free 2; have hn2_f3 := hn2.free 3; have hn2_l := hn2.lt; ) | (go_at_call 33; (with_reducible refine (HY4.out _ Psr.go).mono ?_); rintro e w5 ⟨rfl, hp5, hg5⟩; have hk5 := Kids.kept_b (b := b) (Kids.kept_b (b := w.heap.size + 1) hk4 (by exact G.set (G.refl w4 _) _ (Or.inr rfl)) (by omega)) hg5 (by omega); have hq5 := G.refl w5 (some w.heap.size); replace HG := G.trans (w := w) (by exact G.go HG) hg5; replace hn1 := Hx.kept (by first | exact Hx.go hn1 | exact Hx.go2) hg5 (fun e => by have := Option.some.inj e; omega); replace hn2 := Hx.kept (by first | exact Hx.go hn2 | exact Hx.go2) hg5 (fun e => by have := Option.some.inj e; omega); clear hk4 hg5 h hb hb_0 hb_1 hb_2 hb_f0 hb_f1 hb_f2 hb_l; have hn1_0 := hn1.cell 0; have hn1_1 := hn1.cell 1; have hn1_2 := hn1.cell 2; have hn1_3 := hn1.cell 3; have hn1_f0 := hn1.free 0; have hn1_f1 := hn1.free 1; have hn1_f2 := hn1.free 2; have hn1_f3 := hn1.free 3; have hn1_l := hn1.lt; have hn2_0 := hn2.cell 0; have hn2_1 := hn2.cell 1; have hn2_2 := hn2.cell 2; have hn2_3 := hn2.cell 3; have hn2_f0 := hn2.free 0; have hn2_f1 := hn2.free 1; have hn2_f2 := hn2.free 2; have hn2_f3 := hn2.free 3; have hn2_l := hn2.lt; ))
        refine ret_cell [.int .i64 1, .string t, .int .i64 0, .slice A4 (acc.length + 1) c4] w.heap.size 24 rfl rfl (Tryz.isAgg24 _) (Tryz.sizeOf24 _) rfl (by first | exact Hx.go hn1 | exact Hx.go2) ?_
        exact RdP.call (p := (a, A3, c3)) (q := (a, none, 0)) (base := w.heap.size + 2) rfl (Kids.kept_b (b := w.heap.size) hk5 (by exact G.go hq5) (by omega)) (by omega) (by omega) (by omega) rfl Psr.go (by exact G.go HG)
      have HN4 := Lib.hid (fun w' h => hN 4 w' h (by omega))
      by_cases c5 : (tokAt TL m).1 = 5
      · have HY5 := Lib.hid (fun w' h => hY 5 w' h (by omega))
        replace c5 := Lib.hid c5
        clear hnx hY hN c4
        go_wp2_with (first | (go_at_call 20; (with_reducible refine HEj.out.mono ?_); rintro e w1 ⟨k, A3, c3, hrk, hk, rfl, hN, h, hg1⟩; obtain rfl := (drop_inj hrk hm hk).symm; have hkd := hkd0.out.kept_b hg1 (by omega); replace hn1 := Hx.kept hn1 hg1 (fun e => by have := Option.some.inj e; omega); replace hn2 := Hx.kept hn2 hg1 (fun e => by have := Option.some.inj e; omega); have HG := G.trans (w := w) HG0.out hg1; have hw1 := hg1.size; have hN := Lib.hid hN; have hq := G.refl w1 none; have hb := h.box; have hb_0 := hb.cell 0; have hb_1 := hb.cell 1; have hb_2 := hb.cell 2; have hb_f0 := hb.free 0; have hb_f1 := hb.free 1; have hb_f2 := hb.free 2; have hb_l := hb.lt; have hn1_0 := hn1.cell 0; have hn1_1 := hn1.cell 1; have hn1_2 := hn1.cell 2; have hn1_3 := hn1.cell 3; have hn1_f0 := hn1.free 0; have hn1_f1 := hn1.free 1; have hn1_f2 := hn1.free 2; have hn1_f3 := hn1.free 3; have hn1_l := hn1.lt; have hn2_0 := hn2.cell 0; have hn2_1 := hn2.cell 1; have hn2_2 := hn2.cell 2; have hn2_3 := hn2.cell 3; have hn2_f0 := hn2.free 0; have hn2_f1 := hn2.free 1; have hn2_f2 := hn2.free 2; have hn2_f3 := hn2.free 3; have hn2_l := hn2.lt; clear hrk hk) | (at_builtin; refine wpList_append_kid rfl _ _ 22 rfl Tryz.underlying22 info_node (w.heap.size + 2) _ acc rfl _ (a, A3, c3) 24 rfl ?_ ⟨hkd.kept (by exact G.go hq), Hx.go2, (hN.out.mono (fun k _ hk => ⟨by have := hwo; omega, fun e => by have := (hown k e.symm).2; omega⟩)).kept (by exact G.go hq), by simp; omega, by omega⟩; intro A4 c4 w4 hk4 hg4; replace HG := G.trans' (row := some b) (by exact G.go HG) hg4 (fun c e => Or.inl (by have := (hown c e).1; omega)); replace hn1 := Hx.kept (by first | exact Hx.go hn1 | exact Hx.go2) hg4 (fun e => by have := (hown _ e.symm).1; omega); replace hn2 := Hx.kept (by first | exact Hx.go hn2 | exact Hx.go2) hg4 (fun e => by have := (hown _ e.symm).1; omega); replace h := (h.kept (by exact G.go hq)).kept_row hg4 (fun c e => (hown c e).1) (by omega) (fun c e => by have := HTo.out c e; omega); clear hkd hg4 hq hN; have hb := h.box; have hb_0 := hb.cell 0; have hb_1 := hb.cell 1; have hb_2 := hb.cell 2; have hb_f0 := hb.free 0; have hb_f1 := hb.free 1; have hb_f2 := hb.free 2; have hb_l := hb.lt; have hn1_0 := hn1.cell 0; have hn1_1 := hn1.cell 1; have hn1_2 := hn1.cell 2; have hn1_3 := hn1.cell 3; have hn1_f0 := hn1.free 0; have hn1_f1 := hn1.free 1; have hn1_f2 := hn1.free 2; have hn1_f3 := hn1.free 3; have hn1_l := hn1.lt; have hn2_0 := hn2.cell 0; have hn2_1 := hn2.cell 1; have hn2_2 := hn2.cell 2; have hn2_3 := hn2.cell 3; have hn2_f0 := hn2.free 0; have hn2_f1 := hn2.free 1; have hn2_f2 := hn2.free 2; have hn2_f3 := hn2.free 3; have hn2_l := hn2.lt; ) | (go_at_call 33; (with_reducible refine (HN4.out _ Psr.go).mono ?_); rintro e w5 ⟨rfl, hg5⟩; have hk5 := Kids.kept (Kids.kept_b (b := w.heap.size + 1) hk4 (by exact G.set (G.refl w4 _) _ (Or.inr rfl)) (by omega)) hg5; replace HG := G.trans (w := w) (by exact G.go HG) (G.any hg5 _); replace hn1 := Hx.kept (by first | exact Hx.go hn1 | exact Hx.go2) hg5 (by simp); replace hn2 := Hx.kept (by first | exact Hx.go hn2 | exact Hx.go2) hg5 (by simp); replace h := Psr.kept Psr.go hg5; clear hk4 hg5; have hb := h.box; have hb_0 := hb.cell 0; have hb_1 := hb.cell 1; have hb_2 := hb.cell 2; have hb_f0 := hb.free 0; have hb_f1 := hb.free 1; have hb_f2 := hb.free 2; have hb_l := hb.lt; have hn1_0 := hn1.cell 0; have hn1_1 := hn1.cell 1; have hn1_2 := hn1.cell 2; have hn1_3 := hn1.cell 3; have hn1_f0 := hn1.free 0; have hn1_f1 := hn1.free 1; have hn1_f2 := hn1.free 2; have hn1_f3 := hn1.free 3; have hn1_l := hn1.lt; have hn2_0 := hn2.cell 0; have hn2_1 := hn2.cell 1; have hn2_2 := hn2.cell 2; have hn2_3 := hn2.cell 3; have hn2_f0 := hn2.free 0; have hn2_f1 := hn2.free 1; have hn2_f2 := hn2.free 2; have hn2_f3 := hn2.free 3; have hn2_l := hn2.lt; ) | (go_at_call 33; (with_reducible refine (HY5.out _ Psr.go).mono ?_); rintro e w6 ⟨rfl, hp6, hg6⟩; have hk6 := Kids.kept_b (b := b) hk5 hg6 (by omega); replace HG := G.trans (w := w) (by exact G.go HG) hg6; replace hn1 := Hx.kept (by first | exact Hx.go hn1 | exact Hx.go2) hg6 (fun e => by have := Option.some.inj e; omega); replace hn2 := Hx.kept (by first | exact Hx.go hn2 | exact Hx.go2) hg6 (fun e => by have := Option.some.inj e; omega); clear hk5 hg6))
        go_roundw
        case rel => exact ⟨m + 1, acc ++ [(a, A3, c3)], _, (by exact G.go HG), Psr.go, Hx.go2, Hx.go2, hk6, (CallRel.next HR.out (p := (a, A3, c3)) rfl he.out hm).2.1 c5.out⟩
        case measure =>
          rw [hmeas, atMeas_eq (n := TL.length) (hp6.box.cell 1)]
          omega
      · have HN5 := Lib.hid (fun w' h => hN 5 w' h (by omega))
        obtain rfl := hnx.2.2 c4 c5
        clear hnx hY hN c4 c5
        go_wp2_with (first | (go_at_call 20; (with_reducible refine HEj.out.mono ?_); rintro e w1 ⟨k, A3, c3, hrk, hk, rfl, hN, h, hg1⟩; obtain rfl := (drop_inj hrk hm hk).symm; have hkd := hkd0.out.kept_b hg1 (by omega); replace hn1 := Hx.kept hn1 hg1 (fun e => by have := Option.some.inj e; omega); replace hn2 := Hx.kept hn2 hg1 (fun e => by have := Option.some.inj e; omega); have HG := G.trans (w := w) HG0.out hg1; have hw1 := hg1.size; have hN := Lib.hid hN; have hq := G.refl w1 none; have hb := h.box; have hb_0 := hb.cell 0; have hb_1 := hb.cell 1; have hb_2 := hb.cell 2; have hb_f0 := hb.free 0; have hb_f1 := hb.free 1; have hb_f2 := hb.free 2; have hb_l := hb.lt; have hn1_0 := hn1.cell 0; have hn1_1 := hn1.cell 1; have hn1_2 := hn1.cell 2; have hn1_3 := hn1.cell 3; have hn1_f0 := hn1.free 0; have hn1_f1 := hn1.free 1; have hn1_f2 := hn1.free 2; have hn1_f3 := hn1.free 3; have hn1_l := hn1.lt; have hn2_0 := hn2.cell 0; have hn2_1 := hn2.cell 1; have hn2_2 := hn2.cell 2; have hn2_3 := hn2.cell 3; have hn2_f0 := hn2.free 0; have hn2_f1 := hn2.free 1; have hn2_f2 := hn2.free 2; have hn2_f3 := hn2.free 3; have hn2_l := hn2.lt; clear hrk hk) | (at_builtin; refine wpList_append_kid rfl _ _ 22 rfl Tryz.underlying22 info_node (w.heap.size + 2) _ acc rfl _ (a, A3, c3) 24 rfl ?_ ⟨hkd.kept (by exact G.go hq), Hx.go2, (hN.out.mono (fun k _ hk => ⟨by have := hwo; omega, fun e => by have := (hown k e.symm).2; omega⟩)).kept (by exact G.go hq), by simp; omega, by omega⟩; intro A4 c4 w4 hk4 hg4; replace HG := G.trans' (row := some b) (by exact G.go HG) hg4 (fun c e => Or.inl (by have := (hown c e).1; omega)); replace hn1 := Hx.kept (by first | exact Hx.go hn1 | exact Hx.go2) hg4 (fun e => by have := (hown _ e.symm).1; omega); replace hn2 := Hx.kept (by first | exact Hx.go hn2 | exact Hx.go2) hg4 (fun e => by have := (hown _ e.symm).1; omega); replace h := (h.kept (by exact G.go hq)).kept_row hg4 (fun c e => (hown c e).1) (by omega) (fun c e => by have := HTo.out c e; omega); clear hkd hg4 hq hN; have hb := h.box; have hb_0 := hb.cell 0; have hb_1 := hb.cell 1; have hb_2 := hb.cell 2; have hb_f0 := hb.free 0; have hb_f1 := hb.free 1; have hb_f2 := hb.free 2; have hb_l := hb.lt; have hn1_0 := hn1.cell 0; have hn1_1 := hn1.cell 1; have hn1_2 := hn1.cell 2; have hn1_3 := hn1.cell 3; have hn1_f0 := hn1.free 0; have hn1_f1 := hn1.free 1; have hn1_f2 := hn1.free 2; have hn1_f3 := hn1.free 3; have hn1_l := hn1.lt; have hn2_0 := hn2.cell 0; have hn2_1 := hn2.cell 1; have hn2_2 := hn2.cell 2; have hn2_3 := hn2.cell 3; have hn2_f0 := hn2.free 0; have hn2_f1 := hn2.free 1; have hn2_f2 := hn2.free 2; have hn2_f3 := hn2.free 3; have hn2_l := hn2.lt; ) | (go_at_call 33; (with_reducible refine (HN4.out _ Psr.go).mono ?_); rintro e w5 ⟨rfl, hg5⟩; have hk5 := Kids.kept (Kids.kept_b (b := w.heap.size + 1) hk4 (by exact G.set (G.refl w4 _) _ (Or.inr rfl)) (by omega)) hg5; replace HG := G.trans (w := w) (by exact G.go HG) (G.any hg5 _); replace hn1 := Hx.kept (by first | exact Hx.go hn1 | exact Hx.go2) hg5 (by simp); replace hn2 := Hx.kept (by first | exact Hx.go hn2 | exact Hx.go2) hg5 (by simp); replace h := Psr.kept Psr.go hg5; clear hk4 hg5; have hb := h.box; have hb_0 := hb.cell 0; have hb_1 := hb.cell 1; have hb_2 := hb.cell 2; have hb_f0 := hb.free 0; have hb_f1 := hb.free 1; have hb_f2 := hb.free 2; have hb_l := hb.lt; have hn1_0 := hn1.cell 0; have hn1_1 := hn1.cell 1; have hn1_2 := hn1.cell 2; have hn1_3 := hn1.cell 3; have hn1_f0 := hn1.free 0; have hn1_f1 := hn1.free 1; have hn1_f2 := hn1.free 2; have hn1_f3 := hn1.free 3; have hn1_l := hn1.lt; have hn2_0 := hn2.cell 0; have hn2_1 := hn2.cell 1; have hn2_2 := hn2.cell 2; have hn2_3 := hn2.cell 3; have hn2_f0 := hn2.free 0; have hn2_f1 := hn2.free 1; have hn2_f2 := hn2.free 2; have hn2_f3 := hn2.free 3; have hn2_l := hn2.lt; ) | (go_at_call 33; (with_reducible refine (HN5.out _ Psr.go).mono ?_); rintro e w6 ⟨rfl, hg6⟩; replace HG := G.trans (w := w) (by exact G.go HG) (G.any hg6 _); replace hn1 := Hx.kept (by first | exact Hx.go hn1 | exact Hx.go2) hg6 (by simp); replace hn2 := Hx.kept (by first | exact Hx.go hn2 | exact Hx.go2) hg6 (by simp); replace h := Psr.kept Psr.go hg6; clear hk5 hg6; have hb := h.box; have hb_0 := hb.cell 0; have hb_1 := hb.cell 1; have hb_2 := hb.cell 2; have hb_f0 := hb.free 0; have hb_f1 := hb.free 1; have hb_f2 := hb.free 2; have hb_l := hb.lt; have hn1_0 := hn1.cell 0; have hn1_1 := hn1.cell 1; have hn1_2 := hn1.cell 2; have hn1_3 := hn1.cell 3; have hn1_f0 := hn1.free 0; have hn1_f1 := hn1.free 1; have hn1_f2 := hn1.free 2; have hn1_f3 := hn1.free 3; have hn1_l := hn1.lt; have hn2_0 := hn2.cell 0; have hn2_1 := hn2.cell 1; have hn2_2 := hn2.cell 2; have hn2_3 := hn2.cell 3; have hn2_f0 := hn2.free 0; have hn2_f1 := hn2.free 1; have hn2_f2 := hn2.free 2; have hn2_f3 := hn2.free 3; have hn2_l := hn2.lt; ) | (go_at_call 21; (with_reducible refine (fail_any (Psr.go) 8).mono ?_); rintro e w7 ⟨rfl, hp7, hg7⟩; replace HG := G.trans (w := w) (by exact G.go HG) hg7; replace hn1 := Hx.kept (by first | exact Hx.go hn1 | exact Hx.go2) hg7 (fun e => by have := Option.some.inj e; omega); replace hn2 := Hx.kept (by first | exact Hx.go hn2 | exact Hx.go2) hg7 (fun e => by have := Option.some.inj e; omega); clear hg7; have hn1_0 := hn1.cell 0; have hn1_1 := hn1.cell 1; have hn1_2 := hn1.cell 2; have hn1_3 := hn1.cell 3; have hn1_f0 := hn1.free 0; have hn1_f1 := hn1.free 1; have hn1_f2 := hn1.free 2; have hn1_f3 := hn1.free 3; have hn1_l := hn1.lt; have hn2_0 := hn2.cell 0; have hn2_1 := hn2.cell 1; have hn2_2 := hn2.cell 2; have hn2_3 := hn2.cell 3; have hn2_f0 := hn2.free 0; have hn2_f1 := hn2.free 1; have hn2_f2 := hn2.free 2; have hn2_f3 := hn2.free 3; have hn2_l := hn2.lt; ))
        refine ret_cell [.int .i64 0, .string ⟨#[]⟩, .int .i64 0, .slice none 0 0] w.heap.size 24 rfl rfl (Tryz.isAgg24 _) (Tryz.sizeOf24 _) rfl (by first | exact Hx.go hn1 | exact Hx.go2) ?_
        exact ⟨m, rfl, Psr.go, (by exact G.go HG)⟩
end
end Go.Proofs.YtiakgjijlhfneaaGreatDoor
namespace Go.Proofs.YtiakgjijlhfneaaGreatDoor
open Go.RowKit
section
variable {b : Nat} {tv : Value} {TL : List Tok} (HT : ∀ t ∈ TL, t.2.size ≤ 1000) (hl : TL.length ≤ 5000)
include HT hl
set_option maxHeartbeats 16000000 in
set_option maxRecDepth 100000 in
theorem expr_any (f : Nat) : ∀ (d : Int) (i : Nat) (w : World), d + f = 64 → 0 ≤ d → i ≤ TL.length → Psr 44 66 w b tv TL i 0 →
    Calls Tryz.prog 20 #[.pointer (some ⟨b, 0, none⟩), .int .i64 d] w (RdP 44 66 w b tv TL (exprS f (TL.drop i))) := by
  induction f with
  | zero =>
    intro d i w hd hd0 hi h
    have HG := G.refl w (some b)
    have hbl := h.lt
    have HTo := Lib.hid h.own_lt
    have hne1 : b ≠ w.heap.size := by omega
    have hno1 : tv.ownBlock ≠ some w.heap.size := fun e => by have := HTo.out _ e; omega
    obtain rfl : d = 64 := by omega
    rw [show exprS 0 (TL.drop i) = .err 12 from by rw [exprS]]
    have HN := Lib.hid (fun w' (h : Psr 44 66 w' b tv TL i 0) => now_any (by omega) hi h)
    go_enter Tryz.func20, Tryz.ntmps20
    go_upto_region 1 with (fail)
    go_cut [4, 5] (fun p4 p5 wc => ∃ TB, p4 = .pointer (some ⟨w.heap.size, 0, none⟩) ∧ p5 = .pointer (some ⟨TB, 0, none⟩) ∧ w.grownBy wc (some b) ∧ Psr 44 66 wc b tv TL i 0 ∧ Hx wc w.heap.size [.int .i64 0, .string ⟨#[]⟩, .int .i64 0, .slice none 0 0] 24 ∧ Hx wc TB [.int .i64 (tokAt TL i).1, .string (tokAt TL i).2] 66 ∧ w.heap.size < TB ∧ tv.ownBlock ≠ some TB)
    case first =>
      go_wp2_with (go_at_call 31; (with_reducible refine (HN.out _ Psr.go).mono ?_); rintro e wn ⟨rfl, hgn⟩; have h2 := Psr.kept Psr.go hgn; have hz := hgn.size; replace HG := G.trans (w := w) (by exact G.go HG) (G.any hgn _); have hn1 := Hx.kept (Hx.new w #[.int .i64 0, .string ⟨#[]⟩, .int .i64 0, .slice none 0 0] 24) hgn (by simp); clear h hgn)
      go_meet
      have hz2 : w.heap.size < wn.heap.size := by simp at hz; omega
      have hno3 : tv.ownBlock ≠ some wn.heap.size := fun e => by have := HTo.out _ e; omega
      have hne3 : b ≠ wn.heap.size := by omega
      exact ⟨_, rfl, rfl, (by exact G.go HG), Psr.go, Hx.go2, Hx.go2, hz2, hno3⟩
    obtain ⟨TB, rfl, rfl, HG, h, hn1, hn2, hTB, hnoT⟩ := hcut
    clear HN
    rename World => wx
    generalize (tokAt TL i).1 = kk at *
    generalize (tokAt TL i).2 = kt at *
    have hb := h.box; have hb_0 := hb.cell 0; have hb_1 := hb.cell 1; have hb_2 := hb.cell 2; have hb_f0 := hb.free 0; have hb_f1 := hb.free 1; have hb_f2 := hb.free 2; have hb_l := hb.lt; have hn1_0 := hn1.cell 0; have hn1_1 := hn1.cell 1; have hn1_2 := hn1.cell 2; have hn1_3 := hn1.cell 3; have hn1_f0 := hn1.free 0; have hn1_f1 := hn1.free 1; have hn1_f2 := hn1.free 2; have hn1_f3 := hn1.free 3; have hn1_l := hn1.lt; have hn2_0 := hn2.cell 0; have hn2_1 := hn2.cell 1; have hn2_f0 := hn2.free 0; have hn2_f1 := hn2.free 1; have hn2_l := hn2.lt
    go_wp2_with (go_at_call 21; (with_reducible refine (fail_any (Psr.go) 12).mono ?_); rintro e w7 ⟨rfl, hp7, hg7⟩; replace HG := G.trans (w := w) (by exact G.go HG) hg7; replace hn1 := Hx.kept (by first | exact Hx.go hn1 | exact Hx.go2) hg7 (fun e => by have := Option.some.inj e; omega); clear hg7; have hn1_0 := hn1.cell 0; have hn1_1 := hn1.cell 1; have hn1_2 := hn1.cell 2; have hn1_3 := hn1.cell 3; have hn1_f0 := hn1.free 0; have hn1_f1 := hn1.free 1; have hn1_f2 := hn1.free 2; have hn1_f3 := hn1.free 3; have hn1_l := hn1.lt; )
    refine ret_cell [.int .i64 0, .string ⟨#[]⟩, .int .i64 0, .slice none 0 0] w.heap.size 24 rfl rfl (Tryz.isAgg24 _) (Tryz.sizeOf24 _) rfl (by first | exact Hx.go hn1 | exact Hx.go2) ?_
    exact ⟨i, rfl, Psr.go, (by exact G.go HG)⟩
  | succ f ih =>
    intro d i w hd hd0 hi h
    have HG := G.refl w (some b)
    have hbl := h.lt
    have HTo := Lib.hid h.own_lt
    have hne1 : b ≠ w.heap.size := by omega
    have hno1 : tv.ownBlock ≠ some w.heap.size := fun e => by have := HTo.out _ e; omega
    have hd64 : ¬ (64 : Int) ≤ d := by omega
    have HE := Lib.hid (fun (i : Nat) (w : World) hi h => ih (d + 1) i w (by omega) (by omega) hi h)
    have hd1 : 0 ≤ d ∧ d ≤ 100 := by omega
    clear ih hd hd0
    have hnil : ¬ i < TL.length → (tokAt TL i).1 = 0 := fun g => by rw [tokAt_end g]
    by_cases hbad : ¬ (tokAt TL i).1 = 1 ∧ ¬ (tokAt TL i).1 = 2
    · have hq : exprS (f + 1) (TL.drop i) = .err 8 := by
        by_cases hlt : i < TL.length
        · rw [tokAt_lt hlt] at hbad
          rw [drop_hd hlt, exprS_cons, if_neg hbad.2, if_neg hbad.1]
        · rw [List.drop_eq_nil_of_le (by omega), exprS]
      rw [hq]
      have b1 : (((tokAt TL i).1 : Int) != 1) = true := by simp; omega
      have b2 : (((tokAt TL i).1 : Int) != 2) = true := by simp; omega
      clear hq hbad hnil HE
      have HN := Lib.hid (fun w' (h : Psr 44 66 w' b tv TL i 0) => now_any (by omega) hi h)
      go_enter Tryz.func20, Tryz.ntmps20
      go_upto_region 1 with (fail)
      go_cut [4, 5] (fun p4 p5 wc => ∃ TB, p4 = .pointer (some ⟨w.heap.size, 0, none⟩) ∧ p5 = .pointer (some ⟨TB, 0, none⟩) ∧ w.grownBy wc (some b) ∧ Psr 44 66 wc b tv TL i 0 ∧ Hx wc w.heap.size [.int .i64 0, .string ⟨#[]⟩, .int .i64 0, .slice none 0 0] 24 ∧ Hx wc TB [.int .i64 (tokAt TL i).1, .string (tokAt TL i).2] 66 ∧ w.heap.size < TB ∧ tv.ownBlock ≠ some TB)
      case first =>
        go_wp2_with (go_at_call 31; (with_reducible refine (HN.out _ Psr.go).mono ?_); rintro e wn ⟨rfl, hgn⟩; have h2 := Psr.kept Psr.go hgn; have hz := hgn.size; replace HG := G.trans (w := w) (by exact G.go HG) (G.any hgn _); have hn1 := Hx.kept (Hx.new w #[.int .i64 0, .string ⟨#[]⟩, .int .i64 0, .slice none 0 0] 24) hgn (by simp); clear h hgn)
        go_meet
        have hz2 : w.heap.size < wn.heap.size := by simp at hz; omega
        have hno3 : tv.ownBlock ≠ some wn.heap.size := fun e => by have := HTo.out _ e; omega
        have hne3 : b ≠ wn.heap.size := by omega
        exact ⟨_, rfl, rfl, (by exact G.go HG), Psr.go, Hx.go2, Hx.go2, hz2, hno3⟩
      obtain ⟨TB, rfl, rfl, HG, h, hn1, hn2, hTB, hnoT⟩ := hcut
      clear HN
      rename World => wx
      generalize (tokAt TL i).1 = kk at *
      generalize (tokAt TL i).2 = kt at *
      have hb := h.box; have hb_0 := hb.cell 0; have hb_1 := hb.cell 1; have hb_2 := hb.cell 2; have hb_f0 := hb.free 0; have hb_f1 := hb.free 1; have hb_f2 := hb.free 2; have hb_l := hb.lt; have hn1_0 := hn1.cell 0; have hn1_1 := hn1.cell 1; have hn1_2 := hn1.cell 2; have hn1_3 := hn1.cell 3; have hn1_f0 := hn1.free 0; have hn1_f1 := hn1.free 1; have hn1_f2 := hn1.free 2; have hn1_f3 := hn1.free 3; have hn1_l := hn1.lt; have hn2_0 := hn2.cell 0; have hn2_1 := hn2.cell 1; have hn2_f0 := hn2.free 0; have hn2_f1 := hn2.free 1; have hn2_l := hn2.lt
      go_wp2_with (go_at_call 21; (with_reducible refine (fail_any (Psr.go) 8).mono ?_); rintro e w7 ⟨rfl, hp7, hg7⟩; replace HG := G.trans (w := w) (by exact G.go HG) hg7; replace hn1 := Hx.kept (by first | exact Hx.go hn1 | exact Hx.go2) hg7 (fun e => by have := Option.some.inj e; omega); clear hg7; have hn1_0 := hn1.cell 0; have hn1_1 := hn1.cell 1; have hn1_2 := hn1.cell 2; have hn1_3 := hn1.cell 3; have hn1_f0 := hn1.free 0; have hn1_f1 := hn1.free 1; have hn1_f2 := hn1.free 2; have hn1_f3 := hn1.free 3; have hn1_l := hn1.lt; )
      refine ret_cell [.int .i64 0, .string ⟨#[]⟩, .int .i64 0, .slice none 0 0] w.heap.size 24 rfl rfl (Tryz.isAgg24 _) (Tryz.sizeOf24 _) rfl (by first | exact Hx.go hn1 | exact Hx.go2) ?_
      exact ⟨i, rfl, Psr.go, (by exact G.go HG)⟩
    have hlt : i < TL.length := by
      rcases Nat.lt_or_ge i TL.length with g | g
      · exact g
      · have := hnil (by omega); omega
    clear hnil
    have hkt : (tokAt TL i).2.size ≤ 1000 := by rw [tokAt_lt hlt]; exact HT _ (List.getElem_mem hlt)
    have hwr : IntKind.i64.wrap ((i : Int) + 1) = (i : Int) + 1 := by rw [IntKind.wrap_i64]; omega
    by_cases k2 : (tokAt TL i).1 = 2
    · have hq : exprS (f + 1) (TL.drop i) = .ok (.mk 4 (tokAt TL i).2 0 []) (TL.drop (i + 1)) := by
        rw [tokAt_lt hlt] at k2 ⊢
        rw [drop_hd hlt, exprS_cons, if_pos k2]
      rw [hq]
      have b1 : (((tokAt TL i).1 : Int) != 1) = true := by simp; omega
      have b2 : (((tokAt TL i).1 : Int) != 2) = false := by simp; omega
      have b3 : (((tokAt TL i).1 : Int) == 2) = true := by simp; omega
      clear hq hbad k2 HE
      have HN := Lib.hid (fun w' (h : Psr 44 66 w' b tv TL i 0) => now_any (by omega) hi h)
      go_enter Tryz.func20, Tryz.ntmps20
      go_upto_region 1 with (fail)
      go_cut [4, 5] (fun p4 p5 wc => ∃ TB, p4 = .pointer (some ⟨w.heap.size, 0, none⟩) ∧ p5 = .pointer (some ⟨TB, 0, none⟩) ∧ w.grownBy wc (some b) ∧ Psr 44 66 wc b tv TL i 0 ∧ Hx wc w.heap.size [.int .i64 0, .string ⟨#[]⟩, .int .i64 0, .slice none 0 0] 24 ∧ Hx wc TB [.int .i64 (tokAt TL i).1, .string (tokAt TL i).2] 66 ∧ w.heap.size < TB ∧ tv.ownBlock ≠ some TB)
      case first =>
        go_wp2_with (go_at_call 31; (with_reducible refine (HN.out _ Psr.go).mono ?_); rintro e wn ⟨rfl, hgn⟩; have h2 := Psr.kept Psr.go hgn; have hz := hgn.size; replace HG := G.trans (w := w) (by exact G.go HG) (G.any hgn _); have hn1 := Hx.kept (Hx.new w #[.int .i64 0, .string ⟨#[]⟩, .int .i64 0, .slice none 0 0] 24) hgn (by simp); clear h hgn)
        go_meet
        have hz2 : w.heap.size < wn.heap.size := by simp at hz; omega
        have hno3 : tv.ownBlock ≠ some wn.heap.size := fun e => by have := HTo.out _ e; omega
        have hne3 : b ≠ wn.heap.size := by omega
        exact ⟨_, rfl, rfl, (by exact G.go HG), Psr.go, Hx.go2, Hx.go2, hz2, hno3⟩
      obtain ⟨TB, rfl, rfl, HG, h, hn1, hn2, hTB, hnoT⟩ := hcut
      clear HN
      rename World => wx
      generalize (tokAt TL i).1 = kk at *
      generalize (tokAt TL i).2 = kt at *
      have hbx := h.lt
      have hb := h.box; have hb_0 := hb.cell 0; have hb_1 := hb.cell 1; have hb_2 := hb.cell 2; have hb_f0 := hb.free 0; have hb_f1 := hb.free 1; have hb_f2 := hb.free 2; have hb_l := hb.lt; have hn1_0 := hn1.cell 0; have hn1_1 := hn1.cell 1; have hn1_2 := hn1.cell 2; have hn1_3 := hn1.cell 3; have hn1_f0 := hn1.free 0; have hn1_f1 := hn1.free 1; have hn1_f2 := hn1.free 2; have hn1_f3 := hn1.free 3; have hn1_l := hn1.lt; have hn2_0 := hn2.cell 0; have hn2_1 := hn2.cell 1; have hn2_f0 := hn2.free 0; have hn2_f1 := hn2.free 1; have hn2_l := hn2.lt
      go_wp2_with fail
      refine ret_cell [.int .i64 4, .string kt, .int .i64 0, .slice none 0 0] w.heap.size 24 rfl rfl (Tryz.isAgg24 _) (Tryz.sizeOf24 _) rfl (by first | exact Hx.go hn1 | exact Hx.go2) ?_
      exact RdP.leaf (i := i + 1) (by omega) rfl (by omega) (by omega) Psr.go (by exact G.go HG)
    have k1 : (tokAt TL i).1 = 1 := by omega
    have b1 : (((tokAt TL i).1 : Int) != 1) = false := by simp; omega
    have b3 : (((tokAt TL i).1 : Int) == 2) = false := by simp; omega
    have HId := Lib.hid (fun w => ident_any (tokAt TL i).2 w (by omega))
    have hidb : (identAt (tokAt TL i).2 0 && decide (0 < (tokAt TL i).2.size)) = identB (tokAt TL i).2 := rfl
    rw [hidb] at HId
    clear hidb
    by_cases hc : identB (tokAt TL i).2 = true ∧ headK (TL.drop (i + 1)) = 3
    · have hlt2 : i + 1 < TL.length := by
        rcases Nat.lt_or_ge (i + 1) TL.length with g | g
        · exact g
        · have h3 := hc.2; rw [List.drop_eq_nil_of_le g] at h3; cases h3
      have hq : exprS (f + 1) (TL.drop i) = callQ f (tokAt TL i).2 (TL.drop (i + 2)) := by
        obtain ⟨c1, c2⟩ := hc
        rw [tokAt_lt hlt] at k1 c1 ⊢
        rw [headK_drop, dif_pos hlt2] at c2
        rw [drop_hd hlt, drop_hd hlt2, exprS_callQ k1 c1 c2]
      rw [hq]
      have HY3 := Lib.hid (fun w' (h : Psr 44 66 w' b tv TL (i + 1) 0) => takes_yes (by omega) (by omega) h (k := 3) (by rw [← headK_tok, hc.2]; rfl))
      rw [hc.1] at HId
      have HC := Lib.hid (fun w h => call_any HT hl hd1 HE.out (tokAt TL i).2 hkt (i + 2) (by omega) w h)
      generalize hQ : callQ f (tokAt TL i).2 (TL.drop (i + 2)) = Q at *
      clear hq hc hbad k1 k2 HE
      have HN := Lib.hid (fun w' (h : Psr 44 66 w' b tv TL i 0) => now_any (by omega) hi h)
      go_enter Tryz.func20, Tryz.ntmps20
      go_upto_region 1 with (fail)
      go_cut [4, 5] (fun p4 p5 wc => ∃ TB, p4 = .pointer (some ⟨w.heap.size, 0, none⟩) ∧ p5 = .pointer (some ⟨TB, 0, none⟩) ∧ w.grownBy wc (some b) ∧ Psr 44 66 wc b tv TL i 0 ∧ Hx wc w.heap.size [.int .i64 0, .string ⟨#[]⟩, .int .i64 0, .slice none 0 0] 24 ∧ Hx wc TB [.int .i64 (tokAt TL i).1, .string (tokAt TL i).2] 66 ∧ w.heap.size < TB ∧ tv.ownBlock ≠ some TB)
      case first =>
        go_wp2_with (go_at_call 31; (with_reducible refine (HN.out _ Psr.go).mono ?_); rintro e wn ⟨rfl, hgn⟩; have h2 := Psr.kept Psr.go hgn; have hz := hgn.size; replace HG := G.trans (w := w) (by exact G.go HG) (G.any hgn _); have hn1 := Hx.kept (Hx.new w #[.int .i64 0, .string ⟨#[]⟩, .int .i64 0, .slice none 0 0] 24) hgn (by simp); clear h hgn)
        go_meet
        have hz2 : w.heap.size < wn.heap.size := by simp at hz; omega
        have hno3 : tv.ownBlock ≠ some wn.heap.size := fun e => by have := HTo.out _ e; omega
        have hne3 : b ≠ wn.heap.size := by omega
        exact ⟨_, rfl, rfl, (by exact G.go HG), Psr.go, Hx.go2, Hx.go2, hz2, hno3⟩
      obtain ⟨TB, rfl, rfl, HG, h, hn1, hn2, hTB, hnoT⟩ := hcut
      clear HN
      rename World => wx
      generalize (tokAt TL i).1 = kk at *
      generalize (tokAt TL i).2 = kt at *
      have hbx := h.lt
      have hb := h.box; have hb_0 := hb.cell 0; have hb_1 := hb.cell 1; have hb_2 := hb.cell 2; have hb_f0 := hb.free 0; have hb_f1 := hb.free 1; have hb_f2 := hb.free 2; have hb_l := hb.lt; have hn1_0 := hn1.cell 0; have hn1_1 := hn1.cell 1; have hn1_2 := hn1.cell 2; have hn1_3 := hn1.cell 3; have hn1_f0 := hn1.free 0; have hn1_f1 := hn1.free 1; have hn1_f2 := hn1.free 2; have hn1_f3 := hn1.free 3; have hn1_l := hn1.lt; have hn2_0 := hn2.cell 0; have hn2_1 := hn2.cell 1; have hn2_f0 := hn2.free 0; have hn2_f1 := hn2.free 1; have hn2_l := hn2.lt
      clear hQ
      cases Q with
      | ok a r =>
        have hQ : True := trivial
        go_wp2_with (first | (go_at_call 32; (with_reducible refine (HId.out _).mono ?_); rintro e wn ⟨rfl, rfl⟩) | (go_at_call 33; (with_reducible refine (HY3.out _ Psr.go).mono ?_); rintro e w5 ⟨rfl, hp5, hg5⟩; replace hn1 := Hx.kept (by first | exact Hx.go hn1 | exact Hx.go2) hg5 (fun e => by have := Option.some.inj e; omega); replace hn2 := Hx.kept (by first | exact Hx.go hn2 | exact Hx.go2) hg5 (fun e => by have := Option.some.inj e; omega); replace HG := G.trans (w := w) (by exact G.go HG) hg5; clear hg5 h hb hb_0 hb_1 hb_2 hb_f0 hb_f1 hb_f2 hb_l; have h := hp5; clear hp5; have hb := h.box; have hb_0 := hb.cell 0; have hb_1 := hb.cell 1; have hb_2 := hb.cell 2; have hb_f0 := hb.free 0; have hb_f1 := hb.free 1; have hb_f2 := hb.free 2; have hb_l := hb.lt; have hn1_0 := hn1.cell 0; have hn1_1 := hn1.cell 1; have hn1_2 := hn1.cell 2; have hn1_3 := hn1.cell 3; have hn1_f0 := hn1.free 0; have hn1_f1 := hn1.free 1; have hn1_f2 := hn1.free 2; have hn1_f3 := hn1.free 3; have hn1_l := hn1.lt; have hn2_0 := hn2.cell 0; have hn2_1 := hn2.cell 1; have hn2_f0 := hn2.free 0; have hn2_f1 := hn2.free 1; have hn2_l := hn2.lt; ) | (go_at_call 34; (with_reducible refine (HC.out _ Psr.go).mono ?_); rintro e w7 hR7; obtain ⟨k7, A7, c7, hr7, hk7, rfl, hN7, hp7, hg7⟩ := hR7; clear h hb hb_0 hb_1 hb_2 hb_f0 hb_f1 hb_f2 hb_l; have hsz6 := (show w.grownBy _ (some b) from (by exact G.go HG)).size; replace HG := G.trans (w := w) (by exact G.go HG) hg7; replace hn1 := Hx.kept (by first | exact Hx.go hn1 | exact Hx.go2) hg7 (fun e => by have := Option.some.inj e; omega); have hq7 := G.refl w7 (some w.heap.size); clear hg7; have hn1_0 := hn1.cell 0; have hn1_1 := hn1.cell 1; have hn1_2 := hn1.cell 2; have hn1_3 := hn1.cell 3; have hn1_f0 := hn1.free 0; have hn1_f1 := hn1.free 1; have hn1_f2 := hn1.free 2; have hn1_f3 := hn1.free 3; have hn1_l := hn1.lt; ))
        refine ret_cell [.int .i64 a.kind, .string a.text, .int .i64 a.num, .slice A7 a.kids.length c7] w.heap.size 24 rfl rfl (Tryz.isAgg24 _) (Tryz.sizeOf24 _) rfl (by first | exact Hx.go hn1 | exact Hx.go2) ?_
        exact ⟨k7, A7, c7, hr7, hk7, rfl, (NdV.row hN7 (by exact G.go hq7) (fun k hk e => by have := Option.some.inj e; first | omega | (simp [World.setCell] at hk; omega))).mono (fun k _ hk => by first | omega | (simp [World.setCell] at hk; omega)), Psr.go, (by exact G.go HG)⟩
      | err x =>
        go_wp2_with (first | (go_at_call 32; (with_reducible refine (HId.out _).mono ?_); rintro e wn ⟨rfl, rfl⟩) | (go_at_call 33; (with_reducible refine (HY3.out _ Psr.go).mono ?_); rintro e w5 ⟨rfl, hp5, hg5⟩; replace hn1 := Hx.kept (by first | exact Hx.go hn1 | exact Hx.go2) hg5 (fun e => by have := Option.some.inj e; omega); replace hn2 := Hx.kept (by first | exact Hx.go hn2 | exact Hx.go2) hg5 (fun e => by have := Option.some.inj e; omega); replace HG := G.trans (w := w) (by exact G.go HG) hg5; clear hg5 h hb hb_0 hb_1 hb_2 hb_f0 hb_f1 hb_f2 hb_l; have h := hp5; clear hp5; have hb := h.box; have hb_0 := hb.cell 0; have hb_1 := hb.cell 1; have hb_2 := hb.cell 2; have hb_f0 := hb.free 0; have hb_f1 := hb.free 1; have hb_f2 := hb.free 2; have hb_l := hb.lt; have hn1_0 := hn1.cell 0; have hn1_1 := hn1.cell 1; have hn1_2 := hn1.cell 2; have hn1_3 := hn1.cell 3; have hn1_f0 := hn1.free 0; have hn1_f1 := hn1.free 1; have hn1_f2 := hn1.free 2; have hn1_f3 := hn1.free 3; have hn1_l := hn1.lt; have hn2_0 := hn2.cell 0; have hn2_1 := hn2.cell 1; have hn2_f0 := hn2.free 0; have hn2_f1 := hn2.free 1; have hn2_l := hn2.lt; ) | (go_at_call 34; (with_reducible refine (HC.out _ Psr.go).mono ?_); rintro e w7 hR7; obtain ⟨k7, rfl, hp7, hg7⟩ := hR7; clear h hb hb_0 hb_1 hb_2 hb_f0 hb_f1 hb_f2 hb_l; have hsz6 := (show w.grownBy _ (some b) from (by exact G.go HG)).size; replace HG := G.trans (w := w) (by exact G.go HG) hg7; replace hn1 := Hx.kept (by first | exact Hx.go hn1 | exact Hx.go2) hg7 (fun e => by have := Option.some.inj e; omega); have hq7 := G.refl w7 (some w.heap.size); clear hg7; have hn1_0 := hn1.cell 0; have hn1_1 := hn1.cell 1; have hn1_2 := hn1.cell 2; have hn1_3 := hn1.cell 3; have hn1_f0 := hn1.free 0; have hn1_f1 := hn1.free 1; have hn1_f2 := hn1.free 2; have hn1_f3 := hn1.free 3; have hn1_l := hn1.lt; ))
        refine ret_cell [.int .i64 0, .string ⟨#[]⟩, .int .i64 0, .slice none 0 0] w.heap.size 24 rfl rfl (Tryz.isAgg24 _) (Tryz.sizeOf24 _) rfl (by first | exact Hx.go hn1 | exact Hx.go2) ?_
        exact ⟨k7, rfl, Psr.go, (by exact G.go HG)⟩
    have hq : exprS (f + 1) (TL.drop i) = wordR (tokAt TL i).2 (TL.drop (i + 1)) := by
      rw [tokAt_lt hlt] at k1 hc ⊢
      rw [drop_hd hlt, exprS_word k1 hc]
      rfl
    rw [hq]
    have HW := Lib.hid (fun w h => tword_any (b := b) (tv := tv) (TL := TL) (i := i + 1) (w := w) hlt h (tokAt TL i).2 hkt)
    generalize wordR (tokAt TL i).2 (TL.drop (i + 1)) = Q at *
    clear hq hbad k1 k2 HE
    cases hid : identB (tokAt TL i).2
    · rw [hid] at HId
      clear hid hc
      have HN := Lib.hid (fun w' (h : Psr 44 66 w' b tv TL i 0) => now_any (by omega) hi h)
      go_enter Tryz.func20, Tryz.ntmps20
      go_upto_region 1 with (fail)
      go_cut [4, 5] (fun p4 p5 wc => ∃ TB, p4 = .pointer (some ⟨w.heap.size, 0, none⟩) ∧ p5 = .pointer (some ⟨TB, 0, none⟩) ∧ w.grownBy wc (some b) ∧ Psr 44 66 wc b tv TL i 0 ∧ Hx wc w.heap.size [.int .i64 0, .string ⟨#[]⟩, .int .i64 0, .slice none 0 0] 24 ∧ Hx wc TB [.int .i64 (tokAt TL i).1, .string (tokAt TL i).2] 66 ∧ w.heap.size < TB ∧ tv.ownBlock ≠ some TB)
      case first =>
        go_wp2_with (go_at_call 31; (with_reducible refine (HN.out _ Psr.go).mono ?_); rintro e wn ⟨rfl, hgn⟩; have h2 := Psr.kept Psr.go hgn; have hz := hgn.size; replace HG := G.trans (w := w) (by exact G.go HG) (G.any hgn _); have hn1 := Hx.kept (Hx.new w #[.int .i64 0, .string ⟨#[]⟩, .int .i64 0, .slice none 0 0] 24) hgn (by simp); clear h hgn)
        go_meet
        have hz2 : w.heap.size < wn.heap.size := by simp at hz; omega
        have hno3 : tv.ownBlock ≠ some wn.heap.size := fun e => by have := HTo.out _ e; omega
        have hne3 : b ≠ wn.heap.size := by omega
        exact ⟨_, rfl, rfl, (by exact G.go HG), Psr.go, Hx.go2, Hx.go2, hz2, hno3⟩
      obtain ⟨TB, rfl, rfl, HG, h, hn1, hn2, hTB, hnoT⟩ := hcut
      clear HN
      rename World => wx
      generalize (tokAt TL i).1 = kk at *
      generalize (tokAt TL i).2 = kt at *
      have hbx := h.lt
      have hb := h.box; have hb_0 := hb.cell 0; have hb_1 := hb.cell 1; have hb_2 := hb.cell 2; have hb_f0 := hb.free 0; have hb_f1 := hb.free 1; have hb_f2 := hb.free 2; have hb_l := hb.lt; have hn1_0 := hn1.cell 0; have hn1_1 := hn1.cell 1; have hn1_2 := hn1.cell 2; have hn1_3 := hn1.cell 3; have hn1_f0 := hn1.free 0; have hn1_f1 := hn1.free 1; have hn1_f2 := hn1.free 2; have hn1_f3 := hn1.free 3; have hn1_l := hn1.lt; have hn2_0 := hn2.cell 0; have hn2_1 := hn2.cell 1; have hn2_f0 := hn2.free 0; have hn2_f1 := hn2.free 1; have hn2_l := hn2.lt
      cases Q with
      | ok a r =>
        go_wp2_with (first | (go_at_call 32; (with_reducible refine (HId.out _).mono ?_); rintro e wn ⟨rfl, rfl⟩) | (go_at_call 35; (with_reducible refine (HW.out _ Psr.go).mono ?_); rintro e w7 hR7; obtain ⟨k7, A7, c7, hr7, hk7, rfl, hN7, hp7, hg7⟩ := hR7; clear h hb hb_0 hb_1 hb_2 hb_f0 hb_f1 hb_f2 hb_l; have hsz6 := (show w.grownBy _ (some b) from (by exact G.go HG)).size; replace HG := G.trans (w := w) (by exact G.go HG) hg7; replace hn1 := Hx.kept (by first | exact Hx.go hn1 | exact Hx.go2) hg7 (fun e => by have := Option.some.inj e; omega); have hq7 := G.refl w7 (some w.heap.size); clear hg7; have hn1_0 := hn1.cell 0; have hn1_1 := hn1.cell 1; have hn1_2 := hn1.cell 2; have hn1_3 := hn1.cell 3; have hn1_f0 := hn1.free 0; have hn1_f1 := hn1.free 1; have hn1_f2 := hn1.free 2; have hn1_f3 := hn1.free 3; have hn1_l := hn1.lt; ))
        refine ret_cell [.int .i64 a.kind, .string a.text, .int .i64 a.num, .slice A7 a.kids.length c7] w.heap.size 24 rfl rfl (Tryz.isAgg24 _) (Tryz.sizeOf24 _) rfl (by first | exact Hx.go hn1 | exact Hx.go2) ?_
        exact ⟨k7, A7, c7, hr7, hk7, rfl, (NdV.row hN7 (by exact G.go hq7) (fun k hk e => by have := Option.some.inj e; first | omega | (simp [World.setCell] at hk; omega))).mono (fun k _ hk => by first | omega | (simp [World.setCell] at hk; omega)), Psr.go, (by exact G.go HG)⟩
      | err x =>
        go_wp2_with (first | (go_at_call 32; (with_reducible refine (HId.out _).mono ?_); rintro e wn ⟨rfl, rfl⟩) | (go_at_call 35; (with_reducible refine (HW.out _ Psr.go).mono ?_); rintro e w7 hR7; obtain ⟨k7, rfl, hp7, hg7⟩ := hR7; clear h hb hb_0 hb_1 hb_2 hb_f0 hb_f1 hb_f2 hb_l; have hsz6 := (show w.grownBy _ (some b) from (by exact G.go HG)).size; replace HG := G.trans (w := w) (by exact G.go HG) hg7; replace hn1 := Hx.kept (by first | exact Hx.go hn1 | exact Hx.go2) hg7 (fun e => by have := Option.some.inj e; omega); have hq7 := G.refl w7 (some w.heap.size); clear hg7; have hn1_0 := hn1.cell 0; have hn1_1 := hn1.cell 1; have hn1_2 := hn1.cell 2; have hn1_3 := hn1.cell 3; have hn1_f0 := hn1.free 0; have hn1_f1 := hn1.free 1; have hn1_f2 := hn1.free 2; have hn1_f3 := hn1.free 3; have hn1_l := hn1.lt; ))
        refine ret_cell [.int .i64 0, .string ⟨#[]⟩, .int .i64 0, .slice none 0 0] w.heap.size 24 rfl rfl (Tryz.isAgg24 _) (Tryz.sizeOf24 _) rfl (by first | exact Hx.go hn1 | exact Hx.go2) ?_
        exact ⟨k7, rfl, Psr.go, (by exact G.go HG)⟩
    · have HN3 := Lib.hid (fun w' (h : Psr 44 66 w' b tv TL (i + 1) 0) => takes_no (by omega) (by omega) h (k := 3) (by rw [← headK_tok]; intro g; exact hc ⟨hid, by omega⟩))
      rw [hid] at HId
      clear hid hc
      have HN := Lib.hid (fun w' (h : Psr 44 66 w' b tv TL i 0) => now_any (by omega) hi h)
      go_enter Tryz.func20, Tryz.ntmps20
      go_upto_region 1 with (fail)
      go_cut [4, 5] (fun p4 p5 wc => ∃ TB, p4 = .pointer (some ⟨w.heap.size, 0, none⟩) ∧ p5 = .pointer (some ⟨TB, 0, none⟩) ∧ w.grownBy wc (some b) ∧ Psr 44 66 wc b tv TL i 0 ∧ Hx wc w.heap.size [.int .i64 0, .string ⟨#[]⟩, .int .i64 0, .slice none 0 0] 24 ∧ Hx wc TB [.int .i64 (tokAt TL i).1, .string (tokAt TL i).2] 66 ∧ w.heap.size < TB ∧ tv.ownBlock ≠ some TB)
      case first =>
        go_wp2_with (go_at_call 31; (with_reducible refine (HN.out _ Psr.go).mono ?_); rintro e wn ⟨rfl, hgn⟩; have h2 := Psr.kept Psr.go hgn; have hz := hgn.size; replace HG := G.trans (w := w) (by exact G.go HG) (G.any hgn _); have hn1 := Hx.kept (Hx.new w #[.int .i64 0, .string ⟨#[]⟩, .int .i64 0, .slice none 0 0] 24) hgn (by simp); clear h hgn)
        go_meet
        have hz2 : w.heap.size < wn.heap.size := by simp at hz; omega
        have hno3 : tv.ownBlock ≠ some wn.heap.size := fun e => by have := HTo.out _ e; omega
        have hne3 : b ≠ wn.heap.size := by omega
        exact ⟨_, rfl, rfl, (by exact G.go HG), Psr.go, Hx.go2, Hx.go2, hz2, hno3⟩
      obtain ⟨TB, rfl, rfl, HG, h, hn1, hn2, hTB, hnoT⟩ := hcut
      clear HN
      rename World => wx
      generalize (tokAt TL i).1 = kk at *
      generalize (tokAt TL i).2 = kt at *
      have hbx := h.lt
      have hb := h.box; have hb_0 := hb.cell 0; have hb_1 := hb.cell 1; have hb_2 := hb.cell 2; have hb_f0 := hb.free 0; have hb_f1 := hb.free 1; have hb_f2 := hb.free 2; have hb_l := hb.lt; have hn1_0 := hn1.cell 0; have hn1_1 := hn1.cell 1; have hn1_2 := hn1.cell 2; have hn1_3 := hn1.cell 3; have hn1_f0 := hn1.free 0; have hn1_f1 := hn1.free 1; have hn1_f2 := hn1.free 2; have hn1_f3 := hn1.free 3; have hn1_l := hn1.lt; have hn2_0 := hn2.cell 0; have hn2_1 := hn2.cell 1; have hn2_f0 := hn2.free 0; have hn2_f1 := hn2.free 1; have hn2_l := hn2.lt
      cases Q with
      | ok a r =>
        go_wp2_with (first | (go_at_call 32; (with_reducible refine (HId.out _).mono ?_); rintro e wn ⟨rfl, rfl⟩) | (go_at_call 33; (with_reducible refine (HN3.out _ Psr.go).mono ?_); rintro e w5 ⟨rfl, hg5⟩; have h5 := Psr.kept Psr.go hg5; replace hn1 := Hx.kept (by first | exact Hx.go hn1 | exact Hx.go2) hg5 (by simp); replace hn2 := Hx.kept (by first | exact Hx.go hn2 | exact Hx.go2) hg5 (by simp); replace HG := G.trans (w := w) (by exact G.go HG) (G.any hg5 _); clear hg5 h hb hb_0 hb_1 hb_2 hb_f0 hb_f1 hb_f2 hb_l; have h := h5; clear h5; have hb := h.box; have hb_0 := hb.cell 0; have hb_1 := hb.cell 1; have hb_2 := hb.cell 2; have hb_f0 := hb.free 0; have hb_f1 := hb.free 1; have hb_f2 := hb.free 2; have hb_l := hb.lt; have hn1_0 := hn1.cell 0; have hn1_1 := hn1.cell 1; have hn1_2 := hn1.cell 2; have hn1_3 := hn1.cell 3; have hn1_f0 := hn1.free 0; have hn1_f1 := hn1.free 1; have hn1_f2 := hn1.free 2; have hn1_f3 := hn1.free 3; have hn1_l := hn1.lt; have hn2_0 := hn2.cell 0; have hn2_1 := hn2.cell 1; have hn2_f0 := hn2.free 0; have hn2_f1 := hn2.free 1; have hn2_l := hn2.lt; ) | (go_at_call 35; (with_reducible refine (HW.out _ Psr.go).mono ?_); rintro e w7 hR7; obtain ⟨k7, A7, c7, hr7, hk7, rfl, hN7, hp7, hg7⟩ := hR7; clear h hb hb_0 hb_1 hb_2 hb_f0 hb_f1 hb_f2 hb_l; have hsz6 := (show w.grownBy _ (some b) from (by exact G.go HG)).size; replace HG := G.trans (w := w) (by exact G.go HG) hg7; replace hn1 := Hx.kept (by first | exact Hx.go hn1 | exact Hx.go2) hg7 (fun e => by have := Option.some.inj e; omega); have hq7 := G.refl w7 (some w.heap.size); clear hg7; have hn1_0 := hn1.cell 0; have hn1_1 := hn1.cell 1; have hn1_2 := hn1.cell 2; have hn1_3 := hn1.cell 3; have hn1_f0 := hn1.free 0; have hn1_f1 := hn1.free 1; have hn1_f2 := hn1.free 2; have hn1_f3 := hn1.free 3; have hn1_l := hn1.lt; ))
        refine ret_cell [.int .i64 a.kind, .string a.text, .int .i64 a.num, .slice A7 a.kids.length c7] w.heap.size 24 rfl rfl (Tryz.isAgg24 _) (Tryz.sizeOf24 _) rfl (by first | exact Hx.go hn1 | exact Hx.go2) ?_
        exact ⟨k7, A7, c7, hr7, hk7, rfl, (NdV.row hN7 (by exact G.go hq7) (fun k hk e => by have := Option.some.inj e; first | omega | (simp [World.setCell] at hk; omega))).mono (fun k _ hk => by first | omega | (simp [World.setCell] at hk; omega)), Psr.go, (by exact G.go HG)⟩
      | err x =>
        go_wp2_with (first | (go_at_call 32; (with_reducible refine (HId.out _).mono ?_); rintro e wn ⟨rfl, rfl⟩) | (go_at_call 33; (with_reducible refine (HN3.out _ Psr.go).mono ?_); rintro e w5 ⟨rfl, hg5⟩; have h5 := Psr.kept Psr.go hg5; replace hn1 := Hx.kept (by first | exact Hx.go hn1 | exact Hx.go2) hg5 (by simp); replace hn2 := Hx.kept (by first | exact Hx.go hn2 | exact Hx.go2) hg5 (by simp); replace HG := G.trans (w := w) (by exact G.go HG) (G.any hg5 _); clear hg5 h hb hb_0 hb_1 hb_2 hb_f0 hb_f1 hb_f2 hb_l; have h := h5; clear h5; have hb := h.box; have hb_0 := hb.cell 0; have hb_1 := hb.cell 1; have hb_2 := hb.cell 2; have hb_f0 := hb.free 0; have hb_f1 := hb.free 1; have hb_f2 := hb.free 2; have hb_l := hb.lt; have hn1_0 := hn1.cell 0; have hn1_1 := hn1.cell 1; have hn1_2 := hn1.cell 2; have hn1_3 := hn1.cell 3; have hn1_f0 := hn1.free 0; have hn1_f1 := hn1.free 1; have hn1_f2 := hn1.free 2; have hn1_f3 := hn1.free 3; have hn1_l := hn1.lt; have hn2_0 := hn2.cell 0; have hn2_1 := hn2.cell 1; have hn2_f0 := hn2.free 0; have hn2_f1 := hn2.free 1; have hn2_l := hn2.lt; ) | (go_at_call 35; (with_reducible refine (HW.out _ Psr.go).mono ?_); rintro e w7 hR7; obtain ⟨k7, rfl, hp7, hg7⟩ := hR7; clear h hb hb_0 hb_1 hb_2 hb_f0 hb_f1 hb_f2 hb_l; have hsz6 := (show w.grownBy _ (some b) from (by exact G.go HG)).size; replace HG := G.trans (w := w) (by exact G.go HG) hg7; replace hn1 := Hx.kept (by first | exact Hx.go hn1 | exact Hx.go2) hg7 (fun e => by have := Option.some.inj e; omega); have hq7 := G.refl w7 (some w.heap.size); clear hg7; have hn1_0 := hn1.cell 0; have hn1_1 := hn1.cell 1; have hn1_2 := hn1.cell 2; have hn1_3 := hn1.cell 3; have hn1_f0 := hn1.free 0; have hn1_f1 := hn1.free 1; have hn1_f2 := hn1.free 2; have hn1_f3 := hn1.free 3; have hn1_l := hn1.lt; ))
        refine ret_cell [.int .i64 0, .string ⟨#[]⟩, .int .i64 0, .slice none 0 0] w.heap.size 24 rfl rfl (Tryz.isAgg24 _) (Tryz.sizeOf24 _) rfl (by first | exact Hx.go hn1 | exact Hx.go2) ?_
        exact ⟨k7, rfl, Psr.go, (by exact G.go HG)⟩
end
end Go.Proofs.YtiakgjijlhfneaaGreatDoor
namespace Go.Proofs.YtiakgjijlhfneaaGreatDoor
open Go.RowKit
set_option maxHeartbeats 16000000 in
set_option maxRecDepth 100000 in
theorem parseT_any (s : ByteArray) (w : World) (hs : s.size ≤ 4000) (HT : ∀ ts, lexL s 0 = some ts → ∀ t ∈ ts, t.2.size ≤ 1000) : Calls Tryz.prog 7 #[.string s] w (PaP w (parseN s)) := by
  have HG := G.refl w none
  have hn1 := Hx.new w #[.int .i64 0, .string ⟨#[]⟩, .int .i64 0, .slice none 0 0] 24
  have HL := Lib.hid (fun w => lex_any s w (by omega))
  cases hl : lexL s 0 with
  | none =>
    have hq : parseN s = .err 8 := by unfold parseN; rw [hl]
    rw [hq]
    rw [hl] at HL
    clear hq hl HT
    go_enter Tryz.func7, Tryz.ntmps7
    go_wp2_with (go_at_call 19; (with_reducible refine (HL.out _).mono ?_); rintro e wn ⟨hbn, rfl⟩; have hgn := G.of_below hbn; replace HG := G.trans (w := w) (by exact G.go HG) hgn; replace hn1 := Hx.kept (by first | exact Hx.go hn1 | exact Hx.go2) hgn (by simp); clear hgn hbn; have hn1_0 := hn1.cell 0; have hn1_1 := hn1.cell 1; have hn1_2 := hn1.cell 2; have hn1_3 := hn1.cell 3; have hn1_f0 := hn1.free 0; have hn1_f1 := hn1.free 1; have hn1_f2 := hn1.free 2; have hn1_f3 := hn1.free 3; have hn1_l := hn1.lt; )
    refine ret_cell_tmp [.int .i64 0, .string ⟨#[]⟩, .int .i64 0, .slice none 0 0] w.heap.size 24 rfl rfl (Tryz.isAgg24 _) (Tryz.sizeOf24 _) rfl (by first | exact Hx.go hn1 | exact Hx.go2) ?_
    exact ⟨rfl, (by exact G.go HG)⟩
  | some ts =>
    have hn := lexL_len hl
    have hlen : ts.length ≤ 5000 := by omega
    have hT := HT ts hl
    have HE := Lib.hid (fun b tv w h => expr_any (b := b) (tv := tv) hT hlen 64 0 0 w (by omega) (by omega) (by omega) h)
    rw [parseN_some hl]
    obtain ⟨R, hR⟩ : ∃ R, Hid (parsR ts = R) := ⟨_, Lib.hid rfl⟩
    rw [hR.out]
    rw [hl] at HL
    rw [List.drop_zero] at HE
    clear hl HT hT
    go_enter Tryz.func7, Tryz.ntmps7
    go_upto_region 4 with ((go_at_call 19; (with_reducible refine (HL.out _).mono ?_); rintro e wn ⟨hbn, v, rfl, hrow⟩; have hgn := G.of_below hbn; replace HG := G.trans (w := w) (by exact G.go HG) hgn; replace hn1 := Hx.kept (by first | exact Hx.go hn1 | exact Hx.go2) hgn (by simp); have hwn := hgn.size; obtain ⟨VA, VC, rfl⟩ : ∃ A c, v = .slice A ts.length c := (by rcases hrow.form with ⟨rfl, e⟩ | ⟨g, cap, rfl, _⟩; (exact ⟨none, 0, by rw [e]; rfl⟩); (exact ⟨_, cap, rfl⟩)); clear hgn hbn; have hn1_0 := hn1.cell 0; have hn1_1 := hn1.cell 1; have hn1_2 := hn1.cell 2; have hn1_3 := hn1.cell 3; have hn1_f0 := hn1.free 0; have hn1_f1 := hn1.free 1; have hn1_f2 := hn1.free 2; have hn1_f3 := hn1.free 3; have hn1_l := hn1.lt; ))
    go_cut [2, 3, 4, 6] (fun p2 p3 p4 p6 wc => ∃ PB VA VC, p2 = .pointer (some ⟨w.heap.size, 0, none⟩) ∧ p3 = .int .i64 0 ∧ p4 = .slice VA ts.length VC ∧ p6 = .pointer (some ⟨PB, 0, none⟩) ∧ w.grownBy wc none ∧ Psr 44 66 wc PB (.slice VA ts.length VC) ts 0 0 ∧ Hx wc w.heap.size [.int .i64 0, .string ⟨#[]⟩, .int .i64 0, .slice none 0 0] 24 ∧ w.heap.size < PB)
    case first =>
      go_wp2_with fail
      go_meet
      have hlt : w.heap.size < wn.heap.size := hn1_l
      exact ⟨wn.heap.size, VA, VC, rfl, rfl, rfl, rfl, (by exact G.go HG), ⟨Hx.new' rfl rfl, ⟨_, hrow.alloc _⟩, fun e => by have := (hrow.lt _ e).2; omega⟩, Hx.go2, hlt⟩
    obtain ⟨PB, VA, VC, rfl, rfl, rfl, rfl, HG, h, hn1, hPB⟩ := hcut
    rename World => wx
    have hne1 : PB ≠ w.heap.size := by omega
    have hlx := h.lt
    have hb := h.box; have hb_0 := hb.cell 0; have hb_1 := hb.cell 1; have hb_2 := hb.cell 2; have hb_f0 := hb.free 0; have hb_f1 := hb.free 1; have hb_f2 := hb.free 2; have hb_l := hb.lt; have hn1_0 := hn1.cell 0; have hn1_1 := hn1.cell 1; have hn1_2 := hn1.cell 2; have hn1_3 := hn1.cell 3; have hn1_f0 := hn1.free 0; have hn1_f1 := hn1.free 1; have hn1_f2 := hn1.free 2; have hn1_f3 := hn1.free 3; have hn1_l := hn1.lt
    cases he : exprS 64 ts with
    | err x =>
      rw [he] at HE
      obtain rfl := hR.out.symm.trans (parsR_err he)
      have hx := expr_code 64 _ x he
      have hx1 : (x == 0) = false := by simp; omega
      have hx2 : (x != 0) = true := by simp; omega
      clear he hx hR
      go_wp2_with (go_at_call 20; (with_reducible refine (HE.out _ _ _ Psr.go).mono ?_); rintro e w7 ⟨k7, rfl, h, hg7⟩; replace HG := G.trans' (row := none) (by exact G.go HG) hg7 (fun c e => Or.inl (by have := Option.some.inj e; omega)); replace hn1 := Hx.kept (by first | exact Hx.go hn1 | exact Hx.go2) hg7 (fun e => by have := Option.some.inj e; omega); clear hb hb_0 hb_1 hb_2 hb_f0 hb_f1 hb_f2 hb_l hg7; have hb := h.box; have hb_0 := hb.cell 0; have hb_1 := hb.cell 1; have hb_2 := hb.cell 2; have hb_f0 := hb.free 0; have hb_f1 := hb.free 1; have hb_f2 := hb.free 2; have hb_l := hb.lt; have hn1_0 := hn1.cell 0; have hn1_1 := hn1.cell 1; have hn1_2 := hn1.cell 2; have hn1_3 := hn1.cell 3; have hn1_f0 := hn1.free 0; have hn1_f1 := hn1.free 1; have hn1_f2 := hn1.free 2; have hn1_f3 := hn1.free 3; have hn1_l := hn1.lt; )
      go_region
      all_goals (go_wp2_with fail; refine ret_cell_tmp [.int .i64 0, .string ⟨#[]⟩, .int .i64 0, .slice none 0 0] w.heap.size 24 rfl rfl (Tryz.isAgg24 _) (Tryz.sizeOf24 _) rfl (by first | exact Hx.go hn1 | exact Hx.go2) ?_; exact ⟨rfl, (by exact G.go HG)⟩)
    | ok a r =>
      obtain ⟨m, hm0, hm, rfl⟩ := expr_reach (i := 0) (by omega) (show exprS 64 (ts.drop 0) = _ by rw [List.drop_zero]; exact he)
      rw [he] at HE
      by_cases hml : m < ts.length
      · rw [drop_hd hml] at he
        obtain rfl := hR.out.symm.trans (parsR_more he)
        clear he hR
        go_wp2_with (first | (go_at_call 20; (with_reducible refine (HE.out _ _ _ Psr.go).mono ?_); rintro e w7 ⟨k7, A7, c7, hr7, hk7, rfl, hN7, h, hg7⟩; replace HG := G.trans' (row := none) (by exact G.go HG) hg7 (fun c e => Or.inl (by have := Option.some.inj e; omega)); replace hn1 := Hx.kept (by first | exact Hx.go hn1 | exact Hx.go2) hg7 (fun e => by have := Option.some.inj e; omega); clear hb hb_0 hb_1 hb_2 hb_f0 hb_f1 hb_f2 hb_l hg7; obtain rfl := (drop_inj hr7 hm hk7).symm; have hq7 := G.refl w7 (some w.heap.size); have hb := h.box; have hb_0 := hb.cell 0; have hb_1 := hb.cell 1; have hb_2 := hb.cell 2; have hb_f0 := hb.free 0; have hb_f1 := hb.free 1; have hb_f2 := hb.free 2; have hb_l := hb.lt; have hn1_0 := hn1.cell 0; have hn1_1 := hn1.cell 1; have hn1_2 := hn1.cell 2; have hn1_3 := hn1.cell 3; have hn1_f0 := hn1.free 0; have hn1_f1 := hn1.free 1; have hn1_f2 := hn1.free 2; have hn1_f3 := hn1.free 3; have hn1_l := hn1.lt; ) | (go_at_call 21; (with_reducible refine (fail_any (Psr.go) 8).mono ?_); rintro e w8 ⟨rfl, h, hg8⟩; replace HG := G.trans' (row := none) (by exact G.go HG) hg8 (fun c e => Or.inl (by have := Option.some.inj e; omega)); replace hn1 := Hx.kept (by first | exact Hx.go hn1 | exact Hx.go2) hg8 (fun e => by have := Option.some.inj e; omega); clear hb hb_0 hb_1 hb_2 hb_f0 hb_f1 hb_f2 hb_l hg8; have hb := h.box; have hb_0 := hb.cell 0; have hb_1 := hb.cell 1; have hb_2 := hb.cell 2; have hb_f0 := hb.free 0; have hb_f1 := hb.free 1; have hb_f2 := hb.free 2; have hb_l := hb.lt; have hn1_0 := hn1.cell 0; have hn1_1 := hn1.cell 1; have hn1_2 := hn1.cell 2; have hn1_3 := hn1.cell 3; have hn1_f0 := hn1.free 0; have hn1_f1 := hn1.free 1; have hn1_f2 := hn1.free 2; have hn1_f3 := hn1.free 3; have hn1_l := hn1.lt; ))
        go_region
        all_goals (go_wp2_with fail; refine ret_cell_tmp [.int .i64 0, .string ⟨#[]⟩, .int .i64 0, .slice none 0 0] w.heap.size 24 rfl rfl (Tryz.isAgg24 _) (Tryz.sizeOf24 _) rfl (by first | exact Hx.go hn1 | exact Hx.go2) ?_; exact ⟨rfl, (by exact G.go HG)⟩)
      · rw [List.drop_eq_nil_of_le (by omega)] at he
        obtain rfl := hR.out.symm.trans (parsR_end he)
        clear he hR
        go_wp2_with (go_at_call 20; (with_reducible refine (HE.out _ _ _ Psr.go).mono ?_); rintro e w7 ⟨k7, A7, c7, hr7, hk7, rfl, hN7, h, hg7⟩; replace HG := G.trans' (row := none) (by exact G.go HG) hg7 (fun c e => Or.inl (by have := Option.some.inj e; omega)); replace hn1 := Hx.kept (by first | exact Hx.go hn1 | exact Hx.go2) hg7 (fun e => by have := Option.some.inj e; omega); clear hb hb_0 hb_1 hb_2 hb_f0 hb_f1 hb_f2 hb_l hg7; obtain rfl := (drop_inj hr7 hm hk7).symm; have hq7 := G.refl w7 (some w.heap.size); have hb := h.box; have hb_0 := hb.cell 0; have hb_1 := hb.cell 1; have hb_2 := hb.cell 2; have hb_f0 := hb.free 0; have hb_f1 := hb.free 1; have hb_f2 := hb.free 2; have hb_l := hb.lt; have hn1_0 := hn1.cell 0; have hn1_1 := hn1.cell 1; have hn1_2 := hn1.cell 2; have hn1_3 := hn1.cell 3; have hn1_f0 := hn1.free 0; have hn1_f1 := hn1.free 1; have hn1_f2 := hn1.free 2; have hn1_f3 := hn1.free 3; have hn1_l := hn1.lt; )
        refine ret_cell_tmp [.int .i64 a.kind, .string a.text, .int .i64 a.num, .slice A7 a.kids.length c7] w.heap.size 24 rfl rfl (Tryz.isAgg24 _) (Tryz.sizeOf24 _) rfl (by first | exact Hx.go hn1 | exact Hx.go2) ?_
        exact ⟨A7, c7, rfl, (NdV.row hN7 (by exact G.go hq7) (fun k hk e => by have := Option.some.inj e; omega)).mono (fun _ _ _ => trivial), (by exact G.go HG)⟩
end Go.Proofs.YtiakgjijlhfneaaGreatDoor
