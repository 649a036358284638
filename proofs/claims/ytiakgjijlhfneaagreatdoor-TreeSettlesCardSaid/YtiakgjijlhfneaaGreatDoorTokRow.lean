/-
  A row of words in memory, and what leaves it as it is. No program is named here.
-/
import Derived.Test.YtiakgjijlhfneaaGreatDoorLexSpec2
namespace Go.Proofs.YtiakgjijlhfneaaGreatDoor
open Go.RowKit

/-- a row of words (of element type E) that the call owns, in blocks from base on -/
def TokRow (E : TypeId) (w : World) (base : Nat) (v : Value) (ts : List Tok) : Prop := w.ownsRow base E 2 v ts.length (ts.flatMap tokCells)
section
variable {E : TypeId} {w w' : World} {base : Nat} {v : Value} {ts : List Tok}
theorem tok_len (ts : List Tok) : (ts.flatMap tokCells).length = ts.length * 2 := by
  induction ts with
  | nil => rfl
  | cons t ts ih => simp [List.flatMap_cons, tokCells, ih]; omega
theorem tok_one : ∀ u ∈ ts.flatMap tokCells, u.oneCell' = true := by
  intro u hu
  obtain ⟨t, _, ht⟩ := List.mem_flatMap.1 hu
  simp only [tokCells, List.mem_cons, List.not_mem_nil, or_false] at ht
  rcases ht with rfl | rfl <;> rfl
theorem TokRow.own (h : TokRow E w base v ts) : w.ownsRow base E 2 v ts.length (ts.flatMap tokCells) := h
theorem TokRow.nil (E : TypeId) (w : World) (base : Nat) : TokRow E w base (.slice none 0 0) [] := World.ownsRow_nil _ _ _ _
theorem TokRow.alloc (h : TokRow E w base v ts) (o : Obj) : TokRow E (w.alloc o) base v ts := World.ownsRow.alloc h o
theorem TokRow.drew (h : TokRow E w base v ts) : TokRow E w.drew base v ts := h
theorem TokRow.drewN (h : TokRow E w base v ts) (n : Nat) : TokRow E (w.drewN n) base v ts := h
theorem TokRow.set (h : TokRow E w base v ts) {c : Nat} (hne : v.ownBlock ≠ some c) (i : Nat) (u : Value) : TokRow E (w.setCell ⟨c, i, none⟩ u) base v ts := ownsRow_setCell_other h hne u
theorem TokRow.lt (h : TokRow E w base v ts) : ∀ k, v.ownBlock = some k → base ≤ k ∧ k < w.heap.size := World.ownsRow.lt h
theorem TokRow.kept {row : Option Nat} (h : TokRow E w base v ts) (hg : w.grownBy w' row) (hne : v.ownBlock = none ∨ v.ownBlock ≠ row) : TokRow E w' base v ts := World.ownsRow.kept h hg hne
theorem TokRow.kept0 (h : TokRow E w base v ts) (hg : w.grownBy w' none) : TokRow E w' base v ts := h.kept hg (by cases v.ownBlock <;> simp)
theorem TokRow.mono {b' : Nat} (h : TokRow E w base v ts) (hb : b' ≤ base) : TokRow E w b' v ts := by
  refine ⟨h.1, ?_⟩
  rcases h.2 with g | ⟨g, cap, cur, e1, e2, e3⟩
  · exact Or.inl g
  · exact Or.inr ⟨g, cap, cur, e1, by omega, e3⟩
theorem TokRow.conv {us : List Tok} (h : TokRow E w base v ts) (e : ts = us) : TokRow E w base v us := e ▸ h
/-- the element at a place -/
theorem TokRow.form (h : TokRow E w base v ts) : (v = .slice none 0 0 ∧ ts = []) ∨ ∃ g cap, v = .slice (some ⟨g, 0, none⟩) ts.length cap ∧ base ≤ g ∧ g < w.heap.size ∧ ts.length ≤ cap ∧
    (∀ i (hi : i < ts.length), w.cell? ⟨g, i * 2, none⟩ = some (.int .i64 ts[i].1) ∧ w.cell? ⟨g, i * 2 + 1, none⟩ = some (.string ts[i].2)) := by
  rcases h.2 with ⟨rfl, hn⟩ | ⟨g, cap, cur, rfl, hb, hh, hc, _, hs, ht⟩
  · exact Or.inl ⟨rfl, List.eq_nil_of_length_eq_zero hn⟩
  · refine Or.inr ⟨g, cap, rfl, hb, (Array.getElem?_eq_some_iff.1 hh).1, hc, fun i hi => ?_⟩
    have cell : ∀ j, w.cell? ⟨g, j, none⟩ = cur[j]? := fun j => by simp [World.cell?, hh]
    have get : ∀ j, j < ts.length * 2 → cur[j]? = (ts.flatMap tokCells)[j]? := fun j hj => by
      rw [← ht, List.getElem?_take, if_pos hj]; simp
    have key : ∀ (l : List Tok) (i : Nat) (hi : i < l.length), (l.flatMap tokCells)[i * 2]? = some (.int .i64 l[i].1) ∧ (l.flatMap tokCells)[i * 2 + 1]? = some (.string l[i].2) := by
      intro l
      induction l with
      | nil => intro i hi; simp at hi
      | cons t l ih =>
        intro i hi
        cases i with
        | zero => simp [List.flatMap_cons, tokCells]
        | succ i =>
          have := ih i (by simpa using hi)
          simp only [List.flatMap_cons, tokCells, show (i + 1) * 2 = i * 2 + 2 from by omega, show i * 2 + 2 + 1 = i * 2 + 1 + 2 from by omega, List.cons_append, List.nil_append, List.getElem?_cons_succ, List.getElem_cons_succ]
          exact this
    have k := key ts i hi
    exact ⟨by rw [cell, get _ (by omega)]; exact k.1, by rw [cell, get _ (by omega)]; exact k.2⟩

/-- one word more behind a row that the call owns -/
theorem wpList_append_tok {P : Program} {ops : Array Oper} {rest : List Oper} {o : Oper} {a : Act} {Q : Exit → Act → World → Prop} {w : World} (hgd : o.guard = none) (s x : Operand) (t E : TypeId)
    (ho : o.op = .call { callee := .builtin .append, args := #[s, x], argTypes := #[t, t] }) (ht : P.underlying t = some (.slice E)) (hE : (P.info? E).map (fun i => (i.zero, i.size, i.bytes)) = some (some (.agg #[.int .i64 0, .string ⟨#[]⟩]), 2, 24))
    (base : Nat) (v : Value) (ts : List Tok) (hs : a.eval s = v) (g : Nat) (tk : Tok) (hx : a.eval x = .slice (some ⟨g, 0, none⟩) 1 1)
    (h : ∀ g' cap' w', TokRow E w' base (.slice (some ⟨g', 0, none⟩) (ts.length + 1) cap') (ts ++ [tk]) → w.grownBy w' v.ownBlock → wpList P ops Q rest (a.put o.dst (.slice (some ⟨g', 0, none⟩) (ts.length + 1) cap')) w')
    (hside : TokRow E w base v ts ∧ Hx w g (tokCells tk) E ∧ base ≤ w.heap.size ∧ ts.length ≤ 100000) : wpList P ops Q (o :: rest) a w := by
  obtain ⟨i0, hi, hz0, hz1, hz2⟩ := info_parts hE
  obtain ⟨h1, h2, h3, h4⟩ := hside
  refine wpList_append_own w hgd s x t ho base E i0 (.agg #[.int .i64 0, .string ⟨#[]⟩]) 2 24 ht hi hz0 hz1 hz2 rfl (by decide) v ts.length (ts.flatMap tokCells) hs h1.own ⟨g, 0, none⟩ 1 1 (tokCells tk) hx rfl ?_ ?_ ?_ ?_ h3 ?_
  · intro j u hu
    have hadd : (⟨g, 0, none⟩ : Addr).add j = ⟨g, j, none⟩ := by unfold Addr.add; split <;> simp_all
    rw [hadd, h2.cell]; exact hu
  · intro u hu
    exact tok_one (ts := [tk]) u (by simpa using hu)
  · unfold maxLen; omega
  · omega
  · intro v' w' hown hg _
    have hr : TokRow E w' base v' (ts ++ [tk]) := by unfold TokRow; simpa [List.flatMap_append] using hown
    rcases hr.form with ⟨_, he⟩ | ⟨g', cap', hv, _⟩
    · simp at he
    · rw [List.length_append, List.length_singleton] at hv
      subst hv
      exact h g' cap' w' hr hg

/-- the same as one step of a region that draws its order -/
theorem step_append_tok {P : Program} {ops : Array Oper} {o : Oper} {a : Act} {K : Act → World → Prop} {Q : Exit → Act → World → Prop} {F : Prop} {w : World} (hgd : o.guard = none) (s x : Operand) (t E : TypeId)
    (ho : o.op = .call { callee := .builtin .append, args := #[s, x], argTypes := #[t, t] }) (ht : P.underlying t = some (.slice E)) (hE : (P.info? E).map (fun i => (i.zero, i.size, i.bytes)) = some (some (.agg #[.int .i64 0, .string ⟨#[]⟩]), 2, 24))
    (base : Nat) (v : Value) (ts : List Tok) (hs : a.eval s = v) (g : Nat) (tk : Tok) (hx : a.eval x = .slice (some ⟨g, 0, none⟩) 1 1)
    (h : ∀ g' cap' w', TokRow E w' base (.slice (some ⟨g', 0, none⟩) (ts.length + 1) cap') (ts ++ [tk]) → w.grownBy w' v.ownBlock → K (a.put o.dst (.slice (some ⟨g', 0, none⟩) (ts.length + 1) cap')) w')
    (hside : TokRow E w base v ts ∧ Hx w g (tokCells tk) E ∧ base ≤ w.heap.size ∧ ts.length ≤ 100000) : if Region.wanted o (yielded ops a.tmps) = true then Oper.wp P o a w K Q else F := by
  have hw : Region.wanted o (yielded ops a.tmps) = true := by simp [Region.wanted, hgd]
  rw [if_pos hw]
  obtain ⟨i0, hi, hz0, hz1, hz2⟩ := info_parts hE
  obtain ⟨h1, h2, h3, h4⟩ := hside
  refine wp_append_own w s x t ho base E i0 (.agg #[.int .i64 0, .string ⟨#[]⟩]) 2 24 ht hi hz0 hz1 hz2 rfl (by decide) v ts.length (ts.flatMap tokCells) hs h1.own ⟨g, 0, none⟩ 1 1 (tokCells tk) hx rfl ?_ ?_ ?_ ?_ h3 ?_
  · intro j u hu
    have hadd : (⟨g, 0, none⟩ : Addr).add j = ⟨g, j, none⟩ := by unfold Addr.add; split <;> simp_all
    rw [hadd, h2.cell]; exact hu
  · intro u hu
    exact tok_one (ts := [tk]) u (by simpa using hu)
  · unfold maxLen; omega
  · omega
  · intro v' w' hown hg _
    have hr : TokRow E w' base v' (ts ++ [tk]) := by unfold TokRow; simpa [List.flatMap_append] using hown
    rcases hr.form with ⟨_, he⟩ | ⟨g', cap', hv, _⟩
    · simp at he
    · rw [List.length_append, List.length_singleton] at hv
      subst hv
      exact h g' cap' w' hr hg
end
end Go.Proofs.YtiakgjijlhfneaaGreatDoor
