/-
  A row of words that the call owns, with another row of words laid behind it. No program is named here.
-/
import Derived.Test.YthabgdhfbcfjgaaTokRow
import Derived.Laws.AppendOwnNone
namespace Go.Proofs.Ythabgdhfbcfjgaa
open Go.RowKit
section
variable {E : TypeId}
theorem TokRow.split {w : World} {base : Nat} {v : Value} {ts : List Tok} (h : TokRow E w base v ts) : (v = .slice none 0 0 ∧ ts = []) ∨ ∃ g cap, v = .slice (some ⟨g, 0, none⟩) ts.length cap ∧ base ≤ g ∧ g < w.heap.size ∧
    (∀ j u, (ts.flatMap tokCells)[j]? = some u → w.cell? ⟨g, j, none⟩ = some u) := by
  rcases h.2 with ⟨rfl, hn⟩ | ⟨g, cap, cur, rfl, hb, hh, hc, _, hs, ht⟩
  · exact Or.inl ⟨rfl, List.eq_nil_of_length_eq_zero hn⟩
  · refine Or.inr ⟨g, cap, rfl, hb, (Array.getElem?_eq_some_iff.1 hh).1, fun j u hu => ?_⟩
    have cell : w.cell? ⟨g, j, none⟩ = cur[j]? := by simp [World.cell?, hh]
    rw [cell, ← Array.getElem?_toList]
    rw [← ht, List.getElem?_take] at hu
    split at hu
    · exact hu
    · cases hu

theorem wpList_want {P : Program} {ops : Array Oper} {rest : List Oper} {o : Oper} {a : Act} {w : World} {Q : Exit → Act → World → Prop} (hw : Region.wanted o (yielded ops a.tmps) = true)
    (h : ∀ K : Act → World → Prop, (∀ a w, wpList P ops Q rest a w → K a w) → o.wp P a w K Q) : wpList P ops Q (o :: rest) a w :=
  wpList_step fun K hK => by rw [if_pos hw]; exact h K hK
/-- a row of words behind a row that the call owns -/
theorem wpList_append_toks {P : Program} {ops : Array Oper} {rest : List Oper} {o : Oper} {a : Act} {Q : Exit → Act → World → Prop} {w : World} (hwant : Region.wanted o (yielded ops a.tmps) = true) (s x : Operand) (t E : TypeId)
    (ho : o.op = .call { callee := .builtin .append, args := #[s, x], argTypes := #[t, t] }) (ht : P.underlying t = some (.slice E)) (hE : (P.info? E).map (fun i => (i.zero, i.size, i.bytes)) = some (some (.agg #[.int .i64 0, .string ⟨#[]⟩]), 2, 24))
    (base b2 : Nat) (v v2 : Value) (ts us : List Tok) (hs : a.eval s = v) (hx : a.eval x = v2)
    (h : ∀ v' w', TokRow E w' base v' (ts ++ us) → w.grownBy w' v.ownBlock → wpList P ops Q rest (a.put o.dst v') w')
    (hside : TokRow E w base v ts ∧ TokRow E w b2 v2 us ∧ base ≤ w.heap.size ∧ ts.length ≤ 100000 ∧ us.length ≤ 100000) : wpList P ops Q (o :: rest) a w := by
  refine wpList_want hwant fun K hK => ?_
  obtain ⟨i0, hi, hz0, hz1, hz2⟩ := info_parts hE
  obtain ⟨h1, h2, h3, h4, h5⟩ := hside
  rcases h2.split with ⟨rfl, rfl⟩ | ⟨g, cap, rfl, _, _, hc⟩
  · have hrun := run_append_owned_none (P := P) (w := w) base t o.type E i0 2 ht hi v ts.length (ts.flatMap tokCells) h1.own
    unfold Oper.wp
    simp [execOp, ho, resolve, invoke, builtin, hs, hx, hrun, Result.andThen]
    exact hK _ _ <| h v w (by simpa using h1) ⟨rfl, rfl, rfl, Nat.le_refl _, fun _ _ _ => rfl⟩
  · refine wp_append_own w s x t ho base E i0 (.agg #[.int .i64 0, .string ⟨#[]⟩]) 2 24 ht hi hz0 hz1 hz2 rfl (by decide) v ts.length (ts.flatMap tokCells) hs h1.own ⟨g, 0, none⟩ us.length cap (us.flatMap tokCells) hx (tok_len us) ?_ ?_ ?_ ?_ h3 ?_
    · intro j u hu
      have hadd : (⟨g, 0, none⟩ : Addr).add j = ⟨g, j, none⟩ := by unfold Addr.add; split <;> simp_all
      rw [hadd]; exact hc j u hu
    · exact tok_one
    · unfold maxLen; omega
    · omega
    · intro v' w' hown hg _
      have hr : TokRow E w' base v' (ts ++ us) := by unfold TokRow; simpa [List.flatMap_append] using hown
      exact hK _ _ (h v' w' hr hg)
/-- another row is another block: by the types of their elements -/
theorem TokRow.kept_other {w w' : World} {E2 : TypeId} {B B2 : Nat} {v v2 : Value} {ts us : List Tok} (h : TokRow E w B v ts) (h2 : TokRow E2 w B2 v2 us) (hE : E ≠ E2) (hg : w.grownBy w' v2.ownBlock) : TokRow E w' B v ts := by
  refine h.kept hg ?_
  rcases h.2 with ⟨rfl, _⟩ | ⟨g, cap, cur, rfl, _, hh, _⟩
  · exact Or.inl rfl
  · refine Or.inr fun he => ?_
    rcases h2.2 with ⟨rfl, _⟩ | ⟨g2, cap2, cur2, rfl, _, hh2, _⟩
    · cases he
    · simp only [Value.ownBlock, Option.some.injEq] at he
      subst he
      rw [hh] at hh2
      simp only [Option.some.injEq, Obj.cells.injEq] at hh2
      exact hE hh2.2.1
/-- a later row is another block -/
theorem TokRow.kept_later {w1 w w' : World} {E2 : TypeId} {B B1 : Nat} {v v2 : Value} {ts us : List Tok} (h : TokRow E w B v ts) (h2 : TokRow E2 w1 B1 v2 us) (hb : w1.heap.size ≤ B) (hg : w.grownBy w' v2.ownBlock) : TokRow E w' B v ts := by
  refine h.kept hg ?_
  rcases hv : v.ownBlock with _ | k
  · exact Or.inl rfl
  · refine Or.inr fun he => ?_
    have a1 := (h.lt k hv).1
    have a2 := (h2.lt k he.symm).2
    omega
end
end Go.Proofs.Ythabgdhfbcfjgaa
