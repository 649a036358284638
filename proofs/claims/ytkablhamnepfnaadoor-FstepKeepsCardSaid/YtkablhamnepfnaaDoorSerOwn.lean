/-
  A row laid behind an own one at once; the walks of the reference's Own and Same. Printed by genserown.py.
-/
import Derived.Test.YtkablhamnepfnaaDoorSerIs
import Derived.Laws.StructEq
import Derived.Laws.AppendOwnNone
import Derived.BigQuiet
namespace Go.Proofs.YtkablhamnepfnaaDoor
open Go.RowKit
theorem run_append_nothing {P : Program} {w : World} (base : Nat) (t ty e : TypeId) (i : TypeInfo) (size : Nat) (ht : P.underlying t = some (.slice e)) (hi : P.info? e = some i)
    (v : Value) (n : Nat) (xs : List Value) (hown : w.ownsRow base e size v n xs) (A : Option Addr) (c : Nat) :
    (Builtin.append_ #[t, t] ty #[v, .slice A 0 c]).run P w = .ok v w := by
  rcases hown.2 with ⟨rfl, rfl⟩ | ⟨g, cap, cur, rfl, _, _, hnc, _⟩
  · cases A <;> simp [Builtin.append_, run_underlying ht, sizeOf, typeInfo, hi, Builtin.lenOf, Builtin.firstCells, loadCells, loadCellsFrom, Result.andThen]
  · cases A <;> simp [Builtin.append_, run_underlying ht, sizeOf, typeInfo, hi, Builtin.lenOf, Builtin.firstCells, hnc, storeCells, loadCells, loadCellsFrom, Result.andThen]
/-- a whole row behind one that the call owns -/
theorem wpList_append_row {P : Program} {ops : Array Oper} {rest : List Oper} {o : Oper} {a : Act} {Q : Exit → Act → World → Prop} {w : World} {α : Type} (L : Elt α) (hgd : o.guard = none) (s x : Operand) (t E : TypeId)
    (ho : o.op = .call { callee := .builtin .append, args := #[s, x], argTypes := #[t, t] }) (ht : P.underlying t = some (.slice E)) (hE : (P.info? E).map (fun i => (i.zero, i.size, i.bytes)) = some (some L.zero, L.k, L.bytes))
    (base : Nat) (v : Value) (ts : List α) (hs : a.eval s = v) (u : Value) (us : List α) (hx : a.eval x = u)
    (h : ∀ v' w', EOwn L E w' base v' (ts ++ us) → w.grownBy w' v.ownBlock → wpList P ops Q rest (a.put o.dst v') w')
    (hside : EOwn L E w base v ts ∧ ERow L w u us ∧ base ≤ w.heap.size ∧ ts.length + us.length ≤ 10000000) : wpList P ops Q (o :: rest) a w := by
  obtain ⟨i0, hi, hz0, hz1, hz2⟩ := info_parts hE
  obtain ⟨h1, h2, h3, h4⟩ := hside
  obtain ⟨A, c, rfl, hc1, hc2, hcell⟩ := h2
  by_cases h0 : us.length = 0
  · obtain rfl : us = [] := List.eq_nil_of_length_eq_zero h0
    refine wpList_plain hgd fun K hK => ?_
    have hrun := run_append_nothing (P := P) (w := w) base t o.type E i0 L.k ht hi v ts.length (ts.flatMap L.cells) h1.own A c
    unfold Oper.wp execOp
    simp only [ho, resolve, invoke, builtin, Sem.run_bind, Sem.run_pure, Result.andThen_ok, List.map_toArray, List.map_cons, List.map_nil, hs, hx, List.length_nil, hrun]
    exact hK _ _ (h v w (by rw [List.append_nil]; exact h1) (G.refl _ _))
  obtain ⟨b, o2, rfl, hb, hcc⟩ := hcell (by omega)
  refine wpList_append_own w hgd s x t ho base E i0 L.zero L.k L.bytes ht hi hz0 hz1 hz2 L.zc L.pos v ts.length (ts.flatMap L.cells) hs h1.own ⟨b, o2, none⟩ us.length c (us.flatMap L.cells) hx (L.flat_len us) ?_ (L.flat_one us) ?_ ?_ h3 ?_
  · intro j y hu
    have hadd : (⟨b, o2, none⟩ : Addr).add j = ⟨b, o2 + j, none⟩ := by unfold Addr.add; split <;> simp_all
    rw [hadd]
    have hj : j < us.length * L.k := by rw [← L.flat_len]; exact (List.getElem?_eq_some_iff.1 hu).1
    have hp := L.pos
    have hi2 : j / L.k < us.length := (Nat.div_lt_iff_lt_mul hp).2 hj
    have hm : j % L.k < L.k := Nat.mod_lt _ hp
    have hdm : j / L.k * L.k + j % L.k = j := Nat.div_add_mod' j L.k
    have hm2 : j % L.k < (L.cells us[j / L.k]).length := by rw [L.len]; exact hm
    have e1 := L.flat_at us (j / L.k) hi2 (j % L.k) _ (List.getElem?_eq_getElem hm2)
    rw [hdm, hu] at e1
    have e2 := hcc (j / L.k) hi2 (j % L.k) _ (List.getElem?_eq_getElem hm2)
    rw [Nat.add_assoc, hdm] at e2
    rw [e2, e1]
  · unfold maxLen; omega
  · have := L.small
    have h5 : (ts.length + us.length) * L.bytes ≤ 10000000 * 200 := Nat.mul_le_mul (by omega) this
    omega
  · intro v' w' hown hg _
    refine h v' w' ?_ hg
    unfold EOwn
    rw [List.length_append, List.flatMap_append]
    exact hown
/-- where a walk is to stand still -/
def StopO (p : Prop) : Prop := p
theorem stop_own {p : Prop} (h : StopO p) : p := h
/-- a series handed back -/
def SerRet (S : Ser) (w : World) (e : Ending) (w' : World) : Prop := ∃ u, e = .returned (.agg #[.string S.name, .int .i64 S.start, .int .i64 S.step, u, .int .i64 S.cons]) ∧ ERow valE w' u S.vals ∧ w.grownBy w' none
end Go.Proofs.YtkablhamnepfnaaDoor
