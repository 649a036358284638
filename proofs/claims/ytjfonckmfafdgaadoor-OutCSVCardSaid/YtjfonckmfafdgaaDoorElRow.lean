/-
  Rows of elements in memory: such that are read alone, and such that the call owns and appends to. No program is named here.
-/
import Derived.Test.YtjfonckmfafdgaaDoorAid
namespace Go.Proofs.YtjfonckmfafdgaaDoor
open Go.RowKit

/-- how an element lies in memory -/
structure Elt (α : Type) where
  cells : α → List Value
  k : Nat
  zero : Value
  bytes : Nat
  len : ∀ a, (cells a).length = k
  one : ∀ a, ∀ u ∈ cells a, u.oneCell' = true
  zc : zero.cells.size = k
  pos : 0 < k
  small : bytes ≤ 200
def strE : Elt ByteArray := { cells := fun s => [.string s], k := 1, zero := .string ⟨#[]⟩, bytes := 16, len := fun _ => rfl, one := fun _ u h => (by simp at h; subst h; rfl), zc := rfl, pos := by omega, small := by omega }
def valE : Elt (Bool × Int) := { cells := fun v => [.bool v.1, .int .i64 v.2], k := 2, zero := .agg #[.bool false, .int .i64 0], bytes := 16, len := fun _ => rfl, one := fun _ u h => (by simp at h; rcases h with rfl | rfl <;> rfl), zc := rfl, pos := by omega, small := by omega }

section
variable {α : Type} (L : Elt α)
theorem Elt.flat_len (ts : List α) : (ts.flatMap L.cells).length = ts.length * L.k := by
  induction ts with
  | nil => simp
  | cons t ts ih => rw [List.flatMap_cons, List.length_append, ih, L.len, List.length_cons, Nat.succ_mul]; omega
theorem Elt.flat_one (ts : List α) : ∀ u ∈ ts.flatMap L.cells, u.oneCell' = true := by
  intro u hu
  obtain ⟨t, _, ht⟩ := List.mem_flatMap.1 hu
  exact L.one t u ht
theorem Elt.flat_at : ∀ (l : List α) (i : Nat) (hi : i < l.length) (j : Nat) (u : Value), (L.cells l[i])[j]? = some u → (l.flatMap L.cells)[i * L.k + j]? = some u := by
  intro l
  induction l with
  | nil => intro i hi; simp at hi
  | cons t l ih =>
    intro i hi j u hu
    rw [List.flatMap_cons]
    cases i with
    | zero =>
      have hj : j < (L.cells t).length := (List.getElem?_eq_some_iff.1 hu).1
      rw [Nat.zero_mul, Nat.zero_add, List.getElem?_append_left hj]; exact hu
    | succ i =>
      rw [List.getElem?_append_right (by rw [L.len, Nat.succ_mul]; omega), L.len, show (i + 1) * L.k + j - L.k = i * L.k + j from by rw [Nat.succ_mul]; omega]
      exact ih i (by simpa using hi) j u hu
/-- a row that the call owns, in blocks from base on -/
def EOwn (E : TypeId) (w : World) (base : Nat) (v : Value) (ts : List α) : Prop := w.ownsRow base E L.k v ts.length (ts.flatMap L.cells)
/-- a row that is read -/
def ERow (w : World) (v : Value) (ts : List α) : Prop :=
  ∃ A c, v = .slice A ts.length c ∧ ts.length ≤ c ∧ c ≤ maxLen ∧ (0 < ts.length → ∃ b o, A = some ⟨b, o, none⟩ ∧ b < w.heap.size ∧ ∀ i (hi : i < ts.length) j u, (L.cells ts[i])[j]? = some u → w.cell? ⟨b, o + i * L.k + j, none⟩ = some u)
end

section
variable {α : Type} {L : Elt α} {E : TypeId} {w w' : World} {base : Nat} {v : Value} {ts : List α}
theorem EOwn.own (h : EOwn L E w base v ts) : w.ownsRow base E L.k v ts.length (ts.flatMap L.cells) := h
theorem EOwn.nil (L : Elt α) (E : TypeId) (w : World) (base : Nat) : EOwn L E w base (.slice none 0 0) [] := World.ownsRow_nil _ _ _ _
theorem EOwn.alloc (h : EOwn L E w base v ts) (o : Obj) : EOwn L E (w.alloc o) base v ts := World.ownsRow.alloc h o
theorem EOwn.drew (h : EOwn L E w base v ts) : EOwn L E w.drew base v ts := h
theorem EOwn.drewN (h : EOwn L E w base v ts) (n : Nat) : EOwn L E (w.drewN n) base v ts := h
theorem EOwn.set (h : EOwn L E w base v ts) {c : Nat} (hne : v.ownBlock ≠ some c) (i : Nat) (u : Value) : EOwn L E (w.setCell ⟨c, i, none⟩ u) base v ts := ownsRow_setCell_other h hne u
theorem EOwn.lt (h : EOwn L E w base v ts) : ∀ k, v.ownBlock = some k → base ≤ k ∧ k < w.heap.size := World.ownsRow.lt h
theorem EOwn.kept {row : Option Nat} (h : EOwn L E w base v ts) (hg : w.grownBy w' row) (hne : v.ownBlock = none ∨ v.ownBlock ≠ row) : EOwn L E w' base v ts := World.ownsRow.kept h hg hne
theorem EOwn.kept0 (h : EOwn L E w base v ts) (hg : w.grownBy w' none) : EOwn L E w' base v ts := h.kept hg (by cases v.ownBlock <;> simp)
theorem EOwn.mono {b' : Nat} (h : EOwn L E w base v ts) (hb : b' ≤ base) : EOwn L E w b' v ts := by
  refine ⟨h.1, ?_⟩
  rcases h.2 with g | ⟨g, cap, cur, e1, e2, e3⟩
  · exact Or.inl g
  · exact Or.inr ⟨g, cap, cur, e1, by omega, e3⟩
theorem EOwn.conv {us : List α} (h : EOwn L E w base v ts) (e : ts = us) : EOwn L E w base v us := e ▸ h
/-- what is appended to it makes new blocks alone, as seen from where it began -/
theorem EOwn.grow {w0 w1 : World} (h : EOwn L E w w0.heap.size v ts) (h0 : w0.grownBy w none) (hg : w.grownBy w1 v.ownBlock) : w0.grownBy w1 none :=
  G.trans' h0 hg (fun c e => Or.inl (h.lt c e).1)
/-- what it is -/
theorem EOwn.form (h : EOwn L E w base v ts) : (v = .slice none 0 0 ∧ ts = []) ∨ ∃ g cap, v = .slice (some ⟨g, 0, none⟩) ts.length cap ∧ base ≤ g ∧ g < w.heap.size ∧ ts.length ≤ cap ∧ cap ≤ maxLen ∧
    (∀ i (hi : i < ts.length) j u, (L.cells ts[i])[j]? = some u → w.cell? ⟨g, i * L.k + j, none⟩ = some u) := by
  rcases h.2 with ⟨rfl, hn⟩ | ⟨g, cap, cur, rfl, hb, hh, hc, hm, hs, ht⟩
  · exact Or.inl ⟨rfl, List.eq_nil_of_length_eq_zero hn⟩
  · refine Or.inr ⟨g, cap, rfl, hb, (Array.getElem?_eq_some_iff.1 hh).1, hc, hm, fun i hi j u hu => ?_⟩
    have cell : ∀ j, w.cell? ⟨g, j, none⟩ = cur[j]? := fun j => by simp [World.cell?, hh]
    have hj : j < (L.cells ts[i]).length := (List.getElem?_eq_some_iff.1 hu).1
    rw [L.len] at hj
    have hb2 : i * L.k + j < ts.length * L.k := by
      have : (i + 1) * L.k ≤ ts.length * L.k := Nat.mul_le_mul_right _ hi
      rw [Nat.succ_mul] at this; omega
    have k := L.flat_at ts i hi j u hu
    rw [← ht, List.getElem?_take, if_pos hb2] at k
    rw [cell]
    simpa using k
theorem EOwn.row (h : EOwn L E w base v ts) : ERow L w v ts := by
  rcases h.form with ⟨rfl, rfl⟩ | ⟨g, cap, rfl, _, hlt, hc, hm, hcell⟩
  · exact ⟨none, 0, rfl, Nat.le_refl _, Nat.zero_le _, fun h => absurd h (by simp)⟩
  · exact ⟨_, cap, rfl, hc, hm, fun _ => ⟨g, 0, rfl, hlt, fun i hi j u hu => by rw [Nat.zero_add]; exact hcell i hi j u hu⟩⟩
theorem ERow.nil (w : World) : ERow L w (.slice none 0 0) [] := ⟨none, 0, rfl, Nat.le_refl _, Nat.zero_le _, fun h => absurd h (by simp)⟩
theorem ERow.conv {us : List α} (h : ERow L w v ts) (e : ts = us) : ERow L w v us := e ▸ h
/-- a row in a block that is known whole -/
theorem ERow.of_hx {b : Nat} {T : TypeId} {cap : Nat} (hc : ts.length ≤ cap) (hm : cap ≤ maxLen) (h : Hx w b (ts.flatMap L.cells) T) : ERow L w (.slice (some ⟨b, 0, none⟩) ts.length cap) ts := by
  refine ⟨_, _, rfl, hc, hm, fun _ => ⟨b, 0, rfl, h.lt, fun i hi j u hu => ?_⟩⟩
  rw [Nat.zero_add, h.cell]
  exact L.flat_at ts i hi j u hu
theorem ERow.of_hx_more {b : Nat} {T : TypeId} {cap : Nat} {more : List Value} (hc : ts.length ≤ cap) (hm : cap ≤ maxLen) (h : Hx w b (ts.flatMap L.cells ++ more) T) : ERow L w (.slice (some ⟨b, 0, none⟩) ts.length cap) ts := by
  refine ⟨_, _, rfl, hc, hm, fun _ => ⟨b, 0, rfl, h.lt, fun i hi j u hu => ?_⟩⟩
  rw [Nat.zero_add, h.cell]
  have k := L.flat_at ts i hi j u hu
  rw [List.getElem?_append_left (List.getElem?_eq_some_iff.1 k).1]
  exact k
theorem ERow.kept {row : Option Nat} (h : ERow L w v ts) (hg : w.grownBy w' row) (hr : ∀ A n c, v = .slice (some A) n c → some A.block ≠ row) : ERow L w' v ts := by
  obtain ⟨A, c, rfl, h1, h2, h3⟩ := h
  refine ⟨A, c, rfl, h1, h2, fun hp => ?_⟩
  obtain ⟨b, o, rfl, hb, hc⟩ := h3 hp
  refine ⟨b, o, rfl, Nat.lt_of_lt_of_le hb hg.size, fun i hi j u hu => ?_⟩
  rw [G.cell hg (a := ⟨b, o + i * L.k + j, none⟩) hb (hr ⟨b, o, none⟩ _ _ rfl)]
  exact hc i hi j u hu
theorem ERow.kept0 (h : ERow L w v ts) (hg : w.grownBy w' none) : ERow L w' v ts := h.kept hg (fun _ _ _ _ => by simp)
theorem ERow.alloc (h : ERow L w v ts) (o : Obj) : ERow L (w.alloc o) v ts := h.kept0 (World.grownBy_alloc w o none)
theorem ERow.drew (h : ERow L w v ts) : ERow L w.drew v ts := h
theorem ERow.drewN (h : ERow L w v ts) (n : Nat) : ERow L (w.drewN n) v ts := h
theorem ERow.below {B : Nat} (h : ERow L w v ts) (hb : Below B w w') (hB : w.heap.size ≤ B) : ERow L w' v ts := h.kept0 (G.of_below (hb.mono hB))
theorem ERow.le (h : ERow L w v ts) : ts.length ≤ maxLen := by obtain ⟨A, c, _, h1, h2, _⟩ := h; omega

/-- one element more behind a row that the call owns -/
theorem wpList_append_el {P : Program} {ops : Array Oper} {rest : List Oper} {o : Oper} {a : Act} {Q : Exit → Act → World → Prop} {w : World} (L : Elt α) (hgd : o.guard = none) (s x : Operand) (t E : TypeId)
    (ho : o.op = .call { callee := .builtin .append, args := #[s, x], argTypes := #[t, t] }) (ht : P.underlying t = some (.slice E)) (hE : (P.info? E).map (fun i => (i.zero, i.size, i.bytes)) = some (some L.zero, L.k, L.bytes))
    (base : Nat) (v : Value) (ts : List α) (hs : a.eval s = v) (g : Nat) (tk : α) (T : TypeId) (hx : a.eval x = .slice (some ⟨g, 0, none⟩) 1 1)
    (h : ∀ g' cap' w', EOwn L E w' base (.slice (some ⟨g', 0, none⟩) (ts.length + 1) cap') (ts ++ [tk]) → w.grownBy w' v.ownBlock → wpList P ops Q rest (a.put o.dst (.slice (some ⟨g', 0, none⟩) (ts.length + 1) cap')) w')
    (hside : EOwn L E w base v ts ∧ Hx w g (L.cells tk) T ∧ base ≤ w.heap.size ∧ ts.length ≤ 10000000) : wpList P ops Q (o :: rest) a w := by
  obtain ⟨i0, hi, hz0, hz1, hz2⟩ := info_parts hE
  obtain ⟨h1, h2, h3, h4⟩ := hside
  refine wpList_append_own w hgd s x t ho base E i0 L.zero L.k L.bytes ht hi hz0 hz1 hz2 L.zc L.pos v ts.length (ts.flatMap L.cells) hs h1.own ⟨g, 0, none⟩ 1 1 (L.cells tk) hx (by rw [L.len, Nat.one_mul]) ?_ ?_ ?_ ?_ h3 ?_
  · intro j u hu
    have hadd : (⟨g, 0, none⟩ : Addr).add j = ⟨g, j, none⟩ := by unfold Addr.add; split <;> simp_all
    rw [hadd, h2.cell]; exact hu
  · exact L.one tk
  · unfold maxLen; omega
  · have := L.small
    have h5 : (ts.length + 1) * L.bytes ≤ (10000000 + 1) * 200 := Nat.mul_le_mul (by omega) this
    omega
  · intro v' w' hown hg _
    have hr : EOwn L E w' base v' (ts ++ [tk]) := by unfold EOwn; simpa [List.flatMap_append] using hown
    rcases hr.form with ⟨_, he⟩ | ⟨g', cap', hv, _⟩
    · simp at he
    · rw [List.length_append, List.length_singleton] at hv
      subst hv
      exact h g' cap' w' hr hg
/-- the same as one step of a region that draws its order -/
theorem step_append_el {P : Program} {ops : Array Oper} {o : Oper} {a : Act} {K : Act → World → Prop} {Q : Exit → Act → World → Prop} {F : Prop} {w : World} (L : Elt α) (hgd : o.guard = none) (s x : Operand) (t E : TypeId)
    (ho : o.op = .call { callee := .builtin .append, args := #[s, x], argTypes := #[t, t] }) (ht : P.underlying t = some (.slice E)) (hE : (P.info? E).map (fun i => (i.zero, i.size, i.bytes)) = some (some L.zero, L.k, L.bytes))
    (base : Nat) (v : Value) (ts : List α) (hs : a.eval s = v) (g : Nat) (tk : α) (T : TypeId) (hx : a.eval x = .slice (some ⟨g, 0, none⟩) 1 1)
    (h : ∀ g' cap' w', EOwn L E w' base (.slice (some ⟨g', 0, none⟩) (ts.length + 1) cap') (ts ++ [tk]) → w.grownBy w' v.ownBlock → K (a.put o.dst (.slice (some ⟨g', 0, none⟩) (ts.length + 1) cap')) w')
    (hside : EOwn L E w base v ts ∧ Hx w g (L.cells tk) T ∧ base ≤ w.heap.size ∧ ts.length ≤ 10000000) : if Region.wanted o (yielded ops a.tmps) = true then Oper.wp P o a w K Q else F := by
  have hw : Region.wanted o (yielded ops a.tmps) = true := by simp [Region.wanted, hgd]
  rw [if_pos hw]
  obtain ⟨i0, hi, hz0, hz1, hz2⟩ := info_parts hE
  obtain ⟨h1, h2, h3, h4⟩ := hside
  refine wp_append_own w s x t ho base E i0 L.zero L.k L.bytes ht hi hz0 hz1 hz2 L.zc L.pos v ts.length (ts.flatMap L.cells) hs h1.own ⟨g, 0, none⟩ 1 1 (L.cells tk) hx (by rw [L.len, Nat.one_mul]) ?_ ?_ ?_ ?_ h3 ?_
  · intro j u hu
    have hadd : (⟨g, 0, none⟩ : Addr).add j = ⟨g, j, none⟩ := by unfold Addr.add; split <;> simp_all
    rw [hadd, h2.cell]; exact hu
  · exact L.one tk
  · unfold maxLen; omega
  · have := L.small
    have h5 : (ts.length + 1) * L.bytes ≤ (10000000 + 1) * 200 := Nat.mul_le_mul (by omega) this
    omega
  · intro v' w' hown hg _
    have hr : EOwn L E w' base v' (ts ++ [tk]) := by unfold EOwn; simpa [List.flatMap_append] using hown
    rcases hr.form with ⟨_, he⟩ | ⟨g', cap', hv, _⟩
    · simp at he
    · rw [List.length_append, List.length_singleton] at hv
      subst hv
      exact h g' cap' w' hr hg
end
end Go.Proofs.YtjfonckmfafdgaaDoor
