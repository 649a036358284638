/-
  Rows of series that came in as arguments. No program is named here.
-/
import Derived.Test.YtjfonckmfafdgaaDoorSerOpen
import Derived.Test.YtjfonckmfafdgaaDoorOutRow
namespace Go.Proofs.YtjfonckmfafdgaaDoor
open Go.ChangeShapes Go.WideShapes Go.RowKit Go.Deep
instance : Inhabited Ser := ⟨Ser.none⟩
theorem SerRow.kept0 {w w' : World} {v : Value} {L : List SerP} (h : SerRow w v L) (hg : w.grownBy w' none) : SerRow w' v L := ⟨h.1.kept0 hg, fun p hp => (h.2 p hp).kept0 hg⟩
theorem list5 {α : Type} {cs : List α} (h : cs.length = 5) : ∃ c0 c1 c2 c3 c4, cs = [c0, c1, c2, c3, c4] := by
  match cs, h with
  | [c0, c1, c2, c3, c4], _ => exact ⟨c0, c1, c2, c3, c4, rfl⟩
section
variable {H : Type} {enc : TypeId × Value → H} {P : Program} {W : World} {base : Nat} {sp : Nat → Bool} {held : Bool}
theorem ser_cells {ts t e : TypeId} {s0 s1 s2 s3 s4 f0 f1 : Field} {fuel : Nat} {cs : List Value} {x : DataW H × List MemPlace} (hs : P.underlying ts = some (.struct #[s0, s1, s2, s3, s4])) (hone : oneCellFields P #[s0, s1, s2, s3, s4] = true) (hC : P.cellsOf ts = 5)
    (k0 : P.underlying s0.type = some .string) (k1 : P.underlying s1.type = some (.int .i64)) (k2 : P.underlying s2.type = some (.int .i64)) (k3 : s3.type = t) (k4 : P.underlying s4.type = some (.int .i64))
    (ht : P.underlying t = some (.slice e)) (he : P.underlying e = some (.struct #[f0, f1]))
    (ce : P.cellsOf e = 2) (o0 : f0.offset = 0) (o1 : f1.offset = 1) (c0 : P.cellsOf f0.type = 1) (c1 : P.cellsOf f1.type = 1) (h0 : P.underlying f0.type = some .bool) (h1 : P.underlying f1.type = some (.int .i64))
    (h : DataW.trod enc P W base sp held fuel ts cs = some x) : ∃ p : SerP, cs = serE.cells p ∧ ERow valE W (slV p) p.1.vals := by
  obtain ⟨xs, n, _, hx, hl, hlen, hfl⟩ := DataW.trod_struct hs h
  rw [hC] at hl
  obtain ⟨x0, x1, x2, x3, x4, rfl⟩ := list5 hl
  obtain ⟨q0, j0⟩ := Go.Deep.hone_of hone 0 s0 rfl
  obtain ⟨q1, j1⟩ := Go.Deep.hone_of hone 1 s1 rfl
  obtain ⟨q2, j2⟩ := Go.Deep.hone_of hone 2 s2 rfl
  obtain ⟨q3, j3⟩ := Go.Deep.hone_of hone 3 s3 rfl
  obtain ⟨q4, j4⟩ := Go.Deep.hone_of hone 4 s4 rfl
  match xs, hlen with
  | [y0, y1, y2, y3, y4], _ =>
    have g0 := hfl 0 s0 rfl
    have g1 := hfl 1 s1 rfl
    have g2 := hfl 2 s2 rfl
    have g3 := hfl 3 s3 rfl
    have g4 := hfl 4 s4 rfl
    simp [q0, q1, q2, q3, q4, j0, j1, j2, j3, j4] at g0 g1 g2 g3 g4
    obtain ⟨nm, hn, _, hnl⟩ := DataW.trod_string k0 g0
    obtain ⟨a1, ha1, _, w1⟩ := DataW.trod_int k1 g1
    obtain ⟨a2, ha2, _, w2⟩ := DataW.trod_int k2 g2
    obtain ⟨a4, ha4, _, w4⟩ := DataW.trod_int k4 g4
    rw [k3] at g3
    obtain ⟨u, X, hu, hr, hX, _⟩ := vals_cells ht he ce o0 o1 c0 c1 h0 h1 g3
    simp only [List.cons.injEq, and_true] at hn ha1 ha2 ha4 hu
    subst hn; subst ha1; subst ha2; subst ha4; subst hu
    have hr0 := hr
    obtain ⟨A, c, rfl, _⟩ := hr
    exact ⟨(⟨nm, a1, a2, X, a4⟩, A, c), rfl, hr0⟩
/-- a row of series that came in -/
theorem open_sers {tS ts t e : TypeId} {s0 s1 s2 s3 s4 f0 f1 : Field} {v : Value} {d : DataW H} {p : List MemPlace} {r : Reach} {b0 : Nat} (hS : P.underlying tS = some (.slice ts)) (hs : P.underlying ts = some (.struct #[s0, s1, s2, s3, s4])) (hone : oneCellFields P #[s0, s1, s2, s3, s4] = true) (hC : P.cellsOf ts = 5)
    (k0 : P.underlying s0.type = some .string) (k1 : P.underlying s1.type = some (.int .i64)) (k2 : P.underlying s2.type = some (.int .i64)) (k3 : s3.type = t) (k4 : P.underlying s4.type = some (.int .i64))
    (ht : P.underlying t = some (.slice e)) (he : P.underlying e = some (.struct #[f0, f1]))
    (ce : P.cellsOf e = 2) (o0 : f0.offset = 0) (o1 : f1.offset = 1) (c0 : P.cellsOf f0.type = 1) (c1 : P.cellsOf f1.type = 1) (h0 : P.underlying f0.type = some .bool) (h1 : P.underlying f1.type = some (.int .i64))
    (hv : Value.okWide P W r b0 tS v) (h : DataW.Trod enc P W base sp held tS v d p) : ∃ L, SerRow W v L := by
  obtain ⟨a, len, cap, rfl⟩ := okWide_slice hS hv
  obtain ⟨fuel, hf⟩ := h
  have hcs : (Value.slice a len cap).cells.toList = [.slice a len cap] := rfl
  rw [hcs] at hf
  rcases open_slice hS hf with ⟨hn, _⟩ | ⟨a', len', cap', m, n, D, Pl, hn, _, hl, hm, hmm, _, hx⟩
  · obtain ⟨rfl, rfl, rfl⟩ : a = none ∧ len = 0 ∧ cap = 0 := by simpa using hn
    exact ⟨[], ERow.nil _, fun p hp => by cases hp⟩
  obtain ⟨rfl, rfl, rfl⟩ : a = some a' ∧ len = len' ∧ cap = cap' := by simpa using hn
  have hlm : len ≤ m := by rw [hmm]; split <;> omega
  have each : ∀ i, i < m → ∃ q : SerP, (∀ j u, (serE.cells q)[j]? = some u → W.cell? (a'.add (i * 5 + j)) = some u) ∧ ERow valE W (slV q) q.1.vals := by
    intro i hi
    obtain ⟨cs', e1, e2⟩ := hx i hi
    rw [hC] at e1
    obtain ⟨q, hq, hr⟩ := ser_cells hs hone hC k0 k1 k2 k3 k4 ht he ce o0 o1 c0 c1 h0 h1 e2
    obtain ⟨_, hlen, hcell⟩ := World.cells?_some e1
    refine ⟨q, fun j u hu => ?_, hr⟩
    rw [← hq] at hu
    have hj : j < 5 := by have := (List.getElem?_eq_some_iff.1 hu).1; omega
    have := hcell j hj
    rw [add_add] at this
    rw [this]; exact hu
  obtain ⟨q, hq⟩ := choose_lt each
  refine ⟨(List.range len).map q, ⟨some a', cap, by simp, by simpa using hl, hm, fun hp => ?_⟩, ?_⟩
  · have hp : 0 < len := by simpa using hp
    have z0 := (hq 0 (by omega)).1 0 _ rfl
    rw [Nat.zero_mul, show a'.add (0 + 0) = a' from rfl] at z0
    have hblk : a'.block < W.heap.size := by
      unfold World.cell? at z0
      rcases Nat.lt_or_ge a'.block W.heap.size with g | g
      · exact g
      · rw [Array.getElem?_eq_none g] at z0; cases z0
    have hspot : a'.spot = none := by
      unfold World.cell? at z0
      split at z0
      · rcases hs : a'.spot with _ | q
        · rfl
        · rw [hs] at z0; simp at z0
      · cases z0
    obtain ⟨ab, ao, asp⟩ := a'
    subst hspot
    refine ⟨ab, ao, rfl, hblk, fun i hi j u hu => ?_⟩
    have hi : i < len := by simpa using hi
    simp only [List.getElem_map, List.getElem_range] at hu
    have := (hq i (by omega)).1 j u hu
    have hadd : ∀ d, (⟨ab, ao, none⟩ : Addr).add d = ⟨ab, ao + d, none⟩ := fun d => by unfold Addr.add; split <;> simp_all
    rw [hadd] at this
    rw [show serE.k = 5 from rfl, Nat.add_assoc]
    exact this
  · intro p hp
    obtain ⟨i, hi, rfl⟩ := List.mem_map.1 hp
    exact (hq i (by have := List.mem_range.1 hi; omega)).2
end
end Go.Proofs.YtjfonckmfafdgaaDoor
