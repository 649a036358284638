/-
  Rows of values, and series, that came in as arguments. No program is named here.
-/
import Derived.Test.YtjfonckmfafdgaaDoorLawPost
import Derived.Test.YtjfonckmfafdgaaDoorSerSpec
import Derived.Deep.SlicePairs
import Derived.Deep.Fields
namespace Go.Proofs.YtjfonckmfafdgaaDoor
open Go.ChangeShapes Go.WideShapes Go.RowKit Go.Deep
section
variable {H : Type} {enc : TypeId × Value → H} {P : Program} {W : World} {base : Nat} {sp : Nat → Bool} {held : Bool}
/-- numbers that fit in a word -/
def Fit64 (X : List (Bool × Int)) : Prop := ∀ p ∈ X, -9223372036854775808 ≤ p.2 ∧ p.2 ≤ 9223372036854775807
theorem vals_cells {t e : TypeId} {f0 f1 : Field} {fuel : Nat} {cs : List Value} {x : DataW H × List MemPlace} (ht : P.underlying t = some (.slice e)) (he : P.underlying e = some (.struct #[f0, f1]))
    (ce : P.cellsOf e = 2) (o0 : f0.offset = 0) (o1 : f1.offset = 1) (c0 : P.cellsOf f0.type = 1) (c1 : P.cellsOf f1.type = 1) (h0 : P.underlying f0.type = some .bool) (h1 : P.underlying f1.type = some (.int .i64))
    (h : DataW.trod enc P W base sp held fuel t cs = some x) : ∃ v X, cs = [v] ∧ ERow valE W v X ∧ Fit64 X ∧ v.oneCell' = true := by
  rcases open_slice_pairs ht he ce o0 o1 c0 c1 h with ⟨rfl, _⟩ | ⟨a, len, cap, m, n, V0, V1, D0, D1, P0, P1, rfl, _, hl, hm, hmm, _, hx⟩
  · exact ⟨_, [], rfl, ERow.nil _, fun p hp => by simp at hp, rfl⟩
  have hlm : len ≤ m := by rw [hmm]; split <;> omega
  have each : ∀ i, i < m → ∃ q : Bool × Int, V0 i = .bool q.1 ∧ V1 i = .int .i64 q.2 ∧ -9223372036854775808 ≤ q.2 ∧ q.2 ≤ 9223372036854775807 := by
    intro i hi
    obtain ⟨_, _, e0, e1⟩ := hx i hi
    obtain ⟨b, hb, _⟩ := DataW.trod_bool h0 e0
    obtain ⟨k, hk, _, hwf⟩ := DataW.trod_int h1 e1
    simp only [List.cons.injEq, and_true] at hb hk
    have := (show -9223372036854775808 ≤ k ∧ k ≤ 9223372036854775807 by simpa [Lit.wf, IntKind.min, IntKind.max, IntKind.signed, IntKind.bits] using hwf)
    exact ⟨(b, k), hb, hk, this⟩
  obtain ⟨q, hq⟩ := choose_lt each
  refine ⟨_, (List.range len).map q, rfl, ⟨some a, cap, by simp, by simpa using hl, hm, fun hp => ?_⟩, ?_, rfl⟩
  · have hp : 0 < len := by simpa using hp
    have k0 := (hx 0 (by omega)).1
    rw [Nat.zero_mul, show a.add 0 = a from rfl] at k0
    have hblk : a.block < W.heap.size := by
      unfold World.cell? at k0
      rcases Nat.lt_or_ge a.block W.heap.size with g | g
      · exact g
      · rw [Array.getElem?_eq_none g] at k0; cases k0
    have hspot : a.spot = none := by
      unfold World.cell? at k0
      split at k0
      · rcases hs : a.spot with _ | q
        · rfl
        · rw [hs] at k0; simp at k0
      · cases k0
    obtain ⟨ab, ao, asp⟩ := a
    subst hspot
    refine ⟨ab, ao, rfl, hblk, fun i hi j u hu => ?_⟩
    have hi : i < len := by simpa using hi
    obtain ⟨g0, g1, g2, g3⟩ := hq i (by omega)
    obtain ⟨y0, y1, _, _⟩ := hx i (by omega)
    rw [g0] at y0
    rw [g1] at y1
    have hj := (List.getElem?_eq_some_iff.1 hu).1
    have hj : j < 2 := hj
    have e1 : valE.k = 2 := rfl
    have hadd : ∀ d, (⟨ab, ao, none⟩ : Addr).add d = ⟨ab, ao + d, none⟩ := fun d => by unfold Addr.add; split <;> simp_all
    rw [hadd] at y0 y1
    rw [e1]
    simp only [List.getElem_map, List.getElem_range] at hu
    rcases (show j = 0 ∨ j = 1 from by omega) with rfl | rfl
    · obtain rfl : Value.bool (q i).1 = u := by simpa [valE] using hu
      exact y0
    · obtain rfl : Value.int .i64 (q i).2 = u := by simpa [valE] using hu
      rw [← Nat.add_assoc] at y1
      exact y1
  · intro p hp
    obtain ⟨i, hi, rfl⟩ := List.mem_map.1 hp
    exact (hq i (by have := List.mem_range.1 hi; omega)).2.2
/-- a row of values that came in -/
theorem open_vals {t e : TypeId} {f0 f1 : Field} {v : Value} {d : DataW H} {p : List MemPlace} {r : Reach} {b0 : Nat} (ht : P.underlying t = some (.slice e)) (he : P.underlying e = some (.struct #[f0, f1]))
    (ce : P.cellsOf e = 2) (o0 : f0.offset = 0) (o1 : f1.offset = 1) (c0 : P.cellsOf f0.type = 1) (c1 : P.cellsOf f1.type = 1) (h0 : P.underlying f0.type = some .bool) (h1 : P.underlying f1.type = some (.int .i64))
    (hv : Value.okWide P W r b0 t v) (h : DataW.Trod enc P W base sp held t v d p) : ∃ X, ERow valE W v X ∧ Fit64 X := by
  obtain ⟨a, len, cap, rfl⟩ := okWide_slice ht hv
  obtain ⟨fuel, hf⟩ := h
  obtain ⟨v, X, hv, hr, hx, _⟩ := vals_cells ht he ce o0 o1 c0 c1 h0 h1 hf
  have : (Value.slice a len cap).cells.toList = [.slice a len cap] := rfl
  rw [this] at hv
  simp only [List.cons.injEq, and_true] at hv
  subst hv
  exact ⟨X, hr, hx⟩
theorem array5 {α : Type} {cs : Array α} (h : cs.size = 5) : ∃ c0 c1 c2 c3 c4, cs = #[c0, c1, c2, c3, c4] := by
  obtain ⟨l⟩ := cs
  match l, h with
  | [c0, c1, c2, c3, c4], _ => exact ⟨c0, c1, c2, c3, c4, rfl⟩
/-- a series that came in -/
theorem open_series {ts t e : TypeId} {s0 s1 s2 s3 s4 f0 f1 : Field} {v : Value} {d : DataW H} {p : List MemPlace} {r : Reach} {b0 : Nat} (hs : P.underlying ts = some (.struct #[s0, s1, s2, s3, s4])) (hone : oneCellFields P #[s0, s1, s2, s3, s4] = true) (hC : P.cellsOf ts = 5)
    (k0 : P.underlying s0.type = some .string) (k1 : P.underlying s1.type = some (.int .i64)) (k2 : P.underlying s2.type = some (.int .i64)) (k3 : s3.type = t) (k4 : P.underlying s4.type = some (.int .i64))
    (ht : P.underlying t = some (.slice e)) (he : P.underlying e = some (.struct #[f0, f1]))
    (ce : P.cellsOf e = 2) (o0 : f0.offset = 0) (o1 : f1.offset = 1) (c0 : P.cellsOf f0.type = 1) (c1 : P.cellsOf f1.type = 1) (h0 : P.underlying f0.type = some .bool) (h1 : P.underlying f1.type = some (.int .i64))
    (hv : Value.okWide P W r b0 ts v) (h : DataW.Trod enc P W base sp held ts v d p) :
    ∃ (S : Ser) (u : Value), v = serV S u ∧ ERow valE W u S.vals ∧ Fit64 S.vals ∧ -9223372036854775808 ≤ S.start ∧ S.start ≤ 9223372036854775807 ∧ -9223372036854775808 ≤ S.step ∧ S.step ≤ 9223372036854775807 ∧ -9223372036854775808 ≤ S.cons ∧ S.cons ≤ 9223372036854775807 ∧ S.name.size ≤ maxLen := by
  obtain ⟨cs, rfl, hsz⟩ := okWide_struct hs hv
  obtain ⟨x0, x1, x2, x3, x4, rfl⟩ := array5 (hsz.trans hC)
  obtain ⟨fuel, hf⟩ := h
  obtain ⟨xs, n, _, hx, hl, hlen, hfl⟩ := DataW.trod_struct hs hf
  obtain ⟨q0, j0⟩ := Go.Deep.hone_of hone 0 s0 rfl
  obtain ⟨q1, j1⟩ := Go.Deep.hone_of hone 1 s1 rfl
  obtain ⟨q2, j2⟩ := Go.Deep.hone_of hone 2 s2 rfl
  obtain ⟨q3, j3⟩ := Go.Deep.hone_of hone 3 s3 rfl
  obtain ⟨q4, j4⟩ := Go.Deep.hone_of hone 4 s4 rfl
  match xs, hlen with
  | [y0, y1, y2, y3, y4], _ =>
    have g0 := hfl 0 s0 rfl
    have g1 := hfl 1 s1 rfl
    have g2 := hfl 2 s2 rfl
    have g3 := hfl 3 s3 rfl
    have g4 := hfl 4 s4 rfl
    simp [q0, q1, q2, q3, q4, j0, j1, j2, j3, j4, Value.cells] at g0 g1 g2 g3 g4
    obtain ⟨nm, hn, _, hnl⟩ := DataW.trod_string k0 g0
    obtain ⟨a1, ha1, _, w1⟩ := DataW.trod_int k1 g1
    obtain ⟨a2, ha2, _, w2⟩ := DataW.trod_int k2 g2
    obtain ⟨a4, ha4, _, w4⟩ := DataW.trod_int k4 g4
    rw [k3] at g3
    obtain ⟨u, X, hu, hr, hX, _⟩ := vals_cells ht he ce o0 o1 c0 c1 h0 h1 g3
    simp only [List.cons.injEq, and_true] at hn ha1 ha2 ha4 hu
    subst hn; subst ha1; subst ha2; subst ha4; subst hu
    have w1' : -9223372036854775808 ≤ a1 ∧ a1 ≤ 9223372036854775807 := by simpa [Lit.wf, IntKind.min, IntKind.max, IntKind.signed, IntKind.bits] using w1
    have w2' : -9223372036854775808 ≤ a2 ∧ a2 ≤ 9223372036854775807 := by simpa [Lit.wf, IntKind.min, IntKind.max, IntKind.signed, IntKind.bits] using w2
    have w4' : -9223372036854775808 ≤ a4 ∧ a4 ≤ 9223372036854775807 := by simpa [Lit.wf, IntKind.min, IntKind.max, IntKind.signed, IntKind.bits] using w4
    exact ⟨⟨nm, a1, a2, X, a4⟩, _, rfl, hr, hX, w1'.1, w1'.2, w2'.1, w2'.2, w4'.1, w4'.2, hnl⟩
end
end Go.Proofs.YtjfonckmfafdgaaDoor
