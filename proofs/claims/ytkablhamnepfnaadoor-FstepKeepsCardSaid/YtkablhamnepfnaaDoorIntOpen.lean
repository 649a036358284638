/-
  Rows of numbers that came in as arguments. No program is named here.
-/
import Derived.Test.YtkablhamnepfnaaDoorLawPost
import Derived.Test.YtkablhamnepfnaaDoorElRow
import Derived.Deep.SlicePairs
namespace Go.Proofs.YtkablhamnepfnaaDoor
open Go.ChangeShapes Go.WideShapes Go.RowKit Go.Deep
def intE : Elt Int := { cells := fun n => [.int .i64 n], k := 1, zero := .int .i64 0, bytes := 8, len := fun _ => rfl, one := fun _ u h => (by simp at h; subst h; rfl), zc := rfl, pos := by omega, small := by omega }
section
variable {H : Type} {enc : TypeId × Value → H} {P : Program} {W : World} {base : Nat} {sp : Nat → Bool} {held : Bool}
theorem open_ints {t e : TypeId} {v : Value} {d : DataW H} {p : List MemPlace} {r : Reach} {b0 : Nat} (ht : P.underlying t = some (.slice e)) (ce : P.cellsOf e = 1) (he : P.underlying e = some (.int .i64))
    (hv : Value.okWide P W r b0 t v) (h : DataW.Trod enc P W base sp held t v d p) : ∃ X : List Int, ERow intE W v X ∧ ∀ n ∈ X, -9223372036854775808 ≤ n ∧ n ≤ 9223372036854775807 := by
  obtain ⟨a, len, cap, rfl⟩ := okWide_slice ht hv
  obtain ⟨fuel, hf⟩ := h
  have hcs : (Value.slice a len cap).cells.toList = [.slice a len cap] := rfl
  rw [hcs] at hf
  rcases open_slice ht hf with ⟨hn, _⟩ | ⟨a', len', cap', m, n, D, Pl, hn, _, hl, hm, hmm, _, hx⟩
  · obtain ⟨rfl, rfl, rfl⟩ : a = none ∧ len = 0 ∧ cap = 0 := by simpa using hn
    exact ⟨[], ERow.nil _, fun q hq => by cases hq⟩
  obtain ⟨rfl, rfl, rfl⟩ : a = some a' ∧ len = len' ∧ cap = cap' := by simpa using hn
  have hlm : len ≤ m := by rw [hmm]; split <;> omega
  have each : ∀ i, i < m → ∃ q : Int, W.cell? (a'.add i) = some (.int .i64 q) ∧ -9223372036854775808 ≤ q ∧ q ≤ 9223372036854775807 := by
    intro i hi
    obtain ⟨cs', e1, e2⟩ := hx i hi
    rw [ce] at e1
    obtain ⟨k, hk, _, hwf⟩ := DataW.trod_int he e2
    subst hk
    obtain ⟨_, _, hcell⟩ := World.cells?_some e1
    have := hcell 0 (by omega)
    rw [add_add, Nat.mul_one, Nat.add_zero] at this
    exact ⟨k, this, by simpa [Lit.wf, IntKind.min, IntKind.max, IntKind.signed, IntKind.bits] using hwf⟩
  obtain ⟨q, hq⟩ := choose_lt each
  refine ⟨(List.range len).map q, ⟨some a', cap, by simp, by simpa using hl, hm, fun hp => ?_⟩, ?_⟩
  · have hp : 0 < len := by simpa using hp
    have z0 := (hq 0 (by omega)).1
    rw [show a'.add 0 = a' from rfl] at z0
    have hblk : a'.block < W.heap.size := by
      unfold World.cell? at z0
      rcases Nat.lt_or_ge a'.block W.heap.size with g | g
      · exact g
      · rw [Array.getElem?_eq_none g] at z0; cases z0
    have hspot : a'.spot = none := by
      unfold World.cell? at z0
      split at z0
      · rcases hs : a'.spot with _ | q
        · rfl
        · rw [hs] at z0; simp at z0
      · cases z0
    obtain ⟨ab, ao, asp⟩ := a'
    subst hspot
    refine ⟨ab, ao, rfl, hblk, fun i hi j u hu => ?_⟩
    have hi : i < len := by simpa using hi
    simp only [List.getElem_map, List.getElem_range] at hu
    have hadd : ∀ d, (⟨ab, ao, none⟩ : Addr).add d = ⟨ab, ao + d, none⟩ := fun d => by unfold Addr.add; split <;> simp_all
    have := (hq i (by omega)).1
    rw [hadd] at this
    have hj := (List.getElem?_eq_some_iff.1 hu).1
    have hj : j < 1 := hj
    obtain rfl : j = 0 := by omega
    obtain rfl : Value.int .i64 (q i) = u := by simpa [intE] using hu
    rw [show intE.k = 1 from rfl, Nat.mul_one, Nat.add_zero]
    exact this
  · intro p hp
    obtain ⟨i, hi, rfl⟩ := List.mem_map.1 hp
    exact (hq i (by have := List.mem_range.1 hi; omega)).2
end
end Go.Proofs.YtkablhamnepfnaaDoor
