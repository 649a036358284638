/-
  The walks of the program's least and greatest of a row of values.
-/
import Derived.Test.YtkablhamnepfnaaDoorAggKnownP
namespace Go.Proofs.YtkablhamnepfnaaDoor
open Go.RowKit
def bestF (lo : Bool) (a y : Int) : Int := if (if lo then decide (y < a) else decide (a < y)) then y else a
def bestL (lo : Bool) (a : Int) (K : List (Bool × Int)) : Int := K.foldl (fun a p => bestF lo a p.2) a
def aggO (lo : Bool) (X : List (Bool × Int)) : Option Int := match knownL X with
  | [] => none
  | p :: r => some (bestL lo p.2 (p :: r))
theorem bestL_step {lo : Bool} {a : Int} {K : List (Bool × Int)} {i : Nat} (h : i < K.length) : bestL lo a (K.drop i) = bestL lo (bestF lo a K[i].2) (K.drop (i + 1)) := by
  unfold bestL; rw [List.drop_eq_getElem_cons h]; rfl
theorem bestL_end {lo : Bool} {a : Int} {K : List (Bool × Int)} {i : Nat} (h : ¬ i < K.length) : bestL lo a (K.drop i) = a := by
  unfold bestL; rw [List.drop_eq_nil_of_le (by omega)]; rfl
theorem known_at {X : List (Bool × Int)} {i : Nat} (h : i < (knownL X).length) : (knownL X)[i] = (true, (knownL X)[i].2) ∧ -4611686018427387904 ≤ (knownL X)[i].2 ∧ (knownL X)[i].2 ≤ 4611686018427387904 := by
  have hm : (knownL X)[i] ∈ knownL X := List.getElem_mem h
  unfold knownL at hm
  have hk := (List.mem_filter.1 hm).2
  have hk : knownP (knownL X)[i] = true := hk
  generalize (knownL X)[i] = p at *
  obtain ⟨b, n⟩ := p
  unfold knownP at hk
  cases b
  · cases hk
  · simp [isR] at hk; exact ⟨rfl, hk⟩
end Go.Proofs.YtkablhamnepfnaaDoor
