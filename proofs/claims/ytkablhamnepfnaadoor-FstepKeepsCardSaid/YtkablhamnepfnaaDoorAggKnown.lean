/-
  The walks of the values that are not none.
-/
import Derived.Test.YtkablhamnepfnaaDoorFixAddR
namespace Go.Proofs.YtkablhamnepfnaaDoor
open Go.RowKit
theorem info_val : (Tryd.prog.info? 28).map (fun i => (i.zero, i.size, i.bytes)) = some (some valE.zero, valE.k, valE.bytes) := by kernel_rfl
def knownP (p : Bool × Int) : Bool := p.1 && isR p.1 p.2
def knownL (X : List (Bool × Int)) : List (Bool × Int) := X.filter knownP
theorem knownL_yes {X : List (Bool × Int)} {i : Nat} (h : i < X.length) (hk : knownP X[i] = true) : knownL (X.drop i) = X[i] :: knownL (X.drop (i + 1)) := by
  unfold knownL; rw [List.drop_eq_getElem_cons h, List.filter_cons_of_pos hk]
theorem knownL_no {X : List (Bool × Int)} {i : Nat} (h : i < X.length) (hk : knownP X[i] = false) : knownL (X.drop i) = knownL (X.drop (i + 1)) := by
  unfold knownL; rw [List.drop_eq_getElem_cons h, List.filter_cons_of_neg (by rw [hk]; simp)]
theorem knownL_end {X : List (Bool × Int)} {i : Nat} (h : ¬ i < X.length) : knownL (X.drop i) = [] := by
  unfold knownL; rw [List.drop_eq_nil_of_le (by omega)]; rfl
end Go.Proofs.YtkablhamnepfnaaDoor
