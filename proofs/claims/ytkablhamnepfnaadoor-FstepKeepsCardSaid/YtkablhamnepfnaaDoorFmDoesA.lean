/-
  The walks of the functions on single values. Printed by genfmdoes.py.
-/
import Derived.Test.YtkablhamnepfnaaDoorFmSpec
import Derived.Test.YtkablhamnepfnaaDoorFixBase
import Derived.Test.YtkablhamnepfnaaDoorFixAdd
import Derived.Test.YtkablhamnepfnaaDoorMulDivs
import Derived.Test.YtkablhamnepfnaaDoorGrowBase
import Derived.Deep.DeepCutAuto
import Derived.Deep.RegionHeld3
namespace Go.Proofs.YtkablhamnepfnaaDoor
open Go.RowKit
/-- a series, and what a function has beside it -/
structure Work where
  S : Ser
  k : Option Int
  has : Bool
  low : Option Int
  high : Option Int
theorem fits_of {n : Int} (h : Fits (some n)) : -4611686018427387904 ≤ n ∧ n ≤ 4611686018427387904 := h n rfl
theorem vK_form {x : Option Int} (h : Fits x) : vK (vB x) (vN x) = x := vK_back h
theorem intO_small {n : Int} (h : -4611686018427 ≤ n ∧ n ≤ 4611686018427) : intO n = some (n * 1000000) := if_pos h
theorem ofR_small {n : Int} (h : -4611686018427387904 ≤ n ∧ n ≤ 4611686018427387904) : ofR n = some n := if_pos h
theorem bindO_fits {x : Option Int} {f : Int → Option Int} (h : ∀ n, Fits (f n)) : Fits (x.bind f) := by
  cases x with
  | none => exact none_fits
  | some x => exact h x
theorem fits_some {n : Int} (h : -4611686018427387904 ≤ n ∧ n ≤ 4611686018427387904) : Fits (some n) := fun m hm => by cases hm; exact h

end Go.Proofs.YtkablhamnepfnaaDoor
