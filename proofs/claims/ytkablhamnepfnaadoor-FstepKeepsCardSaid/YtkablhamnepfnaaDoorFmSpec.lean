/-
  The sixteen functions on single values, in plain words. Printed by genfmspec.py.
-/
import Derived.Test.YtkablhamnepfnaaDoorFmNames
import Derived.Test.YtkablhamnepfnaaDoorSerSpec
import Derived.Test.YtkablhamnepfnaaDoorAggOf
import Derived.Test.YtkablhamnepfnaaDoorFixSqrt
import Derived.Test.YtkablhamnepfnaaDoorMulDivs
namespace Go.Proofs.YtkablhamnepfnaaDoor
open Go.RowKit
def powO (v : Option Int) : Nat → Option Int
  | 0 => some 1000000
  | n + 1 => mulO (powO v n) v
/-- how many whole ones -/
def wholeO (k : Option Int) : Option Int := k.bind fun k => if k.tmod 1000000 = 0 then some (k.tdiv 1000000) else none
def unitN (n : Int) : Int := if n = 0 then 1000000 else if n = 1 then 100000 else if n = 2 then 10000 else if n = 3 then 1000 else if n = 4 then 100 else if n = 5 then 10 else 1
def roundO (n : Int) (v : Option Int) : Option Int := v.bind fun v => (mulDivO v 1 (unitN n)).bind fun x => ofR (x * unitN n)
def fm0 (v : Option Int) : Option Int := absO v
def fm1 (v : Option Int) : Option Int := divO (some 1000000) v
def fm2 (v : Option Int) : Option Int := if v.isSome then some 1000000 else some 0
def fm3 (low high v : Option Int) : Option Int := v.bind fun _ => if low = high then some 0 else divO (subO v low) (subO high low)
def fm4 (v : Option Int) : Option Int := subO (some 0) v
def fm5 (k v : Option Int) : Option Int := sumO v k
def fm6 (low v : Option Int) : Option Int := subO v low
def fm7 (k v : Option Int) : Option Int := v.bind fun _ => match wholeO k with | none => none | some n => if 0 ≤ n ∧ n ≤ 64 then powO v n.toNat else none
def fm8 (k v : Option Int) : Option Int := if ltO k v then none else v
def fm9 (k v : Option Int) : Option Int := if ltO v k then none else v
def fm10 (k v : Option Int) : Option Int := match k with | none => none | some _ => match wholeO k with | none => v | some n => if 0 ≤ n ∧ n ≤ 6 then roundO n v else v
def fm11 (k v : Option Int) : Option Int := mulO v k
def fm12 (step : Int) (k v : Option Int) : Option Int := match wholeO k with | none => none | some n => v.bind fun v => mulDivO v n step
def fm13 (v : Option Int) : Option Int := v.map fun x => if 0 < x then 1000000 else if x < 0 then -1000000 else 0
def fm14 (v : Option Int) : Option Int := sqrtO v
def fm15 (has : Bool) (k v : Option Int) : Option Int := match v with | some x => some x | none => if has then k else some 0
/-- what a value becomes -/
def fmV (i : Nat) (step : Int) (has : Bool) (k low high v : Option Int) : Option Int := match i with
  | 0 => fm0 v
  | 1 => fm1 v
  | 2 => fm2 v
  | 3 => fm3 low high v
  | 4 => fm4 v
  | 5 => fm5 k v
  | 6 => fm6 low v
  | 7 => fm7 k v
  | 8 => fm8 k v
  | 9 => fm9 k v
  | 10 => fm10 k v
  | 11 => fm11 k v
  | 12 => fm12 step k v
  | 13 => fm13 v
  | 14 => fm14 v
  | 15 => fm15 has k v
  | _ => none
end Go.Proofs.YtkablhamnepfnaaDoor
