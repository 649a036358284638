/-
  The walk of the reference's one. Printed by genfmreff.py.
-/
import Derived.Test.YtfomknfjidbdcaaDoorFmRefE
import Derived.Test.YtfomknfjidbdcaaDoorAggOfR
import Derived.Test.YtfomknfjidbdcaaDoorGrowBase
import Derived.Test.YtfomknfjidbdcaaDoorFixSqrtR
namespace Go.Proofs.YtfomknfjidbdcaaDoor
open Go.RowKit
/-- what a number becomes by itself, or by another one -/
def oneO (nm : ByteArray) (low high k : Option Int) (x : Int) : Option Int :=
  if nm = fn0 then fm0 (some x) else
  if nm = fn11 then fm11 k (some x) else
  if nm = fn5 then fm5 k (some x) else
  if nm = fn1 then fm1 (some x) else
  if nm = fn14 then fm14 (some x) else
  if nm = fn6 then fm6 low (some x) else
  if nm = fn3 then fm3 low high (some x) else
  if nm = fn2 then fm2 (some x) else
  if nm = fn8 then fm8 k (some x) else
  if nm = fn9 then fm9 k (some x) else
  if nm = fn4 then fm4 (some x) else
  if nm = fn13 then fm13 (some x) else
  some x
theorem addO_raw {x : Int} (hx : -4611686018427387904 ≤ x ∧ x ≤ 4611686018427387904) {kb : Bool} {kn : Int} : addO [(true, x), (kb, kn)] = sumO (some x) (vK kb kn) := by
  unfold addO addFrom
  simp only [List.map_cons, List.map_nil, List.foldl_cons, List.foldl_nil, vK_of hx, sumO_zero (fits_some hx)]
end Go.Proofs.YtfomknfjidbdcaaDoor
