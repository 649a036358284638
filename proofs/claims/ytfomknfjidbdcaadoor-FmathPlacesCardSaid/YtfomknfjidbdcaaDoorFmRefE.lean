/-
  The walks of the reference's null and counted. Printed by genfmrefe.py.
-/
import Derived.Test.YtfomknfjidbdcaaDoorFmRefD
import Derived.Test.YtfomknfjidbdcaaDoorFmApply
namespace Go.Proofs.YtfomknfjidbdcaaDoor
open Go.RowKit
/-- what none becomes -/
def nullO (nm : ByteArray) (L : List (Bool × Int)) : Option Int := if nm = fn2 then some 0 else if nm = fn15 then (if L.length = 0 then some 0 else kOf L) else none
/-- what a number becomes by one that counts -/
def countO (nm : ByteArray) (s : Int) (k v : Option Int) : Option Int := match k with
  | none => none
  | some _ => if nm = fn7 then fm7 k v else if nm = fn10 then fm10 k v else fm12 s k v
end Go.Proofs.YtfomknfjidbdcaaDoor
