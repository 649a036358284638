/-
  The walks of what makes and tells values in millionths, and what each returns.
-/
import Derived.Test.YtjfdaoedpdiaeaaDoorProg
import Derived.Test.YtjfdaoedpdiaeaaDoorShelf
import Derived.Test.YtjfdaoedpdiaeaaDoorAid
import Derived.Deep.QuietTactic
import Derived.BigQuiet
namespace Go.Proofs.YtjfdaoedpdiaeaaDoor
open Go.RowKit
/-- a value, or none -/
def valC (o : Option Int) : List Value := match o with
  | some n => [.bool true, .int .i64 n]
  | none => [.bool false, .int .i64 0]
def valV (o : Option Int) : Value := .agg (valC o).toArray
def ofR (n : Int) : Option Int := if -4611686018427387904 ≤ n ∧ n ≤ 4611686018427387904 then some n else none
/-- is it a value? -/
def isR (b : Bool) (n : Int) : Bool := if b then decide (-4611686018427387904 ≤ n) && decide (n ≤ 4611686018427387904) else n == 0
section
variable (w : World)
end
end Go.Proofs.YtjfdaoedpdiaeaaDoor
