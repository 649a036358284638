/-
  The walk of the reference's word: where it ends, or -1.
-/
import Derived.Test.YtiakgjijlhfneaaDoorLexBytes
import Derived.Deep.Light
namespace Go.Proofs.YtiakgjijlhfneaaDoor
open Go.RowKit

def wordRes (at0 : Nat) : Option (Nat × Nat) → Int
  | some (k, d) => if d = 0 ∧ at0 < k then k else -1
  | none => -1

end Go.Proofs.YtiakgjijlhfneaaDoor
