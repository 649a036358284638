/-
  The walk of whether a node may be, the reference. Printed by gentreemay.py.
-/
import Derived.Test.YtiakgjijlhfneaaDoorTreeMayA
namespace Go.Proofs.YtiakgjijlhfneaaDoor
open Go.RowKit
end Go.Proofs.YtiakgjijlhfneaaDoor
