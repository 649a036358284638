/-
  The walk of the reference's text of a node.
-/
import Derived.Test.YtiakgjijlhfneaaDoorTreeText
import Derived.Test.YtiakgjijlhfneaaDoorTreeMayA
import Derived.Test.YtiakgjijlhfneaaDoorDecB
namespace Go.Proofs.YtiakgjijlhfneaaDoor
open Go.RowKit
theorem ext_txt {a b : ByteArray} (h : a.data.toList = b.data.toList) : a = b := by
  cases a; cases b; simp at h; subst h; rfl
end Go.Proofs.YtiakgjijlhfneaaDoor
