/-
  The walk of dec.Parse, its four ways in joined.
-/
import Derived.Test.YtjfonckmfafdgaaDoorDecParsePlain
import Derived.Test.YtjfonckmfafdgaaDoorDecParseEmpty
import Derived.Test.YtjfonckmfafdgaaDoorDecParseMinus
import Derived.Test.YtjfonckmfafdgaaDoorDecParsePlus
import Derived.Test.YtjfonckmfafdgaaDoorRefParse
namespace Go.Proofs.YtjfonckmfafdgaaDoor
open Go.RowKit
theorem post_to {s : ByteArray} {w w' : World} {sg : Int} {R : Option Nat} {e : Ending} (h : parsePost w sg R e w') (hp : parseO s = R.map fun m => sg * (m : Int)) : e = .returned (parseV s) ∧ w.grownBy w' none := by
  refine ⟨?_, h.2⟩
  rw [h.1, parseV, hp]
  cases R <;> rfl
end Go.Proofs.YtjfonckmfafdgaaDoor
