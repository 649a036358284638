/-
  The walk of dec.Parse: one of four ways in (by the sign ahead).
-/
import Derived.Test.YtjfonckmfafdgaaDoorDecParseAid
namespace Go.Proofs.YtjfonckmfafdgaaDoor
open Go.RowKit

end Go.Proofs.YtjfonckmfafdgaaDoor
