/-
  The walk of the reference's Lex: all words of a text.
-/
import Derived.Test.YtiakgjijlhfneaaDoorLexLex
import Derived.Test.YtiakgjijlhfneaaDoorLexIdx
import Derived.Test.YtiakgjijlhfneaaDoorLexRefWord
namespace Go.Proofs.YtiakgjijlhfneaaDoor
open Go.RowKit

end Go.Proofs.YtiakgjijlhfneaaDoor
