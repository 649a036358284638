/-
  The walk of strings.Cut where what is sought is one byte.
-/
import Derived.Test.YtjfdaoedpdiaeaaDoorProg
import Derived.Test.YtjfdaoedpdiaeaaDoorShelf
import Derived.Test.YtjfdaoedpdiaeaaDoorAid
import Derived.Deep.QuietTactic
import Derived.BigQuiet
import Derived.Lib.Bytealg
namespace Go.Proofs.YtjfdaoedpdiaeaaDoor
open Go.RowKit
def cutA (s : ByteArray) (c : UInt8) : ByteArray := if Lib.indexByte s.data.toList c < 0 then s else s.extract 0 (Lib.indexByte s.data.toList c).toNat
def cutB (s : ByteArray) (c : UInt8) : ByteArray := if Lib.indexByte s.data.toList c < 0 then ⟨#[]⟩ else s.extract ((Lib.indexByte s.data.toList c).toNat + 1) s.size
def cutD (s : ByteArray) (c : UInt8) : Bool := !decide (Lib.indexByte s.data.toList c < 0)
theorem indexByte_under (c : UInt8) : ∀ l : List UInt8, Lib.indexByte l c < l.length := by
  intro l
  induction l with
  | nil => simp [Lib.indexByte]
  | cons b l ih =>
    rw [Lib.indexByte]
    by_cases hb : (b == c) = true
    · simp [hb]
    · by_cases h1 : (Lib.indexByte l c == -1) = true
      · simp [hb, h1]; omega
      · simp [hb, h1]; omega

end Go.Proofs.YtjfdaoedpdiaeaaDoor
