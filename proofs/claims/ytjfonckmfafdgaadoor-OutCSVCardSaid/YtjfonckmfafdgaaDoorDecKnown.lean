/-
  The law's own example; and the laws on what a text says and on what a value prints as.
-/
import Derived.Test.YtjfonckmfafdgaaDoorDecParse
import Derived.Test.YtjfonckmfafdgaaDoorDecB
namespace Go.Proofs.YtjfonckmfafdgaaDoor
open Go.RowKit
theorem known_parse : parseO ⟨#[43, 46, 53]⟩ = none := by decide
theorem known_print : printV true (-1500000) = ⟨#[45, 49, 46, 53]⟩ := by
  have e1 : Lib.decDigits 1 = [49] := by rw [Lib.decDigits, dif_pos (by omega)]; rfl
  have e2 : Lib.decDigits 15 = [49, 53] := by rw [Lib.decDigits, dif_neg (by omega), show 15 / 10 = 1 from rfl, e1]; rfl
  have e3 : Lib.decDigits 150 = [49, 53, 48] := by rw [Lib.decDigits, dif_neg (by omega), show 150 / 10 = 15 from rfl, e2]; rfl
  have e4 : Lib.decDigits 1500 = [49, 53, 48, 48] := by rw [Lib.decDigits, dif_neg (by omega), show 1500 / 10 = 150 from rfl, e3]; rfl
  have e5 : Lib.decDigits 15000 = [49, 53, 48, 48, 48] := by rw [Lib.decDigits, dif_neg (by omega), show 15000 / 10 = 1500 from rfl, e4]; rfl
  have e6 : Lib.decDigits 150000 = [49, 53, 48, 48, 48, 48] := by rw [Lib.decDigits, dif_neg (by omega), show 150000 / 10 = 15000 from rfl, e5]; rfl
  have e7 : Lib.decDigits 1500000 = [49, 53, 48, 48, 48, 48, 48] := by rw [Lib.decDigits, dif_neg (by omega), show 1500000 / 10 = 150000 from rfl, e6]; rfl
  have h : printL (-1500000) = [45, 49, 46, 53] := by
    unfold printL printA fracD
    rw [show (-1500000 : Int).natAbs = 1500000 from rfl, show 1500000 / 1000000 = 1 from rfl, show 1500000 % 1000000 = 500000 from rfl, show 1000000 + 500000 = 1500000 from rfl, e1, e7]
    decide
  rw [printV_some (by decide), h]
end Go.Proofs.YtjfonckmfafdgaaDoor
