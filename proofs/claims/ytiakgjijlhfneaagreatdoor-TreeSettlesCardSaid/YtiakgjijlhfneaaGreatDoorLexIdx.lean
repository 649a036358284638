/-
  Where a byte stands next, by a loop that looks at each. No program is named here.
-/
import Derived.Test.YtiakgjijlhfneaaGreatDoorLexSpec2
namespace Go.Proofs.YtiakgjijlhfneaaGreatDoor
/-- the place of the next c from j on, told from 'base' on; -1: there is none -/
def idxFrom (s : ByteArray) (c : UInt8) (j base : Nat) : Int := if Lib.indexByte (s.data.toList.drop j) c < 0 then -1 else Lib.indexByte (s.data.toList.drop j) c + ((j : Int) - (base : Int))
theorem idxFrom_start (s : ByteArray) (c : UInt8) (j : Nat) : idxFrom s c j j = Lib.indexByte (s.data.toList.drop j) c := by
  have := Lib.indexByte_ge (s.data.toList.drop j) c
  unfold idxFrom; split <;> omega
theorem idxFrom_step {s : ByteArray} {c : UInt8} {j base : Nat} (hj : j < s.size) (hc : s[j] ≠ c) : idxFrom s c (j + 1) base = idxFrom s c j base := by
  have h1 := Lib.indexByte_ge (s.data.toList.drop (j + 1)) c
  unfold idxFrom
  rw [drop_cons s j hj, Lib.indexByte]
  have hb : (s[j] == c) = false := by simpa using hc
  simp only [hb, Bool.false_eq_true, if_false, beq_iff_eq]
  by_cases h2 : Lib.indexByte (s.data.toList.drop (j + 1)) c = -1
  · simp [h2]
  · rw [if_neg (by omega), if_neg h2, if_neg (by omega)]; omega
theorem idxFrom_hit {s : ByteArray} {c : UInt8} {j base : Nat} (hj : j < s.size) (hc : s[j] = c) : idxFrom s c j base = (j : Int) - (base : Int) := by
  unfold idxFrom
  rw [drop_cons s j hj, Lib.indexByte]
  have hb : (s[j] == c) = true := by simpa using hc
  simp [hb]
theorem idxFrom_end {s : ByteArray} {c : UInt8} {j base : Nat} (hj : ¬ j < s.size) : idxFrom s c j base = -1 := by
  unfold idxFrom
  rw [drop_end s j hj]; rfl
end Go.Proofs.YtiakgjijlhfneaaGreatDoor
