/-
  The walks of strip and fraction; and of what makes and tells values in millionths.
-/
import Derived.Test.YtiakgjijlhfneaaDoorDecA
namespace Go.Proofs.YtiakgjijlhfneaaDoor
open Go.RowKit
theorem tail_data (t : ByteArray) (_h : 0 < t.size) : (t.extract 1 t.size).data.toList = t.data.toList.drop 1 := by
  have hl : (t.data.toList.drop 1).length = t.size - 1 := by simp
  simp only [ByteArray.data_extract, Array.toList_extract, List.extract]
  exact List.take_of_length_le (by omega)
theorem tail_size (t : ByteArray) : (t.extract 1 t.size).size = t.size - 1 := by simp [ByteArray.size_extract]
theorem ext_list {a b : ByteArray} (h : a.data.toList = b.data.toList) : a = b := ByteArray.ext (Array.ext' h)

theorem dAt_in {s : ByteArray} {k : Nat} (hk : k < s.size) : dAt s.data.toList k = dg s[k] := by
  have h : k < s.data.toList.length := by simpa using hk
  unfold dAt
  rw [dif_pos h]
  rfl
theorem dAt_out {s : ByteArray} {k : Nat} (hk : ¬ k < s.size) : dAt s.data.toList k = 0 := by
  unfold dAt
  rw [dif_neg (by simpa using hk)]
theorem fracV_succ (l : List UInt8) (i : Nat) : fracV l (i + 1) = fracV l i * 10 + dAt l i := rfl
theorem upV_one {s : ByteArray} (hk : 6 < s.size) (hu : (53 : Int) ≤ (s[6].toNat : Int)) : upV s.data.toList = 1 := by
  have h : 6 < s.data.toList.length := by simpa using hk
  unfold upV
  rw [dif_pos h]
  have e : s.data.toList[6] = s[6] := rfl
  rw [e, if_pos (by omega)]
theorem upV_none {s : ByteArray} (hk : 6 < s.size) (hu : ¬ (53 : Int) ≤ (s[6].toNat : Int)) : upV s.data.toList = 0 := by
  have h : 6 < s.data.toList.length := by simpa using hk
  unfold upV
  rw [dif_pos h]
  have e : s.data.toList[6] = s[6] := rfl
  rw [e, if_neg (by omega)]
theorem upV_out {s : ByteArray} (hk : ¬ 6 < s.size) : upV s.data.toList = 0 := by
  unfold upV
  rw [dif_neg (by simpa using hk)]

end Go.Proofs.YtiakgjijlhfneaaDoor
