/-
  The walks of strip and fraction; and of what makes and tells values in millionths.
-/
import Derived.Test.YtjfdaoedpdiaeaaDoorDecNumber
import Derived.Test.YtjfdaoedpdiaeaaDoorConvOne
namespace Go.Proofs.YtjfdaoedpdiaeaaDoor
open Go.RowKit
theorem tail_data (t : ByteArray) (_h : 0 < t.size) : (t.extract 1 t.size).data.toList = t.data.toList.drop 1 := by
  have hl : (t.data.toList.drop 1).length = t.size - 1 := by simp
  simp only [ByteArray.data_extract, Array.toList_extract, List.extract]
  exact List.take_of_length_le (by omega)
theorem tail_size (t : ByteArray) : (t.extract 1 t.size).size = t.size - 1 := by simp [ByteArray.size_extract]
theorem ext_list {a b : ByteArray} (h : a.data.toList = b.data.toList) : a = b := ByteArray.ext (Array.ext' h)

set_option maxHeartbeats 4000000 in
theorem strip_any (s : ByteArray) (w : World) (_hs : s.size ≤ 4611686018427387904) :
    Calls Tryd.prog 42 #[.string s] w fun e w' => e = .returned (.string ⟨(stripL s.data.toList).toArray⟩) ∧ w = w' := by
  obtain ⟨R, HR⟩ : ∃ R, Hid (stripL s.data.toList = R) := ⟨_, Lib.hid rfl⟩
  rw [HR.out]
  go_enter Tryd.func42, Tryd.ntmps42
  go_wp2_with fail
  go_loop [0] (fun sv => ∃ t : ByteArray, sv = .string t ∧ t.size ≤ s.size ∧ Hid (stripL t.data.toList = R)) (fun sv => match sv with | .string t => t.size | _ => 0)
  case atStart => exact ⟨s, rfl, Nat.le_refl _, HR⟩
  case round =>
    obtain ⟨t, rfl, h1, H⟩ := hrel
    clear HR
    have key := fun (h : ¬ (1 < t.size ∧ ∃ h : 0 < t.size, t[0] = 48)) => (show stripL t.data.toList = t.data.toList by
      have e := stripAt_stop (s := t) (k := 0)
      have e2 := stripAt_end (s := t) (k := 0)
      unfold stripAt at e e2
      simp only [List.drop_zero] at e e2
      by_cases g : 0 + 1 < t.size
      · exact e g (fun h0 => h ⟨by omega, by omega, h0⟩)
      · exact e2 g)
    by_cases hk : 1 < t.size
    · by_cases h0 : t[0] = 48
      · have hb : ((t[0].toNat : Int) == 48) = true := by rw [h0]; rfl
        have hb2 : (t[0].toNat : Int) = 48 := by rw [h0]; rfl
        clear key
        go_wp2_with fail
        refine ⟨⟨t.extract 1 t.size, rfl, ?_, Lib.hid ?_⟩, ?_⟩
        · rw [tail_size]; omega
        · have e := stripAt_step (s := t) (k := 0) (by omega) h0
          unfold stripAt at e
          simp only [List.drop_zero, Nat.zero_add] at e
          rw [tail_data t (by omega), ← H.out, e]
        · show (t.extract 1 t.size).size < t.size
          rw [tail_size]; omega
      · have hb2 : ¬ (t[0].toNat : Int) = 48 := fun h => h0 (UInt8.toNat_inj.mp (by show t[0].toNat = 48; omega))
        have hK := Lib.hid (key (fun h => h0 h.2.2))
        clear key
        go_wp2_with fail
        go_ret
        refine ⟨ret_string (ext_list ?_), rfl⟩
        rw [← H.out, hK.out]
    · have hK := Lib.hid (key (fun h => hk h.1))
      clear key
      go_wp2_with fail
      go_ret
      refine ⟨ret_string (ext_list ?_), rfl⟩
      rw [← H.out, hK.out]

theorem dAt_in {s : ByteArray} {k : Nat} (hk : k < s.size) : dAt s.data.toList k = dg s[k] := by
  have h : k < s.data.toList.length := by simpa using hk
  unfold dAt
  rw [dif_pos h]
  rfl
theorem dAt_out {s : ByteArray} {k : Nat} (hk : ¬ k < s.size) : dAt s.data.toList k = 0 := by
  unfold dAt
  rw [dif_neg (by simpa using hk)]
theorem fracV_succ (l : List UInt8) (i : Nat) : fracV l (i + 1) = fracV l i * 10 + dAt l i := rfl
theorem upV_one {s : ByteArray} (hk : 6 < s.size) (hu : (53 : Int) ≤ (s[6].toNat : Int)) : upV s.data.toList = 1 := by
  have h : 6 < s.data.toList.length := by simpa using hk
  unfold upV
  rw [dif_pos h]
  have e : s.data.toList[6] = s[6] := rfl
  rw [e, if_pos (by omega)]
theorem upV_none {s : ByteArray} (hk : 6 < s.size) (hu : ¬ (53 : Int) ≤ (s[6].toNat : Int)) : upV s.data.toList = 0 := by
  have h : 6 < s.data.toList.length := by simpa using hk
  unfold upV
  rw [dif_pos h]
  have e : s.data.toList[6] = s[6] := rfl
  rw [e, if_neg (by omega)]
theorem upV_out {s : ByteArray} (hk : ¬ 6 < s.size) : upV s.data.toList = 0 := by
  unfold upV
  rw [dif_neg (by simpa using hk)]

end Go.Proofs.YtjfdaoedpdiaeaaDoor
