/-
  The walks of strip and fraction; and of what makes and tells values in millionths.
-/
import Derived.Test.YtjfonckmfafdgaaDoorDecA
namespace Go.Proofs.YtjfonckmfafdgaaDoor
open Go.RowKit
theorem tail_data (t : ByteArray) (_h : 0 < t.size) : (t.extract 1 t.size).data.toList = t.data.toList.drop 1 := by
  have hl : (t.data.toList.drop 1).length = t.size - 1 := by simp
  simp only [ByteArray.data_extract, Array.toList_extract, List.extract]
  exact List.take_of_length_le (by omega)
theorem tail_size (t : ByteArray) : (t.extract 1 t.size).size = t.size - 1 := by simp [ByteArray.size_extract]
theorem ext_list {a b : ByteArray} (h : a.data.toList = b.data.toList) : a = b := ByteArray.ext (Array.ext' h)

set_option maxHeartbeats 4000000 in
theorem strip_any (s : ByteArray) (w : World) (_hs : s.size ≤ 4611686018427387904) :
    Calls Tryd.prog 34 #[.string s] w fun e w' => e = .returned (.string ⟨(stripL s.data.toList).toArray⟩) ∧ w = w' := by
  obtain ⟨R, HR⟩ : ∃ R, Hid (stripL s.data.toList = R) := ⟨_, Lib.hid rfl⟩
  rw [HR.out]
  go_enter Tryd.func34, Tryd.ntmps34
  go_wp2_with fail
  go_loop [0] (fun sv => ∃ t : ByteArray, sv = .string t ∧ t.size ≤ s.size ∧ Hid (stripL t.data.toList = R)) (fun sv => match sv with | .string t => t.size | _ => 0)
  case atStart => exact ⟨s, rfl, Nat.le_refl _, HR⟩
  case round =>
    obtain ⟨t, rfl, h1, H⟩ := hrel
    clear HR
    have key := fun (h : ¬ (1 < t.size ∧ ∃ h : 0 < t.size, t[0] = 48)) => (show stripL t.data.toList = t.data.toList by
      have e := stripAt_stop (s := t) (k := 0)
      have e2 := stripAt_end (s := t) (k := 0)
      unfold stripAt at e e2
      simp only [List.drop_zero] at e e2
      by_cases g : 0 + 1 < t.size
      · exact e g (fun h0 => h ⟨by omega, by omega, h0⟩)
      · exact e2 g)
    by_cases hk : 1 < t.size
    · by_cases h0 : t[0] = 48
      · have hb : ((t[0].toNat : Int) == 48) = true := by rw [h0]; rfl
        have hb2 : (t[0].toNat : Int) = 48 := by rw [h0]; rfl
        clear key
        go_wp2_with fail
        refine ⟨⟨t.extract 1 t.size, rfl, ?_, Lib.hid ?_⟩, ?_⟩
        · rw [tail_size]; omega
        · have e := stripAt_step (s := t) (k := 0) (by omega) h0
          unfold stripAt at e
          simp only [List.drop_zero, Nat.zero_add] at e
          rw [tail_data t (by omega), ← H.out, e]
        · show (t.extract 1 t.size).size < t.size
          rw [tail_size]; omega
      · have hb2 : ¬ (t[0].toNat : Int) = 48 := fun h => h0 (UInt8.toNat_inj.mp (by show t[0].toNat = 48; omega))
        have hK := Lib.hid (key (fun h => h0 h.2.2))
        clear key
        go_wp2_with fail
        go_ret
        refine ⟨ret_string (ext_list ?_), rfl⟩
        rw [← H.out, hK.out]
    · have hK := Lib.hid (key (fun h => hk h.1))
      clear key
      go_wp2_with fail
      go_ret
      refine ⟨ret_string (ext_list ?_), rfl⟩
      rw [← H.out, hK.out]

theorem dAt_in {s : ByteArray} {k : Nat} (hk : k < s.size) : dAt s.data.toList k = dg s[k] := by
  have h : k < s.data.toList.length := by simpa using hk
  unfold dAt
  rw [dif_pos h]
  rfl
theorem dAt_out {s : ByteArray} {k : Nat} (hk : ¬ k < s.size) : dAt s.data.toList k = 0 := by
  unfold dAt
  rw [dif_neg (by simpa using hk)]
theorem fracV_succ (l : List UInt8) (i : Nat) : fracV l (i + 1) = fracV l i * 10 + dAt l i := rfl
theorem upV_one {s : ByteArray} (hk : 6 < s.size) (hu : (53 : Int) ≤ (s[6].toNat : Int)) : upV s.data.toList = 1 := by
  have h : 6 < s.data.toList.length := by simpa using hk
  unfold upV
  rw [dif_pos h]
  have e : s.data.toList[6] = s[6] := rfl
  rw [e, if_pos (by omega)]
theorem upV_none {s : ByteArray} (hk : 6 < s.size) (hu : ¬ (53 : Int) ≤ (s[6].toNat : Int)) : upV s.data.toList = 0 := by
  have h : 6 < s.data.toList.length := by simpa using hk
  unfold upV
  rw [dif_pos h]
  have e : s.data.toList[6] = s[6] := rfl
  rw [e, if_neg (by omega)]
theorem upV_out {s : ByteArray} (hk : ¬ 6 < s.size) : upV s.data.toList = 0 := by
  unfold upV
  rw [dif_neg (by simpa using hk)]

set_option maxHeartbeats 4000000 in
theorem fraction_any (s : ByteArray) (w : World) (hs : s.size ≤ 4611686018427387904) (hd : ∀ k (h : k < s.size), isD s[k] = true) :
    Calls Tryd.prog 36 #[.string s] w fun e w' => e = .returned (.int .i64 (fracR s.data.toList : Nat)) ∧ w = w' := by
  have HD := Lib.hid hd; clear hd
  go_enter Tryd.func36, Tryd.ntmps36
  go_wp2_with fail
  go_loop [3, 4] (fun nv iv => ∃ (n k : Nat), nv = .int .i64 n ∧ iv = .int .i64 k ∧ k ≤ 6 ∧ n < 10 ^ k ∧ Hid (n = fracV s.data.toList k)) (fun _ iv => 6 - (intOf iv).toNat)
  case atStart => exact ⟨0, 0, rfl, rfl, by omega, by rw [Nat.pow_zero]; omega, Lib.hid rfl⟩
  case round =>
    obtain ⟨n, k, rfl, rfl, h1, h2, H⟩ := hrel
    by_cases hk : k < 6
    · have h3 : n < 1000000 := Nat.lt_of_lt_of_le h2 (show 10 ^ k ≤ 10 ^ 6 from Nat.pow_le_pow_right (by omega) (by omega))
      have hp := Lib.hid (Nat.pow_succ 10 k)
      have h2' := Lib.hid h2; clear h2
      by_cases hl : k < s.size
      · have hD := HD.out k hl
        have d1 := isD_lo hD
        have d2 := isD_hi hD
        have d3 := Lib.hid (dg_eq hD)
        have HS := Lib.hid (dAt_in hl)
        clear hD
        go_wp2_with fail
        refine ⟨⟨n * 10 + dg s[k], k + 1, by have := d3.out; congr 1; omega, by go_num, by omega, by rw [hp.out]; have := h2'.out; have := d3.out; omega, Lib.hid (by rw [fracV_succ, HS.out, ← H.out])⟩, by simp [intOf]; omega⟩
      · have HS := Lib.hid (dAt_out hl)
        go_wp2_with fail
        refine ⟨⟨n * 10, k + 1, by congr 1, by go_num, by omega, by rw [hp.out]; have := h2'.out; omega, Lib.hid (by rw [fracV_succ, HS.out, ← H.out]; omega)⟩, by simp [intOf]; omega⟩
    · obtain rfl : k = 6 := by omega
      have h3 : n < 1000000 := h2
      by_cases hl : 6 < s.size
      · by_cases hu : (53 : Int) ≤ (s[6].toNat : Int)
        · have HU := Lib.hid (upV_one hl hu)
          go_wp2_with fail
          go_ret
          refine ⟨ret_int ?_, rfl⟩
          rw [fracR, HU.out, ← H.out]; omega
        · have HU := Lib.hid (upV_none hl hu)
          go_wp2_with fail
          go_ret
          refine ⟨ret_int ?_, rfl⟩
          rw [fracR, HU.out, ← H.out]; rfl
      · have HU := Lib.hid (upV_out hl)
        go_wp2_with fail
        go_ret
        refine ⟨ret_int ?_, rfl⟩
        rw [fracR, HU.out, ← H.out]; rfl
end Go.Proofs.YtjfonckmfafdgaaDoor
