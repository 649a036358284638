/-
  The walks of the functions that read numbers: what each returns; nothing is changed.
-/
import Derived.Test.YtjfdaoedpdiaeaaDoorDecDigits
import Derived.Deep.Light
namespace Go.Proofs.YtjfdaoedpdiaeaaDoor
open Go.RowKit
/-- a number, or none, as two results -/
def numV : Option Nat → Value
  | some n => .tuple #[.int .i64 n, .bool true]
  | none => .tuple #[.int .i64 0, .bool false]
def numAt (s : ByteArray) (k n : Nat) : Option Nat := numR n (s.data.toList.drop k)
theorem numAt_step {s : ByteArray} {k n : Nat} (hk : k < s.size) : numAt s k n = numAt s (k + 1) (n * 10 + dg s[k]) := by
  unfold numAt; rw [drop_cons s k hk, numR_cons]
theorem numAt_end {s : ByteArray} {k n : Nat} (hk : ¬ k < s.size) (hn : n ≤ topN) : numAt s k n = some n := by
  unfold numAt; rw [drop_end s k hk, numR_nil hn]
theorem numAt_over {s : ByteArray} {k n : Nat} (hn : topN < n) : numAt s k n = none := numR_over hn

set_option maxHeartbeats 4000000 in
theorem number_any (s : ByteArray) (w : World) (hs : s.size ≤ 4611686018427387904) (hd : ∀ k (h : k < s.size), isD s[k] = true) :
    Calls Tryd.prog 39 #[.string s] w fun e w' => e = .returned (numV (numAt s 0 0)) ∧ w = w' := by
  obtain ⟨R, HR⟩ : ∃ R, Hid (numAt s 0 0 = R) := ⟨_, Lib.hid rfl⟩
  rw [HR.out]
  have HD := Lib.hid hd; clear hd
  go_enter Tryd.func39, Tryd.ntmps39
  go_wp2_with fail
  go_loop [4, 9] (fun nv iv => ∃ (n k : Nat), nv = .int .i64 n ∧ iv = .int .i64 k ∧ k ≤ s.size ∧ n ≤ 4611686018427387904 ∧ Hid (numAt s k n = R)) (fun _ iv => s.size - (intOf iv).toNat)
  case atStart => exact ⟨0, 0, rfl, rfl, by omega, by omega, HR⟩
  case round =>
    obtain ⟨n, k, rfl, rfl, h1, h2, H⟩ := hrel
    clear HR
    by_cases hk : k < s.size
    · have HS := Lib.hid (numAt_step (n := n) hk)
      have hD := HD.out k hk
      have d1 := isD_lo hD
      have d2 := isD_hi hD
      have d3 := Lib.hid (dg_eq hD)
      clear hD
      by_cases hq : (4611686018427387904 - ((s[k].toNat : Int) - 48)) / 10 < (n : Int)
      · go_wp2_with fail
        go_ret2
        refine ⟨?_, rfl⟩
        have ho : topN < n * 10 + dg s[k] := by have := d3.out; unfold topN; omega
        have e := numAt_over (s := s) (k := k + 1) ho
        rw [← H.out, HS.out, e]; rfl
      · go_wp2_with fail
        have ho : n * 10 + dg s[k] ≤ 4611686018427387904 := by have := d3.out; omega
        refine ⟨⟨n * 10 + dg s[k], k + 1, by have := d3.out; congr 1; omega, by go_num, by omega, ho, Lib.hid (by rw [← H.out, HS.out])⟩, by simp [intOf]; omega⟩
    · have HE := Lib.hid (numAt_end (n := n) hk h2)
      go_wp2_with fail
      go_ret2
      refine ⟨?_, rfl⟩
      rw [← H.out, HE.out]; rfl

/-- the capped number of the reference, as its two results -/
def wholeV (s : ByteArray) : Option Nat → Value
  | some n => .tuple #[.int .i64 n, .bool (decide (0 < s.size))]
  | none => .tuple #[.int .i64 0, .bool false]
def wholeAt (s : ByteArray) (k n : Nat) : Option Nat := wholeR n (s.data.toList.drop k)
theorem wholeAt_step {s : ByteArray} {k n : Nat} (hk : k < s.size) (h1 : isD s[k] = true) (h2 : ¬ 461168601842738789 < (n : Int)) : wholeAt s k n = wholeAt s (k + 1) (n * 10 + dg s[k]) := by
  unfold wholeAt; rw [drop_cons s k hk, wholeR_cons, if_neg (by rw [h1]; simp; omega)]
theorem wholeAt_stop {s : ByteArray} {k n : Nat} (hk : k < s.size) (h : isD s[k] = false ∨ 461168601842738789 < (n : Int)) : wholeAt s k n = none := by
  unfold wholeAt; rw [drop_cons s k hk, wholeR_cons, if_pos (by rcases h with h | h; exact Or.inl h; exact Or.inr (by omega))]
theorem wholeAt_end {s : ByteArray} {k n : Nat} (hk : ¬ k < s.size) : wholeAt s k n = some n := by
  unfold wholeAt; rw [drop_end s k hk, wholeR_nil]

/-- from a place on, without the noughts ahead but one -/
def stripAt (s : ByteArray) (k : Nat) : List UInt8 := stripL (s.data.toList.drop k)
theorem stripAt_step {s : ByteArray} {k : Nat} (hk : k + 1 < s.size) (h0 : s[k] = 48) : stripAt s k = stripAt s (k + 1) := by
  unfold stripAt; rw [drop_cons s k (by omega), drop_cons s (k + 1) hk, stripL, if_pos h0]
theorem stripAt_stop {s : ByteArray} {k : Nat} (hk : k + 1 < s.size) (h0 : ¬ s[k] = 48) : stripAt s k = s.data.toList.drop k := by
  unfold stripAt; rw [drop_cons s k (by omega), drop_cons s (k + 1) hk, stripL, if_neg h0]
theorem stripAt_end {s : ByteArray} {k : Nat} (hk : ¬ k + 1 < s.size) : stripAt s k = s.data.toList.drop k := by
  unfold stripAt
  by_cases h : k < s.size
  · rw [drop_cons s k h, drop_end s (k + 1) (by omega)]; rfl
  · rw [drop_end s k h]; rfl
end Go.Proofs.YtjfdaoedpdiaeaaDoor
