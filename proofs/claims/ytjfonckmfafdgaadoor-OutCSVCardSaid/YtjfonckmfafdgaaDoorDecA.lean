/-
  A text of one byte, made out of a row of one byte; and a number's last ten bits. No program is named here.
  The walk of strings.Cut where what is sought is one byte.
  Digits: what they are, the number that they say, with and without a cap. No program is named here.
  The walks of the small functions on digits: what each returns; nothing is changed.
  The walks of the functions that read numbers: what each returns; nothing is changed.
  What a text of digits with a dot says, and that the program's way to it (digits laid behind one another) and the reference's are one. No program is named here.
-/
import Derived.Test.YtjfonckmfafdgaaDoorAid
import Derived.Laws.BytesArg
import Derived.Test.YtjfonckmfafdgaaDoorProg
import Derived.Test.YtjfonckmfafdgaaDoorShelf
import Derived.Deep.QuietTactic
import Derived.BigQuiet
import Derived.Lib.Bytealg
import Derived.Deep.Light
namespace Go.Proofs.YtjfonckmfafdgaaDoor
open Go.RowKit
theorem conv_one {P : Program} {w : World} {b : Nat} {x : Int} {T : TypeId} (src e dst : TypeId) (hs : P.underlying src = some (.slice e)) (he : P.underlying e = some (.int .u8)) (hd : P.underlying dst = some .string)
    (h : Hx w b [.int .u8 x] T) : (convert src dst (.slice (some ⟨b, 0, none⟩) 1 1)).run P w = .ok (.string ⟨#[UInt8.ofNat x.toNat]⟩) w := by
  have hcell : ∀ i, i < 1 → w.cell? ⟨b, 0 + i, none⟩ = some (.int .u8 ([x].getD i 0)) := by
    intro i hi
    obtain rfl : i = 0 := by omega
    rw [h.cell]; rfl
  have := run_convert_bytes_arg w src e hs he b 0 1 1 [x] rfl hcell dst hd
  rw [this]
  rfl
theorem conv_byte {P : Program} {w : World} {b : Nat} {c : UInt8} {T : TypeId} (src e dst : TypeId) (hs : P.underlying src = some (.slice e)) (he : P.underlying e = some (.int .u8)) (hd : P.underlying dst = some .string)
    (h : Hx w b [.int .u8 (c.toNat : Int)] T) : (convert src dst (.slice (some ⟨b, 0, none⟩) 1 1)).run P w = .ok (.string ⟨#[c]⟩) w := by
  rw [conv_one src e dst hs he hd h]
  simp
theorem last_bits (x : Int) : 0 ≤ bits .and .i64 x 1023 ∧ bits .and .i64 x 1023 ≤ 1023 := by
  have h : bits .and .i64 x 1023 = IntKind.i64.wrap ((BitVec.ofInt 64 x &&& BitVec.ofInt 64 1023).toNat : Int) := rfl
  have h1 : (BitVec.ofInt 64 x &&& BitVec.ofInt 64 1023).toNat ≤ 1023 := by
    rw [BitVec.toNat_and]
    exact Nat.and_le_right
  rw [h, IntKind.wrap_i64]
  omega
end Go.Proofs.YtjfonckmfafdgaaDoor
namespace Go.Proofs.YtjfonckmfafdgaaDoor
open Go.RowKit
def cutA (s : ByteArray) (c : UInt8) : ByteArray := if Lib.indexByte s.data.toList c < 0 then s else s.extract 0 (Lib.indexByte s.data.toList c).toNat
def cutB (s : ByteArray) (c : UInt8) : ByteArray := if Lib.indexByte s.data.toList c < 0 then ⟨#[]⟩ else s.extract ((Lib.indexByte s.data.toList c).toNat + 1) s.size
def cutD (s : ByteArray) (c : UInt8) : Bool := !decide (Lib.indexByte s.data.toList c < 0)
theorem indexByte_under (c : UInt8) : ∀ l : List UInt8, Lib.indexByte l c < l.length := by
  intro l
  induction l with
  | nil => simp [Lib.indexByte]
  | cons b l ih =>
    rw [Lib.indexByte]
    by_cases hb : (b == c) = true
    · simp [hb]
    · by_cases h1 : (Lib.indexByte l c == -1) = true
      · simp [hb, h1]; omega
      · simp [hb, h1]; omega
end Go.Proofs.YtjfonckmfafdgaaDoor
namespace Go.Proofs.YtjfonckmfafdgaaDoor
def isD (c : UInt8) : Bool := decide (48 ≤ (c.toNat : Int)) && decide ((c.toNat : Int) ≤ 57)
def dg (c : UInt8) : Nat := (c - 48).toNat
theorem dg_sub {c : UInt8} (h : 48 ≤ c.toNat) : dg c = c.toNat - 48 := by
  unfold dg
  rw [UInt8.toNat_sub_of_le]
  · rfl
  · exact UInt8.le_iff_toNat_le.mpr h
theorem isD_lo {c : UInt8} (h : isD c = true) : (48 : Int) ≤ (c.toNat : Int) := by simp [isD] at h; omega
theorem isD_hi {c : UInt8} (h : isD c = true) : (c.toNat : Int) ≤ 57 := by simp [isD] at h; omega
theorem dg_eq {c : UInt8} (h : isD c = true) : ((dg c : Nat) : Int) = (c.toNat : Int) - 48 := by have := isD_lo h; rw [dg_sub (by omega)]; omega
theorem dg_le {c : UInt8} (h : isD c = true) : dg c ≤ 9 := by have := isD_hi h; have := isD_lo h; rw [dg_sub (by omega)]; omega
def topN : Nat := 4611686018427387904
def valF : Nat → List UInt8 → Nat
  | n, [] => n
  | n, c :: r => valF (n * 10 + dg c) r
theorem valF_nil (n : Nat) : valF n [] = n := by rw [valF]
theorem valF_cons (n : Nat) (c : UInt8) (r : List UInt8) : valF n (c :: r) = valF (n * 10 + dg c) r := by rw [valF]
theorem valF_ge : ∀ (l : List UInt8) (n : Nat), n ≤ valF n l := by
  intro l
  induction l with
  | nil => intro n; rw [valF_nil]; exact Nat.le_refl _
  | cons c r ih => intro n; rw [valF_cons]; exact Nat.le_trans (by omega) (ih (n * 10 + dg c))
theorem valF_append : ∀ (a b : List UInt8) (n : Nat), valF n (a ++ b) = valF (valF n a) b := by
  intro a
  induction a with
  | nil => intro b n; rw [List.nil_append, valF_nil]
  | cons c r ih => intro b n; rw [List.cons_append, valF_cons, valF_cons]; exact ih b _
theorem valF_base : ∀ (l : List UInt8) (n : Nat), valF n l = n * 10 ^ l.length + valF 0 l := by
  intro l
  induction l with
  | nil => intro n; rw [valF_nil, valF_nil, List.length_nil, Nat.pow_zero, Nat.mul_one, Nat.add_zero]
  | cons c r ih =>
    intro n
    rw [valF_cons, valF_cons, ih (n * 10 + dg c), ih (0 * 10 + dg c), List.length_cons, Nat.pow_succ]
    generalize 10 ^ r.length = p
    rw [Nat.add_mul, Nat.zero_mul, Nat.zero_add, Nat.mul_assoc, Nat.mul_comm 10 p]
    omega
/-- the number that digits say, if it is not above the top -/
def numR (n : Nat) (l : List UInt8) : Option Nat := if valF n l ≤ topN then some (valF n l) else none
theorem numR_nil {n : Nat} (h : n ≤ topN) : numR n [] = some n := by unfold numR; rw [valF_nil, if_pos h]
theorem numR_cons (n : Nat) (c : UInt8) (r : List UInt8) : numR n (c :: r) = numR (n * 10 + dg c) r := by unfold numR; rw [valF_cons]
theorem numR_over {n : Nat} {l : List UInt8} (h : topN < n) : numR n l = none := by
  have := valF_ge l n
  unfold numR; rw [if_neg (by omega)]
/-- the capped number of the reference -/
def wholeR (n : Nat) : List UInt8 → Option Nat
  | [] => some n
  | c :: r => if isD c = false ∨ 461168601842738789 < n then none else wholeR (n * 10 + dg c) r
theorem wholeR_nil (n : Nat) : wholeR n [] = some n := rfl
theorem wholeR_cons (n : Nat) (c : UInt8) (r : List UInt8) : wholeR n (c :: r) = if isD c = false ∨ 461168601842738789 < n then none else wholeR (n * 10 + dg c) r := rfl
def stripL : List UInt8 → List UInt8
  | [] => []
  | [c] => [c]
  | c :: d :: r => if c = 48 then stripL (d :: r) else c :: d :: r
/-- the digit at a place behind the dot -/
def dAt (l : List UInt8) (i : Nat) : Nat := if h : i < l.length then dg l[i] else 0
def fracV (l : List UInt8) : Nat → Nat
  | 0 => 0
  | i + 1 => fracV l i * 10 + dAt l i
def upV (l : List UInt8) : Nat := if h : 6 < l.length then (if 53 ≤ l[6].toNat then 1 else 0) else 0
def fracR (l : List UInt8) : Nat := fracV l 6 + upV l
end Go.Proofs.YtjfonckmfafdgaaDoor
namespace Go.Proofs.YtjfonckmfafdgaaDoor
open Go.RowKit
theorem digit_any (c : UInt8) (w : World) : Calls Tryd.prog 50 #[.int .u8 c.toNat] w fun e w' => e = .returned (.bool (isD c)) ∧ w = w' := by
  by_cases h1 : (48 : Int) ≤ (c.toNat : Int) <;> by_cases h2 : (c.toNat : Int) ≤ 57 <;>
  · go_enter Tryd.func50, Tryd.ntmps50
    go_wp2
    go_ret
    exact ⟨ret_bool (by simp [isD, h1, h2]), rfl⟩
def allAt (s : ByteArray) (k : Nat) : Bool := (s.data.toList.drop k).all isD
theorem allAt_step {s : ByteArray} {k : Nat} (hk : k < s.size) : allAt s k = (isD s[k] && allAt s (k + 1)) := by
  unfold allAt; rw [drop_cons s k hk, List.all_cons]
theorem allAt_end {s : ByteArray} {k : Nat} (hk : ¬ k < s.size) : allAt s k = true := by
  unfold allAt; rw [drop_end s k hk]; rfl
theorem text_ne (s : ByteArray) : (!s.toList.isEmpty) = decide (0 < s.size) := by
  have h : s.toList.length = s.size := by rw [ByteArray.toList_eq]; simp
  rcases hl : s.toList with _ | ⟨c, r⟩
  · rw [hl, List.length_nil] at h; rw [← h]; rfl
  · rw [hl, List.length_cons] at h; rw [← h]; simp
set_option maxHeartbeats 4000000 in
theorem all_any (s : ByteArray) (w : World) (hs : s.size ≤ 4611686018427387904) :
    Calls Tryd.prog 32 #[.string s] w fun e w' => e = .returned (.bool (allAt s 0 && decide (0 < s.size))) ∧ w = w' := by
  obtain ⟨R, HR⟩ : ∃ R, Hid (allAt s 0 = R) := ⟨_, Lib.hid rfl⟩
  rw [HR.out]
  go_enter Tryd.func32, Tryd.ntmps32
  go_wp2_with fail
  go_loop [3, 4] (fun iv _ => ∃ (k : Nat), iv = .int .i64 k ∧ k ≤ s.size ∧ Hid (allAt s k = R)) (fun iv _ => s.size - (intOf iv).toNat)
  case atStart => exact ⟨0, rfl, by omega, HR⟩
  case round =>
    obtain ⟨k, rfl, h1, H⟩ := hrel
    clear HR
    by_cases hk : k < s.size
    · have HS := Lib.hid (allAt_step hk)
      by_cases hc : isD s[k] = true
      · go_wp2_with (go_at_call 50; refine (digit_any _ _).mono ?_; rintro e w' ⟨rfl, rfl⟩)
        go_round
        case rel => exact ⟨k + 1, by go_num, by omega, Lib.hid (by rw [← H.out, HS.out, hc, Bool.true_and])⟩
        case measure => simp [intOf]; omega
      · have hc' : isD s[k] = false := by simpa using hc
        clear hc
        go_wp2_with (go_at_call 50; refine (digit_any _ _).mono ?_; rintro e w' ⟨rfl, rfl⟩)
        go_ret
        refine ⟨ret_bool ?_, rfl⟩
        rw [← H.out, HS.out, hc']; rfl
    · have HE := Lib.hid (allAt_end hk)
      go_wp2_with fail
      go_ret
      refine ⟨ret_bool ?_, rfl⟩
      rw [← H.out, HE.out]
      simp
end Go.Proofs.YtjfonckmfafdgaaDoor
namespace Go.Proofs.YtjfonckmfafdgaaDoor
open Go.RowKit
/-- a number, or none, as two results -/
def numV : Option Nat → Value
  | some n => .tuple #[.int .i64 n, .bool true]
  | none => .tuple #[.int .i64 0, .bool false]
def numAt (s : ByteArray) (k n : Nat) : Option Nat := numR n (s.data.toList.drop k)
theorem numAt_step {s : ByteArray} {k n : Nat} (hk : k < s.size) : numAt s k n = numAt s (k + 1) (n * 10 + dg s[k]) := by
  unfold numAt; rw [drop_cons s k hk, numR_cons]
theorem numAt_end {s : ByteArray} {k n : Nat} (hk : ¬ k < s.size) (hn : n ≤ topN) : numAt s k n = some n := by
  unfold numAt; rw [drop_end s k hk, numR_nil hn]
theorem numAt_over {s : ByteArray} {k n : Nat} (hn : topN < n) : numAt s k n = none := numR_over hn
/-- the capped number of the reference, as its two results -/
def wholeV (s : ByteArray) : Option Nat → Value
  | some n => .tuple #[.int .i64 n, .bool (decide (0 < s.size))]
  | none => .tuple #[.int .i64 0, .bool false]
def wholeAt (s : ByteArray) (k n : Nat) : Option Nat := wholeR n (s.data.toList.drop k)
theorem wholeAt_step {s : ByteArray} {k n : Nat} (hk : k < s.size) (h1 : isD s[k] = true) (h2 : ¬ 461168601842738789 < (n : Int)) : wholeAt s k n = wholeAt s (k + 1) (n * 10 + dg s[k]) := by
  unfold wholeAt; rw [drop_cons s k hk, wholeR_cons, if_neg (by rw [h1]; simp; omega)]
theorem wholeAt_stop {s : ByteArray} {k n : Nat} (hk : k < s.size) (h : isD s[k] = false ∨ 461168601842738789 < (n : Int)) : wholeAt s k n = none := by
  unfold wholeAt; rw [drop_cons s k hk, wholeR_cons, if_pos (by rcases h with h | h; exact Or.inl h; exact Or.inr (by omega))]
theorem wholeAt_end {s : ByteArray} {k n : Nat} (hk : ¬ k < s.size) : wholeAt s k n = some n := by
  unfold wholeAt; rw [drop_end s k hk, wholeR_nil]
set_option maxHeartbeats 4000000 in
theorem whole_any (s : ByteArray) (w : World) (hs : s.size ≤ 4611686018427387904) :
    Calls Tryd.prog 33 #[.string s] w fun e w' => e = .returned (wholeV s (wholeAt s 0 0)) ∧ w = w' := by
  obtain ⟨R, HR⟩ : ∃ R, Hid (wholeAt s 0 0 = R) := ⟨_, Lib.hid rfl⟩
  rw [HR.out]
  go_enter Tryd.func33, Tryd.ntmps33
  go_wp2_with fail
  go_loop [4, 5] (fun nv iv => ∃ (n k : Nat), nv = .int .i64 n ∧ iv = .int .i64 k ∧ k ≤ s.size ∧ n ≤ 4611686018427387904 ∧ Hid (wholeAt s k n = R)) (fun _ iv => s.size - (intOf iv).toNat)
  case atStart => exact ⟨0, 0, rfl, rfl, by omega, by omega, HR⟩
  case round =>
    obtain ⟨n, k, rfl, rfl, h1, h2, H⟩ := hrel
    clear HR
    by_cases hk : k < s.size
    · by_cases hc : isD s[k] = true
      · by_cases hq : 461168601842738789 < (n : Int)
        · have HS := Lib.hid (wholeAt_stop hk (Or.inr hq))
          go_wp2_with (go_at_call 50; refine (digit_any _ _).mono ?_; rintro e w' ⟨rfl, rfl⟩)
          go_ret2
          refine ⟨?_, rfl⟩
          rw [← H.out, HS.out]; rfl
        · have HS := Lib.hid (wholeAt_step hk hc hq)
          have d1 := isD_lo hc
          have d2 := isD_hi hc
          have d3 := Lib.hid (dg_eq hc)
          go_wp2_with (go_at_call 50; refine (digit_any _ _).mono ?_; rintro e w' ⟨rfl, rfl⟩)
          have ho : n * 10 + dg s[k] ≤ 4611686018427387904 := by have := d3.out; omega
          all_goals refine ⟨⟨n * 10 + dg s[k], k + 1, by have := d3.out; congr 1; omega, by go_num, by omega, ho, Lib.hid (by rw [← H.out, HS.out])⟩, by simp [intOf]; omega⟩
      · have hc' : isD s[k] = false := by simpa using hc
        clear hc
        have HS := Lib.hid (wholeAt_stop (n := n) hk (Or.inl hc'))
        go_wp2_with (go_at_call 50; refine (digit_any _ _).mono ?_; rintro e w' ⟨rfl, rfl⟩)
        go_ret2
        refine ⟨?_, rfl⟩
        rw [← H.out, HS.out]; rfl
    · have HE := Lib.hid (wholeAt_end (n := n) hk)
      go_wp2_with fail
      go_ret2
      refine ⟨?_, rfl⟩
      rw [← H.out, HE.out]; simp [wholeV]
/-- from a place on, without the noughts ahead but one -/
def stripAt (s : ByteArray) (k : Nat) : List UInt8 := stripL (s.data.toList.drop k)
theorem stripAt_step {s : ByteArray} {k : Nat} (hk : k + 1 < s.size) (h0 : s[k] = 48) : stripAt s k = stripAt s (k + 1) := by
  unfold stripAt; rw [drop_cons s k (by omega), drop_cons s (k + 1) hk, stripL, if_pos h0]
theorem stripAt_stop {s : ByteArray} {k : Nat} (hk : k + 1 < s.size) (h0 : ¬ s[k] = 48) : stripAt s k = s.data.toList.drop k := by
  unfold stripAt; rw [drop_cons s k (by omega), drop_cons s (k + 1) hk, stripL, if_neg h0]
theorem stripAt_end {s : ByteArray} {k : Nat} (hk : ¬ k + 1 < s.size) : stripAt s k = s.data.toList.drop k := by
  unfold stripAt
  by_cases h : k < s.size
  · rw [drop_cons s k h, drop_end s (k + 1) (by omega)]; rfl
  · rw [drop_end s k h]; rfl
end Go.Proofs.YtjfonckmfafdgaaDoor
namespace Go.Proofs.YtjfonckmfafdgaaDoor
/-- the first k digits behind the dot, filled up with noughts -/
def padL (b : List UInt8) (k : Nat) : List UInt8 := b.take k ++ List.replicate (k - b.length) 48
theorem padL_succ (b : List UInt8) (k : Nat) : padL b (k + 1) = padL b k ++ [if h : k < b.length then b[k] else 48] := by
  unfold padL
  by_cases h : k < b.length
  · rw [dif_pos h, show k + 1 - b.length = 0 from by omega, show k - b.length = 0 from by omega, List.take_succ_eq_append_getElem h]
    simp
  · rw [dif_neg h, List.take_of_length_le (by omega), List.take_of_length_le (by omega), show k + 1 - b.length = (k - b.length) + 1 from by omega, List.replicate_succ', List.append_assoc]
theorem valF_snoc (l : List UInt8) (n : Nat) (c : UInt8) : valF n (l ++ [c]) = valF n l * 10 + dg c := by rw [valF_append, valF_cons, valF_nil]
theorem valF_pad (b : List UInt8) : ∀ k, valF 0 (padL b k) = fracV b k := by
  intro k
  induction k with
  | zero => simp [padL, valF_nil, fracV]
  | succ k ih =>
    rw [padL_succ, valF_snoc, ih]
    show _ = fracV b k * 10 + dAt b k
    unfold dAt
    by_cases h : k < b.length
    · rw [dif_pos h, dif_pos h]
    · rw [dif_neg h, dif_neg h]; rfl
theorem padL_length (b : List UInt8) (k : Nat) : (padL b k).length = k := by
  unfold padL; rw [List.length_append, List.length_take, List.length_replicate]; omega
theorem num_pad (a b : List UInt8) : numR 0 (a ++ padL b 6) = if valF 0 a * 1000000 + fracV b 6 ≤ topN then some (valF 0 a * 1000000 + fracV b 6) else none := by
  unfold numR
  rw [valF_append, valF_base, padL_length, valF_pad]
theorem fracV_lt (b : List UInt8) (hb : b.all isD = true) : ∀ k, fracV b k < 10 ^ k := by
  intro k
  induction k with
  | zero => show 0 < 1; omega
  | succ k ih =>
    have hd : dAt b k ≤ 9 := by
      unfold dAt
      by_cases h : k < b.length
      · rw [dif_pos h]; exact dg_le (List.all_eq_true.1 hb _ (List.getElem_mem h))
      · rw [dif_neg h]; omega
    rw [Nat.pow_succ]
    show fracV b k * 10 + dAt b k < _
    omega
theorem upV_le (b : List UInt8) : upV b ≤ 1 := by unfold upV; split <;> (try split) <;> omega
/-- the reference's capped number, without the noughts ahead: it fails beyond its cap alone -/
theorem wholeR_spec : ∀ (l : List UInt8) (n : Nat), l.all isD = true → (wholeR n l = some (valF n l)) ∨ (wholeR n l = none ∧ 461168601842738789 < valF n l) := by
  intro l
  induction l with
  | nil => intro n _; exact Or.inl (by rw [wholeR_nil, valF_nil])
  | cons c r ih =>
    intro n h
    rw [List.all_cons, Bool.and_eq_true] at h
    rw [wholeR_cons, valF_cons]
    by_cases hn : 461168601842738789 < n
    · rw [if_pos (Or.inr hn)]
      have := valF_ge r (n * 10 + dg c)
      exact Or.inr ⟨rfl, by omega⟩
    · rw [if_neg (by rw [h.1]; simp; omega)]
      exact ih _ h.2
theorem stripL_val : ∀ l : List UInt8, valF 0 (stripL l) = valF 0 l ∧ (l.all isD = true → (stripL l).all isD = true) ∧ (l ≠ [] → stripL l ≠ []) := by
  intro l
  induction l with
  | nil => exact ⟨rfl, fun h => h, fun h => h⟩
  | cons c r ih =>
    cases r with
    | nil => exact ⟨rfl, fun h => h, fun h => h⟩
    | cons d r =>
      unfold stripL
      by_cases h : c = 48
      · rw [if_pos h]
        subst h
        refine ⟨by rw [ih.1]; rfl, fun h => ih.2.1 (by rw [List.all_cons, Bool.and_eq_true] at h; exact h.2), fun _ => ih.2.2 (by simp)⟩
      · rw [if_neg h]; exact ⟨rfl, fun h => h, fun h => h⟩
/-- a text without its sign, read as millionths -/
def readR (a b : List UInt8) (dot : Bool) : Option Nat :=
  if (a.all isD && !a.isEmpty) && (!dot || (b.all isD && !b.isEmpty)) then (if valF 0 a * 1000000 + fracR b ≤ topN then some (valF 0 a * 1000000 + fracR b) else none) else none
end Go.Proofs.YtjfonckmfafdgaaDoor
