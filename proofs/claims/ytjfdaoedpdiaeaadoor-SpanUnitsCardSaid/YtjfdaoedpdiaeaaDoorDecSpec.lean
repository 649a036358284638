/-
  Digits: what they are, the number that they say, with and without a cap. No program is named here.
-/
import Derived.Test.YtjfdaoedpdiaeaaDoorAid
namespace Go.Proofs.YtjfdaoedpdiaeaaDoor
def isD (c : UInt8) : Bool := decide (48 ≤ (c.toNat : Int)) && decide ((c.toNat : Int) ≤ 57)
def dg (c : UInt8) : Nat := (c - 48).toNat
theorem dg_sub {c : UInt8} (h : 48 ≤ c.toNat) : dg c = c.toNat - 48 := by
  unfold dg
  rw [UInt8.toNat_sub_of_le]
  · rfl
  · exact UInt8.le_iff_toNat_le.mpr h
theorem isD_lo {c : UInt8} (h : isD c = true) : (48 : Int) ≤ (c.toNat : Int) := by simp [isD] at h; omega
theorem isD_hi {c : UInt8} (h : isD c = true) : (c.toNat : Int) ≤ 57 := by simp [isD] at h; omega
theorem dg_eq {c : UInt8} (h : isD c = true) : ((dg c : Nat) : Int) = (c.toNat : Int) - 48 := by have := isD_lo h; rw [dg_sub (by omega)]; omega
theorem dg_le {c : UInt8} (h : isD c = true) : dg c ≤ 9 := by have := isD_hi h; have := isD_lo h; rw [dg_sub (by omega)]; omega
def topN : Nat := 4611686018427387904
def valF : Nat → List UInt8 → Nat
  | n, [] => n
  | n, c :: r => valF (n * 10 + dg c) r
theorem valF_nil (n : Nat) : valF n [] = n := by rw [valF]
theorem valF_cons (n : Nat) (c : UInt8) (r : List UInt8) : valF n (c :: r) = valF (n * 10 + dg c) r := by rw [valF]
theorem valF_ge : ∀ (l : List UInt8) (n : Nat), n ≤ valF n l := by
  intro l
  induction l with
  | nil => intro n; rw [valF_nil]; exact Nat.le_refl _
  | cons c r ih => intro n; rw [valF_cons]; exact Nat.le_trans (by omega) (ih (n * 10 + dg c))
theorem valF_append : ∀ (a b : List UInt8) (n : Nat), valF n (a ++ b) = valF (valF n a) b := by
  intro a
  induction a with
  | nil => intro b n; rw [List.nil_append, valF_nil]
  | cons c r ih => intro b n; rw [List.cons_append, valF_cons, valF_cons]; exact ih b _
theorem valF_base : ∀ (l : List UInt8) (n : Nat), valF n l = n * 10 ^ l.length + valF 0 l := by
  intro l
  induction l with
  | nil => intro n; rw [valF_nil, valF_nil, List.length_nil, Nat.pow_zero, Nat.mul_one, Nat.add_zero]
  | cons c r ih =>
    intro n
    rw [valF_cons, valF_cons, ih (n * 10 + dg c), ih (0 * 10 + dg c), List.length_cons, Nat.pow_succ]
    generalize 10 ^ r.length = p
    rw [Nat.add_mul, Nat.zero_mul, Nat.zero_add, Nat.mul_assoc, Nat.mul_comm 10 p]
    omega
/-- the number that digits say, if it is not above the top -/
def numR (n : Nat) (l : List UInt8) : Option Nat := if valF n l ≤ topN then some (valF n l) else none
theorem numR_nil {n : Nat} (h : n ≤ topN) : numR n [] = some n := by unfold numR; rw [valF_nil, if_pos h]
theorem numR_cons (n : Nat) (c : UInt8) (r : List UInt8) : numR n (c :: r) = numR (n * 10 + dg c) r := by unfold numR; rw [valF_cons]
theorem numR_over {n : Nat} {l : List UInt8} (h : topN < n) : numR n l = none := by
  have := valF_ge l n
  unfold numR; rw [if_neg (by omega)]
/-- the capped number of the reference -/
def wholeR (n : Nat) : List UInt8 → Option Nat
  | [] => some n
  | c :: r => if isD c = false ∨ 461168601842738789 < n then none else wholeR (n * 10 + dg c) r
theorem wholeR_nil (n : Nat) : wholeR n [] = some n := rfl
theorem wholeR_cons (n : Nat) (c : UInt8) (r : List UInt8) : wholeR n (c :: r) = if isD c = false ∨ 461168601842738789 < n then none else wholeR (n * 10 + dg c) r := rfl
def stripL : List UInt8 → List UInt8
  | [] => []
  | [c] => [c]
  | c :: d :: r => if c = 48 then stripL (d :: r) else c :: d :: r
/-- the digit at a place behind the dot -/
def dAt (l : List UInt8) (i : Nat) : Nat := if h : i < l.length then dg l[i] else 0
def fracV (l : List UInt8) : Nat → Nat
  | 0 => 0
  | i + 1 => fracV l i * 10 + dAt l i
def upV (l : List UInt8) : Nat := if h : 6 < l.length then (if 53 ≤ l[6].toNat then 1 else 0) else 0
def fracR (l : List UInt8) : Nat := fracV l 6 + upV l
end Go.Proofs.YtjfdaoedpdiaeaaDoor
