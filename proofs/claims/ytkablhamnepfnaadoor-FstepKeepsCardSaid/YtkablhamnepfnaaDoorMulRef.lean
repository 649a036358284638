/-
  The walk of the reference's MulDiv.
-/
import Derived.Test.YtkablhamnepfnaaDoorMulPlain
import Derived.Deep.CutBlock
namespace Go.Proofs.YtkablhamnepfnaaDoor
open Go.RowKit
/-- a times b by c, rounded -/
def mulDivO (a b c : Int) : Option Int := if c = 0 then none else if 4611686018427387904 < quoR (a.natAbs * b.natAbs) c.natAbs then none else
  some (if (decide (a < 0) != decide (b < 0)) != decide (c < 0) then -((quoR (a.natAbs * b.natAbs) c.natAbs : Nat) : Int) else ((quoR (a.natAbs * b.natAbs) c.natAbs : Nat) : Int))
def mulDivV (o : Option Int) : Value := match o with
  | some n => .tuple #[.int .i64 n, .bool true]
  | none => .tuple #[.int .i64 0, .bool false]
/-- what the loop holds: the quotient so far, or that it is too great -/
def MdRel (N d i Q : Nat) (over : Bool) : Prop := (over = false → Q = N / 2 ^ i / d ∧ Q < 9223372036854775808) ∧ (over = true → 9223372036854775808 ≤ N / 2 ^ i / d)
theorem md_step {N d j Q r bit : Nat} {over : Bool} (hd : 0 < d) (hQ : Q < 18446744073709551616) (hr : r < d) (HR : r = N / 2 ^ (j + 1) % d) (HO : MdRel N d (j + 1) Q over) (hbit : bit = N / 2 ^ j % 2) :
    (d ≤ 2 * r + bit → 2 * Q % 18446744073709551616 + 1 < 18446744073709551616 ∧ 2 * r + bit - d < d ∧ 2 * r + bit - d = N / 2 ^ j % d ∧ MdRel N d j (2 * Q % 18446744073709551616 + 1) (over || decide (4611686018427387904 ≤ Q))) ∧
    (¬ d ≤ 2 * r + bit → 2 * Q % 18446744073709551616 < 18446744073709551616 ∧ 2 * r + bit < d ∧ 2 * r + bit = N / 2 ^ j % d ∧ MdRel N d j (2 * Q % 18446744073709551616) (over || decide (4611686018427387904 ≤ Q))) := by
  have hM : N / 2 ^ (j + 1) = N / 2 ^ (j + 1) / d * d + r := by rw [HR, Nat.mul_comm]; exact (Nat.div_add_mod _ _).symm
  have hp := pow_step N j
  rw [← hbit] at hp
  have hb : bit ≤ 1 := by omega
  obtain ⟨s1, s2⟩ := bit_step hd hb hM hr
  rw [← hp] at s1 s2
  unfold MdRel at *
  generalize N / 2 ^ (j + 1) / d = q at *
  constructor
  · intro h
    obtain ⟨e1, e2⟩ := s1 h
    refine ⟨by omega, by omega, e2.symm, ?_, ?_⟩
    · intro ho
      rw [Bool.or_eq_false_iff] at ho
      have h1 := HO.1 ho.1
      have h2 : ¬ 4611686018427387904 ≤ Q := of_decide_eq_false ho.2
      rw [e1]; omega
    · intro ho
      rw [Bool.or_eq_true] at ho
      rw [e1]
      cases over
      · rcases ho with ho | ho
        · cases ho
        · have h1 := HO.1 rfl
          have h2 := of_decide_eq_true ho
          omega
      · have := HO.2 rfl
        omega
  · intro h
    obtain ⟨e1, e2⟩ := s2 h
    refine ⟨by omega, by omega, e2.symm, ?_, ?_⟩
    · intro ho
      rw [Bool.or_eq_false_iff] at ho
      have h1 := HO.1 ho.1
      have h2 : ¬ 4611686018427387904 ≤ Q := of_decide_eq_false ho.2
      rw [e1]; omega
    · intro ho
      rw [Bool.or_eq_true] at ho
      rw [e1]
      cases over
      · rcases ho with ho | ho
        · cases ho
        · have h1 := HO.1 rfl
          have h2 := of_decide_eq_true ho
          omega
      · have := HO.2 rfl
        omega
theorem or_bit {x b : Nat} (hx : 2 * x < 18446744073709551616) (hb : b ≤ 1) : bits .or .u64 ((x : Int) * 2) (b : Int) = ((2 * x + b : Nat) : Int) := by
  have h := u64_or_nat (2 * x) b hx (by omega)
  rw [nat_join 1 _ _ (by omega) (by omega)] at h
  rw [← h]
  congr 1
  omega
theorem or_one (x : Nat) : bits .or .u64 ((2 * x % 18446744073709551616 : Nat) : Int) 1 = ((2 * x % 18446744073709551616 + 1 : Nat) : Int) := by
  have h := u64_or_nat (2 * x % 18446744073709551616) 1 (Nat.mod_lt _ (by omega)) (by omega)
  rw [nat_join 1 _ _ (by omega) (by omega)] at h
  exact h
theorem and_bit {x : Nat} (hx : x < 18446744073709551616) : bits .and .u64 (x : Int) 1 = ((x % 2 : Nat) : Int) := by
  have h := u64_and_nat x 1 hx (by omega)
  rw [show x &&& 1 = x % 2 from Nat.and_two_pow_sub_one_eq_mod x 1] at h
  exact h
theorem and_63 {j : Nat} (hj : j < 64) : bits .and .i64 (j : Int) 63 = (j : Int) := by
  have h : bits .and .i64 (j : Int) 63 = IntKind.i64.wrap ((BitVec.ofInt 64 (j : Int) &&& BitVec.ofInt 64 63).toNat : Int) := rfl
  have e : (BitVec.ofInt 64 (j : Int)).toNat = j := ofInt_u64 j (by omega)
  have e2 : (BitVec.ofInt 64 63).toNat = 63 := rfl
  have e3 : j &&& 63 = j % 64 := Nat.and_two_pow_sub_one_eq_mod j 6
  rw [h, BitVec.toNat_and, e, e2, e3, IntKind.wrap_i64]
  omega
theorem shr_cast (x k : Nat) : (x : Int) / 2 ^ k = ((x / 2 ^ k : Nat) : Int) := by rw [Int.natCast_ediv, Int.natCast_pow]; rfl
end Go.Proofs.YtkablhamnepfnaaDoor
