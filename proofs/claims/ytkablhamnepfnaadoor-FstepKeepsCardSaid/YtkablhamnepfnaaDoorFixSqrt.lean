/-
  The walks of the roots of values, rounded down.
-/
import Derived.Test.YtkablhamnepfnaaDoorMulDivs
namespace Go.Proofs.YtkablhamnepfnaaDoor
open Go.RowKit
def sqrtO (x : Option Int) : Option Int := x.bind fun x => if x < 0 then none else some (rootB 42 0 (x.toNat * 1000000) : Int)
theorem rootB_lt : ∀ (k n N : Nat), rootB k n N < n + 2 ^ k := by
  intro k
  induction k with
  | zero => intro n N; show n < n + 1; omega
  | succ k ih =>
    intro n N
    rw [rootB, Nat.pow_succ]
    split
    · have := ih (n + 2 ^ k) N; omega
    · have := ih n N; omega
theorem root_le (N : Nat) : (rootB 42 0 N : Int) < 4398046511104 := by
  have h := rootB_lt 42 0 N
  rw [show (2 : Nat) ^ 42 = 4398046511104 from by decide] at h
  omega
theorem or_pow {n j : Nat} (h : n % 2 ^ (j + 1) = 0) (hn : n + 2 ^ j < 18446744073709551616) : bits .or .u64 (n : Int) ((2 ^ j : Nat) : Int) = ((n + 2 ^ j : Nat) : Int) := by
  have e := u64_or_nat n (2 ^ j) (by omega) (by omega)
  rw [nat_join (j + 1) _ _ h (Nat.pow_lt_pow_right (by omega) (by omega))] at e
  exact e
theorem mod_down {n j : Nat} (h : n % 2 ^ (j + 1) = 0) : n % 2 ^ j = 0 := by
  rw [Nat.pow_succ] at h
  exact Nat.mod_eq_zero_of_dvd (Nat.dvd_trans (Nat.dvd_mul_right _ _) (Nat.dvd_of_mod_eq_zero h))
theorem mod_down2 {n j : Nat} (h : n % 2 ^ (j + 1) = 0) : (n + 2 ^ j) % 2 ^ j = 0 := by
  rw [Nat.add_mod_right]; exact mod_down h
end Go.Proofs.YtkablhamnepfnaaDoor
