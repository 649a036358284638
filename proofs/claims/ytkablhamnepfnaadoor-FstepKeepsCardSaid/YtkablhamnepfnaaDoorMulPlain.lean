/-
  Plain laws on division by two digits, on divisions bit by bit, on products out of four halves. No program is named here.
  The walks of the sizes of numbers and of the reference's product in two halves.
-/
import Derived.Test.YtkablhamnepfnaaDoorAid
import Derived.Test.YtkablhamnepfnaaDoorFixBase
import Derived.Laws.BitsAllLaws
namespace Go.Proofs.YtkablhamnepfnaaDoor
theorem mul_shuffle (q y1 y0 : Nat) : q * (y1 * 4294967296 + y0) = q * y1 * 4294967296 + q * y0 := by
  rw [Nat.mul_add, Nat.mul_assoc]
theorem test_iff {u u1 q r y1 y0 : Nat} (hr : q * y1 + r = u) : q * y0 > 4294967296 * r + u1 ↔ q * (y1 * 4294967296 + y0) > u * 4294967296 + u1 := by
  rw [mul_shuffle]
  have : u * 4294967296 = q * y1 * 4294967296 + r * 4294967296 := by rw [← hr, Nat.add_mul]
  omega
/-- the state of the guess: what is left, and that it is not below the digit -/
structure Guess (u u1 y1 y0 q r : Nat) : Prop where
  eq : q * y1 + r = u
  ge : (u * 4294967296 + u1) / (y1 * 4294967296 + y0) ≤ q
theorem Guess.start {u u1 y1 y0 : Nat} (h1 : 0 < y1) (hu1 : u1 < 4294967296) : Guess u u1 y1 y0 (u / y1) (u % y1) := by
  refine ⟨by rw [Nat.mul_comm]; exact Nat.div_add_mod u y1, ?_⟩
  have h2 : (u * 4294967296 + u1) / (y1 * 4294967296) = u / y1 := by
    rw [Nat.mul_comm y1, ← Nat.div_div_eq_div_mul]
    congr 1
    omega
  rw [← h2]
  exact Nat.div_le_div_left (by omega) (by omega)
theorem Guess.down {u u1 y1 y0 q r : Nat} (h : Guess u u1 y1 y0 q r) (hu1 : u1 < 4294967296) (hu : u < y1 * 4294967296 + y0) (hc : 4294967296 ≤ q ∨ 4294967296 * r + u1 < q * y0) : 1 ≤ q ∧ Guess u u1 y1 y0 (q - 1) (r + y1) := by
  have hY : 0 < y1 * 4294967296 + y0 := by omega
  have hq : 1 ≤ q := by
    rcases hc with hc | hc
    · omega
    · rcases Nat.eq_zero_or_pos q with h0 | h0
      · subst h0; simp at hc
      · exact h0
  have hlt : (u * 4294967296 + u1) / (y1 * 4294967296 + y0) < q := by
    rcases hc with hc | hc
    · refine Nat.lt_of_lt_of_le ?_ hc
      rw [Nat.div_lt_iff_lt_mul hY]
      omega
    · rw [Nat.div_lt_iff_lt_mul hY]
      exact (test_iff h.eq).1 hc
  refine ⟨hq, ⟨?_, by omega⟩⟩
  have := h.eq
  have e : (q - 1) * y1 + y1 = q * y1 := by
    have : q = (q - 1) + 1 := by omega
    conv => rhs; rw [this, Nat.add_mul, Nat.one_mul]
  omega
theorem Guess.stop {u u1 y1 y0 q r : Nat} (h : Guess u u1 y1 y0 q r) (hu : u < y1 * 4294967296 + y0) (hc : ¬ 4294967296 * r + u1 < q * y0) : (u * 4294967296 + u1) / (y1 * 4294967296 + y0) = q := by
  have hY : 0 < y1 * 4294967296 + y0 := by omega
  refine Nat.le_antisymm h.ge ?_
  rw [Nat.le_div_iff_mul_le hY]
  exact Nat.not_lt.1 (fun hl => hc ((test_iff h.eq).2 hl))
theorem Guess.broke {u u1 y1 y0 q r : Nat} (h : Guess u u1 y1 y0 q r) (hu : u < y1 * 4294967296 + y0) (h0 : y0 < 4294967296) (hq : q ≤ 4294967296) (hr : 4294967296 ≤ r) : (u * 4294967296 + u1) / (y1 * 4294967296 + y0) = q := by
  refine h.stop hu ?_
  have := Nat.mul_le_mul hq (show y0 ≤ 4294967295 by omega)
  omega
theorem guess_le {u y1 y0 : Nat} (h1 : 2147483648 ≤ y1) (h0 : y0 < 4294967296) (hu : u < y1 * 4294967296 + y0) : u / y1 ≤ 4294967297 := by
  have : u / y1 < 4294967298 := by
    rw [Nat.div_lt_iff_lt_mul (by omega)]
    omega
  omega
theorem long_two {A Y u0 B : Nat} (hY : 0 < Y) : (A * B + u0) / Y = A / Y * B + (A % Y * B + u0) / Y ∧ (A * B + u0) % Y = (A % Y * B + u0) % Y := by
  have h := Nat.div_add_mod A Y
  have e : A * B + u0 = Y * (A / Y * B) + (A % Y * B + u0) := by
    calc A * B + u0 = (Y * (A / Y) + A % Y) * B + u0 := by rw [h]
      _ = Y * (A / Y * B) + (A % Y * B + u0) := by rw [Nat.add_mul, Nat.mul_assoc, Nat.add_assoc]
  rw [e]
  exact ⟨Nat.mul_add_div hY _ _, Nat.mul_add_mod _ _ _⟩
theorem scaled {N y k : Nat} (hk : 0 < k) : N * k / (y * k) = N / y ∧ N * k % (y * k) / k = N % y := by
  refine ⟨Nat.mul_div_mul_right _ _ hk, ?_⟩
  rw [Nat.mul_mod_mul_right, Nat.mul_div_cancel _ hk]
/-- the words of a shifted number -/
theorem split_shift {hi lo s : Nat} (hs : s < 64) (_hlo : lo < 2 ^ 64) : (hi * 2 ^ 64 + lo) * 2 ^ s = (hi * 2 ^ s + lo / 2 ^ (64 - s)) * 2 ^ 64 + lo * 2 ^ s % 2 ^ 64 := by
  have e : lo * 2 ^ s = lo / 2 ^ (64 - s) * 2 ^ 64 + lo * 2 ^ s % 2 ^ 64 := by
    have h1 : lo * 2 ^ s / 2 ^ 64 = lo / 2 ^ (64 - s) := by
      have h2 : 2 ^ 64 = 2 ^ (64 - s) * 2 ^ s := by rw [← Nat.pow_add]; congr 1; omega
      rw [h2, Nat.mul_div_mul_right _ _ (Nat.two_pow_pos s)]
    have h3 := Nat.div_add_mod (lo * 2 ^ s) (2 ^ 64)
    rw [h1, Nat.mul_comm] at h3
    omega
  rw [Nat.add_mul, Nat.add_mul, Nat.mul_assoc hi, Nat.mul_comm (2 ^ 64) (2 ^ s), ← Nat.mul_assoc hi]
  omega
theorem mul_le_sq {q y0 : Nat} (h1 : q ≤ 4294967296) (h2 : y0 < 4294967296) : q * y0 ≤ 18446744069414584320 := by
  have := Nat.mul_le_mul h1 (show y0 ≤ 4294967295 by omega)
  omega
/-- one step of a division bit by bit -/
theorem bit_step {M d b Q r : Nat} (hd : 0 < d) (hb : b ≤ 1) (hM : M = Q * d + r) (hr : r < d) :
    (d ≤ 2 * r + b → (2 * M + b) / d = 2 * Q + 1 ∧ (2 * M + b) % d = 2 * r + b - d) ∧ (¬ d ≤ 2 * r + b → (2 * M + b) / d = 2 * Q ∧ (2 * M + b) % d = 2 * r + b) := by
  have e : 2 * M + b = (2 * Q) * d + (2 * r + b) := by rw [hM, Nat.mul_add, Nat.mul_assoc]; omega
  constructor
  · intro h
    have e2 : 2 * M + b = (2 * Q + 1) * d + (2 * r + b - d) := by rw [e, Nat.add_mul (2 * Q) 1 d]; omega
    have h3 : 2 * r + b - d < d := by omega
    constructor
    · rw [e2, Nat.mul_comm, Nat.mul_add_div hd, Nat.div_eq_of_lt h3, Nat.add_zero]
    · rw [e2, Nat.mul_comm, Nat.mul_add_mod, Nat.mod_eq_of_lt h3]
  · intro h
    have h3 : 2 * r + b < d := by omega
    constructor
    · rw [e, Nat.mul_comm, Nat.mul_add_div hd, Nat.div_eq_of_lt h3, Nat.add_zero]
    · rw [e, Nat.mul_comm, Nat.mul_add_mod, Nat.mod_eq_of_lt h3]
theorem pow_step (N i : Nat) : N / 2 ^ i = 2 * (N / 2 ^ (i + 1)) + N / 2 ^ i % 2 := by
  have h : N / 2 ^ (i + 1) = N / 2 ^ i / 2 := by rw [Nat.pow_succ, Nat.div_div_eq_div_mul]
  rw [h]; omega
theorem bit_low {h l i : Nat} (_hl : l < 2 ^ 64) (hi : i < 64) : (h * 2 ^ 64 + l) / 2 ^ i % 2 = l / 2 ^ i % 2 := by
  have e : 2 ^ 64 = 2 ^ i * 2 ^ (64 - i) := by rw [← Nat.pow_add]; congr 1; omega
  rw [e, ← Nat.mul_assoc, Nat.mul_comm h, Nat.mul_assoc, Nat.mul_add_div (Nat.two_pow_pos i)]
  have e2 : 2 ^ (64 - i) = 2 * 2 ^ (63 - i) := by rw [Nat.mul_comm, ← Nat.pow_succ]; congr 1; omega
  rw [e2]
  have : h * (2 * 2 ^ (63 - i)) = 2 * (h * 2 ^ (63 - i)) := by rw [Nat.mul_left_comm]
  rw [this]; omega
theorem bit_high {h l i : Nat} (hl : l < 2 ^ 64) (hi : 64 ≤ i) : (h * 2 ^ 64 + l) / 2 ^ i % 2 = h / 2 ^ (i - 64) % 2 := by
  have e : 2 ^ i = 2 ^ 64 * 2 ^ (i - 64) := by rw [← Nat.pow_add]; congr 1; omega
  rw [e, ← Nat.div_div_eq_div_mul]
  congr 2
  omega
theorem times_split (ah al bh bl : Nat) : (ah * 4294967296 + al) * (bh * 4294967296 + bl) = ah * bh * 18446744073709551616 + (ah * bl + al * bh) * 4294967296 + al * bl := by
  have e1 : ah * 4294967296 * (bh * 4294967296) = ah * bh * 18446744073709551616 := by
    rw [Nat.mul_assoc, Nat.mul_left_comm 4294967296, ← Nat.mul_assoc ah]
  have e2 : ah * 4294967296 * bl = ah * bl * 4294967296 := by rw [Nat.mul_right_comm]
  have e3 : al * (bh * 4294967296) = al * bh * 4294967296 := by rw [Nat.mul_assoc]
  rw [Nat.add_mul, Nat.mul_add, Nat.mul_add, e1, e2, e3]
  omega
/-- the two halves of a product, out of four -/
theorem times_words {p q r s : Nat} (_hs : s < 18446744073709551616) (_hm : q + s / 4294967296 < 18446744073709551616) (_hk : r + (q + s / 4294967296) % 4294967296 < 18446744073709551616) :
    (p + (q + s / 4294967296) / 4294967296 + (r + (q + s / 4294967296) % 4294967296) / 4294967296) * 18446744073709551616 + ((r + (q + s / 4294967296) % 4294967296) % 4294967296 * 4294967296 + s % 4294967296) = p * 18446744073709551616 + (q + r) * 4294967296 + s := by
  omega
def quoR (N d : Nat) : Nat := N / d + if d - N % d ≤ N % d then 1 else 0
theorem quo_big {N d h : Nat} (hd : 0 < d) (hh : d ≤ h) (hN : h * 18446744073709551616 ≤ N) : 18446744073709551616 ≤ quoR N d := by
  have : 18446744073709551616 ≤ N / d := by
    rw [Nat.le_div_iff_mul_le hd, Nat.mul_comm]
    exact Nat.le_trans (Nat.mul_le_mul_right _ hh) hN
  unfold quoR
  omega
theorem mul_lt_sq {a b : Nat} (h1 : a < 4294967296) (h2 : b < 4294967296) : a * b ≤ 18446744065119617025 := by
  have := Nat.mul_le_mul (show a ≤ 4294967295 by omega) (show b ≤ 4294967295 by omega)
  omega
/-- a root, bit by bit -/
def rootB : Nat → Nat → Nat → Nat
  | 0, n, _ => n
  | k + 1, n, N => if (n + 2 ^ k) * (n + 2 ^ k) ≤ N then rootB k (n + 2 ^ k) N else rootB k n N
theorem rootB_yes {k n N : Nat} (h : (n + 2 ^ k) * (n + 2 ^ k) ≤ N) : rootB (k + 1) n N = rootB k (n + 2 ^ k) N := by rw [rootB, if_pos h]
theorem rootB_no {k n N : Nat} (h : ¬ (n + 2 ^ k) * (n + 2 ^ k) ≤ N) : rootB (k + 1) n N = rootB k n N := by rw [rootB, if_neg h]
theorem rootB_top {N : Nat} (h : N < 2 ^ 84) : rootB 43 0 N = rootB 42 0 N := by
  rw [rootB_no]
  rw [Nat.zero_add, ← Nat.pow_add]
  omega
end Go.Proofs.YtkablhamnepfnaaDoor
namespace Go.Proofs.YtkablhamnepfnaaDoor
open Go.RowKit
theorem and_low {a : Nat} : a &&& 4294967295 = a % 4294967296 := Nat.and_two_pow_sub_one_eq_mod a 32
theorem or_join (k s : Nat) : bits .or .u64 ((k % 4294967296 * 4294967296 : Nat) : Int) ((s : Int) % 4294967296) = ((k % 4294967296 * 4294967296 + s % 4294967296 : Nat) : Int) := by
  have h1 : k % 4294967296 * 4294967296 < 18446744073709551616 := by omega
  have h2 : s % 4294967296 < 18446744073709551616 := by omega
  have h := u64_or_nat (k % 4294967296 * 4294967296) (s % 4294967296) h1 h2
  rw [nat_join 32 _ _ (Nat.mul_mod_left _ _) (Nat.mod_lt _ (by decide))] at h
  exact h
theorem size_any (n : Int) (w : World) (h1 : -9223372036854775808 ≤ n) (h2 : n ≤ 9223372036854775807) : Calls Tryd.prog 64 #[.int .i64 n] w fun e w' => e = .returned (.int .u64 (n.natAbs : Nat)) ∧ w = w' := by
  by_cases h : n < 0
  · have e1 : IntKind.u64.wrap n = n + 18446744073709551616 := by simp [IntKind.wrap, IntKind.bits, IntKind.signed]; omega
    have e2 : IntKind.u64.wrap (-(n + 18446744073709551616)) = -n := by simp [IntKind.wrap, IntKind.bits, IntKind.signed]; omega
    go_enter Tryd.func64, Tryd.ntmps64
    go_wp2_with fail
    go_ret
    exact ⟨ret_int (by omega), rfl⟩
  · have e1 : IntKind.u64.wrap n = n := by simp [IntKind.wrap, IntKind.bits, IntKind.signed]; omega
    go_enter Tryd.func64, Tryd.ntmps64
    go_wp2_with fail
    go_ret
    exact ⟨ret_int (by omega), rfl⟩
theorem wrap_u64_id {x : Int} (h1 : 0 ≤ x) (h2 : x < 18446744073709551616) : IntKind.u64.wrap x = x := by
  simp [IntKind.wrap, IntKind.bits, IntKind.signed]; omega
theorem and_mask {a : Nat} (ha : a < 18446744073709551616) : bits .and .u64 (a : Int) 4294967295 = ((a % 4294967296 : Nat) : Int) := by
  have h := u64_and_nat a 4294967295 ha (by omega)
  rw [and_low] at h
  exact h
end Go.Proofs.YtkablhamnepfnaaDoor
