/-
  The walk of the reference's MulDiv.
-/
import Derived.Test.YtkablhamnepfnaaGreatDoorMulPlain
import Derived.Deep.CutBlock
namespace Go.Proofs.YtkablhamnepfnaaGreatDoor
open Go.RowKit
/-- a times b by c, rounded -/
def mulDivO (a b c : Int) : Option Int := if c = 0 then none else if 4611686018427387904 < quoR (a.natAbs * b.natAbs) c.natAbs then none else
  some (if (decide (a < 0) != decide (b < 0)) != decide (c < 0) then -((quoR (a.natAbs * b.natAbs) c.natAbs : Nat) : Int) else ((quoR (a.natAbs * b.natAbs) c.natAbs : Nat) : Int))
def mulDivV (o : Option Int) : Value := match o with
  | some n => .tuple #[.int .i64 n, .bool true]
  | none => .tuple #[.int .i64 0, .bool false]
/-- what the loop holds: the quotient so far, or that it is too great -/
def MdRel (N d i Q : Nat) (over : Bool) : Prop := (over = false → Q = N / 2 ^ i / d ∧ Q < 9223372036854775808) ∧ (over = true → 9223372036854775808 ≤ N / 2 ^ i / d)
theorem md_step {N d j Q r bit : Nat} {over : Bool} (hd : 0 < d) (hQ : Q < 18446744073709551616) (hr : r < d) (HR : r = N / 2 ^ (j + 1) % d) (HO : MdRel N d (j + 1) Q over) (hbit : bit = N / 2 ^ j % 2) :
    (d ≤ 2 * r + bit → 2 * Q % 18446744073709551616 + 1 < 18446744073709551616 ∧ 2 * r + bit - d < d ∧ 2 * r + bit - d = N / 2 ^ j % d ∧ MdRel N d j (2 * Q % 18446744073709551616 + 1) (over || decide (4611686018427387904 ≤ Q))) ∧
    (¬ d ≤ 2 * r + bit → 2 * Q % 18446744073709551616 < 18446744073709551616 ∧ 2 * r + bit < d ∧ 2 * r + bit = N / 2 ^ j % d ∧ MdRel N d j (2 * Q % 18446744073709551616) (over || decide (4611686018427387904 ≤ Q))) := by
  have hM : N / 2 ^ (j + 1) = N / 2 ^ (j + 1) / d * d + r := by rw [HR, Nat.mul_comm]; exact (Nat.div_add_mod _ _).symm
  have hp := pow_step N j
  rw [← hbit] at hp
  have hb : bit ≤ 1 := by omega
  obtain ⟨s1, s2⟩ := bit_step hd hb hM hr
  rw [← hp] at s1 s2
  unfold MdRel at *
  generalize N / 2 ^ (j + 1) / d = q at *
  constructor
  · intro h
    obtain ⟨e1, e2⟩ := s1 h
    refine ⟨by omega, by omega, e2.symm, ?_, ?_⟩
    · intro ho
      rw [Bool.or_eq_false_iff] at ho
      have h1 := HO.1 ho.1
      have h2 : ¬ 4611686018427387904 ≤ Q := of_decide_eq_false ho.2
      rw [e1]; omega
    · intro ho
      rw [Bool.or_eq_true] at ho
      rw [e1]
      cases over
      · rcases ho with ho | ho
        · cases ho
        · have h1 := HO.1 rfl
          have h2 := of_decide_eq_true ho
          omega
      · have := HO.2 rfl
        omega
  · intro h
    obtain ⟨e1, e2⟩ := s2 h
    refine ⟨by omega, by omega, e2.symm, ?_, ?_⟩
    · intro ho
      rw [Bool.or_eq_false_iff] at ho
      have h1 := HO.1 ho.1
      have h2 : ¬ 4611686018427387904 ≤ Q := of_decide_eq_false ho.2
      rw [e1]; omega
    · intro ho
      rw [Bool.or_eq_true] at ho
      rw [e1]
      cases over
      · rcases ho with ho | ho
        · cases ho
        · have h1 := HO.1 rfl
          have h2 := of_decide_eq_true ho
          omega
      · have := HO.2 rfl
        omega
theorem or_bit {x b : Nat} (hx : 2 * x < 18446744073709551616) (hb : b ≤ 1) : bits .or .u64 ((x : Int) * 2) (b : Int) = ((2 * x + b : Nat) : Int) := by
  have h := u64_or_nat (2 * x) b hx (by omega)
  rw [nat_join 1 _ _ (by omega) (by omega)] at h
  rw [← h]
  congr 1
  omega
theorem or_one (x : Nat) : bits .or .u64 ((2 * x % 18446744073709551616 : Nat) : Int) 1 = ((2 * x % 18446744073709551616 + 1 : Nat) : Int) := by
  have h := u64_or_nat (2 * x % 18446744073709551616) 1 (Nat.mod_lt _ (by omega)) (by omega)
  rw [nat_join 1 _ _ (by omega) (by omega)] at h
  exact h
theorem and_bit {x : Nat} (hx : x < 18446744073709551616) : bits .and .u64 (x : Int) 1 = ((x % 2 : Nat) : Int) := by
  have h := u64_and_nat x 1 hx (by omega)
  rw [show x &&& 1 = x % 2 from Nat.and_two_pow_sub_one_eq_mod x 1] at h
  exact h
theorem and_63 {j : Nat} (hj : j < 64) : bits .and .i64 (j : Int) 63 = (j : Int) := by
  have h : bits .and .i64 (j : Int) 63 = IntKind.i64.wrap ((BitVec.ofInt 64 (j : Int) &&& BitVec.ofInt 64 63).toNat : Int) := rfl
  have e : (BitVec.ofInt 64 (j : Int)).toNat = j := ofInt_u64 j (by omega)
  have e2 : (BitVec.ofInt 64 63).toNat = 63 := rfl
  have e3 : j &&& 63 = j % 64 := Nat.and_two_pow_sub_one_eq_mod j 6
  rw [h, BitVec.toNat_and, e, e2, e3, IntKind.wrap_i64]
  omega
theorem shr_cast (x k : Nat) : (x : Int) / 2 ^ k = ((x / 2 ^ k : Nat) : Int) := by rw [Int.natCast_ediv, Int.natCast_pow]; rfl
set_option maxHeartbeats 16000000 in
set_option maxRecDepth 100000 in
theorem mulDiv1_any (a b c : Int) (w : World) (a1 : -9223372036854775808 ≤ a) (a2 : a ≤ 9223372036854775807) (b1 : -9223372036854775808 ≤ b) (b2 : b ≤ 9223372036854775807) (c1 : -9223372036854775808 ≤ c) (c2 : c ≤ 9223372036854775807) :
    Calls Tryz.prog 92 #[.int .i64 a, .int .i64 b, .int .i64 c] w fun e w' => e = .returned (mulDivV (mulDivO a b c)) ∧ w.grownBy w' none := by
  obtain ⟨V, hV⟩ : ∃ V, Hid (mulDivO a b c = V) := ⟨_, Lib.hid rfl⟩
  rw [hV.out]
  have HG := G.refl w none
  by_cases hc : c = 0
  · have hfin : Hid (V = none) := Lib.hid (by rw [← hV.out]; unfold mulDivO; rw [if_pos hc])
    have hc' : (c == 0) = true := by simp [hc]
    go_enter Tryz.func92, Tryz.ntmps92
    go_wp2_with fail
    go_ret2
    exact ⟨by rw [hfin.out]; rfl, (by exact G.go HG)⟩
  have hc' : (c == 0) = false := by simp [hc]
  have SA := Lib.hid (fun w => size1_any a w a1 a2)
  have SB := Lib.hid (fun w => size1_any b w b1 b2)
  have SC := Lib.hid (fun w => size1_any c w c1 c2)
  have hd : 0 < c.natAbs := by omega
  have hd2 : c.natAbs ≤ 9223372036854775808 := by omega
  have HT := Lib.hid (fun w => times_any a.natAbs b.natAbs w (by omega) (by omega))
  have hN : a.natAbs * b.natAbs ≤ 9223372036854775808 * 9223372036854775808 := Nat.mul_le_mul (by omega) (by omega)
  have hV2 : Hid (V = if 4611686018427387904 < quoR (a.natAbs * b.natAbs) c.natAbs then none else some (if (decide (a < 0) != decide (b < 0)) != decide (c < 0) then -((quoR (a.natAbs * b.natAbs) c.natAbs : Nat) : Int) else ((quoR (a.natAbs * b.natAbs) c.natAbs : Nat) : Int))) := Lib.hid (by rw [← hV.out]; unfold mulDivO; rw [if_neg hc])
  clear hV
  generalize a.natAbs = A at *
  generalize b.natAbs = B at *
  generalize c.natAbs = d at *
  generalize A * B = N at *
  obtain ⟨h, hh⟩ : ∃ h, N / 18446744073709551616 = h := ⟨_, rfl⟩
  obtain ⟨l, hl⟩ : ∃ l, N % 18446744073709551616 = l := ⟨_, rfl⟩
  rw [hh, hl] at HT
  have hh2 : h < 18446744073709551616 := by omega
  have hl2 : l < 18446744073709551616 := by omega
  go_enter Tryz.func92, Tryz.ntmps92
  have hNn : N / 2 ^ 128 = 0 := Nat.div_eq_of_lt (by omega)
  have hspl : Hid (∀ j, j ≤ 127 → N / 2 ^ j % 2 = if 64 ≤ j then h / 2 ^ (j - 64) % 2 else l / 2 ^ j % 2) := Lib.hid (fun j hj => by
    have e : N = h * 2 ^ 64 + l := by omega
    have l64 : l < 2 ^ 64 := by omega
    rw [e]
    split
    · rename_i g; exact bit_high l64 g
    · rename_i g; exact bit_low l64 (by omega))
  have hNH : Hid (N / 2 ^ 128 % d = 0 ∧ N / 2 ^ 128 / d = 0) := Lib.hid (by rw [hNn]; simp)
  clear hNn hh hl
  go_upto_block 0 with (first | (go_at_call_of 110 (Value.int IntKind.i64 a); refine (SA.out _).mono ?_; rintro e wn ⟨rfl, rfl⟩) | (go_at_call_of 110 (Value.int IntKind.i64 b); refine (SB.out _).mono ?_; rintro e wn ⟨rfl, rfl⟩) | (go_at_call_of 110 (Value.int IntKind.i64 c); refine (SC.out _).mono ?_; rintro e wn ⟨rfl, rfl⟩) | (go_at_call 109; refine (HT.out _).mono ?_; rintro e wn ⟨rfl, hgn⟩; replace HG := G.trans (w := w) (by exact G.go HG) hgn; clear hgn))
  clear SA SB SC HT
  go_cut [11, 12, 13] (fun qv rv ov wc => ∃ (Q r : Nat) (over : Bool), qv = .int .u64 Q ∧ rv = .int .u64 r ∧ ov = .bool over ∧ w.grownBy wc none ∧ Q < 18446744073709551616 ∧ r < d ∧ Hid (r = N % d) ∧ Hid ((over = false → Q = N / d ∧ Q < 9223372036854775808) ∧ (over = true → 9223372036854775808 ≤ N / d)))
  case first =>
    go_wp2_with fail
    go_loop [11, 12, 13, 14, 15, 16] (fun qv rv ov iv _ _ => ∃ (i Q r : Nat) (over : Bool) (x : Int), iv = .int .i64 x ∧ x = (i : Int) - 1 ∧ i ≤ 128 ∧ qv = .int .u64 Q ∧ rv = .int .u64 r ∧ ov = .bool over ∧ Q < 18446744073709551616 ∧ r < d ∧ Hid (r = N / 2 ^ i % d) ∧ Hid (MdRel N d i Q over)) (fun _ _ _ iv _ _ => (intOf iv + 1).toNat)
    case atStart => exact ⟨128, 0, 0, false, 127, rfl, by omega, by omega, rfl, rfl, rfl, by omega, hd, Lib.hid hNH.out.1.symm, Lib.hid ⟨fun _ => ⟨hNH.out.2.symm, by omega⟩, fun h => by cases h⟩⟩
    case round =>
      obtain ⟨i, Q, r, over, x, rfl, hx, hi, rfl, rfl, rfl, hQ, hr, HR, HO⟩ := hrel
      by_cases hlt : (0 : Int) ≤ x
      · obtain ⟨j, rfl⟩ : ∃ j, i = j + 1 := ⟨i - 1, by omega⟩
        obtain rfl : x = (j : Int) := by omega
        have hj : j ≤ 127 := by omega
        have hj0 : (0 : Int) ≤ (j : Int) := by omega
        have hj1 : (j : Int) ≤ 127 := by omega
        obtain ⟨bit, hbit⟩ : ∃ bit, bit = N / 2 ^ j % 2 := ⟨_, rfl⟩
        have hb1 : bit ≤ 1 := by omega
        have hst := md_step hd hQ hr HR.out HO.out hbit
        have hs2 := hspl.out j (by omega)
        rw [← hbit] at hs2
        have HB := Lib.hid hbit
        have hw1 : IntKind.u64.wrap ((Q : Int) * 2) = ((2 * Q % 18446744073709551616 : Nat) : Int) := by
          simp [IntKind.wrap, IntKind.bits, IntKind.signed]; omega
        have hw2 := or_one Q
        have hor := or_bit (x := r) (b := bit) (by omega) hb1
        have hq62 : ((Q : Int) / 4611686018427387904 != 0) = decide (4611686018427387904 ≤ Q) := by
          rw [Bool.eq_iff_iff]; simp; omega
        have hq2lt : 2 * Q % 18446744073709551616 < 18446744073709551616 := Nat.mod_lt _ (by omega)
        obtain ⟨Q2, hQ2⟩ : ∃ Q2, 2 * Q % 18446744073709551616 = Q2 := ⟨_, rfl⟩
        obtain ⟨R, hR⟩ : ∃ R, 2 * r + bit = R := ⟨_, rfl⟩
        obtain ⟨big, hbig⟩ : ∃ big, decide (4611686018427387904 ≤ Q) = big := ⟨_, rfl⟩
        rw [hQ2, hR, hbig] at hst
        rw [hQ2] at hw1 hw2 hq2lt
        rw [hR] at hor
        rw [hbig] at hq62
        have hRlt : R < 18446744073709551616 := by omega
        obtain ⟨st1, st2⟩ := hst
        have ST1 := Lib.hid st1; have ST2 := Lib.hid st2
        clear st1 st2 hQ2 hR hbig hbit HR HO hx hi
        by_cases h64 : (64 : Int) ≤ (j : Int)
        · rw [if_pos (by omega)] at hs2
          have hbb : bits .and .u64 ((h : Int) / 2 ^ (j - 64)) 1 = (bit : Int) := by
            rw [shr_cast, and_bit (Nat.lt_of_le_of_lt (Nat.div_le_self _ _) hh2), hs2]
          clear hs2
          by_cases hge : (d : Int) ≤ (R : Int)
          · obtain ⟨r1, r2, r3, r4⟩ := ST1.out (by omega)
            have R3 := Lib.hid r3; have R4 := Lib.hid r4
            clear r3 r4
            cases over <;> cases big <;>
            · go_wp2_with fail
              refine ⟨?_, by first | (simp [intOf]; done) | (simp [intOf]; omega)⟩
              exact ⟨j, Q2 + 1, R - d, _, (j : Int) - 1, by go_num, rfl, by omega, by go_num, by go_num, rfl, r1, r2, R3, R4⟩
          · obtain ⟨r1, r2, r3, r4⟩ := ST2.out (by omega)
            have R3 := Lib.hid r3; have R4 := Lib.hid r4
            clear r3 r4
            cases over <;> cases big <;>
            · go_wp2_with fail
              refine ⟨?_, by first | (simp [intOf]; done) | (simp [intOf]; omega)⟩
              exact ⟨j, Q2, R, _, (j : Int) - 1, by go_num, rfl, by omega, by go_num, by go_num, rfl, r1, r2, R3, R4⟩
        · rw [if_neg (by omega)] at hs2
          have h63 := and_63 (j := j) (by omega)
          have hbb : bits .and .u64 ((l : Int) / 2 ^ j) 1 = (bit : Int) := by
            rw [shr_cast, and_bit (Nat.lt_of_le_of_lt (Nat.div_le_self _ _) hl2), hs2]
          clear hs2
          by_cases hge : (d : Int) ≤ (R : Int)
          · obtain ⟨r1, r2, r3, r4⟩ := ST1.out (by omega)
            have R3 := Lib.hid r3; have R4 := Lib.hid r4
            clear r3 r4
            cases over <;> cases big <;>
            · go_wp2_with fail
              refine ⟨?_, by first | (simp [intOf]; done) | (simp [intOf]; omega)⟩
              exact ⟨j, Q2 + 1, R - d, _, (j : Int) - 1, by go_num, rfl, by omega, by go_num, by go_num, rfl, r1, r2, R3, R4⟩
          · obtain ⟨r1, r2, r3, r4⟩ := ST2.out (by omega)
            have R3 := Lib.hid r3; have R4 := Lib.hid r4
            clear r3 r4
            cases over <;> cases big <;>
            · go_wp2_with fail
              refine ⟨?_, by first | (simp [intOf]; done) | (simp [intOf]; omega)⟩
              exact ⟨j, Q2, R, _, (j : Int) - 1, by go_num, rfl, by omega, by go_num, by go_num, rfl, r1, r2, R3, R4⟩
      · obtain rfl : i = 0 := by omega
        clear hx
        have HR' := HR.out
        have HO' := HO.out
        unfold MdRel at HO'
        rw [Nat.pow_zero, Nat.div_one] at HR' HO'
        have HRh := Lib.hid HR'; have HOh := Lib.hid HO'
        clear HR' HO'
        go_wp2_with fail
        go_meet
        exact ⟨Q, r, over, rfl, rfl, rfl, HG, hQ, hr, HRh, HOh⟩
  obtain ⟨Q, r, over, rfl, rfl, rfl, HG, hQ, hr, HR, HO⟩ := hcut
  have hqr : Hid (quoR N d = N / d + if d - r ≤ r then 1 else 0) := Lib.hid (by unfold quoR; rw [← HR.out])
  have HO' := HO.out
  clear HR HO hspl hNH hN
  obtain ⟨Q1, hQ1⟩ : ∃ Q1 : Nat, (Q + 1) % 18446744073709551616 = Q1 := ⟨_, rfl⟩
  have hw : IntKind.u64.wrap ((Q : Int) + 1) = (Q1 : Int) := by simp [IntKind.wrap, IntKind.bits, IntKind.signed]; omega
  cases over
  case true =>
    have hbig := HO'.2 rfl
    have hfin : Hid (V = none) := Lib.hid (by rw [hV2.out, if_pos (by rw [hqr.out]; omega)])
    clear HO' hbig hqr hV2 hQ1
    by_cases hge : (d : Int) - (r : Int) ≤ (r : Int) <;>
    · go_wp2_with fail
      go_ret2
      exact ⟨by rw [hfin.out]; rfl, (by exact G.go HG)⟩
  case false =>
    obtain ⟨e1, e2⟩ := HO'.1 rfl
    have E1 := Lib.hid e1
    have hQ1' : Q1 = Q + 1 := by omega
    clear HO' e1
    by_cases hge : (d : Int) - (r : Int) ≤ (r : Int)
    · have hq2 : Hid (quoR N d = Q1) := Lib.hid (by rw [hqr.out, if_pos (by omega), ← E1.out, hQ1'])
      have hQ1b : (Q1 : Int) ≤ 9223372036854775808 := by omega
      clear hQ1 hQ1' hqr E1 e2
      by_cases hb : (4611686018427387904 : Int) < (Q1 : Int)
      · have hfin : Hid (V = none) := Lib.hid (by rw [hV2.out, hq2.out, if_pos (by omega)])
        go_wp2_with fail
        go_ret2
        exact ⟨by rw [hfin.out]; rfl, (by exact G.go HG)⟩
      · have hV3 : Hid (V = some (if (decide (a < 0) != decide (b < 0)) != decide (c < 0) then -(Q1 : Int) else (Q1 : Int))) := Lib.hid (by rw [hV2.out, hq2.out, if_neg (by omega)])
        clear hV2 hq2
        have hV4 := hV3.out
        clear hV3
        cases hA : decide (a < 0) <;> cases hB : decide (b < 0) <;> cases hC : decide (c < 0) <;>
        · rw [hA, hB, hC] at hV4
          have hfin := Lib.hid hV4
          clear hV4
          simp only [decide_eq_true_eq, decide_eq_false_iff_not] at hA hB hC
          go_wp2_with fail
          go_ret2
          exact ⟨by rw [hfin.out]; rfl, (by exact G.go HG)⟩
    · have hq2 : Hid (quoR N d = Q) := Lib.hid (by rw [hqr.out, if_neg (by omega), E1.out, Nat.add_zero])
      clear hQ1 hQ1' hqr E1 e2 hw
      by_cases hb : (4611686018427387904 : Int) < (Q : Int)
      · have hfin : Hid (V = none) := Lib.hid (by rw [hV2.out, hq2.out, if_pos (by omega)])
        go_wp2_with fail
        go_ret2
        exact ⟨by rw [hfin.out]; rfl, (by exact G.go HG)⟩
      · have hV3 : Hid (V = some (if (decide (a < 0) != decide (b < 0)) != decide (c < 0) then -(Q : Int) else (Q : Int))) := Lib.hid (by rw [hV2.out, hq2.out, if_neg (by omega)])
        clear hV2 hq2
        have hV4 := hV3.out
        clear hV3
        cases hA : decide (a < 0) <;> cases hB : decide (b < 0) <;> cases hC : decide (c < 0) <;>
        · rw [hA, hB, hC] at hV4
          have hfin := Lib.hid hV4
          clear hV4
          simp only [decide_eq_true_eq, decide_eq_false_iff_not] at hA hB hC
          go_wp2_with fail
          go_ret2
          exact ⟨by rw [hfin.out]; rfl, (by exact G.go HG)⟩
end Go.Proofs.YtkablhamnepfnaaGreatDoor
