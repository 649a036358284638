/-
  The walk of the program's MulDiv.
-/
import Derived.Test.YtkablhamnepfnaaDoorMulRef
import Derived.Test.YtkablhamnepfnaaDoorDiv64
namespace Go.Proofs.YtkablhamnepfnaaDoor
open Go.RowKit
set_option maxHeartbeats 16000000 in
set_option maxRecDepth 100000 in
theorem mulDiv_any (a b c : Int) (w : World) (a1 : -9223372036854775808 ≤ a) (a2 : a ≤ 9223372036854775807) (b1 : -9223372036854775808 ≤ b) (b2 : b ≤ 9223372036854775807) (c1 : -9223372036854775808 ≤ c) (c2 : c ≤ 9223372036854775807) :
    Calls Tryd.prog 48 #[.int .i64 a, .int .i64 b, .int .i64 c] w fun e w' => e = .returned (mulDivV (mulDivO a b c)) ∧ w.grownBy w' none := by
  obtain ⟨V, hV⟩ : ∃ V, Hid (mulDivO a b c = V) := ⟨_, Lib.hid rfl⟩
  rw [hV.out]
  have HG := G.refl w none
  by_cases hc : c = 0
  · have hfin : Hid (V = none) := Lib.hid (by rw [← hV.out]; unfold mulDivO; rw [if_pos hc])
    have hc' : (c == 0) = true := by simp [hc]
    go_enter Tryd.func48, Tryd.ntmps48
    go_wp2_with fail
    go_ret2
    exact ⟨by rw [hfin.out]; rfl, (by exact G.go HG)⟩
  have hc' : (c == 0) = false := by simp [hc]
  have SA := Lib.hid (fun w => size_any a w a1 a2)
  have SB := Lib.hid (fun w => size_any b w b1 b2)
  have SC := Lib.hid (fun w => size_any c w c1 c2)
  have hd : 0 < c.natAbs := by omega
  have hd2 : c.natAbs ≤ 9223372036854775808 := by omega
  have HT := Lib.hid (fun w => Tryd.bits_Mul64 a.natAbs b.natAbs (by omega) (by omega) w)
  have hN : a.natAbs * b.natAbs ≤ 9223372036854775808 * 9223372036854775808 := Nat.mul_le_mul (by omega) (by omega)
  have hV2 : Hid (V = if 4611686018427387904 < quoR (a.natAbs * b.natAbs) c.natAbs then none else some (if (decide (a < 0) != decide (b < 0)) != decide (c < 0) then -((quoR (a.natAbs * b.natAbs) c.natAbs : Nat) : Int) else ((quoR (a.natAbs * b.natAbs) c.natAbs : Nat) : Int))) := Lib.hid (by rw [← hV.out]; unfold mulDivO; rw [if_neg hc])
  clear hV
  generalize a.natAbs = A at *
  generalize b.natAbs = B at *
  generalize c.natAbs = d at *
  generalize A * B = N at *
  obtain ⟨h, hh⟩ : ∃ h, N / 18446744073709551616 = h := ⟨_, rfl⟩
  obtain ⟨l, hl⟩ : ∃ l, N % 18446744073709551616 = l := ⟨_, rfl⟩
  rw [hh, hl] at HT
  have hhb : h ≤ 4611686018427387904 := by omega
  have hl2 : l < 18446744073709551616 := by omega
  have hNe : h * 18446744073709551616 + l = N := by omega
  by_cases hbig : (d : Int) ≤ (h : Int)
  · have hqb := quo_big (N := N) (d := d) (h := h) hd (by omega) (by omega)
    have hfin : Hid (V = none) := Lib.hid (by rw [hV2.out, if_pos (by omega)])
    clear hqb hV2 hN hNe hh hl
    go_enter Tryd.func48, Tryd.ntmps48
    go_wp2_with (first | (go_at_call_of 64 (Value.int IntKind.i64 a); refine (SA.out _).mono ?_; rintro e wn ⟨rfl, rfl⟩) | (go_at_call_of 64 (Value.int IntKind.i64 b); refine (SB.out _).mono ?_; rintro e wn ⟨rfl, rfl⟩) | (go_at_call_of 64 (Value.int IntKind.i64 c); refine (SC.out _).mono ?_; rintro e wn ⟨rfl, rfl⟩) | (go_at_call 65; refine (HT.out _).mono ?_; rintro e wn ⟨rfl, hwn⟩; obtain rfl := hwn.symm))
    go_ret2
    exact ⟨by rw [hfin.out]; rfl, (by exact G.go HG)⟩
  have HD := Lib.hid (fun w => div64_any h l d w (by omega) hl2 (by omega))
  rw [hNe] at HD
  have hqr : Hid (quoR N d = N / d + if d - N % d ≤ N % d then 1 else 0) := Lib.hid rfl
  have hr : N % d < d := Nat.mod_lt _ hd
  have hq64 : N / d < 18446744073709551616 := by
    rw [Nat.div_lt_iff_lt_mul hd]
    have e : h + 1 ≤ d := by omega
    have e2 := Nat.mul_le_mul_left 18446744073709551616 e
    omega
  clear hN hNe hh hl
  generalize N / d = Q at *
  generalize N % d = r at *
  obtain ⟨Q1, hQ1⟩ : ∃ Q1 : Nat, (Q + 1) % 18446744073709551616 = Q1 := ⟨_, rfl⟩
  have hw : IntKind.u64.wrap ((Q : Int) + 1) = (Q1 : Int) := by simp [IntKind.wrap, IntKind.bits, IntKind.signed]; omega
  go_enter Tryd.func48, Tryd.ntmps48
  go_upto_region 8 with (first | (go_at_call_of 64 (Value.int IntKind.i64 a); refine (SA.out _).mono ?_; rintro e wn ⟨rfl, rfl⟩) | (go_at_call_of 64 (Value.int IntKind.i64 b); refine (SB.out _).mono ?_; rintro e wn ⟨rfl, rfl⟩) | (go_at_call_of 64 (Value.int IntKind.i64 c); refine (SC.out _).mono ?_; rintro e wn ⟨rfl, rfl⟩) | (go_at_call 65; refine (HT.out _).mono ?_; rintro e wn ⟨rfl, hwn⟩; obtain rfl := hwn.symm) | (go_at_call 66; refine (HD.out _).mono ?_; rintro e wn ⟨rfl, hgn⟩; replace HG := G.trans (w := w) (by exact G.go HG) hgn; clear hgn))
  clear SA SB SC HT HD
  by_cases hbq : (4611686018427387904 : Int) < (Q : Int)
  · have hfin : Hid (V = none) := Lib.hid (by rw [hV2.out, if_pos (by rw [hqr.out]; omega)])
    clear hV2 hqr hQ1
    go_wp2_with fail
    go_ret2
    exact ⟨by rw [hfin.out]; rfl, (by exact G.go HG)⟩
  have hQ1' : Q1 = Q + 1 := by omega
  by_cases hge : (d : Int) - (r : Int) ≤ (r : Int)
  · have hq2 : Hid (quoR N d = Q1) := Lib.hid (by rw [hqr.out, if_pos (by omega), hQ1'])
    have hQ1b : (Q1 : Int) ≤ 9223372036854775808 := by omega
    clear hQ1 hQ1' hqr
    by_cases hb : (4611686018427387904 : Int) < (Q1 : Int)
    · have hfin : Hid (V = none) := Lib.hid (by rw [hV2.out, hq2.out, if_pos (by omega)])
      go_wp2_with fail
      go_ret2
      exact ⟨by rw [hfin.out]; rfl, (by exact G.go HG)⟩
    · have hV3 : Hid (V = some (if (decide (a < 0) != decide (b < 0)) != decide (c < 0) then -(Q1 : Int) else (Q1 : Int))) := Lib.hid (by rw [hV2.out, hq2.out, if_neg (by omega)])
      clear hV2 hq2
      have hV4 := hV3.out
      clear hV3
      cases hA : decide (a < 0) <;> cases hB : decide (b < 0) <;> cases hC : decide (c < 0) <;>
      · rw [hA, hB, hC] at hV4
        have hfin := Lib.hid hV4
        clear hV4
        simp only [decide_eq_true_eq, decide_eq_false_iff_not] at hA hB hC
        go_wp2_with fail
        go_ret2
        exact ⟨by rw [hfin.out]; rfl, (by exact G.go HG)⟩
  · have hq2 : Hid (quoR N d = Q) := Lib.hid (by rw [hqr.out, if_neg (by omega), Nat.add_zero])
    clear hQ1 hQ1' hqr hw
    have hV3 : Hid (V = some (if (decide (a < 0) != decide (b < 0)) != decide (c < 0) then -(Q : Int) else (Q : Int))) := Lib.hid (by rw [hV2.out, hq2.out, if_neg (by omega)])
    clear hV2 hq2
    have hV4 := hV3.out
    clear hV3
    cases hA : decide (a < 0) <;> cases hB : decide (b < 0) <;> cases hC : decide (c < 0) <;>
    · rw [hA, hB, hC] at hV4
      have hfin := Lib.hid hV4
      clear hV4
      simp only [decide_eq_true_eq, decide_eq_false_iff_not] at hA hB hC
      go_wp2_with fail
      go_ret2
      exact ⟨by rw [hfin.out]; rfl, (by exact G.go HG)⟩
end Go.Proofs.YtkablhamnepfnaaDoor
