/-
  The walk of math/bits.Div64: Knuth's division by two digits.
-/
import Derived.Test.YtkablhamnepfnaaDoorMulPlain
import Derived.Deep.CutBlock
namespace Go.Proofs.YtkablhamnepfnaaDoor
open Go.RowKit
theorem bitLen_bounds : ∀ x : Nat, x ≠ 0 → x < 2 ^ 64 → x < 2 ^ Lib.bitLen x ∧ 2 ^ Lib.bitLen x ≤ 2 * x := by
  intro x
  induction x using Nat.strongRecOn with
  | _ x ih =>
    intro h0 h
    rw [Lib.bitLen_half x h0 h]
    by_cases h1 : x / 2 = 0
    · have : x = 1 := by omega
      subst this
      decide
    · obtain ⟨e1, e2⟩ := ih (x / 2) (by omega) h1 (by omega)
      rw [Nat.add_comm, Nat.pow_succ]
      generalize 2 ^ Lib.bitLen (x / 2) = p at *
      omega
/-- how far a divisor is shifted, and what it then is -/
theorem shift_of {y : Nat} (h0 : y ≠ 0) (h : y < 18446744073709551616) : ∃ s : Nat, (64 : Int) - (Lib.bitLen y : Int) = (s : Int) ∧ s ≤ 63 ∧ y * 2 ^ s < 18446744073709551616 ∧ 9223372036854775808 ≤ y * 2 ^ s := by
  obtain ⟨e1, e2⟩ := bitLen_bounds y h0 h
  have hL : Lib.bitLen y ≤ 64 := by
    rcases Nat.lt_or_ge 64 (Lib.bitLen y) with g | g
    · have : 2 ^ 65 ≤ 2 ^ Lib.bitLen y := Nat.pow_le_pow_right (by omega) (by omega)
      have e : (2 : Nat) ^ 65 = 36893488147419103232 := by decide
      omega
    · exact g
  have hL0 : 1 ≤ Lib.bitLen y := by
    rcases Nat.eq_zero_or_pos (Lib.bitLen y) with g | g
    · rw [g] at e1; omega
    · exact g
  generalize Lib.bitLen y = L at *
  refine ⟨64 - L, by omega, by omega, ?_, ?_⟩
  · have : y * 2 ^ (64 - L) < 2 ^ L * 2 ^ (64 - L) := Nat.mul_lt_mul_of_pos_right e1 (Nat.two_pow_pos _)
    rw [← Nat.pow_add, show L + (64 - L) = 64 from by omega] at this
    exact this
  · have : 2 ^ L * 2 ^ (64 - L) ≤ 2 * y * 2 ^ (64 - L) := Nat.mul_le_mul_right _ e2
    rw [← Nat.pow_add, show L + (64 - L) = 64 from by omega, Nat.mul_assoc] at this
    have e : (2 : Nat) ^ 64 = 18446744073709551616 := by decide
    omega
/-- the remainder behind one digit, by numbers that wrap -/
theorem digit_rem {X W P R : Nat} (h : P + R = X + W) (hR : R < 18446744073709551616) : IntKind.u64.wrap (IntKind.u64.wrap (IntKind.u64.wrap (X : Int) + (W : Int)) - IntKind.u64.wrap (P : Int)) = (R : Int) := by
  simp only [IntKind.wrap, IntKind.bits, IntKind.signed]
  simp
  omega
/-- what the two digits come to -/
theorem two_digits {N y s Y U W W1 W0 q1 u q0 R : Nat} (hsc : N * 2 ^ s / Y = N / y ∧ N * 2 ^ s % Y / 2 ^ s = N % y) (hsp : N * 2 ^ s = U * 18446744073709551616 + W) (hW : W = W1 * 4294967296 + W0) (hY : 0 < Y)
    (e1 : (U * 4294967296 + W1) / Y = q1) (e2 : (U * 4294967296 + W1) % Y = u) (e3 : (u * 4294967296 + W0) / Y = q0) (e4 : (u * 4294967296 + W0) % Y = R) : N / y = q1 * 4294967296 + q0 ∧ N % y = R / 2 ^ s := by
  have h := long_two (A := U * 4294967296 + W1) (Y := Y) (u0 := W0) (B := 4294967296) hY
  have e : (U * 4294967296 + W1) * 4294967296 + W0 = N * 2 ^ s := by rw [hsp, hW]; omega
  rw [e, e1, e2, e3, e4, hsc.1] at h
  refine ⟨h.1, ?_⟩
  rw [← hsc.2, h.2]
theorem quo_small {U W1 Y : Nat} (h : U < Y) (h2 : W1 < 4294967296) : (U * 4294967296 + W1) / Y < 4294967296 := by
  rw [Nat.div_lt_iff_lt_mul (by omega)]
  omega
set_option maxHeartbeats 16000000 in
set_option maxRecDepth 100000 in
theorem div64_any (hi lo y : Nat) (w : World) (h1 : hi < y) (h2 : lo < 18446744073709551616) (h3 : y < 18446744073709551616) :
    Calls Tryd.prog 66 #[.int .u64 hi, .int .u64 lo, .int .u64 y] w fun e w' => e = .returned (.tuple #[.int .u64 (((hi * 18446744073709551616 + lo) / y : Nat) : Int), .int .u64 (((hi * 18446744073709551616 + lo) % y : Nat) : Int)]) ∧ w.grownBy w' none := by
  have HG := G.refl w none
  have g1 : ((y : Int) == 0) = false := by simp; omega
  have g2 : ¬ (y : Int) ≤ (hi : Int) := by omega
  by_cases h0 : hi = 0
  · subst h0
    have g3 : (((0 : Nat) : Int) == 0) = true := rfl
    have g4 : ¬ (y : Int) = 0 := by omega
    have g5 : IntKind.u64.wrap ((lo : Int) / (y : Int)) = ((lo / y : Nat) : Int) := by
      have e : (lo : Int) / (y : Int) = ((lo / y : Nat) : Int) := rfl
      rw [e]
      have hz := Nat.div_le_self lo y
      generalize lo / y = z at *
      exact wrap_u64_id (by omega) (by omega)
    go_enter Tryd.func66, Tryd.ntmps66
    go_wp2_with fail
    go_quiet (fail)
    go_wp2_with fail
    go_ret2
    exact ⟨by rw [Nat.zero_mul, Nat.zero_add]; rfl, (by exact G.go HG)⟩
  have g3 : ((hi : Int) == 0) = false := by simp; omega
  have HL := Lib.hid (fun w => Tryd.bits_LeadingZeros64 (y : Int) w (by omega) (by omega))
  obtain ⟨s, hs, hs63, hY1, hY2⟩ := shift_of (y := y) (by omega) h3
  rw [Int.toNat_natCast, hs] at HL
  have hsp := split_shift (hi := hi) (lo := lo) (s := s) (by omega) h2
  have hk : 0 < 2 ^ s := Nat.two_pow_pos s
  have hsc := scaled (N := hi * 2 ^ 64 + lo) (y := y) (k := 2 ^ s) hk
  have hhi : hi * 2 ^ s < y * 2 ^ s := Nat.mul_lt_mul_of_pos_right h1 hk
  have hlo : lo / 2 ^ (64 - s) < 2 ^ s := by
    rw [Nat.div_lt_iff_lt_mul (Nat.two_pow_pos _), ← Nat.pow_add, show s + (64 - s) = 64 from by omega]
    exact h2
  have hor := u64_or_nat (hi * 2 ^ s) (lo / 2 ^ (64 - s)) (by omega) (Nat.lt_of_le_of_lt (Nat.div_le_self _ _) h2)
  rw [nat_join s _ _ (Nat.mul_mod_left _ _) hlo] at hor
  have hUY : hi * 2 ^ s + lo / 2 ^ (64 - s) < y * 2 ^ s := by
    have e : (hi + 1) * 2 ^ s ≤ y * 2 ^ s := Nat.mul_le_mul_right _ h1
    rw [Nat.add_mul, Nat.one_mul] at e
    omega
  have c1 : (y : Int) * 2 ^ s = ((y * 2 ^ s : Nat) : Int) := by rw [Int.natCast_mul, Int.natCast_pow]; rfl
  have c2 : (hi : Int) * 2 ^ s = ((hi * 2 ^ s : Nat) : Int) := by rw [Int.natCast_mul, Int.natCast_pow]; rfl
  have c3 : (lo : Int) * 2 ^ s = ((lo * 2 ^ s : Nat) : Int) := by rw [Int.natCast_mul, Int.natCast_pow]; rfl
  have c4 : (lo : Int) / 2 ^ (64 - s) = ((lo / 2 ^ (64 - s) : Nat) : Int) := by rw [Int.natCast_ediv, Int.natCast_pow]; rfl
  have c5 : IntKind.u64.wrap ((lo * 2 ^ s : Nat) : Int) = ((lo * 2 ^ s % 18446744073709551616 : Nat) : Int) := by
    generalize lo * 2 ^ s = z
    simp [IntKind.wrap, IntKind.bits, IntKind.signed]
  have c6 : IntKind.u64.wrap ((hi * 2 ^ s : Nat) : Int) = ((hi * 2 ^ s : Nat) : Int) := wrap_u64_id (by omega) (by omega)
  have c7 : IntKind.u64.wrap ((y * 2 ^ s : Nat) : Int) = ((y * 2 ^ s : Nat) : Int) := wrap_u64_id (by omega) (by omega)
  rw [show (2 : Nat) ^ 64 = 18446744073709551616 from by decide] at hsp hsc
  have hWlt : lo * 2 ^ s % 18446744073709551616 < 18446744073709551616 := Nat.mod_lt _ (by omega)
  obtain ⟨N, hN⟩ : ∃ N, hi * 18446744073709551616 + lo = N := ⟨_, rfl⟩
  rw [hN] at hsc hsp ⊢
  have Hsc := Lib.hid hsc; have Hsp := Lib.hid hsp
  clear hsc hsp hlo hs
  clear hN
  generalize hyY : y * 2 ^ s = Y at *
  generalize hi * 2 ^ s = HS at *
  generalize lo / 2 ^ (64 - s) = LS at *
  generalize lo * 2 ^ s % 18446744073709551616 = W at *
  generalize lo * 2 ^ s = LL at *
  obtain ⟨U, hU⟩ : ∃ U, HS + LS = U := ⟨_, rfl⟩
  rw [hU] at hor hUY Hsp
  go_enter Tryd.func66, Tryd.ntmps66
  have b1 := and_mask (a := Y) hY1
  have b2 := and_mask (a := W) hWlt
  have d1 : (Y : Int) / 4294967296 = ((Y / 4294967296 : Nat) : Int) := rfl
  have d2 : (W : Int) / 4294967296 = ((W / 4294967296 : Nat) : Int) := rfl
  obtain ⟨Y1, hY1'⟩ : ∃ x, Y / 4294967296 = x := ⟨_, rfl⟩
  obtain ⟨Y0, hY0'⟩ : ∃ x, Y % 4294967296 = x := ⟨_, rfl⟩
  obtain ⟨W1, hW1'⟩ : ∃ x, W / 4294967296 = x := ⟨_, rfl⟩
  obtain ⟨W0, hW0'⟩ : ∃ x, W % 4294967296 = x := ⟨_, rfl⟩
  have eY : Y = Y1 * 4294967296 + Y0 := by omega
  have eW : W = W1 * 4294967296 + W0 := by omega
  rw [hY1'] at d1
  rw [hY0'] at b1
  rw [hW1'] at d2
  rw [hW0'] at b2
  have k1 : 2147483648 ≤ Y1 := by omega
  have k2 : Y0 < 4294967296 := by omega
  have k3 : W1 < 4294967296 := by omega
  have k4 : W0 < 4294967296 := by omega
  have k5 : Y1 < 4294967296 := by omega
  have hUY' : U < Y1 * 4294967296 + Y0 := by omega
  have EY := Lib.hid eY; have EW := Lib.hid eW
  clear eY eW hY1' hY0' hW1' hW0'
  go_upto_region 15 with ((go_at_call 74; refine (HL.out _).mono ?_; rintro e wn ⟨rfl, hwn⟩; obtain rfl := hwn.symm))
  clear c1 c2 c3 c4 c5 c6 c7 HL hor
  have gY1 : ¬ (Y1 : Int) = 0 := by omega
  obtain ⟨q0, hq0⟩ : ∃ x, U / Y1 = x := ⟨_, rfl⟩
  obtain ⟨r0, hr0⟩ : ∃ x, U % Y1 = x := ⟨_, rfl⟩
  have gq : (U : Int) / (Y1 : Int) = (q0 : Int) := by rw [← hq0]; rfl
  have gle := guess_le k1 k2 hUY'
  rw [hq0] at gle
  have gst := Guess.start (u := U) (u1 := W1) (y1 := Y1) (y0 := Y0) (by omega) (by omega)
  rw [hq0, hr0] at gst
  have gr0 : r0 < Y1 := by rw [← hr0]; exact Nat.mod_lt _ (by omega)
  obtain ⟨P0, hP0⟩ : ∃ x, q0 * Y1 = x := ⟨_, rfl⟩
  have geq := gst.eq
  rw [hP0] at geq
  have gm : (q0 : Int) * (Y1 : Int) = (P0 : Int) := by rw [← hP0]; exact (Int.natCast_mul _ _).symm
  have gr : (U : Int) - (P0 : Int) = (r0 : Int) := by omega
  have gPlt : P0 < 18446744073709551616 := by omega
  have GST := Lib.hid gst
  clear gst hq0 hr0 hP0
  go_upto_block 0 with (fail)
  go_cut [15, 16] (fun qv _ wc => ∃ q : Nat, qv = .int .u64 q ∧ w = wc ∧ q < 4294967296 ∧ Hid ((U * 4294967296 + W1) / Y = q))
  case first =>
    have hqs := quo_small (U := U) (W1 := W1) (Y := Y) (by omega) (by omega)
    rw [EY.out] at hqs
    have HQS := Lib.hid hqs
    clear hqs gm gr geq gq gPlt
    go_wp2_with fail
    go_loop [15, 16] (fun qv rv => ∃ q r : Nat, qv = .int .u64 q ∧ rv = .int .u64 r ∧ Hid (Guess U W1 Y1 Y0 q r) ∧ q ≤ 4294967297 ∧ r < 4294967296) (fun qv _ => (intOf qv).toNat)
    case atStart => exact ⟨q0, r0, rfl, rfl, GST, gle, by omega⟩
    case round =>
      obtain ⟨q, r, rfl, rfl, HGu, hq, hr⟩ := hrel
      clear GST gr0 gle
      by_cases hb : (4294967296 : Int) ≤ (q : Int)
      · obtain ⟨hq1, hdn⟩ := HGu.out.down (by omega) hUY' (Or.inl (by omega))
        have HD := Lib.hid hdn
        by_cases hbr : (4294967296 : Int) ≤ (r : Int) + (Y1 : Int)
        · have hfinq := Lib.hid (HD.out.broke hUY' k2 (by omega) (by omega))
          go_wp2_with fail
          go_meet
          have h9 := HQS.out
          rw [hfinq.out] at h9
          exact ⟨q - 1, by go_num, rfl, h9, Lib.hid (by rw [EY.out]; exact hfinq.out)⟩
        · go_wp2_with fail
          refine ⟨?_, by first | (simp [intOf]; done) | (simp [intOf]; omega)⟩
          exact ⟨q - 1, r + Y1, by go_num, by go_num, HD, by omega, by omega⟩
      · have hT := mul_le_sq (q := q) (y0 := Y0) (by omega) k2
        have cT : (q : Int) * (Y0 : Int) = ((q * Y0 : Nat) : Int) := (Int.natCast_mul _ _).symm
        obtain ⟨T, hTe⟩ : ∃ x, q * Y0 = x := ⟨_, rfl⟩
        rw [hTe] at hT cT
        by_cases hc : (4294967296 : Int) * (r : Int) + (W1 : Int) < (T : Int)
        · obtain ⟨hq1, hdn⟩ := HGu.out.down (by omega) hUY' (Or.inr (by rw [hTe]; omega))
          have HD := Lib.hid hdn
          clear hTe
          by_cases hbr : (4294967296 : Int) ≤ (r : Int) + (Y1 : Int)
          · have hfinq := Lib.hid (HD.out.broke hUY' k2 (by omega) (by omega))
            go_wp2_with fail
            go_meet
            have h9 := HQS.out
            rw [hfinq.out] at h9
            exact ⟨q - 1, by go_num, rfl, h9, Lib.hid (by rw [EY.out]; exact hfinq.out)⟩
          · go_wp2_with fail
            refine ⟨?_, by first | (simp [intOf]; done) | (simp [intOf]; omega)⟩
            exact ⟨q - 1, r + Y1, by go_num, by go_num, HD, by omega, by omega⟩
        · have hfinq := Lib.hid (HGu.out.stop hUY' (by rw [hTe]; omega))
          clear hTe
          go_wp2_with fail
          go_meet
          have h9 := HQS.out
          rw [hfinq.out] at h9
          exact ⟨q, rfl, rfl, h9, Lib.hid (by rw [EY.out]; exact hfinq.out)⟩
  obtain ⟨q1, rfl, rfl, hq1, Eq1⟩ := hcut
  clear GST gr0 gle gm gr geq gq gPlt gY1
  obtain ⟨u, hu⟩ : ∃ x, (U * 4294967296 + W1) % Y = x := ⟨_, rfl⟩
  have lu : u < Y := by rw [← hu]; exact Nat.mod_lt _ (by omega)
  have du : IntKind.u64.wrap (IntKind.u64.wrap (IntKind.u64.wrap ((U : Int) * 4294967296) + (W1 : Int)) - IntKind.u64.wrap ((q1 : Int) * (Y : Int))) = (u : Int) := by
    have e := digit_rem (X := U * 4294967296) (W := W1) (P := q1 * Y) (R := u) (by
      have := Nat.div_add_mod (U * 4294967296 + W1) Y
      rw [Eq1.out, hu, Nat.mul_comm] at this
      exact this) (by omega)
    rw [Int.natCast_mul, Int.natCast_mul] at e
    exact e
  have Hu := Lib.hid hu
  clear hu
  have hu : u < Y1 * 4294967296 + Y0 := by have := EY.out; omega
  have gY1 : ¬ (Y1 : Int) = 0 := by omega
  obtain ⟨q0, hq0⟩ : ∃ x, u / Y1 = x := ⟨_, rfl⟩
  obtain ⟨r0, hr0⟩ : ∃ x, u % Y1 = x := ⟨_, rfl⟩
  have gq : (u : Int) / (Y1 : Int) = (q0 : Int) := by rw [← hq0]; rfl
  have gle := guess_le k1 k2 hu
  rw [hq0] at gle
  have gst := Guess.start (u := u) (u1 := W0) (y1 := Y1) (y0 := Y0) (by omega) (by omega)
  rw [hq0, hr0] at gst
  have gr0 : r0 < Y1 := by rw [← hr0]; exact Nat.mod_lt _ (by omega)
  obtain ⟨P0, hP0⟩ : ∃ x, q0 * Y1 = x := ⟨_, rfl⟩
  have geq := gst.eq
  rw [hP0] at geq
  have gm : (q0 : Int) * (Y1 : Int) = (P0 : Int) := by rw [← hP0]; exact (Int.natCast_mul _ _).symm
  have gr : (u : Int) - (P0 : Int) = (r0 : Int) := by omega
  have gPlt : P0 < 18446744073709551616 := by omega
  have GST := Lib.hid gst
  clear gst hq0 hr0 hP0
  go_upto_block 2 with (fail)
  go_cut [18, 16] (fun qv _ wc => ∃ q : Nat, qv = .int .u64 q ∧ w = wc ∧ q < 4294967296 ∧ Hid ((u * 4294967296 + W0) / Y = q))
  case first =>
    have hqs := quo_small (U := u) (W1 := W0) (Y := Y) (by omega) (by omega)
    rw [EY.out] at hqs
    have HQS := Lib.hid hqs
    clear hqs gm gr geq gq gPlt
    go_wp2_with fail
    go_loop [18, 16] (fun qv rv => ∃ q r : Nat, qv = .int .u64 q ∧ rv = .int .u64 r ∧ Hid (Guess u W0 Y1 Y0 q r) ∧ q ≤ 4294967297 ∧ r < 4294967296) (fun qv _ => (intOf qv).toNat)
    case atStart => exact ⟨q0, r0, rfl, rfl, GST, gle, by omega⟩
    case round =>
      obtain ⟨q, r, rfl, rfl, HGu, hq, hr⟩ := hrel
      clear GST gr0 gle
      by_cases hb : (4294967296 : Int) ≤ (q : Int)
      · obtain ⟨hq1, hdn⟩ := HGu.out.down (by omega) hu (Or.inl (by omega))
        have HD := Lib.hid hdn
        by_cases hbr : (4294967296 : Int) ≤ (r : Int) + (Y1 : Int)
        · have hfinq := Lib.hid (HD.out.broke hu k2 (by omega) (by omega))
          go_wp2_with fail
          go_meet
          have h9 := HQS.out
          rw [hfinq.out] at h9
          exact ⟨q - 1, by go_num, rfl, h9, Lib.hid (by rw [EY.out]; exact hfinq.out)⟩
        · go_wp2_with fail
          refine ⟨?_, by first | (simp [intOf]; done) | (simp [intOf]; omega)⟩
          exact ⟨q - 1, r + Y1, by go_num, by go_num, HD, by omega, by omega⟩
      · have hT := mul_le_sq (q := q) (y0 := Y0) (by omega) k2
        have cT : (q : Int) * (Y0 : Int) = ((q * Y0 : Nat) : Int) := (Int.natCast_mul _ _).symm
        obtain ⟨T, hTe⟩ : ∃ x, q * Y0 = x := ⟨_, rfl⟩
        rw [hTe] at hT cT
        by_cases hc : (4294967296 : Int) * (r : Int) + (W0 : Int) < (T : Int)
        · obtain ⟨hq1, hdn⟩ := HGu.out.down (by omega) hu (Or.inr (by rw [hTe]; omega))
          have HD := Lib.hid hdn
          clear hTe
          by_cases hbr : (4294967296 : Int) ≤ (r : Int) + (Y1 : Int)
          · have hfinq := Lib.hid (HD.out.broke hu k2 (by omega) (by omega))
            go_wp2_with fail
            go_meet
            have h9 := HQS.out
            rw [hfinq.out] at h9
            exact ⟨q - 1, by go_num, rfl, h9, Lib.hid (by rw [EY.out]; exact hfinq.out)⟩
          · go_wp2_with fail
            refine ⟨?_, by first | (simp [intOf]; done) | (simp [intOf]; omega)⟩
            exact ⟨q - 1, r + Y1, by go_num, by go_num, HD, by omega, by omega⟩
        · have hfinq := Lib.hid (HGu.out.stop hu (by rw [hTe]; omega))
          clear hTe
          go_wp2_with fail
          go_meet
          have h9 := HQS.out
          rw [hfinq.out] at h9
          exact ⟨q, rfl, rfl, h9, Lib.hid (by rw [EY.out]; exact hfinq.out)⟩
  obtain ⟨q2, rfl, rfl, hq2, Eq2⟩ := hcut
  clear GST gr0 gle gm gr geq gq gPlt gY1
  obtain ⟨R, hR⟩ : ∃ x, (u * 4294967296 + W0) % Y = x := ⟨_, rfl⟩
  have lR : R < Y := by rw [← hR]; exact Nat.mod_lt _ (by omega)
  have dR : IntKind.u64.wrap (IntKind.u64.wrap (IntKind.u64.wrap ((u : Int) * 4294967296) + (W0 : Int)) - IntKind.u64.wrap ((q2 : Int) * (Y : Int))) = (R : Int) := by
    have e := digit_rem (X := u * 4294967296) (W := W0) (P := q2 * Y) (R := R) (by
      have := Nat.div_add_mod (u * 4294967296 + W0) Y
      rw [Eq2.out, hR, Nat.mul_comm] at this
      exact this) (by omega)
    rw [Int.natCast_mul, Int.natCast_mul] at e
    exact e
  have HR := Lib.hid hR
  clear hR
  have hfin := two_digits Hsc.out Hsp.out EW.out (by omega) Eq1.out Hu.out Eq2.out HR.out
  have c9 : (R : Int) / 2 ^ s = ((R / 2 ^ s : Nat) : Int) := by rw [Int.natCast_ediv, Int.natCast_pow]; rfl
  generalize R / 2 ^ s = RS at *
  have HF := Lib.hid hfin
  clear hfin
  go_wp2_with fail
  go_ret2
  exact ⟨by rw [HF.out.1, HF.out.2]; rfl, (by exact G.go HG)⟩
end Go.Proofs.YtkablhamnepfnaaDoor
