/-
  The walks of the roots of values, rounded down.
-/
import Derived.Test.YtfomknfjidbdcaaGreatDoorMulDivs
namespace Go.Proofs.YtfomknfjidbdcaaGreatDoor
open Go.RowKit
def sqrtO (x : Option Int) : Option Int := x.bind fun x => if x < 0 then none else some (rootB 42 0 (x.toNat * 1000000) : Int)
theorem rootB_lt : ∀ (k n N : Nat), rootB k n N < n + 2 ^ k := by
  intro k
  induction k with
  | zero => intro n N; show n < n + 1; omega
  | succ k ih =>
    intro n N
    rw [rootB, Nat.pow_succ]
    split
    · have := ih (n + 2 ^ k) N; omega
    · have := ih n N; omega
theorem root_le (N : Nat) : (rootB 42 0 N : Int) < 4398046511104 := by
  have h := rootB_lt 42 0 N
  rw [show (2 : Nat) ^ 42 = 4398046511104 from by decide] at h
  omega
theorem or_pow {n j : Nat} (h : n % 2 ^ (j + 1) = 0) (hn : n + 2 ^ j < 18446744073709551616) : bits .or .u64 (n : Int) ((2 ^ j : Nat) : Int) = ((n + 2 ^ j : Nat) : Int) := by
  have e := u64_or_nat n (2 ^ j) (by omega) (by omega)
  rw [nat_join (j + 1) _ _ h (Nat.pow_lt_pow_right (by omega) (by omega))] at e
  exact e
theorem mod_down {n j : Nat} (h : n % 2 ^ (j + 1) = 0) : n % 2 ^ j = 0 := by
  rw [Nat.pow_succ] at h
  exact Nat.mod_eq_zero_of_dvd (Nat.dvd_trans (Nat.dvd_mul_right _ _) (Nat.dvd_of_mod_eq_zero h))
theorem mod_down2 {n j : Nat} (h : n % 2 ^ (j + 1) = 0) : (n + 2 ^ j) % 2 ^ j = 0 := by
  rw [Nat.add_mod_right]; exact mod_down h
set_option maxHeartbeats 16000000 in
set_option maxRecDepth 100000 in
theorem sqrt_any (w : World) (b1 : Bool) (x : Int) : Calls Tryz.prog 65 #[.agg #[.bool b1, .int .i64 x]] w fun e w' => e = .returned (valV (sqrtO (vK b1 x))) ∧ w.grownBy w' none := by
  obtain ⟨V, hV⟩ : ∃ V, Hid (sqrtO (vK b1 x) = V) := ⟨_, Lib.hid rfl⟩
  rw [hV.out]
  have KA := Lib.hid (fun w => fixedKnown_any w b1 x)
  have k1 := @vK_some b1 x
  have k3 := @vK_none b1 x
  generalize (b1 && isR b1 x) = ka at *
  have K1 := Lib.hid k1; have K3 := Lib.hid k3
  clear k1 k3
  go_enter Tryz.func65, Tryz.ntmps65
  go_upto_region 0 with (fail)
  go_cut [1, 2] (fun p r wc => p = .pointer (some ⟨w.heap.size, 0, none⟩) ∧ r = .pointer (some ⟨w.heap.size + 1, 0, none⟩) ∧ w.grownBy wc none ∧ Hx wc w.heap.size [.bool b1, .int .i64 x] 28 ∧ Hx wc (w.heap.size + 1) [.bool false, .int .i64 0] 28)
  case first =>
    have HG := G.refl w none
    go_wp2_with fail
    go_meet
    exact ⟨rfl, rfl, (by exact G.go HG), Hx.alloc (Hx.new _ _ _) _, Hx.new' (by simp) rfl⟩
  obtain ⟨rfl, rfl, HG, ha, hr⟩ := hcut
  have ha_0 := ha.cell 0; have ha_1 := ha.cell 1; have ha_2 := ha.free 0; have ha_3 := ha.free 1; have ha_4 := ha.lt
  have hr_0 := hr.cell 0; have hr_1 := hr.cell 1; have hr_2 := hr.free 0; have hr_3 := hr.free 1; have hr_4 := hr.lt
  cases ka
  · have hfin : Hid (V = none) := Lib.hid (by rw [← hV.out, K3.out rfl]; rfl)
    go_wp2_with (go_at_call 96; (with_reducible refine (KA.out _).mono ?_); rintro e wn ⟨rfl, hgn⟩; replace HG := G.trans (w := w) (by exact G.go HG) hgn; replace ha := Hx.kept (by first | exact Hx.go ha | exact Hx.go2) hgn (by simp); have ha_0 := ha.cell 0; have ha_1 := ha.cell 1; have ha_2 := ha.free 0; have ha_3 := ha.free 1; have ha_4 := ha.lt; replace hr := Hx.kept (by first | exact Hx.go hr | exact Hx.go2) hgn (by simp); have hr_0 := hr.cell 0; have hr_1 := hr.cell 1; have hr_2 := hr.free 0; have hr_3 := hr.free 1; have hr_4 := hr.lt; clear hgn)
    refine ret_cell (valC none) (w.heap.size + 1) 28 rfl rfl (Tryz.isAgg28 _) (Tryz.sizeOf28 _) rfl ?_ ⟨by rw [hfin.out]; rfl, (by exact G.go HG)⟩
    exact (by first | exact Hx.go hr | exact Hx.go2)
  obtain ⟨va, rfl, a1, a2⟩ := K1.out rfl
  by_cases hneg : x < 0
  · have hfin : Hid (V = none) := Lib.hid (by rw [← hV.out, va]; exact if_pos hneg)
    go_wp2_with (go_at_call 96; (with_reducible refine (KA.out _).mono ?_); rintro e wn ⟨rfl, hgn⟩; replace HG := G.trans (w := w) (by exact G.go HG) hgn; replace ha := Hx.kept (by first | exact Hx.go ha | exact Hx.go2) hgn (by simp); have ha_0 := ha.cell 0; have ha_1 := ha.cell 1; have ha_2 := ha.free 0; have ha_3 := ha.free 1; have ha_4 := ha.lt; replace hr := Hx.kept (by first | exact Hx.go hr | exact Hx.go2) hgn (by simp); have hr_0 := hr.cell 0; have hr_1 := hr.cell 1; have hr_2 := hr.free 0; have hr_3 := hr.free 1; have hr_4 := hr.lt; clear hgn)
    refine ret_cell (valC none) (w.heap.size + 1) 28 rfl rfl (Tryz.isAgg28 _) (Tryz.sizeOf28 _) rfl ?_ ⟨by rw [hfin.out]; rfl, (by exact G.go HG)⟩
    exact (by first | exact Hx.go hr | exact Hx.go2)
  have hV2 : Hid (V = some (rootB 42 0 (x.toNat * 1000000) : Int)) := Lib.hid (by rw [← hV.out, va]; exact if_neg hneg)
  obtain ⟨X, rfl⟩ : ∃ X : Nat, x = X := ⟨x.toNat, by omega⟩
  rw [Int.toNat_natCast] at hV2
  obtain ⟨ml, hml, hmi⟩ : ∃ m : Nat, m = 1000000 ∧ (m : Int) = 1000000 := ⟨1000000, rfl, rfl⟩
  have HT := Lib.hid (fun w => Tryz.bits_Mul64 X ml (by omega) (by omega) w)
  rw [hmi, hml] at HT
  have hXb : X ≤ 4611686018427387904 := by omega
  have hroot := root_le (X * 1000000)
  have htop := rootB_top (N := X * 1000000) (by omega)
  rw [← htop] at hV2 hroot
  clear K1 K3 va hV htop
  obtain ⟨N, hN⟩ : ∃ N, X * 1000000 = N := ⟨_, rfl⟩
  rw [hN] at hV2 HT hroot
  obtain ⟨R, hR⟩ : ∃ R, rootB 43 0 N = R := ⟨_, rfl⟩
  have HRt := Lib.hid hR
  rw [hR] at hV2 hroot
  obtain ⟨hg, hhg⟩ : ∃ v, N / 18446744073709551616 = v := ⟨_, rfl⟩
  obtain ⟨lw, hlw⟩ : ∃ v, N % 18446744073709551616 = v := ⟨_, rfl⟩
  rw [hhg, hlw] at HT
  have hll : lw < 18446744073709551616 := by omega
  have hNe : Hid (N = hg * 18446744073709551616 + lw) := Lib.hid (by omega)
  have hgg : hg < 18446744073709551616 := by omega
  have cv : IntKind.u64.wrap (X : Int) = X := wrap_u64_id (by omega) (by omega)
  have HO := Lib.hid (fun w => fixedOf_any w (R : Int))
  rw [show ofR (R : Int) = some (R : Int) from if_pos (by omega)] at HO
  simp only [valV, valC] at HO
  have hfin : Hid (V = some (R : Int)) := hV2
  have hX0 : (0 : Int) ≤ (X : Int) := by omega
  have hX1 : (X : Int) ≤ 4611686018427387904 := by omega
  have hRn : R ≤ 4398046511103 := by omega
  have HRn := Lib.hid hRn
  clear hRn
  have HLL := Lib.hid hll; have HGG := Lib.hid hgg
  clear hN hR hhg hlw hV2 a1 a2 hXb hneg hml hmi hroot hll hgg hX1
  go_upto_block 0 with (first | (go_at_call 96; (with_reducible refine (KA.out _).mono ?_); rintro e wn ⟨rfl, hgn⟩; replace HG := G.trans (w := w) (by exact G.go HG) hgn; replace ha := Hx.kept (by first | exact Hx.go ha | exact Hx.go2) hgn (by simp); have ha_0 := ha.cell 0; have ha_1 := ha.cell 1; have ha_2 := ha.free 0; have ha_3 := ha.free 1; have ha_4 := ha.lt; replace hr := Hx.kept (by first | exact Hx.go hr | exact Hx.go2) hgn (by simp); have hr_0 := hr.cell 0; have hr_1 := hr.cell 1; have hr_2 := hr.free 0; have hr_3 := hr.free 1; have hr_4 := hr.lt; clear hgn) | (go_at_call 101; refine (HT.out _).mono ?_; rintro e wn ⟨rfl, hwn⟩; obtain rfl := hwn.symm))
  clear KA HT
  go_cut [5] (fun nv wc => nv = .int .u64 R ∧ wn = wc)
  case first =>
    go_wp2_with fail
    go_loop [5, 6, 7, 8, 9] (fun nv bv _ _ _ => ∃ (k n B : Nat), nv = .int .u64 n ∧ bv = .int .u64 B ∧ Hid (B = 2 ^ k / 2) ∧ k ≤ 43 ∧ Hid (n % 2 ^ k = 0) ∧ Hid (n + 2 ^ k ≤ 8796093022208) ∧ Hid (rootB k n N = R)) (fun _ bv _ _ _ => (intOf bv).toNat)
    case atStart => exact ⟨43, 0, 4398046511104, rfl, rfl, Lib.hid (by decide), by omega, Lib.hid (by decide), Lib.hid (by decide), HRt⟩
    case round =>
      obtain ⟨k, n, B, rfl, rfl, HB, hk, Hm, Hb, HR⟩ := hrel
      cases k with
      | zero =>
        have hB0 : B = 0 := HB.out
        have hnR : Hid (n = R) := Lib.hid HR.out
        have hBn : ¬ (0 : Int) < (B : Int) := by omega
        clear hB0 HB Hm Hb HR
        go_wp2_with fail
        go_meet
        exact ⟨by rw [hnR.out], rfl⟩
      | succ j =>
        have hBj : B = 2 ^ j := by rw [HB.out, Nat.pow_succ]; omega
        have hb := Hb.out
        rw [Nat.pow_succ] at hb
        have hBp : 0 < B := by rw [hBj]; exact Nat.two_pow_pos j
        have hor := or_pow (n := n) (j := j) Hm.out (by omega)
        have hm1 := mod_down Hm.out
        have hm2 := mod_down2 Hm.out
        rw [← hBj] at hor hm2 hb
        obtain ⟨X1, hX1⟩ : ∃ v, n + B = v := ⟨_, rfl⟩
        rw [hX1] at hor hm2
        have HBj := Lib.hid hBj
        have HX1 : Hid (X1 = n + B) := Lib.hid hX1.symm
        have HB' : Hid (B / 2 = 2 ^ j / 2) := Lib.hid (by rw [hBj])
        have HmY : Hid (X1 % 2 ^ j = 0) := Lib.hid (by rw [← hBj]; exact hm2)
        have HmN := Lib.hid hm1
        have HbY : Hid (X1 + 2 ^ j ≤ 8796093022208) := Lib.hid (by rw [← hBj]; omega)
        have HbN : Hid (n + 2 ^ j ≤ 8796093022208) := Lib.hid (by rw [← hBj]; omega)
        have hX1b : X1 ≤ 8796093022208 := by omega
        have HM := Lib.hid (fun w => Tryz.bits_Mul64 X1 X1 (by omega) (by omega) w)
        obtain ⟨P, hP⟩ : ∃ v, X1 * X1 = v := ⟨_, rfl⟩
        rw [hP] at HM
        have HP1 := Lib.hid hP
        obtain ⟨h2, hh2⟩ : ∃ v, P / 18446744073709551616 = v := ⟨_, rfl⟩
        obtain ⟨l2, hl2⟩ : ∃ v, P % 18446744073709551616 = v := ⟨_, rfl⟩
        rw [hh2, hl2] at HM
        have HP2 : Hid (P = h2 * 18446744073709551616 + l2 ∧ l2 < 18446744073709551616) := Lib.hid (by omega)
        have hBi : (0 : Int) < (B : Int) := by omega
        have hBs : (B : Int) ≤ 8796093022208 := by omega
        clear HB Hm Hb hBj hb hm1 hm2 hX1 hP hh2 hl2 hBp hX1b
        by_cases c1 : (h2 : Int) < (hg : Int)
        · skip
          go_wp2_with (go_at_call 101; refine (HM.out _).mono ?_; rintro e wm ⟨rfl, hwm⟩; obtain rfl := hwm.symm)
          refine ⟨?_, by first | (simp [intOf]; done) | (simp [intOf]; omega)⟩
          exact ⟨j, X1, B / 2, by go_num, by go_num, HB', by omega, HmY, HbY, Lib.hid (by rw [← HR.out, HX1.out, HBj.out]; exact (rootB_yes (by rw [← HBj.out, ← HX1.out, HP1.out]; have := hNe.out; have := HP2.out; omega)).symm)⟩
        · by_cases c2 : (h2 : Int) = (hg : Int)
          · by_cases c3 : (l2 : Int) ≤ (lw : Int)
            · skip
              go_wp2_with (go_at_call 101; refine (HM.out _).mono ?_; rintro e wm ⟨rfl, hwm⟩; obtain rfl := hwm.symm)
              refine ⟨?_, by first | (simp [intOf]; done) | (simp [intOf]; omega)⟩
              exact ⟨j, X1, B / 2, by go_num, by go_num, HB', by omega, HmY, HbY, Lib.hid (by rw [← HR.out, HX1.out, HBj.out]; exact (rootB_yes (by rw [← HBj.out, ← HX1.out, HP1.out]; have := hNe.out; have := HP2.out; omega)).symm)⟩
            · skip
              go_wp2_with (go_at_call 101; refine (HM.out _).mono ?_; rintro e wm ⟨rfl, hwm⟩; obtain rfl := hwm.symm)
              refine ⟨?_, by first | (simp [intOf]; done) | (simp [intOf]; omega)⟩
              exact ⟨j, n, B / 2, by go_num, by go_num, HB', by omega, HmN, HbN, Lib.hid (by rw [← HR.out]; exact (rootB_no (by rw [← HBj.out, ← HX1.out, HP1.out]; have := hNe.out; have := HP2.out; have := HLL.out; omega)).symm)⟩
          · skip
            go_wp2_with (go_at_call 101; refine (HM.out _).mono ?_; rintro e wm ⟨rfl, hwm⟩; obtain rfl := hwm.symm)
            refine ⟨?_, by first | (simp [intOf]; done) | (simp [intOf]; omega)⟩
            exact ⟨j, n, B / 2, by go_num, by go_num, HB', by omega, HmN, HbN, Lib.hid (by rw [← HR.out]; exact (rootB_no (by rw [← HBj.out, ← HX1.out, HP1.out]; have := hNe.out; have := HP2.out; have := HLL.out; omega)).symm)⟩
  obtain ⟨rfl, rfl⟩ := hcut
  have hRb : (R : Int) ≤ 4398046511103 := by have := HRn.out; omega
  have hRw : IntKind.i64.wrap (R : Int) = (R : Int) := by rw [IntKind.wrap_i64]; omega
  go_wp2_with (go_at_call 52; (with_reducible refine (HO.out _).mono ?_); rintro e wn ⟨rfl, hgn⟩; replace HG := G.trans (w := w) (by exact G.go HG) hgn; replace ha := Hx.kept (by first | exact Hx.go ha | exact Hx.go2) hgn (by simp); have ha_0 := ha.cell 0; have ha_1 := ha.cell 1; have ha_2 := ha.free 0; have ha_3 := ha.free 1; have ha_4 := ha.lt; replace hr := Hx.kept (by first | exact Hx.go hr | exact Hx.go2) hgn (by simp); have hr_0 := hr.cell 0; have hr_1 := hr.cell 1; have hr_2 := hr.free 0; have hr_3 := hr.free 1; have hr_4 := hr.lt; clear hgn)
  refine ret_cell (valC (some (R : Int))) (w.heap.size + 1) 28 rfl rfl (Tryz.isAgg28 _) (Tryz.sizeOf28 _) rfl ?_ ⟨by rw [hfin.out]; rfl, (by exact G.go HG)⟩
  exact (by first | exact Hx.go hr | exact Hx.go2)
end Go.Proofs.YtfomknfjidbdcaaGreatDoor
