/-
  The walk of the reference's Clock.
-/
import Derived.Test.YtjfonckmfafdgaaDoorSpanClk
namespace Go.Proofs.YtjfonckmfafdgaaDoor
open Go.RowKit
set_option maxHeartbeats 16000000 in
set_option maxRecDepth 100000 in
theorem clock_ref (t : Int) (w : World) (_h1 : -9223372036854775808 ≤ t) (_h2 : t ≤ 9223372036854775807) :
    Calls Tryd.prog 42 #[.int .i64 t] w fun e w' => e = .returned (.string (clockB (capT t))) ∧ w.grownBy w' none := by
  have HG := G.refl w none
  have hm := capT_eq t
  have hT := capT_le t
  generalize capT t = T at *
  obtain ⟨V, hV⟩ : ∃ V, Hid (clockB T = V) := ⟨_, Lib.hid rfl⟩
  rw [hV.out]
  have hC : Hid (clockB T = ⟨(Lib.decDigits (yOf 1970 (T / 86400)).1 ++ (45 :: (twoL (mOf (yOf 1970 (T / 86400)).1 1 (yOf 1970 (T / 86400)).2).1 ++ (45 :: (twoL ((mOf (yOf 1970 (T / 86400)).1 1 (yOf 1970 (T / 86400)).2).2 + 1) ++ (32 :: (twoL (T % 86400 / 3600) ++ (58 :: (twoL (T % 86400 % 3600 / 60) ++ (58 :: twoL (T % 86400 % 60))))))))))).toArray⟩) := Lib.hid rfl
  obtain ⟨p1, p2, p3, p4, p5, p6⟩ := clock_parts hT
  obtain ⟨Y, hY⟩ : ∃ Y, yOf 1970 (T / 86400) = Y := ⟨_, rfl⟩
  have hY' := Lib.hid hY
  rw [hY] at hC p1 p2 p3 p4 p5 p6
  clear hY
  obtain ⟨M, hM⟩ : ∃ M, mOf Y.1 1 Y.2 = M := ⟨_, rfl⟩
  have hM' := Lib.hid hM
  rw [hM] at hC p4 p5 p6
  clear hM
  have HYp := Lib.hid (fun (y : Nat) (hy : y ≤ 1000000) w => leap_ref y w hy)
  go_enter Tryd.func42, Tryd.ntmps42
  go_wp2_with fail
  go_loop [3, 4, 6] (fun dv yv _ => ∃ d y : Nat, dv = .int .i64 d ∧ yv = .int .i64 y ∧ y + d ≤ 60000 ∧ Hid (yOf y d = Y)) (fun dv _ _ => (intOf dv).toNat)
  case atStart => exact ⟨T / 86400, 1970, rfl, rfl, by omega, hY'⟩
  case round =>
    obtain ⟨d, y, rfl, rfl, hyd, H⟩ := hrel
    clear hY'
    have HYy := Lib.hid (HYp.out y (by omega))
    have hyl : Hid (ylen y = if leapY y = true then 366 else 365) := Lib.hid rfl
    obtain ⟨L, hL⟩ : ∃ L, ylen y = L := ⟨_, rfl⟩
    have hLp := ylen_pos y
    rw [hL] at hLp hyl
    by_cases hlt : (L : Int) ≤ (d : Int)
    · have hst := Lib.hid (yOf_step (y := y) (d := d) (by omega))
      rw [hL] at hst
      clear hL
      generalize leapY y = lp at *
      cases lp
      · have hL' : L = 365 := hyl.out
        subst hL'
        have hnl : ¬ (d : Int) < 365 := by omega
        go_wp2_with (go_at_call 56; refine (HYy.out _).mono ?_; rintro e wn ⟨rfl, rfl⟩)
        refine ⟨?_, by simp [intOf]; omega⟩
        exact ⟨d - 365, y + 1, by go_num, by go_num, by omega, Lib.hid (by rw [← hst.out]; exact H.out)⟩
      · have hL' : L = 366 := hyl.out
        subst hL'
        have hnl : ¬ (d : Int) < 366 := by omega
        go_wp2_with (go_at_call 56; refine (HYy.out _).mono ?_; rintro e wn ⟨rfl, rfl⟩)
        refine ⟨?_, by simp [intOf]; omega⟩
        exact ⟨d - 366, y + 1, by go_num, by go_num, by omega, Lib.hid (by rw [← hst.out]; exact H.out)⟩
    have hltn : ¬ L ≤ d := by omega
    have hyY : Hid (Y = (y, d)) := Lib.hid (by rw [← H.out, yOf_stop (by omega)])
    have hY1 : Y.1 = y := by rw [hyY.out]
    have hY2 : Y.2 = d := by rw [hyY.out]
    rw [hY1, hY2] at hM'
    rw [hY1] at hC p1 p2
    rw [hY2] at p3
    clear hY1 hY2 hL HYp H hyY
    have HL := Lib.hid (fun (m : Nat) (hm : m ≤ 1000000) w => days_ref y m w (by omega) hm)
    generalize leapY y = lp at *
    cases lp
    · have hL' : L = 365 := hyl.out
      subst hL'
      have hnl : (d : Int) < 365 := by omega
      go_wp2_with (go_at_call 56; refine (HYy.out _).mono ?_; rintro e wn ⟨rfl, rfl⟩)
      clear HYy
      go_loop [3, 5] (fun dv mv => ∃ d m : Nat, dv = .int .i64 d ∧ mv = .int .i64 m ∧ m + d ≤ 400 ∧ Hid (mOf y m d = M)) (fun dv _ => (intOf dv).toNat)
      case atStart => exact ⟨d, 1, rfl, rfl, by omega, hM'⟩
      case round =>
        obtain ⟨k, m, rfl, rfl, hmk, H⟩ := hrel
        clear hM'
        have HLm := Lib.hid (HL.out m (by omega))
        obtain ⟨L2, hL2⟩ : ∃ L2, mlen y m = L2 := ⟨_, rfl⟩
        have hLp2 := mlen_pos y m
        rw [hL2] at HLm hLp2
        by_cases hlt2 : (L2 : Int) ≤ (k : Int)
        · have hst := Lib.hid (mOf_step (y := y) (m := m) (d := k) (by omega))
          rw [hL2] at hst
          clear hL2
          go_wp2_with (go_at_call 57; refine (HLm.out _).mono ?_; rintro e wn ⟨rfl, rfl⟩)
          refine ⟨?_, by simp [intOf]; omega⟩
          exact ⟨k - L2, m + 1, by go_num, by go_num, by omega, Lib.hid (by rw [← hst.out]; exact H.out)⟩
        have hlt2n : ¬ L2 ≤ k := by omega
        have hM : Hid (M = (m, k)) := Lib.hid (by rw [← H.out, mOf_stop (by omega)])
        have hM1 : M.1 = m := by rw [hM.out]
        have hM2 : M.2 = k := by rw [hM.out]
        rw [hM1, hM2] at hC
        rw [hM1] at p4 p5
        rw [hM2] at p6
        clear hM1 hM2 hL2 H hM HL
        go_wp2_with (go_at_call 57; refine (HLm.out _).mono ?_; rintro e wn ⟨rfl, rfl⟩)
        clear HLm hmk hyd
        refine (refDigits_any2 y rfl (by omega) (by omega) _).mono ?_
        rintro e wn ⟨Z1, rfl, z1, s1, hgn⟩; replace HG := G.trans (w := w) (by exact G.go HG) hgn; clear hgn; have Hz1 := Lib.hid z1; clear z1
        go_wp2_with fail
        refine (two_any m rfl (by omega) _).mono ?_
        rintro e wn ⟨Z2, rfl, z2, s2, hgn⟩; replace HG := G.trans (w := w) (by exact G.go HG) hgn; clear hgn; have Hz2 := Lib.hid z2; clear z2
        go_wp2_with fail
        refine (two_any (k + 1) (by omega) (by omega) _).mono ?_
        rintro e wn ⟨Z3, rfl, z3, s3, hgn⟩; replace HG := G.trans (w := w) (by exact G.go HG) hgn; clear hgn; have Hz3 := Lib.hid z3; clear z3
        go_wp2_with fail
        refine (two_any (T % 86400 / 3600) (by omega) (by omega) _).mono ?_
        rintro e wn ⟨Z4, rfl, z4, s4, hgn⟩; replace HG := G.trans (w := w) (by exact G.go HG) hgn; clear hgn; have Hz4 := Lib.hid z4; clear z4
        go_wp2_with fail
        refine (two_any (T % 86400 % 3600 / 60) (by omega) (by omega) _).mono ?_
        rintro e wn ⟨Z5, rfl, z5, s5, hgn⟩; replace HG := G.trans (w := w) (by exact G.go HG) hgn; clear hgn; have Hz5 := Lib.hid z5; clear z5
        go_wp2_with fail
        refine (two_any (T % 86400 % 60) (by omega) (by omega) _).mono ?_
        rintro e wn ⟨Z6, rfl, z6, s6, hgn⟩; replace HG := G.trans (w := w) (by exact G.go HG) hgn; clear hgn; have Hz6 := Lib.hid z6; clear z6
        go_wp2_with fail
        go_ret
        refine ⟨ret_string ?_, (by exact G.go HG)⟩
        rw [← hV.out, hC.out]
        refine ext_data ?_
        simp [ByteArray.data_append, Hz1.out, Hz2.out, Hz3.out, Hz4.out, Hz5.out, Hz6.out]
    · have hL' : L = 366 := hyl.out
      subst hL'
      have hnl : (d : Int) < 366 := by omega
      go_wp2_with (go_at_call 56; refine (HYy.out _).mono ?_; rintro e wn ⟨rfl, rfl⟩)
      clear HYy
      go_loop [3, 5] (fun dv mv => ∃ d m : Nat, dv = .int .i64 d ∧ mv = .int .i64 m ∧ m + d ≤ 400 ∧ Hid (mOf y m d = M)) (fun dv _ => (intOf dv).toNat)
      case atStart => exact ⟨d, 1, rfl, rfl, by omega, hM'⟩
      case round =>
        obtain ⟨k, m, rfl, rfl, hmk, H⟩ := hrel
        clear hM'
        have HLm := Lib.hid (HL.out m (by omega))
        obtain ⟨L2, hL2⟩ : ∃ L2, mlen y m = L2 := ⟨_, rfl⟩
        have hLp2 := mlen_pos y m
        rw [hL2] at HLm hLp2
        by_cases hlt2 : (L2 : Int) ≤ (k : Int)
        · have hst := Lib.hid (mOf_step (y := y) (m := m) (d := k) (by omega))
          rw [hL2] at hst
          clear hL2
          go_wp2_with (go_at_call 57; refine (HLm.out _).mono ?_; rintro e wn ⟨rfl, rfl⟩)
          refine ⟨?_, by simp [intOf]; omega⟩
          exact ⟨k - L2, m + 1, by go_num, by go_num, by omega, Lib.hid (by rw [← hst.out]; exact H.out)⟩
        have hlt2n : ¬ L2 ≤ k := by omega
        have hM : Hid (M = (m, k)) := Lib.hid (by rw [← H.out, mOf_stop (by omega)])
        have hM1 : M.1 = m := by rw [hM.out]
        have hM2 : M.2 = k := by rw [hM.out]
        rw [hM1, hM2] at hC
        rw [hM1] at p4 p5
        rw [hM2] at p6
        clear hM1 hM2 hL2 H hM HL
        go_wp2_with (go_at_call 57; refine (HLm.out _).mono ?_; rintro e wn ⟨rfl, rfl⟩)
        clear HLm hmk hyd
        refine (refDigits_any2 y rfl (by omega) (by omega) _).mono ?_
        rintro e wn ⟨Z1, rfl, z1, s1, hgn⟩; replace HG := G.trans (w := w) (by exact G.go HG) hgn; clear hgn; have Hz1 := Lib.hid z1; clear z1
        go_wp2_with fail
        refine (two_any m rfl (by omega) _).mono ?_
        rintro e wn ⟨Z2, rfl, z2, s2, hgn⟩; replace HG := G.trans (w := w) (by exact G.go HG) hgn; clear hgn; have Hz2 := Lib.hid z2; clear z2
        go_wp2_with fail
        refine (two_any (k + 1) (by omega) (by omega) _).mono ?_
        rintro e wn ⟨Z3, rfl, z3, s3, hgn⟩; replace HG := G.trans (w := w) (by exact G.go HG) hgn; clear hgn; have Hz3 := Lib.hid z3; clear z3
        go_wp2_with fail
        refine (two_any (T % 86400 / 3600) (by omega) (by omega) _).mono ?_
        rintro e wn ⟨Z4, rfl, z4, s4, hgn⟩; replace HG := G.trans (w := w) (by exact G.go HG) hgn; clear hgn; have Hz4 := Lib.hid z4; clear z4
        go_wp2_with fail
        refine (two_any (T % 86400 % 3600 / 60) (by omega) (by omega) _).mono ?_
        rintro e wn ⟨Z5, rfl, z5, s5, hgn⟩; replace HG := G.trans (w := w) (by exact G.go HG) hgn; clear hgn; have Hz5 := Lib.hid z5; clear z5
        go_wp2_with fail
        refine (two_any (T % 86400 % 60) (by omega) (by omega) _).mono ?_
        rintro e wn ⟨Z6, rfl, z6, s6, hgn⟩; replace HG := G.trans (w := w) (by exact G.go HG) hgn; clear hgn; have Hz6 := Lib.hid z6; clear z6
        go_wp2_with fail
        go_ret
        refine ⟨ret_string ?_, (by exact G.go HG)⟩
        rw [← hV.out, hC.out]
        refine ext_data ?_
        simp [ByteArray.data_append, Hz1.out, Hz2.out, Hz3.out, Hz4.out, Hz5.out, Hz6.out]
end Go.Proofs.YtjfonckmfafdgaaDoor
