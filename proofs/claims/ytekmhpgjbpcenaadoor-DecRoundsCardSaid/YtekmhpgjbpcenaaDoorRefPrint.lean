/-
  The walk of the reference's Print.
-/
import Derived.Test.YtekmhpgjbpcenaaDoorRefPrintAid
import Derived.Test.YtekmhpgjbpcenaaDoorDecRound
namespace Go.Proofs.YtekmhpgjbpcenaaDoor
open Go.RowKit
set_option maxHeartbeats 8000000 in
theorem refPrint_any (b : Bool) (n : Int) (w : World) (_h1 : -9223372036854775808 ≤ n) (_h2 : n ≤ 9223372036854775807) :
    Calls Tryd.prog 12 #[.agg #[.bool b, .int .i64 n]] w fun e w' => e = .returned (.string (printV b n)) ∧ w.grownBy w' none := by
  cases b
  · have HN := Lib.hid (printV_none (b := false) (n := n) rfl)
    go_enter Tryd.func12, Tryd.ntmps12
    go_wp2_with (go_at_call 13; refine (known1_any _ _ _).mono ?_; rintro e w1 ⟨rfl, hg1⟩)
    go_ret
    exact ⟨ret_string HN.out.symm, G.trans (by have hb0 := (G.refl w none); (repeat first | with_reducible exact hb0 | with_reducible refine G.drewN ?_ _ | with_reducible refine G.drew ?_ | with_reducible refine G.alloc ?_ _ | with_reducible refine G.set ?_ _ (Or.inr rfl) | (with_reducible refine G.set ?_ _ (Or.inl ?_); rotate_left; focus (first | omega | (simp; done) | (simp; omega))))) hg1⟩
  cases hr : isR true n
  · have HN := Lib.hid (printV_none (b := true) (n := n) (by rw [hr]; rfl))
    go_enter Tryd.func12, Tryd.ntmps12
    go_wp2_with (go_at_call 13; refine (known1_any _ _ _).mono ?_; rw [hr]; rintro e w1 ⟨rfl, hg1⟩)
    go_ret
    exact ⟨ret_string HN.out.symm, G.trans (by have hb0 := (G.refl w none); (repeat first | with_reducible exact hb0 | with_reducible refine G.drewN ?_ _ | with_reducible refine G.drew ?_ | with_reducible refine G.alloc ?_ _ | with_reducible refine G.set ?_ _ (Or.inr rfl) | (with_reducible refine G.set ?_ _ (Or.inl ?_); rotate_left; focus (first | omega | (simp; done) | (simp; omega))))) hg1⟩
  have HN := Lib.hid (printV_some (b := true) (n := n) (by rw [hr]; rfl))
  have hb : -4611686018427387904 ≤ n ∧ n ≤ 4611686018427387904 := by simpa [isR] using hr
  have HR := Lib.hid hr; clear hr
  obtain ⟨b1, b2⟩ := hb
  obtain ⟨S, hS⟩ : ∃ S, Hid (printV true n = S) := ⟨_, Lib.hid rfl⟩
  rw [hS.out]
  by_cases hneg : n < 0
  · obtain ⟨m, rfl⟩ : ∃ m : Nat, n = -(m : Int) := ⟨n.natAbs, by omega⟩
    have hm : (m : Int) ≤ 4611686018427387904 := by omega
    have hm0 : (0 : Int) ≤ (m : Int) := by omega
    have HD := Lib.hid (fun w => refDigits_nat (x := (m : Int) / 1000000) (m / 1000000) (by omega) (by omega) w)
    have HD2 := Lib.hid (fun w => refDigits_nat (x := 1000000 + (m : Int) % 1000000) (1000000 + m % 1000000) (by omega) (by omega) w)
    have hpr : Hid (printL (-(m : Int)) = 45 :: printA m) := Lib.hid (by unfold printL; rw [if_pos hneg, Int.natAbs_neg, Int.natAbs_natCast]; simp)
    by_cases hf : m % 1000000 = 0
    · have hf' : (m : Int) % 1000000 = 0 := by omega
      have hf2 : ((m : Int) % 1000000 == 0) = true := by simp; omega
      have hfin : Hid (printA m = Lib.decDigits (m / 1000000)) := Lib.hid (by unfold printA; rw [if_pos hf, List.append_nil])
      clear hf
      go_enter Tryd.func12, Tryd.ntmps12
      go_wp2_with (first | (go_at_call 13; refine (known1_any _ _ _).mono ?_; rw [HR.out]; rintro e w1 ⟨rfl, hg1⟩; have hx := Hx.kept (Hx.new w #[.bool true, .int .i64 (-(m : Int))] 23) hg1 (by simp); have HG := G.trans (G.alloc (G.refl w none) _) hg1; have x0 := hx.cell 0; have x1 := hx.cell 1; have x2 := hx.lt) | fail)
      refine (HD.out _).mono ?_
      rintro e wn ⟨Z1, rfl, z1, zs1, hgn⟩
      replace HG := G.trans (w := w) (by have hb0 := (HG); (repeat first | with_reducible exact hb0 | with_reducible refine G.drewN ?_ _ | with_reducible refine G.drew ?_ | with_reducible refine G.alloc ?_ _ | with_reducible refine G.set ?_ _ (Or.inr rfl) | (with_reducible refine G.set ?_ _ (Or.inl ?_); rotate_left; focus (first | omega | (simp; done) | (simp; omega))))) hgn; clear hgn
      have Hz1 := Lib.hid z1; clear z1
      go_wp2_with fail
      go_ret
      refine ⟨?_, HG⟩
      rw [← hS.out, HN.out]
      refine ret_string (ext_data ?_)
      rw [hpr.out, hfin.out]
      simp [ByteArray.data_append, Hz1.out]
    · have hf2 : ((m : Int) % 1000000 == 0) = false := by simp; omega
      have hf3 : ¬ (m : Int) % 1000000 = 0 := by omega
      have hfr := Lib.hid (fracD_ne hf)
      have hfin : Hid (printA m = Lib.decDigits (m / 1000000) ++ 46 :: fracD (m % 1000000)) := Lib.hid (by unfold printA; rw [if_neg hf])
      clear hf
      go_enter Tryd.func12, Tryd.ntmps12
      go_wp2_with (first | (go_at_call 13; refine (known1_any _ _ _).mono ?_; rw [HR.out]; rintro e w1 ⟨rfl, hg1⟩; have hx := Hx.kept (Hx.new w #[.bool true, .int .i64 (-(m : Int))] 23) hg1 (by simp); have HG := G.trans (G.alloc (G.refl w none) _) hg1; have x0 := hx.cell 0; have x1 := hx.cell 1; have x2 := hx.lt) | fail)
      refine (HD.out _).mono ?_
      rintro e wn ⟨Z1, rfl, z1, zs1, hgn⟩
      replace HG := G.trans (w := w) (by have hb0 := (HG); (repeat first | with_reducible exact hb0 | with_reducible refine G.drewN ?_ _ | with_reducible refine G.drew ?_ | with_reducible refine G.alloc ?_ _ | with_reducible refine G.set ?_ _ (Or.inr rfl) | (with_reducible refine G.set ?_ _ (Or.inl ?_); rotate_left; focus (first | omega | (simp; done) | (simp; omega))))) hgn; clear hgn
      have Hz1 := Lib.hid z1; clear z1
      go_wp2_with fail
      refine (HD2.out _).mono ?_
      rintro e wn ⟨Z2, rfl, z2, zs2, hgn⟩
      replace HG := G.trans (w := w) (by have hb0 := (HG); (repeat first | with_reducible exact hb0 | with_reducible refine G.drewN ?_ _ | with_reducible refine G.drew ?_ | with_reducible refine G.alloc ?_ _ | with_reducible refine G.set ?_ _ (Or.inr rfl) | (with_reducible refine G.set ?_ _ (Or.inl ?_); rotate_left; focus (first | omega | (simp; done) | (simp; omega))))) hgn; clear hgn
      have hz2 : 1 ≤ Z2.size := by rw [size_of_data z2]; exact decDigits_pos _
      have hz3 : (Z2.extract 1 Z2.size).size ≤ 21 := by rw [ByteArray.size_extract]; omega
      have hy : Hid (Lib.trimRightB (Z2.extract 1 Z2.size).data.toList 48 = fracD (m % 1000000)) := Lib.hid (by rw [Lib.extract_to_end, z2]; rfl)
      clear z2
      go_wp2_with fail
      go_loop [6] (fun dv => ∃ t : ByteArray, dv = .string t ∧ t.size ≤ 21 ∧ Hid (Lib.trimRightB t.data.toList 48 = fracD (m % 1000000))) (fun dv => match dv with | .string t => t.size | _ => 0)
      case atStart => exact ⟨_, rfl, hz3, hy⟩
      case round =>
        obtain ⟨t, rfl, ht, H⟩ := hrel
        have hpos : 0 < t.size := trim_pos (by rw [H.out]; exact hfr.out)
        by_cases hc : t[t.size - 1] = 48
        · have hb : ((t[t.size - 1].toNat : Int) == 48) = true := by rw [hc]; rfl
          have HT := Lib.hid (trim_step hpos hc)
          clear hc
          go_wp2_with fail
          refine ⟨⟨_, rfl, by rw [ByteArray.size_extract]; omega, Lib.hid (by rw [HT.out, H.out])⟩, ?_⟩
          show (t.extract 0 (t.size - 1)).size < t.size
          rw [ByteArray.size_extract]; omega
        · have hb : ((t[t.size - 1].toNat : Int) == 48) = false := by
            rw [beq_eq_false_iff_ne]; intro h; exact hc (UInt8.toNat_inj.mp (by show t[t.size - 1].toNat = 48; omega))
          have HT := Lib.hid (trim_stop hpos hc)
          clear hc
          go_wp2_with fail
          go_ret
          refine ⟨?_, HG⟩
          rw [← hS.out, HN.out]
          refine ret_string (ext_data ?_)
          rw [hpr.out, hfin.out, ← H.out, HT.out]
          simp [ByteArray.data_append, Hz1.out]
  · obtain ⟨m, rfl⟩ : ∃ m : Nat, n = (m : Int) := ⟨n.natAbs, by omega⟩
    have hm : (m : Int) ≤ 4611686018427387904 := by omega
    have hm0 : (0 : Int) ≤ (m : Int) := by omega
    have HD := Lib.hid (fun w => refDigits_nat (x := (m : Int) / 1000000) (m / 1000000) (by omega) (by omega) w)
    have HD2 := Lib.hid (fun w => refDigits_nat (x := 1000000 + (m : Int) % 1000000) (1000000 + m % 1000000) (by omega) (by omega) w)
    have hpr : Hid (printL ((m : Int)) = printA m) := Lib.hid (by unfold printL; rw [if_neg hneg, Int.natAbs_natCast]; simp)
    by_cases hf : m % 1000000 = 0
    · have hf' : (m : Int) % 1000000 = 0 := by omega
      have hf2 : ((m : Int) % 1000000 == 0) = true := by simp; omega
      have hfin : Hid (printA m = Lib.decDigits (m / 1000000)) := Lib.hid (by unfold printA; rw [if_pos hf, List.append_nil])
      clear hf
      go_enter Tryd.func12, Tryd.ntmps12
      go_wp2_with (first | (go_at_call 13; refine (known1_any _ _ _).mono ?_; rw [HR.out]; rintro e w1 ⟨rfl, hg1⟩; have hx := Hx.kept (Hx.new w #[.bool true, .int .i64 ((m : Int))] 23) hg1 (by simp); have HG := G.trans (G.alloc (G.refl w none) _) hg1; have x0 := hx.cell 0; have x1 := hx.cell 1; have x2 := hx.lt) | fail)
      refine (HD.out _).mono ?_
      rintro e wn ⟨Z1, rfl, z1, zs1, hgn⟩
      replace HG := G.trans (w := w) (by have hb0 := (HG); (repeat first | with_reducible exact hb0 | with_reducible refine G.drewN ?_ _ | with_reducible refine G.drew ?_ | with_reducible refine G.alloc ?_ _ | with_reducible refine G.set ?_ _ (Or.inr rfl) | (with_reducible refine G.set ?_ _ (Or.inl ?_); rotate_left; focus (first | omega | (simp; done) | (simp; omega))))) hgn; clear hgn
      have Hz1 := Lib.hid z1; clear z1
      go_wp2_with fail
      go_ret
      refine ⟨?_, HG⟩
      rw [← hS.out, HN.out]
      refine ret_string (ext_data ?_)
      rw [hpr.out, hfin.out]
      simp [Hz1.out]
    · have hf2 : ((m : Int) % 1000000 == 0) = false := by simp; omega
      have hf3 : ¬ (m : Int) % 1000000 = 0 := by omega
      have hfr := Lib.hid (fracD_ne hf)
      have hfin : Hid (printA m = Lib.decDigits (m / 1000000) ++ 46 :: fracD (m % 1000000)) := Lib.hid (by unfold printA; rw [if_neg hf])
      clear hf
      go_enter Tryd.func12, Tryd.ntmps12
      go_wp2_with (first | (go_at_call 13; refine (known1_any _ _ _).mono ?_; rw [HR.out]; rintro e w1 ⟨rfl, hg1⟩; have hx := Hx.kept (Hx.new w #[.bool true, .int .i64 ((m : Int))] 23) hg1 (by simp); have HG := G.trans (G.alloc (G.refl w none) _) hg1; have x0 := hx.cell 0; have x1 := hx.cell 1; have x2 := hx.lt) | fail)
      refine (HD.out _).mono ?_
      rintro e wn ⟨Z1, rfl, z1, zs1, hgn⟩
      replace HG := G.trans (w := w) (by have hb0 := (HG); (repeat first | with_reducible exact hb0 | with_reducible refine G.drewN ?_ _ | with_reducible refine G.drew ?_ | with_reducible refine G.alloc ?_ _ | with_reducible refine G.set ?_ _ (Or.inr rfl) | (with_reducible refine G.set ?_ _ (Or.inl ?_); rotate_left; focus (first | omega | (simp; done) | (simp; omega))))) hgn; clear hgn
      have Hz1 := Lib.hid z1; clear z1
      go_wp2_with fail
      refine (HD2.out _).mono ?_
      rintro e wn ⟨Z2, rfl, z2, zs2, hgn⟩
      replace HG := G.trans (w := w) (by have hb0 := (HG); (repeat first | with_reducible exact hb0 | with_reducible refine G.drewN ?_ _ | with_reducible refine G.drew ?_ | with_reducible refine G.alloc ?_ _ | with_reducible refine G.set ?_ _ (Or.inr rfl) | (with_reducible refine G.set ?_ _ (Or.inl ?_); rotate_left; focus (first | omega | (simp; done) | (simp; omega))))) hgn; clear hgn
      have hz2 : 1 ≤ Z2.size := by rw [size_of_data z2]; exact decDigits_pos _
      have hz3 : (Z2.extract 1 Z2.size).size ≤ 21 := by rw [ByteArray.size_extract]; omega
      have hy : Hid (Lib.trimRightB (Z2.extract 1 Z2.size).data.toList 48 = fracD (m % 1000000)) := Lib.hid (by rw [Lib.extract_to_end, z2]; rfl)
      clear z2
      go_wp2_with fail
      go_loop [6] (fun dv => ∃ t : ByteArray, dv = .string t ∧ t.size ≤ 21 ∧ Hid (Lib.trimRightB t.data.toList 48 = fracD (m % 1000000))) (fun dv => match dv with | .string t => t.size | _ => 0)
      case atStart => exact ⟨_, rfl, hz3, hy⟩
      case round =>
        obtain ⟨t, rfl, ht, H⟩ := hrel
        have hpos : 0 < t.size := trim_pos (by rw [H.out]; exact hfr.out)
        by_cases hc : t[t.size - 1] = 48
        · have hb : ((t[t.size - 1].toNat : Int) == 48) = true := by rw [hc]; rfl
          have HT := Lib.hid (trim_step hpos hc)
          clear hc
          go_wp2_with fail
          refine ⟨⟨_, rfl, by rw [ByteArray.size_extract]; omega, Lib.hid (by rw [HT.out, H.out])⟩, ?_⟩
          show (t.extract 0 (t.size - 1)).size < t.size
          rw [ByteArray.size_extract]; omega
        · have hb : ((t[t.size - 1].toNat : Int) == 48) = false := by
            rw [beq_eq_false_iff_ne]; intro h; exact hc (UInt8.toNat_inj.mp (by show t[t.size - 1].toNat = 48; omega))
          have HT := Lib.hid (trim_stop hpos hc)
          clear hc
          go_wp2_with fail
          go_ret
          refine ⟨?_, HG⟩
          rw [← hS.out, HN.out]
          refine ret_string (ext_data ?_)
          rw [hpr.out, hfin.out, ← H.out, HT.out]
          simp [ByteArray.data_append, Hz1.out]
end Go.Proofs.YtekmhpgjbpcenaaDoor
