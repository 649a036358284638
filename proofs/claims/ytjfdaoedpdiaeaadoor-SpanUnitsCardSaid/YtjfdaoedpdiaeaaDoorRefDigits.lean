/-
  The walks of the reference's numbers in digits, and of its values in digits.
-/
import Derived.Test.YtjfdaoedpdiaeaaDoorDecPrint
import Derived.Test.YtjfdaoedpdiaeaaDoorConvOne
namespace Go.Proofs.YtjfdaoedpdiaeaaDoor
open Go.RowKit
theorem decDigits_small {u : Nat} (h : u / 10 = 0) : Lib.decDigits u = [UInt8.ofNat (48 + u % 10)] := by
  rw [Lib.decDigits, dif_pos (by omega), Nat.mod_eq_of_lt (by omega)]
theorem decDigits_big {u : Nat} (h : ¬ u / 10 = 0) : Lib.decDigits u = Lib.decDigits (u / 10) ++ [UInt8.ofNat (48 + u % 10)] := by
  rw [Lib.decDigits, dif_neg (by omega)]
set_option maxHeartbeats 4000000 in
set_option maxRecDepth 100000 in
theorem plain_any (u0 : Nat) (w : World) (hu : u0 < 18446744073709551616) :
    Calls Tryd.prog 36 #[.int .u64 u0] w fun e w' => ∃ Z : ByteArray, e = .returned (.string Z) ∧ Z.data.toList = Lib.decDigits u0 ∧ Z.size ≤ 20 ∧ w.grownBy w' none := by
  obtain ⟨R, HR⟩ : ∃ R, Hid (Lib.decDigits u0 = R) := ⟨_, Lib.hid rfl⟩
  have hl : R.length ≤ 20 := by rw [← HR.out]; exact decDigits_len (by omega)
  have HL := Lib.hid hl; clear hl
  rw [HR.out]
  have hu' := Lib.hid hu; clear hu
  go_enter Tryd.func36, Tryd.ntmps36
  go_wp2_with fail
  go_loopw [0, 3] (fun uv sv wr => ∃ (u : Nat) (t : ByteArray), uv = .int .u64 u ∧ sv = .string t ∧ Hid (u < 18446744073709551616) ∧ w.grownBy wr none ∧ Hid (Lib.decDigits u ++ t.data.toList = R)) (fun uv _ _ => (intOf uv).toNat + 1)
  case atStart => exact ⟨u0, ⟨#[]⟩, rfl, rfl, hu', G.refl _ _, Lib.hid (by rw [HR.out]; simp)⟩
  case round =>
    obtain ⟨u, t, rfl, rfl, hu, HG, H⟩ := hrel
    clear HR hu'
    have hts : t.size ≤ 20 := by
      have h1 := congrArg List.length H.out
      have h2 := HL.out
      rw [List.length_append] at h1
      have e1 : t.data.toList.length = t.size := by simp
      omega
    have hu0 : (0 : Int) ≤ (u : Int) := by omega
    have hu1 : (u : Int) / 10 ≤ 2000000000000000000 := by have := hu.out; omega
    have hu2 : (u : Int) % 10 < 10 := by omega
    have hu3 : (0 : Int) ≤ (u : Int) % 10 := by omega
    have hcv : ∀ W b, Hx W b [.int .u8 (48 + (u : Int) % 10)] 5 → (convert 51 9 (.slice (some ⟨b, 0, none⟩) 1 1)).run Tryd.prog W = .ok (.string ⟨#[UInt8.ofNat (48 + u % 10)]⟩) W := by
      intro W b h
      rw [conv_one 51 5 9 Tryd.underlying51 Tryd.underlying5 Tryd.underlying9 h]
      rw [show (48 + (u : Int) % 10).toNat = 48 + u % 10 from by omega]
    have hcv' := Lib.hid hcv; clear hcv
    by_cases hz : u / 10 = 0
    · have HS := Lib.hid (decDigits_small hz)
      have hz2 : (u : Int) / 10 = 0 := by omega
      have hz3 : ((u : Int) / 10 == 0) = true := by simp; omega
      clear hz
      go_wp2_with fail
      rw [hcv'.out _ _ (Hx.new _ _ _)]
      go_wp2_with fail
      go_ret
      refine ⟨_, rfl, ?_, ?_, (by have hb0 := (HG); (repeat first | with_reducible exact hb0 | with_reducible refine G.drewN ?_ _ | with_reducible refine G.drew ?_ | with_reducible refine G.alloc ?_ _ | with_reducible refine G.set ?_ _ (Or.inr rfl) | (with_reducible refine G.set ?_ _ (Or.inl ?_); rotate_left; focus (first | omega | (simp; done) | (simp; omega)))))⟩
      · rw [← H.out, HS.out]; simp [ByteArray.data_append]
      · have h1 := congrArg List.length H.out
        have h2 := HL.out
        rw [HS.out] at h1
        simp at h1
        have e1 : t.data.size = t.size := rfl
        rw [ByteArray.size_append]
        show 1 + t.size ≤ 20
        omega
    · have HS := Lib.hid (decDigits_big hz)
      have hz2 : ¬ (u : Int) / 10 = 0 := by omega
      have hz3 : ((u : Int) / 10 == 0) = false := by simp; omega
      clear hz
      go_wp2_with fail
      rw [hcv'.out _ _ (Hx.new _ _ _)]
      go_wp2_with fail
      refine ⟨⟨u / 10, _, by congr 1, rfl, Lib.hid (by have := hu.out; omega), (by have hb0 := (HG); (repeat first | with_reducible exact hb0 | with_reducible refine G.drewN ?_ _ | with_reducible refine G.drew ?_ | with_reducible refine G.alloc ?_ _ | with_reducible refine G.set ?_ _ (Or.inr rfl) | (with_reducible refine G.set ?_ _ (Or.inl ?_); rotate_left; focus (first | omega | (simp; done) | (simp; omega))))), Lib.hid ?_⟩, by simp [intOf]; omega⟩
      rw [← H.out, HS.out]; simp [ByteArray.data_append]
theorem ref_nat {x : Int} (k : Nat) (hx : x = k) (hk : k < 18446744073709551616) (w : World) :
    Calls Tryd.prog 36 #[.int .u64 x] w fun e w' => ∃ Z : ByteArray, e = .returned (.string Z) ∧ Z.data.toList = Lib.decDigits k ∧ Z.size ≤ 20 ∧ w.grownBy w' none := by
  subst hx
  exact plain_any k w hk
set_option maxHeartbeats 4000000 in
set_option maxRecDepth 100000 in
theorem refDigits_any (n : Int) (w : World) (h1 : -9223372036854775808 ≤ n) (h2 : n ≤ 9223372036854775807) :
    Calls Tryd.prog 16 #[.int .i64 n] w fun e w' => ∃ Z : ByteArray, e = .returned (.string Z) ∧ Z.data.toList = Lib.itoa n ∧ Z.size ≤ 21 ∧ w.grownBy w' none := by
  by_cases hn : n < 0
  · have HC := Lib.hid (fun w => ref_nat (x := -(n + 1) + 1) n.natAbs (by omega) (by omega) w)
    have hi : Hid (Lib.itoa n = 45 :: Lib.decDigits n.natAbs) := Lib.hid (by unfold Lib.itoa; rw [if_pos hn])
    go_enter Tryd.func16, Tryd.ntmps16
    go_wp2_with fail
    refine (HC.out _).mono ?_
    rintro e wn ⟨Z, rfl, z1, z2, hg⟩
    have Hz := Lib.hid z1; clear z1
    go_wp2_with fail
    go_ret
    refine ⟨_, rfl, ?_, ?_, hg⟩
    · rw [hi.out]; simp [ByteArray.data_append, Hz.out]
    · rw [ByteArray.size_append]; show 1 + Z.size ≤ 21; omega
  · have HC := Lib.hid (fun w => ref_nat (x := n) n.toNat (by omega) (by omega) w)
    have hi : Hid (Lib.itoa n = Lib.decDigits n.toNat) := Lib.hid (by unfold Lib.itoa; rw [if_neg hn])
    go_enter Tryd.func16, Tryd.ntmps16
    go_wp2_with fail
    refine (HC.out _).mono ?_
    rintro e wn ⟨Z, rfl, z1, z2, hg⟩
    go_wp2_with fail
    go_ret
    exact ⟨_, rfl, by rw [hi.out]; exact z1, by omega, hg⟩
end Go.Proofs.YtjfdaoedpdiaeaaDoor
