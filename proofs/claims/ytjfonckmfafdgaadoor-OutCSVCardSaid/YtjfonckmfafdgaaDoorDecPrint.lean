/-
  The walks of dec.Print.
-/
import Derived.Test.YtjfonckmfafdgaaDoorPow
import Derived.Test.YtjfonckmfafdgaaDoorVal
import Derived.Lib.TrimByte
namespace Go.Proofs.YtjfonckmfafdgaaDoor
open Go.RowKit
/-- the digits behind the dot, without the noughts at the end -/
def fracD (f : Nat) : List UInt8 := Lib.trimRightB ((Lib.decDigits (1000000 + f)).drop 1) 48
def printA (m : Nat) : List UInt8 := Lib.decDigits (m / 1000000) ++ (if m % 1000000 = 0 then [] else 46 :: fracD (m % 1000000))
def printL (n : Int) : List UInt8 := (if n < 0 then [45] else []) ++ printA n.natAbs
def noneB : ByteArray := ⟨#[78, 111, 110, 101]⟩
/-- a value in digits -/
def printV (b : Bool) (n : Int) : ByteArray := if b && isR b n then ⟨(printL n).toArray⟩ else noneB
theorem printV_none {b : Bool} {n : Int} (h : (b && isR b n) = false) : printV b n = noneB := by unfold printV; rw [h]; rfl
theorem printV_some {b : Bool} {n : Int} (h : (b && isR b n) = true) : printV b n = ⟨(printL n).toArray⟩ := by unfold printV; rw [h]; rfl
theorem trimRightB_len (l : List UInt8) (c : UInt8) : (Lib.trimRightB l c).length ≤ l.length := by
  unfold Lib.trimRightB
  rw [List.length_reverse]
  have := (List.dropWhile_sublist (p := (· == c)) (l := l.reverse)).length_le
  rw [List.length_reverse] at this
  exact this
theorem digits_nat {x : Int} (k : Nat) (hx : x = k) (hk : k < 10 ^ 18) (w : World) (hp : Pow10 w) :
    Calls Tryd.prog 23 #[.int .i64 x] w fun e w' => ∃ Z : ByteArray, e = .returned (.string Z) ∧ Z.data.toList = Lib.decDigits k ∧ Z.size ≤ 20 ∧ w.grownBy w' none := by
  subst hx
  have := digits_any (k : Int) w (by omega) (by omega) hp
  rw [itoa_nat] at this
  exact this
theorem trimR_any (Z : ByteArray) (w : World) (hz : Z.size ≤ 20) :
    Calls Tryd.prog 47 #[.string Z, .string ⟨#[48]⟩] w fun e w' => ∃ Y : ByteArray, e = .returned (.string Y) ∧ Y.data.toList = Lib.trimRightB Z.data.toList 48 ∧ Y.size ≤ 20 ∧ w = w' := by
  refine (Tryd.strings_TrimRight_one Z 48 (by decide) w (by omega)).mono ?_
  rintro e w' ⟨rfl, rfl⟩
  refine ⟨_, rfl, rfl, ?_, rfl⟩
  rw [Lib.size_mk]
  have := trimRightB_len Z.data.toList 48
  have e1 : Z.data.toList.length = Z.size := by simp
  omega
theorem ext_data {a : ByteArray} {l : List UInt8} (h : a.data.toList = l) : a = ⟨l.toArray⟩ := by subst h; rfl
theorem size_of_data {Z : ByteArray} {l : List UInt8} (h : Z.data.toList = l) : Z.size = l.length := by subst h; simp
theorem decDigits_pos (k : Nat) : 1 ≤ (Lib.decDigits k).length := by rw [Lib.decDigits_length]; exact Lib.nDigits_pos k

set_option maxHeartbeats 4000000 in
theorem print_any (b : Bool) (n : Int) (w : World) (_h1 : -9223372036854775808 ≤ n) (_h2 : n ≤ 9223372036854775807) (hp : Pow10 w) :
    Calls Tryd.prog 26 #[.agg #[.bool b, .int .i64 n]] w fun e w' => e = .returned (.string (printV b n)) ∧ w.grownBy w' none := by
  have HP := Lib.hid hp; clear hp
  cases b
  · have HN := Lib.hid (printV_none (b := false) (n := n) rfl)
    go_enter Tryd.func26, Tryd.ntmps26
    go_wp2_with fail
    go_ret
    exact ⟨ret_string HN.out.symm, (by have hb0 := (G.refl w none); (repeat first | with_reducible exact hb0 | with_reducible refine G.drewN ?_ _ | with_reducible refine G.drew ?_ | with_reducible refine G.alloc ?_ _ | with_reducible refine G.set ?_ _ (Or.inr rfl) | (with_reducible refine G.set ?_ _ (Or.inl ?_); rotate_left; focus (first | omega | (simp; done) | (simp; omega)))))⟩
  cases hr : isR true n
  · have HN := Lib.hid (printV_none (b := true) (n := n) (by rw [hr]; rfl))
    go_enter Tryd.func26, Tryd.ntmps26
    go_wp2_with (go_at_call 46; refine (fixedIs_any _ _ _).mono ?_; rw [hr]; rintro e w1 ⟨rfl, hg1⟩)
    go_ret
    exact ⟨ret_string HN.out.symm, G.trans (by have hb0 := (G.refl w none); (repeat first | with_reducible exact hb0 | with_reducible refine G.drewN ?_ _ | with_reducible refine G.drew ?_ | with_reducible refine G.alloc ?_ _ | with_reducible refine G.set ?_ _ (Or.inr rfl) | (with_reducible refine G.set ?_ _ (Or.inl ?_); rotate_left; focus (first | omega | (simp; done) | (simp; omega))))) hg1⟩
  have HN := Lib.hid (printV_some (b := true) (n := n) (by rw [hr]; rfl))
  have hb : -4611686018427387904 ≤ n ∧ n ≤ 4611686018427387904 := by simpa [isR] using hr
  have HR := Lib.hid hr; clear hr
  obtain ⟨b1, b2⟩ := hb
  obtain ⟨S, hS⟩ : ∃ S, Hid (printV true n = S) := ⟨_, Lib.hid rfl⟩
  rw [hS.out]
  by_cases hneg : n < 0
  · obtain ⟨m, rfl⟩ : ∃ m : Nat, n = -(m : Int) := ⟨n.natAbs, by omega⟩
    have hm : (m : Int) ≤ 4611686018427387904 := by omega
    have hm0 : (0 : Int) ≤ (m : Int) := by omega
    have HD := Lib.hid (fun w hp => digits_nat (x := (m : Int) / 1000000) (m / 1000000) (by omega) (by omega) w hp)
    have HD2 := Lib.hid (fun w hp => digits_nat (x := 1000000 + (m : Int) % 1000000) (1000000 + m % 1000000) (by omega) (by omega) w hp)
    have hpr : Hid (printL (-(m : Int)) = 45 :: printA m) := Lib.hid (by unfold printL; rw [if_pos hneg, Int.natAbs_neg, Int.natAbs_natCast]; simp)
    by_cases hf : m % 1000000 = 0
    · have hf' : (m : Int) % 1000000 = 0 := by omega
      have hf2 : ((m : Int) % 1000000 != 0) = false := by simp; omega
      have hfin : Hid (printA m = Lib.decDigits (m / 1000000)) := Lib.hid (by unfold printA; rw [if_pos hf, List.append_nil])
      clear hf
      go_enter Tryd.func26, Tryd.ntmps26
      go_wp2_with (first | (go_at_call 46; refine (fixedIs_any _ _ _).mono ?_; rw [HR.out]; rintro e w1 ⟨rfl, hg1⟩; have hx := Hx.kept (Hx.new w #[.bool true, .int .i64 (-(m : Int))] 33) hg1 (by simp); have HG := G.trans (G.alloc (G.refl w none) _) hg1; have x0 := hx.cell 0; have x1 := hx.cell 1; have x2 := hx.lt) | fail)
      go_quiet (fail)
      go_wp2_with fail
      refine (HD.out _ (Pow10.kept (w := w) HP.out (by exact G.go HG))).mono ?_
      rintro e wn ⟨Z1, rfl, z1, zs1, hgn⟩
      replace HG := G.trans (w := w) (by exact G.go HG) hgn; clear hgn
      have Hz1 := Lib.hid z1; clear z1
      go_wp2_with fail
      go_ret
      refine ⟨?_, HG⟩
      rw [← hS.out, HN.out]
      refine ret_string (ext_data ?_)
      rw [hpr.out, hfin.out]
      simp [ByteArray.data_append, Hz1.out]
    · have hf2 : ((m : Int) % 1000000 != 0) = true := by simp; omega
      have hf3 : ¬ (m : Int) % 1000000 = 0 := by omega
      have hfin : Hid (printA m = Lib.decDigits (m / 1000000) ++ 46 :: fracD (m % 1000000)) := Lib.hid (by unfold printA; rw [if_neg hf])
      clear hf
      go_enter Tryd.func26, Tryd.ntmps26
      go_wp2_with (first | (go_at_call 46; refine (fixedIs_any _ _ _).mono ?_; rw [HR.out]; rintro e w1 ⟨rfl, hg1⟩; have hx := Hx.kept (Hx.new w #[.bool true, .int .i64 (-(m : Int))] 33) hg1 (by simp); have HG := G.trans (G.alloc (G.refl w none) _) hg1; have x0 := hx.cell 0; have x1 := hx.cell 1; have x2 := hx.lt) | fail)
      go_quiet (fail)
      go_wp2_with fail
      refine (HD.out _ (Pow10.kept (w := w) HP.out (by exact G.go HG))).mono ?_
      rintro e wn ⟨Z1, rfl, z1, zs1, hgn⟩
      replace HG := G.trans (w := w) (by exact G.go HG) hgn; clear hgn
      have Hz1 := Lib.hid z1; clear z1
      go_wp2_with fail
      refine (HD2.out _ (Pow10.kept (w := w) HP.out (by exact G.go HG))).mono ?_
      rintro e wn ⟨Z2, rfl, z2, zs2, hgn⟩
      replace HG := G.trans (w := w) (by exact G.go HG) hgn; clear hgn
      have hz2 : 1 ≤ Z2.size := by rw [size_of_data z2]; exact decDigits_pos _
      have Hz2 := Lib.hid z2; clear z2
      have hz3 : (Z2.extract 1 Z2.size).size ≤ 20 := by rw [ByteArray.size_extract]; omega
      go_wp2_with fail
      refine (trimR_any (Z2.extract 1 Z2.size) _ hz3).mono ?_
      rintro e wn ⟨Y, rfl, y1, ys, rfl⟩
      have Hy := Lib.hid (show Y.data.toList = fracD (m % 1000000) from by rw [y1, Lib.extract_to_end, Hz2.out]; rfl)
      clear y1
      go_wp2_with fail
      go_ret
      refine ⟨?_, HG⟩
      rw [← hS.out, HN.out]
      refine ret_string (ext_data ?_)
      rw [hpr.out, hfin.out]
      simp [ByteArray.data_append, Hz1.out, Hy.out]
  · obtain ⟨m, rfl⟩ : ∃ m : Nat, n = (m : Int) := ⟨n.natAbs, by omega⟩
    have hm : (m : Int) ≤ 4611686018427387904 := by omega
    have hm0 : (0 : Int) ≤ (m : Int) := by omega
    have HD := Lib.hid (fun w hp => digits_nat (x := (m : Int) / 1000000) (m / 1000000) (by omega) (by omega) w hp)
    have HD2 := Lib.hid (fun w hp => digits_nat (x := 1000000 + (m : Int) % 1000000) (1000000 + m % 1000000) (by omega) (by omega) w hp)
    have hpr : Hid (printL ((m : Int)) = printA m) := Lib.hid (by unfold printL; rw [if_neg hneg, Int.natAbs_natCast]; simp)
    by_cases hf : m % 1000000 = 0
    · have hf' : (m : Int) % 1000000 = 0 := by omega
      have hf2 : ((m : Int) % 1000000 != 0) = false := by simp; omega
      have hfin : Hid (printA m = Lib.decDigits (m / 1000000)) := Lib.hid (by unfold printA; rw [if_pos hf, List.append_nil])
      clear hf
      go_enter Tryd.func26, Tryd.ntmps26
      go_wp2_with (first | (go_at_call 46; refine (fixedIs_any _ _ _).mono ?_; rw [HR.out]; rintro e w1 ⟨rfl, hg1⟩; have hx := Hx.kept (Hx.new w #[.bool true, .int .i64 ((m : Int))] 33) hg1 (by simp); have HG := G.trans (G.alloc (G.refl w none) _) hg1; have x0 := hx.cell 0; have x1 := hx.cell 1; have x2 := hx.lt) | fail)
      go_quiet (fail)
      go_wp2_with fail
      refine (HD.out _ (Pow10.kept (w := w) HP.out (by exact G.go HG))).mono ?_
      rintro e wn ⟨Z1, rfl, z1, zs1, hgn⟩
      replace HG := G.trans (w := w) (by exact G.go HG) hgn; clear hgn
      have Hz1 := Lib.hid z1; clear z1
      go_wp2_with fail
      go_ret
      refine ⟨?_, HG⟩
      rw [← hS.out, HN.out]
      refine ret_string (ext_data ?_)
      rw [hpr.out, hfin.out]
      simp [Hz1.out]
    · have hf2 : ((m : Int) % 1000000 != 0) = true := by simp; omega
      have hf3 : ¬ (m : Int) % 1000000 = 0 := by omega
      have hfin : Hid (printA m = Lib.decDigits (m / 1000000) ++ 46 :: fracD (m % 1000000)) := Lib.hid (by unfold printA; rw [if_neg hf])
      clear hf
      go_enter Tryd.func26, Tryd.ntmps26
      go_wp2_with (first | (go_at_call 46; refine (fixedIs_any _ _ _).mono ?_; rw [HR.out]; rintro e w1 ⟨rfl, hg1⟩; have hx := Hx.kept (Hx.new w #[.bool true, .int .i64 ((m : Int))] 33) hg1 (by simp); have HG := G.trans (G.alloc (G.refl w none) _) hg1; have x0 := hx.cell 0; have x1 := hx.cell 1; have x2 := hx.lt) | fail)
      go_quiet (fail)
      go_wp2_with fail
      refine (HD.out _ (Pow10.kept (w := w) HP.out (by exact G.go HG))).mono ?_
      rintro e wn ⟨Z1, rfl, z1, zs1, hgn⟩
      replace HG := G.trans (w := w) (by exact G.go HG) hgn; clear hgn
      have Hz1 := Lib.hid z1; clear z1
      go_wp2_with fail
      refine (HD2.out _ (Pow10.kept (w := w) HP.out (by exact G.go HG))).mono ?_
      rintro e wn ⟨Z2, rfl, z2, zs2, hgn⟩
      replace HG := G.trans (w := w) (by exact G.go HG) hgn; clear hgn
      have hz2 : 1 ≤ Z2.size := by rw [size_of_data z2]; exact decDigits_pos _
      have Hz2 := Lib.hid z2; clear z2
      have hz3 : (Z2.extract 1 Z2.size).size ≤ 20 := by rw [ByteArray.size_extract]; omega
      go_wp2_with fail
      refine (trimR_any (Z2.extract 1 Z2.size) _ hz3).mono ?_
      rintro e wn ⟨Y, rfl, y1, ys, rfl⟩
      have Hy := Lib.hid (show Y.data.toList = fracD (m % 1000000) from by rw [y1, Lib.extract_to_end, Hz2.out]; rfl)
      clear y1
      go_wp2_with fail
      go_ret
      refine ⟨?_, HG⟩
      rw [← hS.out, HN.out]
      refine ret_string (ext_data ?_)
      rw [hpr.out, hfin.out]
      simp [ByteArray.data_append, Hz1.out, Hy.out]
end Go.Proofs.YtjfonckmfafdgaaDoor
