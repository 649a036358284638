/-
  Numbers in two digits, in four; which text a time is.
-/
import Derived.Test.YtjfdaoedpdiaeaaDoorSpanAtR
namespace Go.Proofs.YtjfdaoedpdiaeaaDoor
open Go.RowKit
def twoL (n : Nat) : List UInt8 := [UInt8.ofNat (48 + n / 10), UInt8.ofNat (48 + n % 10)]
def twoB (n : Nat) : ByteArray := ⟨(twoL n).toArray⟩
/-- a second, counted from the first one, as a day and a second of it -/
def clockL (T : Nat) : List UInt8 :=
  Lib.decDigits (yOf 1970 (T / 86400)).1 ++ (45 :: (twoL (mOf (yOf 1970 (T / 86400)).1 1 (yOf 1970 (T / 86400)).2).1 ++ (45 :: (twoL ((mOf (yOf 1970 (T / 86400)).1 1 (yOf 1970 (T / 86400)).2).2 + 1) ++
    (32 :: (twoL (T % 86400 / 3600) ++ (58 :: (twoL (T % 86400 % 3600 / 60) ++ (58 :: twoL (T % 86400 % 60))))))))))
theorem pad_two {n : Nat} (h : n < 100) : List.replicate (2 - (Lib.decDigits n).length) 48 ++ Lib.decDigits n = twoL n := by
  by_cases h1 : n < 10
  · rw [Lib.decDigits_one h1]
    have e1 : n / 10 = 0 := by omega
    have e2 : n % 10 = n := by omega
    unfold twoL
    rw [e1, e2]; rfl
  · rw [Lib.decDigits_two h1 h]; rfl
theorem dec_four {n : Nat} (h1 : 1000 ≤ n) (h2 : n ≤ 9999) : (Lib.decDigits n).length = 4 := by
  rw [Lib.decDigits_length]
  exact Lib.nDigits_unique 3 _ (by omega) (by omega)
set_option maxHeartbeats 4000000 in
theorem pad_prog (n k : Nat) (hn : n ≤ 9999) (hk : k ≤ 4) (w : World) (hp : Pow10 w) :
    Calls Tryd.prog 32 #[.int .i64 n, .int .i64 k] w fun e w' => e = .returned (.string ⟨(List.replicate (k - (Lib.decDigits n).length) 48 ++ Lib.decDigits n).toArray⟩) ∧ w.grownBy w' none := by
  have HP := Lib.hid hp; clear hp
  have HG := G.refl w none
  have HD := Lib.hid (fun w hp => digits_nat (x := (n : Int)) n rfl (by omega) w hp)
  have hl : (Lib.decDigits n).length ≤ 4 := decDigits_len (by omega)
  obtain ⟨V, hV⟩ : ∃ V, Hid ((⟨(List.replicate (k - (Lib.decDigits n).length) 48 ++ Lib.decDigits n).toArray⟩ : ByteArray) = V) := ⟨_, Lib.hid rfl⟩
  rw [hV.out]
  go_enter Tryd.func32, Tryd.ntmps32
  go_wp2_with fail
  refine (HD.out _ (Pow10.kept (w := w) HP.out (by have hb0 := (HG); (repeat first | with_reducible exact hb0 | with_reducible refine G.drewN ?_ _ | with_reducible refine G.drew ?_ | with_reducible refine G.alloc ?_ _ | with_reducible refine G.set ?_ _ (Or.inr rfl) | (with_reducible refine G.set ?_ _ (Or.inl ?_); rotate_left; focus (first | omega | (simp; done) | (simp; omega))))))).mono ?_
  rintro e wn ⟨Z, rfl, hz, hzs, hgn⟩
  replace HG := G.trans (w := w) (by have hb0 := (HG); (repeat first | with_reducible exact hb0 | with_reducible refine G.drewN ?_ _ | with_reducible refine G.drew ?_ | with_reducible refine G.alloc ?_ _ | with_reducible refine G.set ?_ _ (Or.inr rfl) | (with_reducible refine G.set ?_ _ (Or.inl ?_); rotate_left; focus (first | omega | (simp; done) | (simp; omega))))) hgn; clear hgn
  have hZ := Lib.hid hz
  have hl2 : Z.size ≤ 4 := by rw [size_of_data hz]; exact hl
  have hl3 : Hid ((Lib.decDigits n).length = Z.size) := Lib.hid (size_of_data hz).symm
  clear hz hl hzs
  go_wp2_with fail
  rw [show max 0 ((k : Int) - (Z.size : Int)) = ((k - Z.size : Nat) : Int) from by omega]
  refine (repeat_any (k - Z.size) _ (by omega)).mono ?_
  rintro e wq ⟨Y, rfl, hy, hys, hgn⟩
  replace HG := G.trans (w := w) (by have hb0 := (HG); (repeat first | with_reducible exact hb0 | with_reducible refine G.drewN ?_ _ | with_reducible refine G.drew ?_ | with_reducible refine G.alloc ?_ _ | with_reducible refine G.set ?_ _ (Or.inr rfl) | (with_reducible refine G.set ?_ _ (Or.inl ?_); rotate_left; focus (first | omega | (simp; done) | (simp; omega))))) hgn; clear hgn
  have HY := Lib.hid hy
  clear hy
  go_wp2_with fail
  go_ret
  refine ⟨ret_string ?_, (by have hb0 := (HG); (repeat first | with_reducible exact hb0 | with_reducible refine G.drewN ?_ _ | with_reducible refine G.drew ?_ | with_reducible refine G.alloc ?_ _ | with_reducible refine G.set ?_ _ (Or.inr rfl) | (with_reducible refine G.set ?_ _ (Or.inl ?_); rotate_left; focus (first | omega | (simp; done) | (simp; omega)))))⟩
  rw [← hV.out]
  refine ext_data ?_
  rw [ByteArray.data_append, Array.toList_append, HY.out, hZ.out, hl3.out]
theorem pad2_prog {n : Nat} (h : n < 100) (w : World) (hp : Pow10 w) : Calls Tryd.prog 32 #[.int .i64 n, .int .i64 2] w fun e w' => e = .returned (.string (twoB n)) ∧ w.grownBy w' none := by
  have := pad_prog n 2 (by omega) (by omega) w hp
  rw [pad_two h] at this
  exact this
theorem pad4_prog {n : Nat} (h1 : 1000 ≤ n) (h2 : n ≤ 9999) (w : World) (hp : Pow10 w) : Calls Tryd.prog 32 #[.int .i64 n, .int .i64 4] w fun e w' => e = .returned (.string ⟨(Lib.decDigits n).toArray⟩) ∧ w.grownBy w' none := by
  have := pad_prog n 4 (by omega) (by omega) w hp
  rw [dec_four h1 h2] at this
  exact this
theorem conv_two {P : Program} {w : World} {b : Nat} {x y : Int} {T : TypeId} (src e dst : TypeId) (hs : P.underlying src = some (.slice e)) (he : P.underlying e = some (.int .u8)) (hd : P.underlying dst = some .string)
    (h : Hx w b [.int .u8 x, .int .u8 y] T) : (convert src dst (.slice (some ⟨b, 0, none⟩) 2 2)).run P w = .ok (.string ⟨#[UInt8.ofNat x.toNat, UInt8.ofNat y.toNat]⟩) w := by
  have hcell : ∀ i, i < 2 → w.cell? ⟨b, 0 + i, none⟩ = some (.int .u8 ([x, y].getD i 0)) := by
    intro i hi
    rcases (show i = 0 ∨ i = 1 by omega) with rfl | rfl
    · rw [h.cell]; rfl
    · rw [h.cell]; rfl
  have := run_convert_bytes_arg w src e hs he b 0 2 2 [x, y] rfl hcell dst hd
  rw [this]
  rfl
theorem two_ref {n : Nat} (h : n < 100) (w : World) : Calls Tryd.prog 35 #[.int .i64 n] w fun e w' => e = .returned (.string (twoB n)) ∧ w.grownBy w' none := by
  have HG := G.refl w none
  go_enter Tryd.func35, Tryd.ntmps35
  go_wp2_with fail
  rw [conv_two 51 5 9 Tryd.underlying51 Tryd.underlying5 Tryd.underlying9 (x := 48 + (n : Int) / 10) (y := 48 + (n : Int) % 10) (T := 5) (Hx.new' rfl rfl)]
  go_wp2_with fail
  go_ret
  refine ⟨ret_string ?_, (by have hb0 := (HG); (repeat first | with_reducible exact hb0 | with_reducible refine G.drewN ?_ _ | with_reducible refine G.drew ?_ | with_reducible refine G.alloc ?_ _ | with_reducible refine G.set ?_ _ (Or.inr rfl) | (with_reducible refine G.set ?_ _ (Or.inl ?_); rotate_left; focus (first | omega | (simp; done) | (simp; omega)))))⟩
  unfold twoB twoL
  rw [show (48 + (n : Int) / 10).toNat = 48 + n / 10 from by omega, show (48 + (n : Int) % 10).toNat = 48 + n % 10 from by omega]
end Go.Proofs.YtjfdaoedpdiaeaaDoor
