/-
  The walk of strings.Cut where what is sought is one byte.
-/
import Derived.Test.YtekmhpgjbpcenaaDoorProg
import Derived.Test.YtekmhpgjbpcenaaDoorShelf
import Derived.Test.YtekmhpgjbpcenaaDoorAid
import Derived.Deep.QuietTactic
import Derived.BigQuiet
namespace Go.Proofs.YtekmhpgjbpcenaaDoor
open Go.RowKit
def cutA (s : ByteArray) (c : UInt8) : ByteArray := if Lib.indexByte s.data.toList c < 0 then s else s.extract 0 (Lib.indexByte s.data.toList c).toNat
def cutB (s : ByteArray) (c : UInt8) : ByteArray := if Lib.indexByte s.data.toList c < 0 then ⟨#[]⟩ else s.extract ((Lib.indexByte s.data.toList c).toNat + 1) s.size
def cutD (s : ByteArray) (c : UInt8) : Bool := !decide (Lib.indexByte s.data.toList c < 0)
theorem indexByte_under (c : UInt8) : ∀ l : List UInt8, Lib.indexByte l c < l.length := by
  intro l
  induction l with
  | nil => simp [Lib.indexByte]
  | cons b l ih =>
    rw [Lib.indexByte]
    by_cases hb : (b == c) = true
    · simp [hb]
    · by_cases h1 : (Lib.indexByte l c == -1) = true
      · simp [hb, h1]; omega
      · simp [hb, h1]; omega

set_option maxHeartbeats 4000000 in
theorem liteCut_any (s : ByteArray) (c : UInt8) (w : World) (hs : s.size ≤ 4611686018427387904) :
    Calls Tryd.prog 34 #[.string s, .string ⟨#[c]⟩] w fun e w' => e = .returned (.tuple #[.string (cutA s c), .string (cutB s c), .bool (cutD s c)]) ∧ w.grownBy w' none := by
  have HI := Lib.hid (fun w => Tryd.stringslite_Index_one s c w)
  have hlt := indexByte_under c s.data.toList
  have hge := Lib.indexByte_ge s.data.toList c
  have hl : s.data.toList.length = s.size := by simp
  rw [hl] at hlt
  unfold cutA cutB cutD
  generalize Lib.indexByte s.data.toList c = i at *
  by_cases hi : i < 0
  · go_enter Tryd.func34, Tryd.ntmps34
    go_wp2_with (go_at_call 49; refine (HI.out _).mono ?_; rintro e w1 ⟨rfl, rfl⟩)
    go_ret3
    exact ⟨by simp, G.refl _ _⟩
  · obtain ⟨m, rfl⟩ := Int.eq_ofNat_of_zero_le (Int.not_lt.1 hi)
    go_enter Tryd.func34, Tryd.ntmps34
    go_wp2_with (go_at_call 49; refine (HI.out _).mono ?_; rintro e w1 ⟨rfl, rfl⟩)
    go_quiet (fail)
    go_wp2_with fail
    go_ret3
    exact ⟨by simp, (by have hb0 := (G.refl w1 none); (repeat first | with_reducible exact hb0 | with_reducible refine G.drewN ?_ _ | with_reducible refine G.drew ?_ | with_reducible refine G.alloc ?_ _ | with_reducible refine G.set ?_ _ (Or.inr rfl) | (with_reducible refine G.set ?_ _ (Or.inl ?_); rotate_left; focus (first | omega | (simp; done) | (simp; omega)))))⟩

set_option maxHeartbeats 4000000 in
theorem cut_any (s : ByteArray) (c : UInt8) (w : World) (hs : s.size ≤ 4611686018427387904) :
    Calls Tryd.prog 18 #[.string s, .string ⟨#[c]⟩] w fun e w' => e = .returned (.tuple #[.string (cutA s c), .string (cutB s c), .bool (cutD s c)]) ∧ w.grownBy w' none := by
  have HC := Lib.hid (fun w => liteCut_any s c w hs)
  go_enter Tryd.func18, Tryd.ntmps18
  go_wp2_with (go_at_call 34; refine (HC.out _).mono ?_; rintro e w1 ⟨rfl, hg1⟩)
  go_ret3
  exact ⟨rfl, hg1⟩
end Go.Proofs.YtekmhpgjbpcenaaDoor
