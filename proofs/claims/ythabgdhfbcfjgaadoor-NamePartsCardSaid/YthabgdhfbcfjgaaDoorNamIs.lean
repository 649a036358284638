/-
  The walks of what a byte of a name is, and of what a name is.
-/
import Derived.Test.YthabgdhfbcfjgaaDoorNamParts
import Derived.Lib.IndexBytes
namespace Go.Proofs.YthabgdhfbcfjgaaDoor
open Go.RowKit
def nmB (c : UInt8) : Bool := (decide ((97 : Int) ≤ c.toNat) && decide ((c.toNat : Int) ≤ 122)) || (decide ((65 : Int) ≤ c.toNat) && decide ((c.toNat : Int) ≤ 90)) || (decide ((48 : Int) ≤ c.toNat) && decide ((c.toNat : Int) ≤ 57)) ||
  ((c.toNat : Int) == 95 || (c.toNat : Int) == 45 || (c.toNat : Int) == 58 || (c.toNat : Int) == 35 || (c.toNat : Int) == 37 || (c.toNat : Int) == 64 || (c.toNat : Int) == 61)
theorem idxB (l : List UInt8) (c : UInt8) : decide (0 ≤ Lib.indexByte l c) = l.contains c := by
  induction l with
  | nil => rfl
  | cons b l ih =>
    have hge := Lib.indexByte_ge l c
    rw [List.contains_cons, ← ih, Lib.indexByte]
    by_cases hb : b = c
    · subst hb; simp
    · have hb' : (c == b) = false := by simp; exact fun e => hb e.symm
      have hb2 : (b == c) = false := by simp [hb]
      simp only [hb2, hb', Bool.false_or, if_neg Bool.false_ne_true]
      by_cases h1 : Lib.indexByte l c = -1
      · simp [h1]
      · have : (Lib.indexByte l c == -1) = false := by simp [h1]
        simp only [this, if_neg Bool.false_ne_true]
        rw [decide_eq_decide]; omega
theorem idxSigns (c : UInt8) : decide (0 ≤ Lib.indexByte [95, 45, 58, 35, 37, 64, 61] c) = ((c.toNat : Int) == 95 || (c.toNat : Int) == 45 || (c.toNat : Int) == 58 || (c.toNat : Int) == 35 || (c.toNat : Int) == 37 || (c.toNat : Int) == 64 || (c.toNat : Int) == 61) := by
  rw [idxB]
  have e := fun d : UInt8 => u8beq c d
  rw [show ((c.toNat : Int) == 95) = (c == 95) from e 95, show ((c.toNat : Int) == 45) = (c == 45) from e 45, show ((c.toNat : Int) == 58) = (c == 58) from e 58, show ((c.toNat : Int) == 35) = (c == 35) from e 35, show ((c.toNat : Int) == 37) = (c == 37) from e 37, show ((c.toNat : Int) == 64) = (c == 64) from e 64, show ((c.toNat : Int) == 61) = (c == 61) from e 61]
  simp only [List.contains_cons, List.contains_nil, Bool.or_false, Bool.or_assoc]

set_option maxHeartbeats 4000000 in
theorem isByte_any (c : UInt8) (w : World) :
    Calls Tryd.prog 27 #[.int .u8 c.toNat] w fun e w' => e = .returned (.bool (nmB c)) ∧ w = w' := by
  have hi := Lib.hid (idxSigns c)
  obtain ⟨x, hx⟩ : ∃ x, Hid (Lib.indexByte [95, 45, 58, 35, 37, 64, 61] c = x) := ⟨_, Lib.hid rfl⟩
  have HC := Lib.hid (fun w => Tryd.strings_IndexByte ⟨#[95, 45, 58, 35, 37, 64, 61]⟩ c.toNat w)
  go_enter Tryd.func27, Tryd.ntmps27
  go_wp2_with (go_at_call 34; refine (HC.out _).mono ?_; rw [show Lib.indexByte (⟨#[95, 45, 58, 35, 37, 64, 61]⟩ : ByteArray).data.toList ((c.toNat : Int).toNat).toUInt8 = x from by rw [← hx.out]; simp]; rintro e w' ⟨rfl, rfl⟩)
  all_goals (go_ret; refine ⟨ret_bool ?_, rfl⟩)
  all_goals (unfold nmB; rw [← hi.out, hx.out])
  all_goals (rw [Bool.eq_iff_iff]; simp; try omega)

set_option maxHeartbeats 4000000 in
theorem refByte_any (c : UInt8) (w : World) :
    Calls Tryd.prog 26 #[.int .u8 c.toNat] w fun e w' => e = .returned (.bool (nmB c)) ∧ w = w' := by
  go_enter Tryd.func26, Tryd.ntmps26
  go_wp2
  all_goals (go_ret; refine ⟨ret_bool ?_, rfl⟩)
  all_goals (unfold nmB; rw [Bool.eq_iff_iff]; simp; try omega)
end Go.Proofs.YthabgdhfbcfjgaaDoor
