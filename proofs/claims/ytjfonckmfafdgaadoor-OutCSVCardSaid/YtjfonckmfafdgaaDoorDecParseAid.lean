/-
  The walk of dec.Parse.
-/
import Derived.Test.YtjfonckmfafdgaaDoorDecA
import Derived.Test.YtjfonckmfafdgaaDoorDecFrac
import Derived.Test.YtjfonckmfafdgaaDoorVal
namespace Go.Proofs.YtjfonckmfafdgaaDoor
open Go.RowKit
def parsePost (w : World) (sg : Int) (R : Option Nat) (e : Ending) (w' : World) : Prop := e = .returned (.tuple #[valV (R.map fun m => sg * (m : Int)), .bool R.isSome]) ∧ w.grownBy w' none
theorem pp_intro {w w' : World} {sg : Int} {R : Option Nat} {e : Ending} (h : e = .returned (.tuple #[valV (R.map fun m => sg * (m : Int)), .bool R.isSome])) (hg : w.grownBy w' none) : parsePost w sg R e w' := ⟨h, hg⟩
theorem repeatL_48 : ∀ c, Lib.repeatL [48] c = List.replicate c 48 := by
  intro c
  induction c with
  | zero => rfl
  | succ c ih => rw [Lib.repeatL, ih]; rfl
theorem repeat_any (c : Nat) (w : World) (hc : c ≤ 6) : Calls Tryd.prog 70 #[.string ⟨#[48]⟩, .int .i64 c] w fun e w' => ∃ Z : ByteArray, e = .returned (.string Z) ∧ Z.data.toList = List.replicate c 48 ∧ Z.size = c ∧ w.grownBy w' none := by
  refine (Tryd.strings_Repeat ⟨#[48]⟩ c w (by omega) (by show 1 * c ≤ _; omega)).mono ?_
  rintro e w' ⟨rfl, hb⟩
  refine ⟨_, rfl, ?_, ?_, G.of_below hb⟩
  · show (Lib.repeatL [48] c).toArray.toList = _
    rw [List.toList_toArray, repeatL_48]
  · show (Lib.repeatL [48] c).toArray.size = c
    rw [List.size_toArray, repeatL_48, List.length_replicate]
theorem digits_at {s : ByteArray} (h : s.data.toList.all isD = true) : ∀ k (hk : k < s.size), isD s[k] = true := by
  intro k hk
  have hk' : k < s.data.toList.length := by simpa using hk
  exact List.all_eq_true.1 h _ (List.getElem_mem hk')
theorem cut_sizes (s : ByteArray) (c : UInt8) : (cutA s c).size ≤ s.size ∧ (cutB s c).size ≤ s.size ∧ (cutD s c = false → (cutB s c) = ⟨#[]⟩) := by
  unfold cutA cutB cutD
  split
  · rename_i h
    exact ⟨Nat.le_refl _, Nat.zero_le _, fun _ => rfl⟩
  · rename_i h
    refine ⟨by rw [ByteArray.size_extract]; omega, by rw [ByteArray.size_extract]; omega, fun h' => ?_⟩
    simp [h] at h'
theorem allAt_zero (s : ByteArray) : allAt s 0 = s.data.toList.all isD := by unfold allAt; rw [List.drop_zero]
theorem pos_list (s : ByteArray) : decide (0 < s.size) = !s.data.toList.isEmpty := by
  have h : s.data.toList.length = s.size := by simp
  rw [← h]
  cases s.data.toList <;> simp
def totV (a b : List UInt8) : Nat := valF 0 a * 1000000 + fracV b 6
theorem num_tot (a b : List UInt8) : numR 0 (a ++ padL b 6) = if totV a b ≤ topN then some (totV a b) else none := num_pad a b
theorem tot_add (a b : List UInt8) : valF 0 a * 1000000 + fracR b = totV a b + upV b := by unfold totV fracR; rw [Nat.add_assoc]
theorem repeat_at {k : Nat} {x : Int} (hx : x = (k : Int)) (hk : k ≤ 6) (w : World) : Calls Tryd.prog 70 #[.string ⟨#[48]⟩, .int .i64 x] w fun e w' => ∃ Z : ByteArray, e = .returned (.string Z) ∧ Z.data.toList = List.replicate k 48 ∧ Z.size ≤ 6 ∧ w.grownBy w' none := by
  subst hx
  refine (repeat_any k w hk).mono ?_
  rintro e w' ⟨Z, h1, h2, h3, h4⟩
  exact ⟨Z, h1, h2, by omega, h4⟩
theorem part_digits {B : ByteArray} (h : B.data.toList.all isD = true) : (B.extract 0 6).data.toList.all isD = true := by
  have e : (B.extract 0 6).data.toList = B.data.toList.take 6 := by simp [ByteArray.data_extract, List.extract]
  rw [e]
  exact List.all_eq_true.2 (fun x hx => List.all_eq_true.1 h x (List.mem_of_mem_take hx))
theorem part_pad (B : ByteArray) : padL (B.extract 0 6).data.toList 6 = padL B.data.toList 6 := by
  have e : (B.extract 0 6).data.toList = B.data.toList.take 6 := by simp [ByteArray.data_extract, List.extract]
  rw [e]
  unfold padL
  rw [List.take_take, List.length_take]
  congr 2
  omega
end Go.Proofs.YtjfonckmfafdgaaDoor
