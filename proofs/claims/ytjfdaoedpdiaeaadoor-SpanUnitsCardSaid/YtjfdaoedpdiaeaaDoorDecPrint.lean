/-
  The walks of dec.Print.
-/
import Derived.Test.YtjfdaoedpdiaeaaDoorPow
import Derived.Test.YtjfdaoedpdiaeaaDoorVal
import Derived.Lib.TrimByte
namespace Go.Proofs.YtjfdaoedpdiaeaaDoor
open Go.RowKit
/-- the digits behind the dot, without the noughts at the end -/
def fracD (f : Nat) : List UInt8 := Lib.trimRightB ((Lib.decDigits (1000000 + f)).drop 1) 48
def printA (m : Nat) : List UInt8 := Lib.decDigits (m / 1000000) ++ (if m % 1000000 = 0 then [] else 46 :: fracD (m % 1000000))
def printL (n : Int) : List UInt8 := (if n < 0 then [45] else []) ++ printA n.natAbs
def noneB : ByteArray := ⟨#[78, 111, 110, 101]⟩
/-- a value in digits -/
def printV (b : Bool) (n : Int) : ByteArray := if b && isR b n then ⟨(printL n).toArray⟩ else noneB
theorem printV_none {b : Bool} {n : Int} (h : (b && isR b n) = false) : printV b n = noneB := by unfold printV; rw [h]; rfl
theorem printV_some {b : Bool} {n : Int} (h : (b && isR b n) = true) : printV b n = ⟨(printL n).toArray⟩ := by unfold printV; rw [h]; rfl
theorem trimRightB_len (l : List UInt8) (c : UInt8) : (Lib.trimRightB l c).length ≤ l.length := by
  unfold Lib.trimRightB
  rw [List.length_reverse]
  have := (List.dropWhile_sublist (p := (· == c)) (l := l.reverse)).length_le
  rw [List.length_reverse] at this
  exact this
theorem digits_nat {x : Int} (k : Nat) (hx : x = k) (hk : k < 10 ^ 18) (w : World) (hp : Pow10 w) :
    Calls Tryd.prog 45 #[.int .i64 x] w fun e w' => ∃ Z : ByteArray, e = .returned (.string Z) ∧ Z.data.toList = Lib.decDigits k ∧ Z.size ≤ 20 ∧ w.grownBy w' none := by
  subst hx
  have := digits_any (k : Int) w (by omega) (by omega) hp
  rw [itoa_nat] at this
  exact this
theorem ext_data {a : ByteArray} {l : List UInt8} (h : a.data.toList = l) : a = ⟨l.toArray⟩ := by subst h; rfl
theorem size_of_data {Z : ByteArray} {l : List UInt8} (h : Z.data.toList = l) : Z.size = l.length := by subst h; simp
theorem decDigits_pos (k : Nat) : 1 ≤ (Lib.decDigits k).length := by rw [Lib.decDigits_length]; exact Lib.nDigits_pos k

end Go.Proofs.YtjfdaoedpdiaeaaDoor
