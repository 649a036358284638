/-
  The names of the functions on places, what args they want, and what a series becomes by one. Printed by genfsspec.py.
-/
import Derived.Test.YtkablhamnepfnaaDoorFsSpec
import Derived.Test.YtkablhamnepfnaaDoorSerLabel
import Derived.Test.YtkablhamnepfnaaDoorRefLabel
namespace Go.Proofs.YtkablhamnepfnaaDoor
open Go.RowKit
def fs0 : ByteArray := ⟨#[99, 104, 97, 110, 103, 101, 100]⟩
def fs1 : ByteArray := ⟨#[100, 101, 108, 97, 121]⟩
def fs2 : ByteArray := ⟨#[100, 101, 114, 105, 118, 97, 116, 105, 118, 101]⟩
def fs3 : ByteArray := ⟨#[105, 110, 116, 101, 103, 114, 97, 108]⟩
def fs4 : ByteArray := ⟨#[105, 110, 116, 101, 114, 112, 111, 108, 97, 116, 101]⟩
def fs5 : ByteArray := ⟨#[107, 101, 101, 112, 76, 97, 115, 116, 86, 97, 108, 117, 101]⟩
def fs6 : ByteArray := ⟨#[110, 111, 110, 78, 101, 103, 97, 116, 105, 118, 101, 68, 101, 114, 105, 118, 97, 116, 105, 118, 101]⟩
def fs7 : ByteArray := ⟨#[112, 101, 114, 83, 101, 99, 111, 110, 100]⟩
/-- which function a name is -/
def fsIdx (s : ByteArray) : Option Nat := if s = fs0 then some 0 else if s = fs1 then some 1 else if s = fs2 then some 2 else if s = fs3 then some 3 else if s = fs4 then some 4 else if s = fs5 then some 5 else if s = fs6 then some 6 else if s = fs7 then some 7 else none
def fsNeed (i : Nat) : Nat := match i with | 1 => 1 | _ => 0
def fsMost (i : Nat) : Nat := match i with | 1 => 1 | 4 => 1 | 5 => 1 | 6 => 1 | 7 => 1 | _ => 0
def fsN (i : Nat) : ByteArray := match i with
  | 0 => fs0
  | 1 => fs1
  | 2 => fs2
  | 3 => fs3
  | 4 => fs4
  | 5 => fs5
  | 6 => fs6
  | 7 => fs7
  | _ => ⟨#[]⟩
theorem fsIdx_name {nm : ByteArray} {i : Nat} (h : fsIdx nm = some i) : i < 8 ∧ nm = fsN i := by
  unfold fsIdx at h
  by_cases h0 : nm = fs0
  · rw [if_pos h0] at h; obtain rfl := Option.some.inj h; exact ⟨by omega, h0⟩
  rw [if_neg h0] at h
  by_cases h1 : nm = fs1
  · rw [if_pos h1] at h; obtain rfl := Option.some.inj h; exact ⟨by omega, h1⟩
  rw [if_neg h1] at h
  by_cases h2 : nm = fs2
  · rw [if_pos h2] at h; obtain rfl := Option.some.inj h; exact ⟨by omega, h2⟩
  rw [if_neg h2] at h
  by_cases h3 : nm = fs3
  · rw [if_pos h3] at h; obtain rfl := Option.some.inj h; exact ⟨by omega, h3⟩
  rw [if_neg h3] at h
  by_cases h4 : nm = fs4
  · rw [if_pos h4] at h; obtain rfl := Option.some.inj h; exact ⟨by omega, h4⟩
  rw [if_neg h4] at h
  by_cases h5 : nm = fs5
  · rw [if_pos h5] at h; obtain rfl := Option.some.inj h; exact ⟨by omega, h5⟩
  rw [if_neg h5] at h
  by_cases h6 : nm = fs6
  · rw [if_pos h6] at h; obtain rfl := Option.some.inj h; exact ⟨by omega, h6⟩
  rw [if_neg h6] at h
  by_cases h7 : nm = fs7
  · rw [if_pos h7] at h; obtain rfl := Option.some.inj h; exact ⟨by omega, h7⟩
  rw [if_neg h7] at h
  cases h
theorem fsMost_le (i : Nat) : fsMost i ≤ 1 := by unfold fsMost; split <;> omega
/-- may a function be called so? -/
def fsOk (nm : ByteArray) (S : Ser) (n : Nat) : Bool := match fsIdx nm with | none => false | some i => isSer S && (decide (fsNeed i ≤ n) && decide (n ≤ fsMost i))
/-- the values that it makes -/
def fsVals (nm : ByteArray) (S : Ser) (k : Option Int) (has : Bool) : List (Bool × Int) := (List.range S.vals.length).map fun j => vP (fsV ((fsIdx nm).getD 0) S.step has k S.opts j)
end Go.Proofs.YtkablhamnepfnaaDoor
