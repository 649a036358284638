/-
  The walk of the reference's args. Printed by genfmrefd.py.
-/
import Derived.Test.YtfomknfjidbdcaaDoorFmRefABC
import Derived.Test.YtfomknfjidbdcaaDoorFmFind
namespace Go.Proofs.YtfomknfjidbdcaaDoor
open Go.RowKit
theorem eqF {nm : ByteArray} {l : List UInt8} {b : Bool} (h : decide (nm = ⟨l.toArray⟩) = b) : (nm.toList == l) = b := by
  have h1 := sbeq nm ⟨l.toArray⟩
  rw [ByteArray.toList_eq ⟨l.toArray⟩] at h1
  exact h1.trans h
theorem eqYes {nm : ByteArray} {l : List UInt8} (h : nm = ⟨l.toArray⟩) : (nm.toList == l) = true := eqF (decide_eq_true h)
theorem eqNo {nm : ByteArray} {l : List UInt8} (h : ¬ nm = ⟨l.toArray⟩) : (nm.toList == l) = false := eqF (decide_eq_false h)
/-- the name of a number -/
def fnN (i : Nat) : ByteArray := match i with
  | 0 => fn0
  | 1 => fn1
  | 2 => fn2
  | 3 => fn3
  | 4 => fn4
  | 5 => fn5
  | 6 => fn6
  | 7 => fn7
  | 8 => fn8
  | 9 => fn9
  | 10 => fn10
  | 11 => fn11
  | 12 => fn12
  | 13 => fn13
  | 14 => fn14
  | 15 => fn15
  | _ => ⟨#[]⟩
theorem fmIdx_name {nm : ByteArray} {i : Nat} (h : fmIdx nm = some i) : i < 16 ∧ nm = fnN i := by
  unfold fmIdx at h
  by_cases h0 : nm = fn0
  · rw [if_pos h0] at h; obtain rfl := Option.some.inj h; exact ⟨by omega, h0⟩
  rw [if_neg h0] at h
  by_cases h1 : nm = fn1
  · rw [if_pos h1] at h; obtain rfl := Option.some.inj h; exact ⟨by omega, h1⟩
  rw [if_neg h1] at h
  by_cases h2 : nm = fn2
  · rw [if_pos h2] at h; obtain rfl := Option.some.inj h; exact ⟨by omega, h2⟩
  rw [if_neg h2] at h
  by_cases h3 : nm = fn3
  · rw [if_pos h3] at h; obtain rfl := Option.some.inj h; exact ⟨by omega, h3⟩
  rw [if_neg h3] at h
  by_cases h4 : nm = fn4
  · rw [if_pos h4] at h; obtain rfl := Option.some.inj h; exact ⟨by omega, h4⟩
  rw [if_neg h4] at h
  by_cases h5 : nm = fn5
  · rw [if_pos h5] at h; obtain rfl := Option.some.inj h; exact ⟨by omega, h5⟩
  rw [if_neg h5] at h
  by_cases h6 : nm = fn6
  · rw [if_pos h6] at h; obtain rfl := Option.some.inj h; exact ⟨by omega, h6⟩
  rw [if_neg h6] at h
  by_cases h7 : nm = fn7
  · rw [if_pos h7] at h; obtain rfl := Option.some.inj h; exact ⟨by omega, h7⟩
  rw [if_neg h7] at h
  by_cases h8 : nm = fn8
  · rw [if_pos h8] at h; obtain rfl := Option.some.inj h; exact ⟨by omega, h8⟩
  rw [if_neg h8] at h
  by_cases h9 : nm = fn9
  · rw [if_pos h9] at h; obtain rfl := Option.some.inj h; exact ⟨by omega, h9⟩
  rw [if_neg h9] at h
  by_cases h10 : nm = fn10
  · rw [if_pos h10] at h; obtain rfl := Option.some.inj h; exact ⟨by omega, h10⟩
  rw [if_neg h10] at h
  by_cases h11 : nm = fn11
  · rw [if_pos h11] at h; obtain rfl := Option.some.inj h; exact ⟨by omega, h11⟩
  rw [if_neg h11] at h
  by_cases h12 : nm = fn12
  · rw [if_pos h12] at h; obtain rfl := Option.some.inj h; exact ⟨by omega, h12⟩
  rw [if_neg h12] at h
  by_cases h13 : nm = fn13
  · rw [if_pos h13] at h; obtain rfl := Option.some.inj h; exact ⟨by omega, h13⟩
  rw [if_neg h13] at h
  by_cases h14 : nm = fn14
  · rw [if_pos h14] at h; obtain rfl := Option.some.inj h; exact ⟨by omega, h14⟩
  rw [if_neg h14] at h
  by_cases h15 : nm = fn15
  · rw [if_pos h15] at h; obtain rfl := Option.some.inj h; exact ⟨by omega, h15⟩
  rw [if_neg h15] at h
  cases h
theorem fmIdx_no {nm : ByteArray} (h : fmIdx nm = none) : ∀ i, i < 16 → nm ≠ fnN i := by
  intro i hi e
  subst e
  match i, hi with
  | 0, _ => exact absurd h (by decide)
  | 1, _ => exact absurd h (by decide)
  | 2, _ => exact absurd h (by decide)
  | 3, _ => exact absurd h (by decide)
  | 4, _ => exact absurd h (by decide)
  | 5, _ => exact absurd h (by decide)
  | 6, _ => exact absurd h (by decide)
  | 7, _ => exact absurd h (by decide)
  | 8, _ => exact absurd h (by decide)
  | 9, _ => exact absurd h (by decide)
  | 10, _ => exact absurd h (by decide)
  | 11, _ => exact absurd h (by decide)
  | 12, _ => exact absurd h (by decide)
  | 13, _ => exact absurd h (by decide)
  | 14, _ => exact absurd h (by decide)
  | 15, _ => exact absurd h (by decide)
  | n + 16, hi => omega
/-- how few, how many, and whether it is known -/
def argsT (x : Option Nat) : Value := match x with | none => .tuple #[.int .i64 0, .int .i64 0, .bool false] | some i => .tuple #[.int .i64 (fmNeed i), .int .i64 (fmMost i), .bool true]
theorem results3 {fn : Func} {t u v : Tmp} (h : fn.results = #[.tmp t, .tmp u, .tmp v]) (tmps : Array Value) (P : Program) (w : World) : (results fn tmps).run P w = .ok (.tuple #[tmps.getD t undef, tmps.getD u undef, tmps.getD v undef]) w := by
  simp [results, h]
end Go.Proofs.YtfomknfjidbdcaaDoor
