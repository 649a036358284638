/-
  The walk of the reference's args. Printed by genfmrefd.py.
-/
import Derived.Test.YtfomknfjidbdcaaGreatDoorFmRefABC
import Derived.Test.YtfomknfjidbdcaaGreatDoorFmFind
namespace Go.Proofs.YtfomknfjidbdcaaGreatDoor
open Go.RowKit
theorem eqF {nm : ByteArray} {l : List UInt8} {b : Bool} (h : decide (nm = ⟨l.toArray⟩) = b) : (nm.toList == l) = b := by
  have h1 := sbeq nm ⟨l.toArray⟩
  rw [ByteArray.toList_eq ⟨l.toArray⟩] at h1
  exact h1.trans h
theorem eqYes {nm : ByteArray} {l : List UInt8} (h : nm = ⟨l.toArray⟩) : (nm.toList == l) = true := eqF (decide_eq_true h)
theorem eqNo {nm : ByteArray} {l : List UInt8} (h : ¬ nm = ⟨l.toArray⟩) : (nm.toList == l) = false := eqF (decide_eq_false h)
/-- the name of a number -/
def fnN (i : Nat) : ByteArray := match i with
  | 0 => fn0
  | 1 => fn1
  | 2 => fn2
  | 3 => fn3
  | 4 => fn4
  | 5 => fn5
  | 6 => fn6
  | 7 => fn7
  | 8 => fn8
  | 9 => fn9
  | 10 => fn10
  | 11 => fn11
  | 12 => fn12
  | 13 => fn13
  | 14 => fn14
  | 15 => fn15
  | _ => ⟨#[]⟩
theorem fmIdx_name {nm : ByteArray} {i : Nat} (h : fmIdx nm = some i) : i < 16 ∧ nm = fnN i := by
  unfold fmIdx at h
  by_cases h0 : nm = fn0
  · rw [if_pos h0] at h; obtain rfl := Option.some.inj h; exact ⟨by omega, h0⟩
  rw [if_neg h0] at h
  by_cases h1 : nm = fn1
  · rw [if_pos h1] at h; obtain rfl := Option.some.inj h; exact ⟨by omega, h1⟩
  rw [if_neg h1] at h
  by_cases h2 : nm = fn2
  · rw [if_pos h2] at h; obtain rfl := Option.some.inj h; exact ⟨by omega, h2⟩
  rw [if_neg h2] at h
  by_cases h3 : nm = fn3
  · rw [if_pos h3] at h; obtain rfl := Option.some.inj h; exact ⟨by omega, h3⟩
  rw [if_neg h3] at h
  by_cases h4 : nm = fn4
  · rw [if_pos h4] at h; obtain rfl := Option.some.inj h; exact ⟨by omega, h4⟩
  rw [if_neg h4] at h
  by_cases h5 : nm = fn5
  · rw [if_pos h5] at h; obtain rfl := Option.some.inj h; exact ⟨by omega, h5⟩
  rw [if_neg h5] at h
  by_cases h6 : nm = fn6
  · rw [if_pos h6] at h; obtain rfl := Option.some.inj h; exact ⟨by omega, h6⟩
  rw [if_neg h6] at h
  by_cases h7 : nm = fn7
  · rw [if_pos h7] at h; obtain rfl := Option.some.inj h; exact ⟨by omega, h7⟩
  rw [if_neg h7] at h
  by_cases h8 : nm = fn8
  · rw [if_pos h8] at h; obtain rfl := Option.some.inj h; exact ⟨by omega, h8⟩
  rw [if_neg h8] at h
  by_cases h9 : nm = fn9
  · rw [if_pos h9] at h; obtain rfl := Option.some.inj h; exact ⟨by omega, h9⟩
  rw [if_neg h9] at h
  by_cases h10 : nm = fn10
  · rw [if_pos h10] at h; obtain rfl := Option.some.inj h; exact ⟨by omega, h10⟩
  rw [if_neg h10] at h
  by_cases h11 : nm = fn11
  · rw [if_pos h11] at h; obtain rfl := Option.some.inj h; exact ⟨by omega, h11⟩
  rw [if_neg h11] at h
  by_cases h12 : nm = fn12
  · rw [if_pos h12] at h; obtain rfl := Option.some.inj h; exact ⟨by omega, h12⟩
  rw [if_neg h12] at h
  by_cases h13 : nm = fn13
  · rw [if_pos h13] at h; obtain rfl := Option.some.inj h; exact ⟨by omega, h13⟩
  rw [if_neg h13] at h
  by_cases h14 : nm = fn14
  · rw [if_pos h14] at h; obtain rfl := Option.some.inj h; exact ⟨by omega, h14⟩
  rw [if_neg h14] at h
  by_cases h15 : nm = fn15
  · rw [if_pos h15] at h; obtain rfl := Option.some.inj h; exact ⟨by omega, h15⟩
  rw [if_neg h15] at h
  cases h
theorem fmIdx_no {nm : ByteArray} (h : fmIdx nm = none) : ∀ i, i < 16 → nm ≠ fnN i := by
  intro i hi e
  subst e
  match i, hi with
  | 0, _ => exact absurd h (by decide)
  | 1, _ => exact absurd h (by decide)
  | 2, _ => exact absurd h (by decide)
  | 3, _ => exact absurd h (by decide)
  | 4, _ => exact absurd h (by decide)
  | 5, _ => exact absurd h (by decide)
  | 6, _ => exact absurd h (by decide)
  | 7, _ => exact absurd h (by decide)
  | 8, _ => exact absurd h (by decide)
  | 9, _ => exact absurd h (by decide)
  | 10, _ => exact absurd h (by decide)
  | 11, _ => exact absurd h (by decide)
  | 12, _ => exact absurd h (by decide)
  | 13, _ => exact absurd h (by decide)
  | 14, _ => exact absurd h (by decide)
  | 15, _ => exact absurd h (by decide)
  | n + 16, hi => omega
/-- how few, how many, and whether it is known -/
def argsT (x : Option Nat) : Value := match x with | none => .tuple #[.int .i64 0, .int .i64 0, .bool false] | some i => .tuple #[.int .i64 (fmNeed i), .int .i64 (fmMost i), .bool true]
theorem results3 {fn : Func} {t u v : Tmp} (h : fn.results = #[.tmp t, .tmp u, .tmp v]) (tmps : Array Value) (P : Program) (w : World) : (results fn tmps).run P w = .ok (.tuple #[tmps.getD t undef, tmps.getD u undef, tmps.getD v undef]) w := by
  simp [results, h]
set_option maxHeartbeats 4000000 in
theorem args0_any (nm : ByteArray) (w : World) (h : nm = fn0) : Calls Tryz.prog 37 #[.string nm] w fun e w' => e = .returned (argsT (some 0)) ∧ w = w' := by
  have e0 : (nm.toList == ([97, 98, 115, 111, 108, 117, 116, 101] : List UInt8)) = true := eqYes h
  have e1 : (nm.toList == ([105, 110, 118, 101, 114, 116] : List UInt8)) = false := eqNo (by rw [h]; decide)
  have e2 : (nm.toList == ([105, 115, 78, 111, 110, 78, 117, 108, 108] : List UInt8)) = false := eqNo (by rw [h]; decide)
  have e3 : (nm.toList == ([109, 105, 110, 77, 97, 120] : List UInt8)) = false := eqNo (by rw [h]; decide)
  have e4 : (nm.toList == ([110, 101, 103, 97, 116, 101] : List UInt8)) = false := eqNo (by rw [h]; decide)
  have e5 : (nm.toList == ([111, 102, 102, 115, 101, 116] : List UInt8)) = false := eqNo (by rw [h]; decide)
  have e6 : (nm.toList == ([111, 102, 102, 115, 101, 116, 84, 111, 90, 101, 114, 111] : List UInt8)) = false := eqNo (by rw [h]; decide)
  have e7 : (nm.toList == ([112, 111, 119] : List UInt8)) = false := eqNo (by rw [h]; decide)
  have e8 : (nm.toList == ([114, 101, 109, 111, 118, 101, 65, 98, 111, 118, 101, 86, 97, 108, 117, 101] : List UInt8)) = false := eqNo (by rw [h]; decide)
  have e9 : (nm.toList == ([114, 101, 109, 111, 118, 101, 66, 101, 108, 111, 119, 86, 97, 108, 117, 101] : List UInt8)) = false := eqNo (by rw [h]; decide)
  have e10 : (nm.toList == ([114, 111, 117, 110, 100] : List UInt8)) = false := eqNo (by rw [h]; decide)
  have e11 : (nm.toList == ([115, 99, 97, 108, 101] : List UInt8)) = false := eqNo (by rw [h]; decide)
  have e12 : (nm.toList == ([115, 99, 97, 108, 101, 84, 111, 83, 101, 99, 111, 110, 100, 115] : List UInt8)) = false := eqNo (by rw [h]; decide)
  have e13 : (nm.toList == ([115, 105, 103, 110] : List UInt8)) = false := eqNo (by rw [h]; decide)
  have e14 : (nm.toList == ([115, 113, 117, 97, 114, 101, 82, 111, 111, 116] : List UInt8)) = false := eqNo (by rw [h]; decide)
  have e15 : (nm.toList == ([116, 114, 97, 110, 115, 102, 111, 114, 109, 78, 117, 108, 108] : List UInt8)) = false := eqNo (by rw [h]; decide)
  clear h
  go_enter Tryz.func37, Tryz.ntmps37
  go_wp2_with fail
  refine bodyPost_ret (results3 rfl _ _ _) rfl ⟨rfl, rfl⟩
set_option maxHeartbeats 4000000 in
theorem args1_any (nm : ByteArray) (w : World) (h : nm = fn1) : Calls Tryz.prog 37 #[.string nm] w fun e w' => e = .returned (argsT (some 1)) ∧ w = w' := by
  have e0 : (nm.toList == ([97, 98, 115, 111, 108, 117, 116, 101] : List UInt8)) = false := eqNo (by rw [h]; decide)
  have e1 : (nm.toList == ([105, 110, 118, 101, 114, 116] : List UInt8)) = true := eqYes h
  have e2 : (nm.toList == ([105, 115, 78, 111, 110, 78, 117, 108, 108] : List UInt8)) = false := eqNo (by rw [h]; decide)
  have e3 : (nm.toList == ([109, 105, 110, 77, 97, 120] : List UInt8)) = false := eqNo (by rw [h]; decide)
  have e4 : (nm.toList == ([110, 101, 103, 97, 116, 101] : List UInt8)) = false := eqNo (by rw [h]; decide)
  have e5 : (nm.toList == ([111, 102, 102, 115, 101, 116] : List UInt8)) = false := eqNo (by rw [h]; decide)
  have e6 : (nm.toList == ([111, 102, 102, 115, 101, 116, 84, 111, 90, 101, 114, 111] : List UInt8)) = false := eqNo (by rw [h]; decide)
  have e7 : (nm.toList == ([112, 111, 119] : List UInt8)) = false := eqNo (by rw [h]; decide)
  have e8 : (nm.toList == ([114, 101, 109, 111, 118, 101, 65, 98, 111, 118, 101, 86, 97, 108, 117, 101] : List UInt8)) = false := eqNo (by rw [h]; decide)
  have e9 : (nm.toList == ([114, 101, 109, 111, 118, 101, 66, 101, 108, 111, 119, 86, 97, 108, 117, 101] : List UInt8)) = false := eqNo (by rw [h]; decide)
  have e10 : (nm.toList == ([114, 111, 117, 110, 100] : List UInt8)) = false := eqNo (by rw [h]; decide)
  have e11 : (nm.toList == ([115, 99, 97, 108, 101] : List UInt8)) = false := eqNo (by rw [h]; decide)
  have e12 : (nm.toList == ([115, 99, 97, 108, 101, 84, 111, 83, 101, 99, 111, 110, 100, 115] : List UInt8)) = false := eqNo (by rw [h]; decide)
  have e13 : (nm.toList == ([115, 105, 103, 110] : List UInt8)) = false := eqNo (by rw [h]; decide)
  have e14 : (nm.toList == ([115, 113, 117, 97, 114, 101, 82, 111, 111, 116] : List UInt8)) = false := eqNo (by rw [h]; decide)
  have e15 : (nm.toList == ([116, 114, 97, 110, 115, 102, 111, 114, 109, 78, 117, 108, 108] : List UInt8)) = false := eqNo (by rw [h]; decide)
  clear h
  go_enter Tryz.func37, Tryz.ntmps37
  go_wp2_with fail
  refine bodyPost_ret (results3 rfl _ _ _) rfl ⟨rfl, rfl⟩
set_option maxHeartbeats 4000000 in
theorem args2_any (nm : ByteArray) (w : World) (h : nm = fn2) : Calls Tryz.prog 37 #[.string nm] w fun e w' => e = .returned (argsT (some 2)) ∧ w = w' := by
  have e0 : (nm.toList == ([97, 98, 115, 111, 108, 117, 116, 101] : List UInt8)) = false := eqNo (by rw [h]; decide)
  have e1 : (nm.toList == ([105, 110, 118, 101, 114, 116] : List UInt8)) = false := eqNo (by rw [h]; decide)
  have e2 : (nm.toList == ([105, 115, 78, 111, 110, 78, 117, 108, 108] : List UInt8)) = true := eqYes h
  have e3 : (nm.toList == ([109, 105, 110, 77, 97, 120] : List UInt8)) = false := eqNo (by rw [h]; decide)
  have e4 : (nm.toList == ([110, 101, 103, 97, 116, 101] : List UInt8)) = false := eqNo (by rw [h]; decide)
  have e5 : (nm.toList == ([111, 102, 102, 115, 101, 116] : List UInt8)) = false := eqNo (by rw [h]; decide)
  have e6 : (nm.toList == ([111, 102, 102, 115, 101, 116, 84, 111, 90, 101, 114, 111] : List UInt8)) = false := eqNo (by rw [h]; decide)
  have e7 : (nm.toList == ([112, 111, 119] : List UInt8)) = false := eqNo (by rw [h]; decide)
  have e8 : (nm.toList == ([114, 101, 109, 111, 118, 101, 65, 98, 111, 118, 101, 86, 97, 108, 117, 101] : List UInt8)) = false := eqNo (by rw [h]; decide)
  have e9 : (nm.toList == ([114, 101, 109, 111, 118, 101, 66, 101, 108, 111, 119, 86, 97, 108, 117, 101] : List UInt8)) = false := eqNo (by rw [h]; decide)
  have e10 : (nm.toList == ([114, 111, 117, 110, 100] : List UInt8)) = false := eqNo (by rw [h]; decide)
  have e11 : (nm.toList == ([115, 99, 97, 108, 101] : List UInt8)) = false := eqNo (by rw [h]; decide)
  have e12 : (nm.toList == ([115, 99, 97, 108, 101, 84, 111, 83, 101, 99, 111, 110, 100, 115] : List UInt8)) = false := eqNo (by rw [h]; decide)
  have e13 : (nm.toList == ([115, 105, 103, 110] : List UInt8)) = false := eqNo (by rw [h]; decide)
  have e14 : (nm.toList == ([115, 113, 117, 97, 114, 101, 82, 111, 111, 116] : List UInt8)) = false := eqNo (by rw [h]; decide)
  have e15 : (nm.toList == ([116, 114, 97, 110, 115, 102, 111, 114, 109, 78, 117, 108, 108] : List UInt8)) = false := eqNo (by rw [h]; decide)
  clear h
  go_enter Tryz.func37, Tryz.ntmps37
  go_wp2_with fail
  refine bodyPost_ret (results3 rfl _ _ _) rfl ⟨rfl, rfl⟩
set_option maxHeartbeats 4000000 in
theorem args3_any (nm : ByteArray) (w : World) (h : nm = fn3) : Calls Tryz.prog 37 #[.string nm] w fun e w' => e = .returned (argsT (some 3)) ∧ w = w' := by
  have e0 : (nm.toList == ([97, 98, 115, 111, 108, 117, 116, 101] : List UInt8)) = false := eqNo (by rw [h]; decide)
  have e1 : (nm.toList == ([105, 110, 118, 101, 114, 116] : List UInt8)) = false := eqNo (by rw [h]; decide)
  have e2 : (nm.toList == ([105, 115, 78, 111, 110, 78, 117, 108, 108] : List UInt8)) = false := eqNo (by rw [h]; decide)
  have e3 : (nm.toList == ([109, 105, 110, 77, 97, 120] : List UInt8)) = true := eqYes h
  have e4 : (nm.toList == ([110, 101, 103, 97, 116, 101] : List UInt8)) = false := eqNo (by rw [h]; decide)
  have e5 : (nm.toList == ([111, 102, 102, 115, 101, 116] : List UInt8)) = false := eqNo (by rw [h]; decide)
  have e6 : (nm.toList == ([111, 102, 102, 115, 101, 116, 84, 111, 90, 101, 114, 111] : List UInt8)) = false := eqNo (by rw [h]; decide)
  have e7 : (nm.toList == ([112, 111, 119] : List UInt8)) = false := eqNo (by rw [h]; decide)
  have e8 : (nm.toList == ([114, 101, 109, 111, 118, 101, 65, 98, 111, 118, 101, 86, 97, 108, 117, 101] : List UInt8)) = false := eqNo (by rw [h]; decide)
  have e9 : (nm.toList == ([114, 101, 109, 111, 118, 101, 66, 101, 108, 111, 119, 86, 97, 108, 117, 101] : List UInt8)) = false := eqNo (by rw [h]; decide)
  have e10 : (nm.toList == ([114, 111, 117, 110, 100] : List UInt8)) = false := eqNo (by rw [h]; decide)
  have e11 : (nm.toList == ([115, 99, 97, 108, 101] : List UInt8)) = false := eqNo (by rw [h]; decide)
  have e12 : (nm.toList == ([115, 99, 97, 108, 101, 84, 111, 83, 101, 99, 111, 110, 100, 115] : List UInt8)) = false := eqNo (by rw [h]; decide)
  have e13 : (nm.toList == ([115, 105, 103, 110] : List UInt8)) = false := eqNo (by rw [h]; decide)
  have e14 : (nm.toList == ([115, 113, 117, 97, 114, 101, 82, 111, 111, 116] : List UInt8)) = false := eqNo (by rw [h]; decide)
  have e15 : (nm.toList == ([116, 114, 97, 110, 115, 102, 111, 114, 109, 78, 117, 108, 108] : List UInt8)) = false := eqNo (by rw [h]; decide)
  clear h
  go_enter Tryz.func37, Tryz.ntmps37
  go_wp2_with fail
  refine bodyPost_ret (results3 rfl _ _ _) rfl ⟨rfl, rfl⟩
set_option maxHeartbeats 4000000 in
theorem args4_any (nm : ByteArray) (w : World) (h : nm = fn4) : Calls Tryz.prog 37 #[.string nm] w fun e w' => e = .returned (argsT (some 4)) ∧ w = w' := by
  have e0 : (nm.toList == ([97, 98, 115, 111, 108, 117, 116, 101] : List UInt8)) = false := eqNo (by rw [h]; decide)
  have e1 : (nm.toList == ([105, 110, 118, 101, 114, 116] : List UInt8)) = false := eqNo (by rw [h]; decide)
  have e2 : (nm.toList == ([105, 115, 78, 111, 110, 78, 117, 108, 108] : List UInt8)) = false := eqNo (by rw [h]; decide)
  have e3 : (nm.toList == ([109, 105, 110, 77, 97, 120] : List UInt8)) = false := eqNo (by rw [h]; decide)
  have e4 : (nm.toList == ([110, 101, 103, 97, 116, 101] : List UInt8)) = true := eqYes h
  have e5 : (nm.toList == ([111, 102, 102, 115, 101, 116] : List UInt8)) = false := eqNo (by rw [h]; decide)
  have e6 : (nm.toList == ([111, 102, 102, 115, 101, 116, 84, 111, 90, 101, 114, 111] : List UInt8)) = false := eqNo (by rw [h]; decide)
  have e7 : (nm.toList == ([112, 111, 119] : List UInt8)) = false := eqNo (by rw [h]; decide)
  have e8 : (nm.toList == ([114, 101, 109, 111, 118, 101, 65, 98, 111, 118, 101, 86, 97, 108, 117, 101] : List UInt8)) = false := eqNo (by rw [h]; decide)
  have e9 : (nm.toList == ([114, 101, 109, 111, 118, 101, 66, 101, 108, 111, 119, 86, 97, 108, 117, 101] : List UInt8)) = false := eqNo (by rw [h]; decide)
  have e10 : (nm.toList == ([114, 111, 117, 110, 100] : List UInt8)) = false := eqNo (by rw [h]; decide)
  have e11 : (nm.toList == ([115, 99, 97, 108, 101] : List UInt8)) = false := eqNo (by rw [h]; decide)
  have e12 : (nm.toList == ([115, 99, 97, 108, 101, 84, 111, 83, 101, 99, 111, 110, 100, 115] : List UInt8)) = false := eqNo (by rw [h]; decide)
  have e13 : (nm.toList == ([115, 105, 103, 110] : List UInt8)) = false := eqNo (by rw [h]; decide)
  have e14 : (nm.toList == ([115, 113, 117, 97, 114, 101, 82, 111, 111, 116] : List UInt8)) = false := eqNo (by rw [h]; decide)
  have e15 : (nm.toList == ([116, 114, 97, 110, 115, 102, 111, 114, 109, 78, 117, 108, 108] : List UInt8)) = false := eqNo (by rw [h]; decide)
  clear h
  go_enter Tryz.func37, Tryz.ntmps37
  go_wp2_with fail
  refine bodyPost_ret (results3 rfl _ _ _) rfl ⟨rfl, rfl⟩
set_option maxHeartbeats 4000000 in
theorem args5_any (nm : ByteArray) (w : World) (h : nm = fn5) : Calls Tryz.prog 37 #[.string nm] w fun e w' => e = .returned (argsT (some 5)) ∧ w = w' := by
  have e0 : (nm.toList == ([97, 98, 115, 111, 108, 117, 116, 101] : List UInt8)) = false := eqNo (by rw [h]; decide)
  have e1 : (nm.toList == ([105, 110, 118, 101, 114, 116] : List UInt8)) = false := eqNo (by rw [h]; decide)
  have e2 : (nm.toList == ([105, 115, 78, 111, 110, 78, 117, 108, 108] : List UInt8)) = false := eqNo (by rw [h]; decide)
  have e3 : (nm.toList == ([109, 105, 110, 77, 97, 120] : List UInt8)) = false := eqNo (by rw [h]; decide)
  have e4 : (nm.toList == ([110, 101, 103, 97, 116, 101] : List UInt8)) = false := eqNo (by rw [h]; decide)
  have e5 : (nm.toList == ([111, 102, 102, 115, 101, 116] : List UInt8)) = true := eqYes h
  have e6 : (nm.toList == ([111, 102, 102, 115, 101, 116, 84, 111, 90, 101, 114, 111] : List UInt8)) = false := eqNo (by rw [h]; decide)
  have e7 : (nm.toList == ([112, 111, 119] : List UInt8)) = false := eqNo (by rw [h]; decide)
  have e8 : (nm.toList == ([114, 101, 109, 111, 118, 101, 65, 98, 111, 118, 101, 86, 97, 108, 117, 101] : List UInt8)) = false := eqNo (by rw [h]; decide)
  have e9 : (nm.toList == ([114, 101, 109, 111, 118, 101, 66, 101, 108, 111, 119, 86, 97, 108, 117, 101] : List UInt8)) = false := eqNo (by rw [h]; decide)
  have e10 : (nm.toList == ([114, 111, 117, 110, 100] : List UInt8)) = false := eqNo (by rw [h]; decide)
  have e11 : (nm.toList == ([115, 99, 97, 108, 101] : List UInt8)) = false := eqNo (by rw [h]; decide)
  have e12 : (nm.toList == ([115, 99, 97, 108, 101, 84, 111, 83, 101, 99, 111, 110, 100, 115] : List UInt8)) = false := eqNo (by rw [h]; decide)
  have e13 : (nm.toList == ([115, 105, 103, 110] : List UInt8)) = false := eqNo (by rw [h]; decide)
  have e14 : (nm.toList == ([115, 113, 117, 97, 114, 101, 82, 111, 111, 116] : List UInt8)) = false := eqNo (by rw [h]; decide)
  have e15 : (nm.toList == ([116, 114, 97, 110, 115, 102, 111, 114, 109, 78, 117, 108, 108] : List UInt8)) = false := eqNo (by rw [h]; decide)
  clear h
  go_enter Tryz.func37, Tryz.ntmps37
  go_wp2_with fail
  refine bodyPost_ret (results3 rfl _ _ _) rfl ⟨rfl, rfl⟩
set_option maxHeartbeats 4000000 in
theorem args6_any (nm : ByteArray) (w : World) (h : nm = fn6) : Calls Tryz.prog 37 #[.string nm] w fun e w' => e = .returned (argsT (some 6)) ∧ w = w' := by
  have e0 : (nm.toList == ([97, 98, 115, 111, 108, 117, 116, 101] : List UInt8)) = false := eqNo (by rw [h]; decide)
  have e1 : (nm.toList == ([105, 110, 118, 101, 114, 116] : List UInt8)) = false := eqNo (by rw [h]; decide)
  have e2 : (nm.toList == ([105, 115, 78, 111, 110, 78, 117, 108, 108] : List UInt8)) = false := eqNo (by rw [h]; decide)
  have e3 : (nm.toList == ([109, 105, 110, 77, 97, 120] : List UInt8)) = false := eqNo (by rw [h]; decide)
  have e4 : (nm.toList == ([110, 101, 103, 97, 116, 101] : List UInt8)) = false := eqNo (by rw [h]; decide)
  have e5 : (nm.toList == ([111, 102, 102, 115, 101, 116] : List UInt8)) = false := eqNo (by rw [h]; decide)
  have e6 : (nm.toList == ([111, 102, 102, 115, 101, 116, 84, 111, 90, 101, 114, 111] : List UInt8)) = true := eqYes h
  have e7 : (nm.toList == ([112, 111, 119] : List UInt8)) = false := eqNo (by rw [h]; decide)
  have e8 : (nm.toList == ([114, 101, 109, 111, 118, 101, 65, 98, 111, 118, 101, 86, 97, 108, 117, 101] : List UInt8)) = false := eqNo (by rw [h]; decide)
  have e9 : (nm.toList == ([114, 101, 109, 111, 118, 101, 66, 101, 108, 111, 119, 86, 97, 108, 117, 101] : List UInt8)) = false := eqNo (by rw [h]; decide)
  have e10 : (nm.toList == ([114, 111, 117, 110, 100] : List UInt8)) = false := eqNo (by rw [h]; decide)
  have e11 : (nm.toList == ([115, 99, 97, 108, 101] : List UInt8)) = false := eqNo (by rw [h]; decide)
  have e12 : (nm.toList == ([115, 99, 97, 108, 101, 84, 111, 83, 101, 99, 111, 110, 100, 115] : List UInt8)) = false := eqNo (by rw [h]; decide)
  have e13 : (nm.toList == ([115, 105, 103, 110] : List UInt8)) = false := eqNo (by rw [h]; decide)
  have e14 : (nm.toList == ([115, 113, 117, 97, 114, 101, 82, 111, 111, 116] : List UInt8)) = false := eqNo (by rw [h]; decide)
  have e15 : (nm.toList == ([116, 114, 97, 110, 115, 102, 111, 114, 109, 78, 117, 108, 108] : List UInt8)) = false := eqNo (by rw [h]; decide)
  clear h
  go_enter Tryz.func37, Tryz.ntmps37
  go_wp2_with fail
  refine bodyPost_ret (results3 rfl _ _ _) rfl ⟨rfl, rfl⟩
set_option maxHeartbeats 4000000 in
theorem args7_any (nm : ByteArray) (w : World) (h : nm = fn7) : Calls Tryz.prog 37 #[.string nm] w fun e w' => e = .returned (argsT (some 7)) ∧ w = w' := by
  have e0 : (nm.toList == ([97, 98, 115, 111, 108, 117, 116, 101] : List UInt8)) = false := eqNo (by rw [h]; decide)
  have e1 : (nm.toList == ([105, 110, 118, 101, 114, 116] : List UInt8)) = false := eqNo (by rw [h]; decide)
  have e2 : (nm.toList == ([105, 115, 78, 111, 110, 78, 117, 108, 108] : List UInt8)) = false := eqNo (by rw [h]; decide)
  have e3 : (nm.toList == ([109, 105, 110, 77, 97, 120] : List UInt8)) = false := eqNo (by rw [h]; decide)
  have e4 : (nm.toList == ([110, 101, 103, 97, 116, 101] : List UInt8)) = false := eqNo (by rw [h]; decide)
  have e5 : (nm.toList == ([111, 102, 102, 115, 101, 116] : List UInt8)) = false := eqNo (by rw [h]; decide)
  have e6 : (nm.toList == ([111, 102, 102, 115, 101, 116, 84, 111, 90, 101, 114, 111] : List UInt8)) = false := eqNo (by rw [h]; decide)
  have e7 : (nm.toList == ([112, 111, 119] : List UInt8)) = true := eqYes h
  have e8 : (nm.toList == ([114, 101, 109, 111, 118, 101, 65, 98, 111, 118, 101, 86, 97, 108, 117, 101] : List UInt8)) = false := eqNo (by rw [h]; decide)
  have e9 : (nm.toList == ([114, 101, 109, 111, 118, 101, 66, 101, 108, 111, 119, 86, 97, 108, 117, 101] : List UInt8)) = false := eqNo (by rw [h]; decide)
  have e10 : (nm.toList == ([114, 111, 117, 110, 100] : List UInt8)) = false := eqNo (by rw [h]; decide)
  have e11 : (nm.toList == ([115, 99, 97, 108, 101] : List UInt8)) = false := eqNo (by rw [h]; decide)
  have e12 : (nm.toList == ([115, 99, 97, 108, 101, 84, 111, 83, 101, 99, 111, 110, 100, 115] : List UInt8)) = false := eqNo (by rw [h]; decide)
  have e13 : (nm.toList == ([115, 105, 103, 110] : List UInt8)) = false := eqNo (by rw [h]; decide)
  have e14 : (nm.toList == ([115, 113, 117, 97, 114, 101, 82, 111, 111, 116] : List UInt8)) = false := eqNo (by rw [h]; decide)
  have e15 : (nm.toList == ([116, 114, 97, 110, 115, 102, 111, 114, 109, 78, 117, 108, 108] : List UInt8)) = false := eqNo (by rw [h]; decide)
  clear h
  go_enter Tryz.func37, Tryz.ntmps37
  go_wp2_with fail
  refine bodyPost_ret (results3 rfl _ _ _) rfl ⟨rfl, rfl⟩
set_option maxHeartbeats 4000000 in
theorem args8_any (nm : ByteArray) (w : World) (h : nm = fn8) : Calls Tryz.prog 37 #[.string nm] w fun e w' => e = .returned (argsT (some 8)) ∧ w = w' := by
  have e0 : (nm.toList == ([97, 98, 115, 111, 108, 117, 116, 101] : List UInt8)) = false := eqNo (by rw [h]; decide)
  have e1 : (nm.toList == ([105, 110, 118, 101, 114, 116] : List UInt8)) = false := eqNo (by rw [h]; decide)
  have e2 : (nm.toList == ([105, 115, 78, 111, 110, 78, 117, 108, 108] : List UInt8)) = false := eqNo (by rw [h]; decide)
  have e3 : (nm.toList == ([109, 105, 110, 77, 97, 120] : List UInt8)) = false := eqNo (by rw [h]; decide)
  have e4 : (nm.toList == ([110, 101, 103, 97, 116, 101] : List UInt8)) = false := eqNo (by rw [h]; decide)
  have e5 : (nm.toList == ([111, 102, 102, 115, 101, 116] : List UInt8)) = false := eqNo (by rw [h]; decide)
  have e6 : (nm.toList == ([111, 102, 102, 115, 101, 116, 84, 111, 90, 101, 114, 111] : List UInt8)) = false := eqNo (by rw [h]; decide)
  have e7 : (nm.toList == ([112, 111, 119] : List UInt8)) = false := eqNo (by rw [h]; decide)
  have e8 : (nm.toList == ([114, 101, 109, 111, 118, 101, 65, 98, 111, 118, 101, 86, 97, 108, 117, 101] : List UInt8)) = true := eqYes h
  have e9 : (nm.toList == ([114, 101, 109, 111, 118, 101, 66, 101, 108, 111, 119, 86, 97, 108, 117, 101] : List UInt8)) = false := eqNo (by rw [h]; decide)
  have e10 : (nm.toList == ([114, 111, 117, 110, 100] : List UInt8)) = false := eqNo (by rw [h]; decide)
  have e11 : (nm.toList == ([115, 99, 97, 108, 101] : List UInt8)) = false := eqNo (by rw [h]; decide)
  have e12 : (nm.toList == ([115, 99, 97, 108, 101, 84, 111, 83, 101, 99, 111, 110, 100, 115] : List UInt8)) = false := eqNo (by rw [h]; decide)
  have e13 : (nm.toList == ([115, 105, 103, 110] : List UInt8)) = false := eqNo (by rw [h]; decide)
  have e14 : (nm.toList == ([115, 113, 117, 97, 114, 101, 82, 111, 111, 116] : List UInt8)) = false := eqNo (by rw [h]; decide)
  have e15 : (nm.toList == ([116, 114, 97, 110, 115, 102, 111, 114, 109, 78, 117, 108, 108] : List UInt8)) = false := eqNo (by rw [h]; decide)
  clear h
  go_enter Tryz.func37, Tryz.ntmps37
  go_wp2_with fail
  refine bodyPost_ret (results3 rfl _ _ _) rfl ⟨rfl, rfl⟩
set_option maxHeartbeats 4000000 in
theorem args9_any (nm : ByteArray) (w : World) (h : nm = fn9) : Calls Tryz.prog 37 #[.string nm] w fun e w' => e = .returned (argsT (some 9)) ∧ w = w' := by
  have e0 : (nm.toList == ([97, 98, 115, 111, 108, 117, 116, 101] : List UInt8)) = false := eqNo (by rw [h]; decide)
  have e1 : (nm.toList == ([105, 110, 118, 101, 114, 116] : List UInt8)) = false := eqNo (by rw [h]; decide)
  have e2 : (nm.toList == ([105, 115, 78, 111, 110, 78, 117, 108, 108] : List UInt8)) = false := eqNo (by rw [h]; decide)
  have e3 : (nm.toList == ([109, 105, 110, 77, 97, 120] : List UInt8)) = false := eqNo (by rw [h]; decide)
  have e4 : (nm.toList == ([110, 101, 103, 97, 116, 101] : List UInt8)) = false := eqNo (by rw [h]; decide)
  have e5 : (nm.toList == ([111, 102, 102, 115, 101, 116] : List UInt8)) = false := eqNo (by rw [h]; decide)
  have e6 : (nm.toList == ([111, 102, 102, 115, 101, 116, 84, 111, 90, 101, 114, 111] : List UInt8)) = false := eqNo (by rw [h]; decide)
  have e7 : (nm.toList == ([112, 111, 119] : List UInt8)) = false := eqNo (by rw [h]; decide)
  have e8 : (nm.toList == ([114, 101, 109, 111, 118, 101, 65, 98, 111, 118, 101, 86, 97, 108, 117, 101] : List UInt8)) = false := eqNo (by rw [h]; decide)
  have e9 : (nm.toList == ([114, 101, 109, 111, 118, 101, 66, 101, 108, 111, 119, 86, 97, 108, 117, 101] : List UInt8)) = true := eqYes h
  have e10 : (nm.toList == ([114, 111, 117, 110, 100] : List UInt8)) = false := eqNo (by rw [h]; decide)
  have e11 : (nm.toList == ([115, 99, 97, 108, 101] : List UInt8)) = false := eqNo (by rw [h]; decide)
  have e12 : (nm.toList == ([115, 99, 97, 108, 101, 84, 111, 83, 101, 99, 111, 110, 100, 115] : List UInt8)) = false := eqNo (by rw [h]; decide)
  have e13 : (nm.toList == ([115, 105, 103, 110] : List UInt8)) = false := eqNo (by rw [h]; decide)
  have e14 : (nm.toList == ([115, 113, 117, 97, 114, 101, 82, 111, 111, 116] : List UInt8)) = false := eqNo (by rw [h]; decide)
  have e15 : (nm.toList == ([116, 114, 97, 110, 115, 102, 111, 114, 109, 78, 117, 108, 108] : List UInt8)) = false := eqNo (by rw [h]; decide)
  clear h
  go_enter Tryz.func37, Tryz.ntmps37
  go_wp2_with fail
  refine bodyPost_ret (results3 rfl _ _ _) rfl ⟨rfl, rfl⟩
set_option maxHeartbeats 4000000 in
theorem args10_any (nm : ByteArray) (w : World) (h : nm = fn10) : Calls Tryz.prog 37 #[.string nm] w fun e w' => e = .returned (argsT (some 10)) ∧ w = w' := by
  have e0 : (nm.toList == ([97, 98, 115, 111, 108, 117, 116, 101] : List UInt8)) = false := eqNo (by rw [h]; decide)
  have e1 : (nm.toList == ([105, 110, 118, 101, 114, 116] : List UInt8)) = false := eqNo (by rw [h]; decide)
  have e2 : (nm.toList == ([105, 115, 78, 111, 110, 78, 117, 108, 108] : List UInt8)) = false := eqNo (by rw [h]; decide)
  have e3 : (nm.toList == ([109, 105, 110, 77, 97, 120] : List UInt8)) = false := eqNo (by rw [h]; decide)
  have e4 : (nm.toList == ([110, 101, 103, 97, 116, 101] : List UInt8)) = false := eqNo (by rw [h]; decide)
  have e5 : (nm.toList == ([111, 102, 102, 115, 101, 116] : List UInt8)) = false := eqNo (by rw [h]; decide)
  have e6 : (nm.toList == ([111, 102, 102, 115, 101, 116, 84, 111, 90, 101, 114, 111] : List UInt8)) = false := eqNo (by rw [h]; decide)
  have e7 : (nm.toList == ([112, 111, 119] : List UInt8)) = false := eqNo (by rw [h]; decide)
  have e8 : (nm.toList == ([114, 101, 109, 111, 118, 101, 65, 98, 111, 118, 101, 86, 97, 108, 117, 101] : List UInt8)) = false := eqNo (by rw [h]; decide)
  have e9 : (nm.toList == ([114, 101, 109, 111, 118, 101, 66, 101, 108, 111, 119, 86, 97, 108, 117, 101] : List UInt8)) = false := eqNo (by rw [h]; decide)
  have e10 : (nm.toList == ([114, 111, 117, 110, 100] : List UInt8)) = true := eqYes h
  have e11 : (nm.toList == ([115, 99, 97, 108, 101] : List UInt8)) = false := eqNo (by rw [h]; decide)
  have e12 : (nm.toList == ([115, 99, 97, 108, 101, 84, 111, 83, 101, 99, 111, 110, 100, 115] : List UInt8)) = false := eqNo (by rw [h]; decide)
  have e13 : (nm.toList == ([115, 105, 103, 110] : List UInt8)) = false := eqNo (by rw [h]; decide)
  have e14 : (nm.toList == ([115, 113, 117, 97, 114, 101, 82, 111, 111, 116] : List UInt8)) = false := eqNo (by rw [h]; decide)
  have e15 : (nm.toList == ([116, 114, 97, 110, 115, 102, 111, 114, 109, 78, 117, 108, 108] : List UInt8)) = false := eqNo (by rw [h]; decide)
  clear h
  go_enter Tryz.func37, Tryz.ntmps37
  go_wp2_with fail
  refine bodyPost_ret (results3 rfl _ _ _) rfl ⟨rfl, rfl⟩
set_option maxHeartbeats 4000000 in
theorem args11_any (nm : ByteArray) (w : World) (h : nm = fn11) : Calls Tryz.prog 37 #[.string nm] w fun e w' => e = .returned (argsT (some 11)) ∧ w = w' := by
  have e0 : (nm.toList == ([97, 98, 115, 111, 108, 117, 116, 101] : List UInt8)) = false := eqNo (by rw [h]; decide)
  have e1 : (nm.toList == ([105, 110, 118, 101, 114, 116] : List UInt8)) = false := eqNo (by rw [h]; decide)
  have e2 : (nm.toList == ([105, 115, 78, 111, 110, 78, 117, 108, 108] : List UInt8)) = false := eqNo (by rw [h]; decide)
  have e3 : (nm.toList == ([109, 105, 110, 77, 97, 120] : List UInt8)) = false := eqNo (by rw [h]; decide)
  have e4 : (nm.toList == ([110, 101, 103, 97, 116, 101] : List UInt8)) = false := eqNo (by rw [h]; decide)
  have e5 : (nm.toList == ([111, 102, 102, 115, 101, 116] : List UInt8)) = false := eqNo (by rw [h]; decide)
  have e6 : (nm.toList == ([111, 102, 102, 115, 101, 116, 84, 111, 90, 101, 114, 111] : List UInt8)) = false := eqNo (by rw [h]; decide)
  have e7 : (nm.toList == ([112, 111, 119] : List UInt8)) = false := eqNo (by rw [h]; decide)
  have e8 : (nm.toList == ([114, 101, 109, 111, 118, 101, 65, 98, 111, 118, 101, 86, 97, 108, 117, 101] : List UInt8)) = false := eqNo (by rw [h]; decide)
  have e9 : (nm.toList == ([114, 101, 109, 111, 118, 101, 66, 101, 108, 111, 119, 86, 97, 108, 117, 101] : List UInt8)) = false := eqNo (by rw [h]; decide)
  have e10 : (nm.toList == ([114, 111, 117, 110, 100] : List UInt8)) = false := eqNo (by rw [h]; decide)
  have e11 : (nm.toList == ([115, 99, 97, 108, 101] : List UInt8)) = true := eqYes h
  have e12 : (nm.toList == ([115, 99, 97, 108, 101, 84, 111, 83, 101, 99, 111, 110, 100, 115] : List UInt8)) = false := eqNo (by rw [h]; decide)
  have e13 : (nm.toList == ([115, 105, 103, 110] : List UInt8)) = false := eqNo (by rw [h]; decide)
  have e14 : (nm.toList == ([115, 113, 117, 97, 114, 101, 82, 111, 111, 116] : List UInt8)) = false := eqNo (by rw [h]; decide)
  have e15 : (nm.toList == ([116, 114, 97, 110, 115, 102, 111, 114, 109, 78, 117, 108, 108] : List UInt8)) = false := eqNo (by rw [h]; decide)
  clear h
  go_enter Tryz.func37, Tryz.ntmps37
  go_wp2_with fail
  refine bodyPost_ret (results3 rfl _ _ _) rfl ⟨rfl, rfl⟩
set_option maxHeartbeats 4000000 in
theorem args12_any (nm : ByteArray) (w : World) (h : nm = fn12) : Calls Tryz.prog 37 #[.string nm] w fun e w' => e = .returned (argsT (some 12)) ∧ w = w' := by
  have e0 : (nm.toList == ([97, 98, 115, 111, 108, 117, 116, 101] : List UInt8)) = false := eqNo (by rw [h]; decide)
  have e1 : (nm.toList == ([105, 110, 118, 101, 114, 116] : List UInt8)) = false := eqNo (by rw [h]; decide)
  have e2 : (nm.toList == ([105, 115, 78, 111, 110, 78, 117, 108, 108] : List UInt8)) = false := eqNo (by rw [h]; decide)
  have e3 : (nm.toList == ([109, 105, 110, 77, 97, 120] : List UInt8)) = false := eqNo (by rw [h]; decide)
  have e4 : (nm.toList == ([110, 101, 103, 97, 116, 101] : List UInt8)) = false := eqNo (by rw [h]; decide)
  have e5 : (nm.toList == ([111, 102, 102, 115, 101, 116] : List UInt8)) = false := eqNo (by rw [h]; decide)
  have e6 : (nm.toList == ([111, 102, 102, 115, 101, 116, 84, 111, 90, 101, 114, 111] : List UInt8)) = false := eqNo (by rw [h]; decide)
  have e7 : (nm.toList == ([112, 111, 119] : List UInt8)) = false := eqNo (by rw [h]; decide)
  have e8 : (nm.toList == ([114, 101, 109, 111, 118, 101, 65, 98, 111, 118, 101, 86, 97, 108, 117, 101] : List UInt8)) = false := eqNo (by rw [h]; decide)
  have e9 : (nm.toList == ([114, 101, 109, 111, 118, 101, 66, 101, 108, 111, 119, 86, 97, 108, 117, 101] : List UInt8)) = false := eqNo (by rw [h]; decide)
  have e10 : (nm.toList == ([114, 111, 117, 110, 100] : List UInt8)) = false := eqNo (by rw [h]; decide)
  have e11 : (nm.toList == ([115, 99, 97, 108, 101] : List UInt8)) = false := eqNo (by rw [h]; decide)
  have e12 : (nm.toList == ([115, 99, 97, 108, 101, 84, 111, 83, 101, 99, 111, 110, 100, 115] : List UInt8)) = true := eqYes h
  have e13 : (nm.toList == ([115, 105, 103, 110] : List UInt8)) = false := eqNo (by rw [h]; decide)
  have e14 : (nm.toList == ([115, 113, 117, 97, 114, 101, 82, 111, 111, 116] : List UInt8)) = false := eqNo (by rw [h]; decide)
  have e15 : (nm.toList == ([116, 114, 97, 110, 115, 102, 111, 114, 109, 78, 117, 108, 108] : List UInt8)) = false := eqNo (by rw [h]; decide)
  clear h
  go_enter Tryz.func37, Tryz.ntmps37
  go_wp2_with fail
  refine bodyPost_ret (results3 rfl _ _ _) rfl ⟨rfl, rfl⟩
set_option maxHeartbeats 4000000 in
theorem args13_any (nm : ByteArray) (w : World) (h : nm = fn13) : Calls Tryz.prog 37 #[.string nm] w fun e w' => e = .returned (argsT (some 13)) ∧ w = w' := by
  have e0 : (nm.toList == ([97, 98, 115, 111, 108, 117, 116, 101] : List UInt8)) = false := eqNo (by rw [h]; decide)
  have e1 : (nm.toList == ([105, 110, 118, 101, 114, 116] : List UInt8)) = false := eqNo (by rw [h]; decide)
  have e2 : (nm.toList == ([105, 115, 78, 111, 110, 78, 117, 108, 108] : List UInt8)) = false := eqNo (by rw [h]; decide)
  have e3 : (nm.toList == ([109, 105, 110, 77, 97, 120] : List UInt8)) = false := eqNo (by rw [h]; decide)
  have e4 : (nm.toList == ([110, 101, 103, 97, 116, 101] : List UInt8)) = false := eqNo (by rw [h]; decide)
  have e5 : (nm.toList == ([111, 102, 102, 115, 101, 116] : List UInt8)) = false := eqNo (by rw [h]; decide)
  have e6 : (nm.toList == ([111, 102, 102, 115, 101, 116, 84, 111, 90, 101, 114, 111] : List UInt8)) = false := eqNo (by rw [h]; decide)
  have e7 : (nm.toList == ([112, 111, 119] : List UInt8)) = false := eqNo (by rw [h]; decide)
  have e8 : (nm.toList == ([114, 101, 109, 111, 118, 101, 65, 98, 111, 118, 101, 86, 97, 108, 117, 101] : List UInt8)) = false := eqNo (by rw [h]; decide)
  have e9 : (nm.toList == ([114, 101, 109, 111, 118, 101, 66, 101, 108, 111, 119, 86, 97, 108, 117, 101] : List UInt8)) = false := eqNo (by rw [h]; decide)
  have e10 : (nm.toList == ([114, 111, 117, 110, 100] : List UInt8)) = false := eqNo (by rw [h]; decide)
  have e11 : (nm.toList == ([115, 99, 97, 108, 101] : List UInt8)) = false := eqNo (by rw [h]; decide)
  have e12 : (nm.toList == ([115, 99, 97, 108, 101, 84, 111, 83, 101, 99, 111, 110, 100, 115] : List UInt8)) = false := eqNo (by rw [h]; decide)
  have e13 : (nm.toList == ([115, 105, 103, 110] : List UInt8)) = true := eqYes h
  have e14 : (nm.toList == ([115, 113, 117, 97, 114, 101, 82, 111, 111, 116] : List UInt8)) = false := eqNo (by rw [h]; decide)
  have e15 : (nm.toList == ([116, 114, 97, 110, 115, 102, 111, 114, 109, 78, 117, 108, 108] : List UInt8)) = false := eqNo (by rw [h]; decide)
  clear h
  go_enter Tryz.func37, Tryz.ntmps37
  go_wp2_with fail
  refine bodyPost_ret (results3 rfl _ _ _) rfl ⟨rfl, rfl⟩
set_option maxHeartbeats 4000000 in
theorem args14_any (nm : ByteArray) (w : World) (h : nm = fn14) : Calls Tryz.prog 37 #[.string nm] w fun e w' => e = .returned (argsT (some 14)) ∧ w = w' := by
  have e0 : (nm.toList == ([97, 98, 115, 111, 108, 117, 116, 101] : List UInt8)) = false := eqNo (by rw [h]; decide)
  have e1 : (nm.toList == ([105, 110, 118, 101, 114, 116] : List UInt8)) = false := eqNo (by rw [h]; decide)
  have e2 : (nm.toList == ([105, 115, 78, 111, 110, 78, 117, 108, 108] : List UInt8)) = false := eqNo (by rw [h]; decide)
  have e3 : (nm.toList == ([109, 105, 110, 77, 97, 120] : List UInt8)) = false := eqNo (by rw [h]; decide)
  have e4 : (nm.toList == ([110, 101, 103, 97, 116, 101] : List UInt8)) = false := eqNo (by rw [h]; decide)
  have e5 : (nm.toList == ([111, 102, 102, 115, 101, 116] : List UInt8)) = false := eqNo (by rw [h]; decide)
  have e6 : (nm.toList == ([111, 102, 102, 115, 101, 116, 84, 111, 90, 101, 114, 111] : List UInt8)) = false := eqNo (by rw [h]; decide)
  have e7 : (nm.toList == ([112, 111, 119] : List UInt8)) = false := eqNo (by rw [h]; decide)
  have e8 : (nm.toList == ([114, 101, 109, 111, 118, 101, 65, 98, 111, 118, 101, 86, 97, 108, 117, 101] : List UInt8)) = false := eqNo (by rw [h]; decide)
  have e9 : (nm.toList == ([114, 101, 109, 111, 118, 101, 66, 101, 108, 111, 119, 86, 97, 108, 117, 101] : List UInt8)) = false := eqNo (by rw [h]; decide)
  have e10 : (nm.toList == ([114, 111, 117, 110, 100] : List UInt8)) = false := eqNo (by rw [h]; decide)
  have e11 : (nm.toList == ([115, 99, 97, 108, 101] : List UInt8)) = false := eqNo (by rw [h]; decide)
  have e12 : (nm.toList == ([115, 99, 97, 108, 101, 84, 111, 83, 101, 99, 111, 110, 100, 115] : List UInt8)) = false := eqNo (by rw [h]; decide)
  have e13 : (nm.toList == ([115, 105, 103, 110] : List UInt8)) = false := eqNo (by rw [h]; decide)
  have e14 : (nm.toList == ([115, 113, 117, 97, 114, 101, 82, 111, 111, 116] : List UInt8)) = true := eqYes h
  have e15 : (nm.toList == ([116, 114, 97, 110, 115, 102, 111, 114, 109, 78, 117, 108, 108] : List UInt8)) = false := eqNo (by rw [h]; decide)
  clear h
  go_enter Tryz.func37, Tryz.ntmps37
  go_wp2_with fail
  refine bodyPost_ret (results3 rfl _ _ _) rfl ⟨rfl, rfl⟩
set_option maxHeartbeats 4000000 in
theorem args15_any (nm : ByteArray) (w : World) (h : nm = fn15) : Calls Tryz.prog 37 #[.string nm] w fun e w' => e = .returned (argsT (some 15)) ∧ w = w' := by
  have e0 : (nm.toList == ([97, 98, 115, 111, 108, 117, 116, 101] : List UInt8)) = false := eqNo (by rw [h]; decide)
  have e1 : (nm.toList == ([105, 110, 118, 101, 114, 116] : List UInt8)) = false := eqNo (by rw [h]; decide)
  have e2 : (nm.toList == ([105, 115, 78, 111, 110, 78, 117, 108, 108] : List UInt8)) = false := eqNo (by rw [h]; decide)
  have e3 : (nm.toList == ([109, 105, 110, 77, 97, 120] : List UInt8)) = false := eqNo (by rw [h]; decide)
  have e4 : (nm.toList == ([110, 101, 103, 97, 116, 101] : List UInt8)) = false := eqNo (by rw [h]; decide)
  have e5 : (nm.toList == ([111, 102, 102, 115, 101, 116] : List UInt8)) = false := eqNo (by rw [h]; decide)
  have e6 : (nm.toList == ([111, 102, 102, 115, 101, 116, 84, 111, 90, 101, 114, 111] : List UInt8)) = false := eqNo (by rw [h]; decide)
  have e7 : (nm.toList == ([112, 111, 119] : List UInt8)) = false := eqNo (by rw [h]; decide)
  have e8 : (nm.toList == ([114, 101, 109, 111, 118, 101, 65, 98, 111, 118, 101, 86, 97, 108, 117, 101] : List UInt8)) = false := eqNo (by rw [h]; decide)
  have e9 : (nm.toList == ([114, 101, 109, 111, 118, 101, 66, 101, 108, 111, 119, 86, 97, 108, 117, 101] : List UInt8)) = false := eqNo (by rw [h]; decide)
  have e10 : (nm.toList == ([114, 111, 117, 110, 100] : List UInt8)) = false := eqNo (by rw [h]; decide)
  have e11 : (nm.toList == ([115, 99, 97, 108, 101] : List UInt8)) = false := eqNo (by rw [h]; decide)
  have e12 : (nm.toList == ([115, 99, 97, 108, 101, 84, 111, 83, 101, 99, 111, 110, 100, 115] : List UInt8)) = false := eqNo (by rw [h]; decide)
  have e13 : (nm.toList == ([115, 105, 103, 110] : List UInt8)) = false := eqNo (by rw [h]; decide)
  have e14 : (nm.toList == ([115, 113, 117, 97, 114, 101, 82, 111, 111, 116] : List UInt8)) = false := eqNo (by rw [h]; decide)
  have e15 : (nm.toList == ([116, 114, 97, 110, 115, 102, 111, 114, 109, 78, 117, 108, 108] : List UInt8)) = true := eqYes h
  clear h
  go_enter Tryz.func37, Tryz.ntmps37
  go_wp2_with fail
  refine bodyPost_ret (results3 rfl _ _ _) rfl ⟨rfl, rfl⟩
set_option maxHeartbeats 4000000 in
theorem argsNo_any (nm : ByteArray) (w : World) (h : ∀ i, i < 16 → nm ≠ fnN i) : Calls Tryz.prog 37 #[.string nm] w fun e w' => e = .returned (argsT none) ∧ w = w' := by
  have e0 : (nm.toList == ([97, 98, 115, 111, 108, 117, 116, 101] : List UInt8)) = false := eqNo (h 0 (by omega))
  have e1 : (nm.toList == ([105, 110, 118, 101, 114, 116] : List UInt8)) = false := eqNo (h 1 (by omega))
  have e2 : (nm.toList == ([105, 115, 78, 111, 110, 78, 117, 108, 108] : List UInt8)) = false := eqNo (h 2 (by omega))
  have e3 : (nm.toList == ([109, 105, 110, 77, 97, 120] : List UInt8)) = false := eqNo (h 3 (by omega))
  have e4 : (nm.toList == ([110, 101, 103, 97, 116, 101] : List UInt8)) = false := eqNo (h 4 (by omega))
  have e5 : (nm.toList == ([111, 102, 102, 115, 101, 116] : List UInt8)) = false := eqNo (h 5 (by omega))
  have e6 : (nm.toList == ([111, 102, 102, 115, 101, 116, 84, 111, 90, 101, 114, 111] : List UInt8)) = false := eqNo (h 6 (by omega))
  have e7 : (nm.toList == ([112, 111, 119] : List UInt8)) = false := eqNo (h 7 (by omega))
  have e8 : (nm.toList == ([114, 101, 109, 111, 118, 101, 65, 98, 111, 118, 101, 86, 97, 108, 117, 101] : List UInt8)) = false := eqNo (h 8 (by omega))
  have e9 : (nm.toList == ([114, 101, 109, 111, 118, 101, 66, 101, 108, 111, 119, 86, 97, 108, 117, 101] : List UInt8)) = false := eqNo (h 9 (by omega))
  have e10 : (nm.toList == ([114, 111, 117, 110, 100] : List UInt8)) = false := eqNo (h 10 (by omega))
  have e11 : (nm.toList == ([115, 99, 97, 108, 101] : List UInt8)) = false := eqNo (h 11 (by omega))
  have e12 : (nm.toList == ([115, 99, 97, 108, 101, 84, 111, 83, 101, 99, 111, 110, 100, 115] : List UInt8)) = false := eqNo (h 12 (by omega))
  have e13 : (nm.toList == ([115, 105, 103, 110] : List UInt8)) = false := eqNo (h 13 (by omega))
  have e14 : (nm.toList == ([115, 113, 117, 97, 114, 101, 82, 111, 111, 116] : List UInt8)) = false := eqNo (h 14 (by omega))
  have e15 : (nm.toList == ([116, 114, 97, 110, 115, 102, 111, 114, 109, 78, 117, 108, 108] : List UInt8)) = false := eqNo (h 15 (by omega))
  clear h
  go_enter Tryz.func37, Tryz.ntmps37
  go_wp2_with fail
  refine bodyPost_ret (results3 rfl _ _ _) rfl ⟨rfl, rfl⟩
theorem argsOf_any (nm : ByteArray) (w : World) : Calls Tryz.prog 37 #[.string nm] w fun e w' => e = .returned (argsT (fmIdx nm)) ∧ w = w' := by
  cases hx : fmIdx nm with
  | none => exact argsNo_any nm w (fmIdx_no hx)
  | some i =>
    obtain ⟨hi, hn⟩ := fmIdx_name hx
    match i, hi, hn with
    | 0, _, h => exact args0_any nm w h
    | 1, _, h => exact args1_any nm w h
    | 2, _, h => exact args2_any nm w h
    | 3, _, h => exact args3_any nm w h
    | 4, _, h => exact args4_any nm w h
    | 5, _, h => exact args5_any nm w h
    | 6, _, h => exact args6_any nm w h
    | 7, _, h => exact args7_any nm w h
    | 8, _, h => exact args8_any nm w h
    | 9, _, h => exact args9_any nm w h
    | 10, _, h => exact args10_any nm w h
    | 11, _, h => exact args11_any nm w h
    | 12, _, h => exact args12_any nm w h
    | 13, _, h => exact args13_any nm w h
    | 14, _, h => exact args14_any nm w h
    | 15, _, h => exact args15_any nm w h
    | n + 16, h, _ => omega
end Go.Proofs.YtfomknfjidbdcaaGreatDoor
