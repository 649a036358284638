/-
  The plain law: what the reference makes of a value is what the program's function says.
-/
import Derived.Test.YtfomknfjidbdcaaGreatDoorFmRefF
namespace Go.Proofs.YtfomknfjidbdcaaGreatDoor
open Go.RowKit
/-- what the reference makes of a value -/
def refV (nm : ByteArray) (s : Int) (L : List (Bool × Int)) (low high : Option Int) (v : Option Int) : Option Int := match v with
  | none => nullO nm L
  | some x => if nm = fn7 ∨ nm = fn10 ∨ nm = fn12 then countO nm s (kOf L) (some x) else oneO nm low high (kOf L) x
theorem nullO_eq {i : Nat} (hi : i < 16) {L : List (Bool × Int)} (hn : fmNeed i ≤ L.length) (s : Int) (low high : Option Int) : nullO (fnN i) L = fmV i s (decide (0 < L.length)) (kOf L) low high none := by
  match i, hi, hn with
  | 0, _, _ | 1, _, _ | 3, _, _ | 4, _, _ | 5, _, _ | 6, _, _ | 7, _, _ | 11, _, _ | 13, _, _ | 14, _, _ => rfl
  | 2, _, _ => rfl
  | 8, _, _ => show none = (if ltO (kOf L) none then none else none); split <;> rfl
  | 9, _, _ => rfl
  | 10, _, _ => exact (fm10_none _).symm
  | 12, _, _ => exact (fm12_none _ _).symm
  | 15, _, _ =>
    show (if L.length = 0 then some 0 else kOf L) = (if decide (0 < L.length) then kOf L else some 0)
    by_cases h : L.length = 0
    · rw [if_pos h, if_neg (by simp [h])]
    · rw [if_neg h, if_pos (by simp; omega)]
  | n + 16, h, _ => omega
theorem oneO_eq {i : Nat} (hi : i < 16) {L : List (Bool × Int)} (s : Int) (low high : Option Int) (x : Int) : refV (fnN i) s L low high (some x) = fmV i s (decide (0 < L.length)) (kOf L) low high (some x) := by
  have hc7 : kOf L = none → fm7 (kOf L) (some x) = none := fun e => by rw [e]; rfl
  match i, hi with
  | 0, _ | 1, _ | 2, _ | 3, _ | 4, _ | 5, _ | 6, _ | 8, _ | 9, _ | 11, _ | 13, _ | 14, _ | 15, _ => rfl
  | 7, _ =>
    show countO fn7 s (kOf L) (some x) = fm7 (kOf L) (some x)
    cases h : kOf L with
    | none => rfl
    | some k => rfl
  | 10, _ =>
    show countO fn10 s (kOf L) (some x) = fm10 (kOf L) (some x)
    cases h : kOf L with
    | none => rfl
    | some k => rfl
  | 12, _ =>
    show countO fn12 s (kOf L) (some x) = fm12 s (kOf L) (some x)
    cases h : kOf L with
    | none => rfl
    | some k => rfl
  | n + 16, h => omega
theorem refV_eq {i : Nat} (hi : i < 16) {L : List (Bool × Int)} (hn : fmNeed i ≤ L.length) (s : Int) (low high v : Option Int) : refV (fnN i) s L low high v = fmV i s (decide (0 < L.length)) (kOf L) low high v := by
  cases v with
  | none => exact nullO_eq hi hn s low high
  | some x => exact oneO_eq hi s low high x
end Go.Proofs.YtfomknfjidbdcaaGreatDoor
