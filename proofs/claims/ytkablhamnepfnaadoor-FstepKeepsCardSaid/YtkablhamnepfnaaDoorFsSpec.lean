/-
  The eight functions on places, in plain words: what stands at each place. No program is named here.
-/
import Derived.Test.YtkablhamnepfnaaDoorFmSpec
namespace Go.Proofs.YtkablhamnepfnaaDoor
open Go.RowKit
/-- the value at a place, none beside the row -/
def atO (X : List (Option Int)) (i : Int) : Option Int := if 0 ≤ i then X.getD i.toNat none else none
/-- the nearest place ahead of i with a value; -1: there is none -/
def aheadI (X : List (Option Int)) : Nat → Int
  | 0 => -1
  | i + 1 => if (X.getD i none).isSome then (i : Int) else aheadI X i
/-- the nearest place from i on with a value, so many are looked at -/
def behindN (X : List (Option Int)) : Nat → Nat → Nat
  | 0, i => i
  | f + 1, i => if (X.getD i none).isSome then i else behindN X f (i + 1)
theorem aheadI_skip {X : List (Option Int)} {i : Nat} (h : X.getD i none = none) : aheadI X (i + 1) = aheadI X i := by
  show (if (X.getD i none).isSome then (i : Int) else aheadI X i) = _
  rw [h]; rfl
theorem aheadI_hit {X : List (Option Int)} {i : Nat} {x : Int} (h : X.getD i none = some x) : aheadI X (i + 1) = i := by
  show (if (X.getD i none).isSome then (i : Int) else aheadI X i) = _
  rw [h]; rfl
theorem aheadI_bound (X : List (Option Int)) : ∀ i : Nat, -1 ≤ aheadI X i ∧ aheadI X i < i
  | 0 => by show (-1 : Int) ≤ -1 ∧ (-1 : Int) < ((0 : Nat) : Int); omega
  | i + 1 => by
    have ih := aheadI_bound X i
    show -1 ≤ (if (X.getD i none).isSome then (i : Int) else aheadI X i) ∧ (if (X.getD i none).isSome then (i : Int) else aheadI X i) < ((i + 1 : Nat) : Int)
    split <;> omega
theorem aheadI_some (X : List (Option Int)) : ∀ i : Nat, 0 ≤ aheadI X i → ∃ x, X.getD (aheadI X i).toNat none = some x
  | 0, h => by exact absurd h (by show ¬ (0 : Int) ≤ -1; omega)
  | i + 1, h => by
    cases hv : X.getD i none with
    | none => rw [aheadI_skip hv] at h ⊢; exact aheadI_some X i h
    | some x => rw [aheadI_hit hv]; exact ⟨x, by simpa using hv⟩
theorem behindN_skip {X : List (Option Int)} {i : Nat} (hi : i < X.length) (h : X.getD i none = none) : behindN X (X.length - i) i = behindN X (X.length - (i + 1)) (i + 1) := by
  obtain ⟨f, hf⟩ : ∃ f, X.length - i = f + 1 := ⟨X.length - i - 1, by omega⟩
  rw [hf, show X.length - (i + 1) = f by omega]
  show (if (X.getD i none).isSome then i else behindN X f (i + 1)) = _
  rw [h]; rfl
theorem behindN_hit {X : List (Option Int)} {i : Nat} {x : Int} (hi : i < X.length) (h : X.getD i none = some x) : behindN X (X.length - i) i = i := by
  obtain ⟨f, hf⟩ : ∃ f, X.length - i = f + 1 := ⟨X.length - i - 1, by omega⟩
  rw [hf]
  show (if (X.getD i none).isSome then i else behindN X f (i + 1)) = _
  rw [h]; rfl
theorem behindN_end {X : List (Option Int)} {i : Nat} (hi : X.length ≤ i) : behindN X (X.length - i) i = i := by
  rw [show X.length - i = 0 by omega]; rfl
theorem behindN_bound (X : List (Option Int)) : ∀ f i : Nat, i ≤ behindN X f i ∧ behindN X f i ≤ i + f
  | 0, i => by show i ≤ i ∧ i ≤ i + 0; omega
  | f + 1, i => by
    have ih := behindN_bound X f (i + 1)
    show i ≤ (if (X.getD i none).isSome then i else behindN X f (i + 1)) ∧ (if (X.getD i none).isSome then i else behindN X f (i + 1)) ≤ i + (f + 1)
    split <;> omega
theorem behindN_some (X : List (Option Int)) : ∀ f i : Nat, behindN X f i < i + f → ∃ x, X.getD (behindN X f i) none = some x
  | 0, i, h => by exact absurd h (by show ¬ i < i + 0; omega)
  | f + 1, i, h => by
    have e : behindN X (f + 1) i = (if (X.getD i none).isSome then i else behindN X f (i + 1)) := rfl
    rw [e] at h ⊢
    cases hv : X.getD i none with
    | none =>
      rw [hv] at h
      exact behindN_some X f (i + 1) (by simpa [Nat.add_assoc, Nat.add_comm 1 f] using h)
    | some x => exact ⟨x, by simpa using hv⟩
/-- the three numbers put together -/
def sum3 (p q r : Option Int) : Option Int := sumO (sumO (sumO (some 0) p) q) r
/-- how much a value is above the one ahead; below it by way of k -/
def riseO (v a k : Option Int) : Option Int := match v, a with
  | some x, some y => match subO (some x) (some y) with
    | some d => if 0 ≤ d then some d else (match k with | some m => if x ≤ m then sum3 (subO (some m) (some y)) (some x) (some 1000000) else none | none => none)
    | none => match k with | some m => if x ≤ m then sum3 (subO (some m) (some y)) (some x) (some 1000000) else none | none => none
  | _, _ => none
/-- all values ahead of a place, together -/
def sumTo (X : List (Option Int)) : Nat → Option Int
  | 0 => some 0
  | j + 1 => match X.getD j none with
    | none => sumTo X j
    | some v => sumO (sumO (some 0) (sumTo X j)) (some v)
/-- are so many that are none to be filled? -/
def fillsB (has : Bool) (k : Option Int) (many : Int) : Bool := !has || (match wholeO k with | none => false | some n => decide (many ≤ n))
/-- what lies between two values -/
def lieO (xa xb : Option Int) (p q : Int) : Option Int := (subO xb xa).bind fun d => (mulDivO d p q).bind fun n => sumO (sumO (some 0) xa) (ofR n)
/-- what stands at a place -/
def fsV (i : Nat) (step : Int) (has : Bool) (k : Option Int) (X : List (Option Int)) (j : Nat) : Option Int :=
  match i with
  | 0 => if (X.getD j none).isSome && (decide (0 ≤ aheadI X j) && !(X.getD (aheadI X j).toNat none == X.getD j none)) then some 1000000 else some 0
  | 1 => match wholeO k with | none => none | some n => if -131072 ≤ n ∧ n ≤ 131072 then atO X ((j : Int) - n) else none
  | 2 => subO (X.getD j none) (atO X ((j : Int) - 1))
  | 3 => if (X.getD j none).isSome then sumTo X (j + 1) else none
  | 4 => match X.getD j none with
    | some x => some x
    | none => if 0 ≤ aheadI X j ∧ behindN X (X.length - (j + 1)) (j + 1) < X.length ∧ fillsB has k ((behindN X (X.length - (j + 1)) (j + 1) : Nat) - aheadI X j - 1) = true then lieO (X.getD (aheadI X j).toNat none) (X.getD (behindN X (X.length - (j + 1)) (j + 1)) none) ((j : Int) - aheadI X j) ((behindN X (X.length - (j + 1)) (j + 1) : Nat) - aheadI X j) else none
  | 5 => match X.getD j none with
    | some x => some x
    | none => if 0 ≤ aheadI X j ∧ fillsB has k ((behindN X (X.length - (j + 1)) (j + 1) : Nat) - aheadI X j - 1) = true then X.getD (aheadI X j).toNat none else none
  | 6 => riseO (X.getD j none) (atO X ((j : Int) - 1)) k
  | 7 => divO (riseO (X.getD j none) (atO X ((j : Int) - 1)) k) (intO step)
  | _ => none
theorem sum3_none (q r : Option Int) : sum3 none q r = none := by
  unfold sum3 sumO
  rfl
/-- where a value is not below the one ahead, and yet nothing has risen: too much -/
theorem rise_none {x y : Int} {k : Option Int} (h : y ≤ x) (hd : ∀ d, subO (some x) (some y) = some d → ¬ 0 ≤ d) : riseO (some x) (some y) k = none := by
  have e : subO (some x) (some y) = ofR (x - y) := rfl
  have hn : ofR (x - y) = none := by
    cases hz : ofR (x - y) with
    | none => rfl
    | some d =>
      have h0 := hd d (e.trans hz)
      unfold ofR at hz
      split at hz
      · have := Option.some.inj hz
        omega
      · cases hz
  have hr : ¬ (-4611686018427387904 ≤ x - y ∧ x - y ≤ 4611686018427387904) := by
    intro hh
    unfold ofR at hn
    rw [if_pos hh] at hn
    cases hn
  unfold riseO
  simp only []
  rw [e, hn]
  simp only []
  cases k with
  | none => rfl
  | some m =>
    by_cases hm : x ≤ m
    · simp only [if_pos hm]
      have : subO (some m) (some y) = none := by
        show ofR (m - y) = none
        unfold ofR
        exact if_neg (by omega)
      rw [this, sum3_none]
    · simp only [if_neg hm]
end Go.Proofs.YtkablhamnepfnaaDoor
