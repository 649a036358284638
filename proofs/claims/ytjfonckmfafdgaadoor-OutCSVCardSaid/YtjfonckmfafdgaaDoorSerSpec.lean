/-
  Series in plain words.
-/
import Derived.Test.YtjfonckmfafdgaaDoorVal
import Derived.Test.YtjfonckmfafdgaaDoorElRow
namespace Go.Proofs.YtjfonckmfafdgaaDoor
open Go.RowKit
/-- a series -/
structure Ser where
  name : ByteArray
  start : Int
  step : Int
  vals : List (Bool × Int)
  cons : Int
/-- its cells, its row of values at v -/
def serC (S : Ser) (v : Value) : List Value := [.string S.name, .int .i64 S.start, .int .i64 S.step, v, .int .i64 S.cons]
def serV (S : Ser) (v : Value) : Value := .agg (serC S v).toArray
/-- may it be, but for its values? -/
def isHead (S : Ser) : Bool := decide (S.name.size ≤ 4096) && (decide (0 ≤ S.start) && (decide (S.start ≤ 4294967295) && (decide (1 ≤ S.step) && (decide (S.step ≤ 1099511627776) && (decide (S.vals.length ≤ 131072) && (decide (0 ≤ S.cons) && decide (S.cons ≤ 5)))))))
def isSer (S : Ser) : Bool := isHead S && S.vals.all (fun p => isR p.1 p.2)
def Ser.none : Ser := ⟨⟨#[]⟩, 0, 0, [], 0⟩
theorem all_hit {X : List (Bool × Int)} {i : Nat} (h : i < X.length) (hk : isR X[i].1 X[i].2 = false) : X.all (fun p => isR p.1 p.2) = false := by
  rw [List.all_eq_false]
  exact ⟨X[i], List.getElem_mem h, by rw [hk]; simp⟩
theorem all_miss {X : List (Bool × Int)} (h : ∀ i (hi : i < X.length), isR X[i].1 X[i].2 = true) : X.all (fun p => isR p.1 p.2) = true := by
  rw [List.all_eq_true]
  intro p hp
  obtain ⟨i, hi, rfl⟩ := List.getElem_of_mem hp
  exact h i hi
theorem all_at {X : List (Bool × Int)} (h : X.all (fun p => isR p.1 p.2) = true) (i : Nat) (hi : i < X.length) : isR X[i].1 X[i].2 = true := by
  rw [List.all_eq_true] at h
  exact h _ (List.getElem_mem hi)
end Go.Proofs.YtjfonckmfafdgaaDoor
