/-
  What the walks of Apply on places share, in plain words (as in FmApply).
-/
import Derived.Test.YtkablhamnepfnaaDoorFmSpec
import Derived.Test.YtkablhamnepfnaaDoorSerIs
namespace Go.Proofs.YtkablhamnepfnaaDoor
open Go.RowKit
/-- where a walk is to stand still -/
def StopP (p : Prop) : Prop := p
theorem stop_of {p : Prop} (h : StopP p) : p := h
/-- the first arg, if it is a number -/
def kOf (L : List (Bool × Int)) : Option Int := match L with | [] => none | p :: _ => vK p.1 p.2
def kAt (L : List (Bool × Int)) (i : Nat) : Option Int := if i = 0 then none else kOf L
theorem kAt_end {L : List (Bool × Int)} {i : Nat} (h : i = L.length) : kAt L i = kOf L := by
  unfold kAt
  split
  · rename_i h0; rw [h0] at h; have : L = [] := List.eq_nil_of_length_eq_zero h.symm; subst this; rfl
  · rfl
theorem kOf_fits (L : List (Bool × Int)) : Fits (kOf L) := by
  cases L with
  | nil => exact none_fits
  | cons p r => exact vK_fits _ _
/-- a series, if there is one, handed back -/
def SerPost (x : Option Ser) (w : World) (e : Ending) (w' : World) : Prop := ∃ u, e = .returned (.tuple #[.agg #[.string (x.getD Ser.none).name, .int .i64 (x.getD Ser.none).start, .int .i64 (x.getD Ser.none).step, u, .int .i64 (x.getD Ser.none).cons], .bool x.isSome]) ∧ ERow valE w' u (x.getD Ser.none).vals ∧ w.grownBy w' none
theorem isSer_parts {S : Ser} (h : isSer S = true) : (1 ≤ S.step ∧ S.step ≤ 1099511627776) ∧ 0 ≤ S.start ∧ S.start ≤ 4294967295 ∧ S.vals.length ≤ 131072 ∧ 0 ≤ S.cons ∧ S.cons ≤ 5 ∧ S.vals.all (fun p => isR p.1 p.2) = true := by
  unfold isSer isHead at h
  simp only [Bool.and_eq_true, decide_eq_true_eq] at h
  obtain ⟨⟨_, a1, a2, a3, a4, a5, a6, a7⟩, a8⟩ := h
  exact ⟨⟨a3, a4⟩, a1, a2, a5, a6, a7, a8⟩
theorem map_take_step {α β : Type} {f : α → β} {X : List α} {j : Nat} (h : j < X.length) : (X.map f).take (j + 1) = (X.map f).take j ++ [f X[j]] := by
  rw [List.take_add_one]
  simp [h]
end Go.Proofs.YtkablhamnepfnaaDoor
