/-
  The walks of what makes and tells values in millionths, and what each returns.
-/
import Derived.Test.YtjfonckmfafdgaaDoorProg
import Derived.Test.YtjfonckmfafdgaaDoorShelf
import Derived.Test.YtjfonckmfafdgaaDoorAid
import Derived.Deep.QuietTactic
import Derived.BigQuiet
namespace Go.Proofs.YtjfonckmfafdgaaDoor
open Go.RowKit
/-- a value, or none -/
def valC (o : Option Int) : List Value := match o with
  | some n => [.bool true, .int .i64 n]
  | none => [.bool false, .int .i64 0]
def valV (o : Option Int) : Value := .agg (valC o).toArray
def ofR (n : Int) : Option Int := if -4611686018427387904 ≤ n ∧ n ≤ 4611686018427387904 then some n else none
/-- is it a value? -/
def isR (b : Bool) (n : Int) : Bool := if b then decide (-4611686018427387904 ≤ n) && decide (n ≤ 4611686018427387904) else n == 0
section
variable (w : World)
set_option maxHeartbeats 4000000 in
theorem fixedIs_any (b : Bool) (n : Int) : Calls Tryd.prog 46 #[.agg #[.bool b, .int .i64 n]] w fun e w' => e = .returned (.bool (isR b n)) ∧ w.grownBy w' none := by
  cases b
  · go_enter Tryd.func46, Tryd.ntmps46
    go_wp2_with fail
    go_ret
    exact ⟨ret_bool (by simp [isR]), (by have hb0 := (G.refl w none); (repeat first | with_reducible exact hb0 | with_reducible refine G.drewN ?_ _ | with_reducible refine G.drew ?_ | with_reducible refine G.alloc ?_ _ | with_reducible refine G.set ?_ _ (Or.inr rfl) | (with_reducible refine G.set ?_ _ (Or.inl ?_); rotate_left; focus (first | omega | (simp; done) | (simp; omega)))))⟩
  · by_cases h1 : -4611686018427387904 ≤ n
    · by_cases h2 : n ≤ 4611686018427387904 <;>
      · go_enter Tryd.func46, Tryd.ntmps46
        go_wp2_with fail
        go_ret
        exact ⟨ret_bool (by simp [isR, h1, h2]), (by have hb0 := (G.refl w none); (repeat first | with_reducible exact hb0 | with_reducible refine G.drewN ?_ _ | with_reducible refine G.drew ?_ | with_reducible refine G.alloc ?_ _ | with_reducible refine G.set ?_ _ (Or.inr rfl) | (with_reducible refine G.set ?_ _ (Or.inl ?_); rotate_left; focus (first | omega | (simp; done) | (simp; omega)))))⟩
    · go_enter Tryd.func46, Tryd.ntmps46
      go_wp2_with fail
      go_ret
      exact ⟨ret_bool (by simp [isR]; omega), (by have hb0 := (G.refl w none); (repeat first | with_reducible exact hb0 | with_reducible refine G.drewN ?_ _ | with_reducible refine G.drew ?_ | with_reducible refine G.alloc ?_ _ | with_reducible refine G.set ?_ _ (Or.inr rfl) | (with_reducible refine G.set ?_ _ (Or.inl ?_); rotate_left; focus (first | omega | (simp; done) | (simp; omega)))))⟩
set_option maxHeartbeats 4000000 in
theorem refIs_any (b : Bool) (n : Int) : Calls Tryd.prog 31 #[.agg #[.bool b, .int .i64 n]] w fun e w' => e = .returned (.bool (isR b n)) ∧ w.grownBy w' none := by
  cases b
  · go_enter Tryd.func31, Tryd.ntmps31
    go_wp2_with fail
    go_ret
    exact ⟨ret_bool (by simp [isR]), (by have hb0 := (G.refl w none); (repeat first | with_reducible exact hb0 | with_reducible refine G.drewN ?_ _ | with_reducible refine G.drew ?_ | with_reducible refine G.alloc ?_ _ | with_reducible refine G.set ?_ _ (Or.inr rfl) | (with_reducible refine G.set ?_ _ (Or.inl ?_); rotate_left; focus (first | omega | (simp; done) | (simp; omega)))))⟩
  · by_cases h1 : -4611686018427387904 ≤ n
    · by_cases h2 : n ≤ 4611686018427387904 <;>
      · go_enter Tryd.func31, Tryd.ntmps31
        go_wp2_with fail
        go_ret
        exact ⟨ret_bool (by simp [isR, h1, h2]), (by have hb0 := (G.refl w none); (repeat first | with_reducible exact hb0 | with_reducible refine G.drewN ?_ _ | with_reducible refine G.drew ?_ | with_reducible refine G.alloc ?_ _ | with_reducible refine G.set ?_ _ (Or.inr rfl) | (with_reducible refine G.set ?_ _ (Or.inl ?_); rotate_left; focus (first | omega | (simp; done) | (simp; omega)))))⟩
    · go_enter Tryd.func31, Tryd.ntmps31
      go_wp2_with fail
      go_ret
      exact ⟨ret_bool (by simp [isR]; omega), (by have hb0 := (G.refl w none); (repeat first | with_reducible exact hb0 | with_reducible refine G.drewN ?_ _ | with_reducible refine G.drew ?_ | with_reducible refine G.alloc ?_ _ | with_reducible refine G.set ?_ _ (Or.inr rfl) | (with_reducible refine G.set ?_ _ (Or.inl ?_); rotate_left; focus (first | omega | (simp; done) | (simp; omega)))))⟩
set_option maxHeartbeats 4000000 in
theorem known1_any (b : Bool) (n : Int) : Calls Tryd.prog 49 #[.agg #[.bool b, .int .i64 n]] w fun e w' => e = .returned (.bool (b && isR b n)) ∧ w.grownBy w' none := by
  cases b
  · go_enter Tryd.func49, Tryd.ntmps49
    go_wp2_with (go_at_call 31; refine (refIs_any _ _ _).mono ?_; rintro e w1 ⟨rfl, hg1⟩)
    go_ret
    exact ⟨ret_bool rfl, (by have hb0 := (G.refl w none); (repeat first | with_reducible exact hb0 | with_reducible refine G.drewN ?_ _ | with_reducible refine G.drew ?_ | with_reducible refine G.alloc ?_ _ | with_reducible refine G.set ?_ _ (Or.inr rfl) | (with_reducible refine G.set ?_ _ (Or.inl ?_); rotate_left; focus (first | omega | (simp; done) | (simp; omega)))))⟩
  · go_enter Tryd.func49, Tryd.ntmps49
    go_wp2_with (go_at_call 31; refine (refIs_any _ _ _).mono ?_; rintro e w1 ⟨rfl, hg1⟩)
    go_ret
    exact ⟨ret_bool (by simp), G.trans (by have hb0 := (G.refl w none); (repeat first | with_reducible exact hb0 | with_reducible refine G.drewN ?_ _ | with_reducible refine G.drew ?_ | with_reducible refine G.alloc ?_ _ | with_reducible refine G.set ?_ _ (Or.inr rfl) | (with_reducible refine G.set ?_ _ (Or.inl ?_); rotate_left; focus (first | omega | (simp; done) | (simp; omega))))) hg1⟩
set_option maxHeartbeats 4000000 in
theorem refOf_any (n : Int) : Calls Tryd.prog 35 #[.int .i64 n] w fun e w' => e = .returned (valV (ofR n)) ∧ w.grownBy w' none := by
  by_cases h1 : n < -4611686018427387904
  · have ho : ofR n = none := if_neg (by omega)
    rw [ho]; clear ho
    go_enter Tryd.func35, Tryd.ntmps35
    go_wp2_with fail
    refine ret_cell (valC none) w.heap.size 33 rfl rfl (Tryd.isAgg33 _) (Tryd.sizeOf33 _) rfl ?_ ⟨rfl, (by have hb0 := (G.refl w none); (repeat first | with_reducible exact hb0 | with_reducible refine G.drewN ?_ _ | with_reducible refine G.drew ?_ | with_reducible refine G.alloc ?_ _ | with_reducible refine G.set ?_ _ (Or.inr rfl) | (with_reducible refine G.set ?_ _ (Or.inl ?_); rotate_left; focus (first | omega | (simp; done) | (simp; omega)))))⟩
    exact Hx.new _ _ _
  by_cases h2 : 4611686018427387904 < n
  · have ho : ofR n = none := if_neg (by omega)
    rw [ho]; clear ho
    go_enter Tryd.func35, Tryd.ntmps35
    go_wp2_with fail
    refine ret_cell (valC none) w.heap.size 33 rfl rfl (Tryd.isAgg33 _) (Tryd.sizeOf33 _) rfl ?_ ⟨rfl, (by have hb0 := (G.refl w none); (repeat first | with_reducible exact hb0 | with_reducible refine G.drewN ?_ _ | with_reducible refine G.drew ?_ | with_reducible refine G.alloc ?_ _ | with_reducible refine G.set ?_ _ (Or.inr rfl) | (with_reducible refine G.set ?_ _ (Or.inl ?_); rotate_left; focus (first | omega | (simp; done) | (simp; omega)))))⟩
    exact Hx.new _ _ _
  · have ho : ofR n = some n := if_pos (by omega)
    rw [ho]; clear ho
    go_enter Tryd.func35, Tryd.ntmps35
    go_wp2_with fail
    refine ret_cell (valC (some n)) w.heap.size 33 rfl rfl (Tryd.isAgg33 _) (Tryd.sizeOf33 _) rfl ?_ ⟨rfl, (by have hb0 := (G.refl w none); (repeat first | with_reducible exact hb0 | with_reducible refine G.drewN ?_ _ | with_reducible refine G.drew ?_ | with_reducible refine G.alloc ?_ _ | with_reducible refine G.set ?_ _ (Or.inr rfl) | (with_reducible refine G.set ?_ _ (Or.inl ?_); rotate_left; focus (first | omega | (simp; done) | (simp; omega)))))⟩
    exact Hx.new _ _ _
end
end Go.Proofs.YtjfonckmfafdgaaDoor
