/-
  The walks of what makes and tells values in millionths, and what each returns.
-/
import Derived.Test.YtiakgjijlhfneaaGreatDoorProg
import Derived.Test.YtiakgjijlhfneaaGreatDoorShelf
import Derived.Test.YtiakgjijlhfneaaGreatDoorAid
import Derived.Deep.QuietTactic
import Derived.BigQuiet
namespace Go.Proofs.YtiakgjijlhfneaaGreatDoor
open Go.RowKit
/-- a value, or none -/
def valC (o : Option Int) : List Value := match o with
  | some n => [.bool true, .int .i64 n]
  | none => [.bool false, .int .i64 0]
def valV (o : Option Int) : Value := .agg (valC o).toArray
def ofR (n : Int) : Option Int := if -4611686018427387904 ≤ n ∧ n ≤ 4611686018427387904 then some n else none
/-- is it a value? -/
def isR (b : Bool) (n : Int) : Bool := if b then decide (-4611686018427387904 ≤ n) && decide (n ≤ 4611686018427387904) else n == 0
section
variable (w : World)
set_option maxHeartbeats 4000000 in
theorem fixedIs_any (b : Bool) (n : Int) : Calls Tryz.prog 63 #[.agg #[.bool b, .int .i64 n]] w fun e w' => e = .returned (.bool (isR b n)) ∧ w.grownBy w' none := by
  cases b
  · go_enter Tryz.func63, Tryz.ntmps63
    go_wp2_with fail
    go_ret
    exact ⟨ret_bool (by simp [isR]), (by have hb0 := (G.refl w none); (repeat first | with_reducible exact hb0 | with_reducible refine G.drewN ?_ _ | with_reducible refine G.drew ?_ | with_reducible refine G.alloc ?_ _ | with_reducible refine G.set ?_ _ (Or.inr rfl) | (with_reducible refine G.set ?_ _ (Or.inl ?_); rotate_left; focus (first | omega | (simp; done) | (simp; omega)))))⟩
  · by_cases h1 : -4611686018427387904 ≤ n
    · by_cases h2 : n ≤ 4611686018427387904 <;>
      · go_enter Tryz.func63, Tryz.ntmps63
        go_wp2_with fail
        go_ret
        exact ⟨ret_bool (by simp [isR, h1, h2]), (by have hb0 := (G.refl w none); (repeat first | with_reducible exact hb0 | with_reducible refine G.drewN ?_ _ | with_reducible refine G.drew ?_ | with_reducible refine G.alloc ?_ _ | with_reducible refine G.set ?_ _ (Or.inr rfl) | (with_reducible refine G.set ?_ _ (Or.inl ?_); rotate_left; focus (first | omega | (simp; done) | (simp; omega)))))⟩
    · go_enter Tryz.func63, Tryz.ntmps63
      go_wp2_with fail
      go_ret
      exact ⟨ret_bool (by simp [isR]; omega), (by have hb0 := (G.refl w none); (repeat first | with_reducible exact hb0 | with_reducible refine G.drewN ?_ _ | with_reducible refine G.drew ?_ | with_reducible refine G.alloc ?_ _ | with_reducible refine G.set ?_ _ (Or.inr rfl) | (with_reducible refine G.set ?_ _ (Or.inl ?_); rotate_left; focus (first | omega | (simp; done) | (simp; omega)))))⟩
set_option maxHeartbeats 4000000 in
theorem refIs_any (b : Bool) (n : Int) : Calls Tryz.prog 42 #[.agg #[.bool b, .int .i64 n]] w fun e w' => e = .returned (.bool (isR b n)) ∧ w.grownBy w' none := by
  cases b
  · go_enter Tryz.func42, Tryz.ntmps42
    go_wp2_with fail
    go_ret
    exact ⟨ret_bool (by simp [isR]), (by have hb0 := (G.refl w none); (repeat first | with_reducible exact hb0 | with_reducible refine G.drewN ?_ _ | with_reducible refine G.drew ?_ | with_reducible refine G.alloc ?_ _ | with_reducible refine G.set ?_ _ (Or.inr rfl) | (with_reducible refine G.set ?_ _ (Or.inl ?_); rotate_left; focus (first | omega | (simp; done) | (simp; omega)))))⟩
  · by_cases h1 : -4611686018427387904 ≤ n
    · by_cases h2 : n ≤ 4611686018427387904 <;>
      · go_enter Tryz.func42, Tryz.ntmps42
        go_wp2_with fail
        go_ret
        exact ⟨ret_bool (by simp [isR, h1, h2]), (by have hb0 := (G.refl w none); (repeat first | with_reducible exact hb0 | with_reducible refine G.drewN ?_ _ | with_reducible refine G.drew ?_ | with_reducible refine G.alloc ?_ _ | with_reducible refine G.set ?_ _ (Or.inr rfl) | (with_reducible refine G.set ?_ _ (Or.inl ?_); rotate_left; focus (first | omega | (simp; done) | (simp; omega)))))⟩
    · go_enter Tryz.func42, Tryz.ntmps42
      go_wp2_with fail
      go_ret
      exact ⟨ret_bool (by simp [isR]; omega), (by have hb0 := (G.refl w none); (repeat first | with_reducible exact hb0 | with_reducible refine G.drewN ?_ _ | with_reducible refine G.drew ?_ | with_reducible refine G.alloc ?_ _ | with_reducible refine G.set ?_ _ (Or.inr rfl) | (with_reducible refine G.set ?_ _ (Or.inl ?_); rotate_left; focus (first | omega | (simp; done) | (simp; omega)))))⟩
set_option maxHeartbeats 4000000 in
theorem known1_any (b : Bool) (n : Int) : Calls Tryz.prog 67 #[.agg #[.bool b, .int .i64 n]] w fun e w' => e = .returned (.bool (b && isR b n)) ∧ w.grownBy w' none := by
  cases b
  · go_enter Tryz.func67, Tryz.ntmps67
    go_wp2_with (go_at_call 42; refine (refIs_any _ _ _).mono ?_; rintro e w1 ⟨rfl, hg1⟩)
    go_ret
    exact ⟨ret_bool rfl, (by have hb0 := (G.refl w none); (repeat first | with_reducible exact hb0 | with_reducible refine G.drewN ?_ _ | with_reducible refine G.drew ?_ | with_reducible refine G.alloc ?_ _ | with_reducible refine G.set ?_ _ (Or.inr rfl) | (with_reducible refine G.set ?_ _ (Or.inl ?_); rotate_left; focus (first | omega | (simp; done) | (simp; omega)))))⟩
  · go_enter Tryz.func67, Tryz.ntmps67
    go_wp2_with (go_at_call 42; refine (refIs_any _ _ _).mono ?_; rintro e w1 ⟨rfl, hg1⟩)
    go_ret
    exact ⟨ret_bool (by simp), G.trans (by have hb0 := (G.refl w none); (repeat first | with_reducible exact hb0 | with_reducible refine G.drewN ?_ _ | with_reducible refine G.drew ?_ | with_reducible refine G.alloc ?_ _ | with_reducible refine G.set ?_ _ (Or.inr rfl) | (with_reducible refine G.set ?_ _ (Or.inl ?_); rotate_left; focus (first | omega | (simp; done) | (simp; omega))))) hg1⟩
set_option maxHeartbeats 4000000 in
theorem fixedOf_any (n : Int) : Calls Tryz.prog 46 #[.int .i64 n] w fun e w' => e = .returned (valV (ofR n)) ∧ w.grownBy w' none := by
  by_cases h : -4611686018427387904 ≤ n ∧ n ≤ 4611686018427387904
  · have hi : isR true n = true := by simp [isR, h.1, h.2]
    have ho : ofR n = some n := if_pos h
    rw [ho]; clear ho h
    go_enter Tryz.func46, Tryz.ntmps46
    go_wp2_with (go_at_call 63; refine (fixedIs_any _ _ _).mono ?_; rintro e w1 ⟨rfl, hg1⟩; have hx := Hx.kept (Hx.alloc (Hx.new w #[.bool false, .int .i64 0] 76) (.cells #[.bool true, .int .i64 n] 76)) hg1 (by simp); have hy : Hx w1 (w.heap.size + 1) [.bool true, .int .i64 n] 76 := Hx.kept (Hx.new' (w := w.alloc (.cells #[.bool false, .int .i64 0] 76)) (by simp) rfl) hg1 (by simp); have hgw := G.trans (G.alloc (G.alloc (G.refl w none) _) _) hg1; have x0 := hx.cell 0; have x1 := hx.cell 1; have x2 := hx.free 0; have x3 := hx.free 1; have y0 := hy.cell 0; have y1 := hy.cell 1)
    refine ret_cell (valC (some n)) w.heap.size 76 rfl rfl (Tryz.isAgg76 _) (Tryz.sizeOf76 _) rfl ?_ ⟨rfl, (by exact G.go hgw)⟩
    exact (by first | exact Hx.go hx | exact Hx.go2)
  · have hi : isR true n = false := by simp [isR]; omega
    have ho : ofR n = none := if_neg h
    rw [ho]; clear ho h
    go_enter Tryz.func46, Tryz.ntmps46
    go_wp2_with (go_at_call 63; refine (fixedIs_any _ _ _).mono ?_; rintro e w1 ⟨rfl, hg1⟩; have hx := Hx.kept (Hx.alloc (Hx.new w #[.bool false, .int .i64 0] 76) (.cells #[.bool true, .int .i64 n] 76)) hg1 (by simp); have hy : Hx w1 (w.heap.size + 1) [.bool true, .int .i64 n] 76 := Hx.kept (Hx.new' (w := w.alloc (.cells #[.bool false, .int .i64 0] 76)) (by simp) rfl) hg1 (by simp); have hgw := G.trans (G.alloc (G.alloc (G.refl w none) _) _) hg1; have x0 := hx.cell 0; have x1 := hx.cell 1; have x2 := hx.free 0; have x3 := hx.free 1; have y0 := hy.cell 0; have y1 := hy.cell 1)
    refine ret_cell (valC none) w.heap.size 76 rfl rfl (Tryz.isAgg76 _) (Tryz.sizeOf76 _) rfl ?_ ⟨rfl, (by exact G.go hgw)⟩
    exact (by first | exact Hx.go hx | exact Hx.go2)
set_option maxHeartbeats 4000000 in
theorem refOf_any (n : Int) : Calls Tryz.prog 60 #[.int .i64 n] w fun e w' => e = .returned (valV (ofR n)) ∧ w.grownBy w' none := by
  by_cases h1 : n < -4611686018427387904
  · have ho : ofR n = none := if_neg (by omega)
    rw [ho]; clear ho
    go_enter Tryz.func60, Tryz.ntmps60
    go_wp2_with fail
    refine ret_cell (valC none) w.heap.size 76 rfl rfl (Tryz.isAgg76 _) (Tryz.sizeOf76 _) rfl ?_ ⟨rfl, (by have hb0 := (G.refl w none); (repeat first | with_reducible exact hb0 | with_reducible refine G.drewN ?_ _ | with_reducible refine G.drew ?_ | with_reducible refine G.alloc ?_ _ | with_reducible refine G.set ?_ _ (Or.inr rfl) | (with_reducible refine G.set ?_ _ (Or.inl ?_); rotate_left; focus (first | omega | (simp; done) | (simp; omega)))))⟩
    exact Hx.new _ _ _
  by_cases h2 : 4611686018427387904 < n
  · have ho : ofR n = none := if_neg (by omega)
    rw [ho]; clear ho
    go_enter Tryz.func60, Tryz.ntmps60
    go_wp2_with fail
    refine ret_cell (valC none) w.heap.size 76 rfl rfl (Tryz.isAgg76 _) (Tryz.sizeOf76 _) rfl ?_ ⟨rfl, (by have hb0 := (G.refl w none); (repeat first | with_reducible exact hb0 | with_reducible refine G.drewN ?_ _ | with_reducible refine G.drew ?_ | with_reducible refine G.alloc ?_ _ | with_reducible refine G.set ?_ _ (Or.inr rfl) | (with_reducible refine G.set ?_ _ (Or.inl ?_); rotate_left; focus (first | omega | (simp; done) | (simp; omega)))))⟩
    exact Hx.new _ _ _
  · have ho : ofR n = some n := if_pos (by omega)
    rw [ho]; clear ho
    go_enter Tryz.func60, Tryz.ntmps60
    go_wp2_with fail
    refine ret_cell (valC (some n)) w.heap.size 76 rfl rfl (Tryz.isAgg76 _) (Tryz.sizeOf76 _) rfl ?_ ⟨rfl, (by have hb0 := (G.refl w none); (repeat first | with_reducible exact hb0 | with_reducible refine G.drewN ?_ _ | with_reducible refine G.drew ?_ | with_reducible refine G.alloc ?_ _ | with_reducible refine G.set ?_ _ (Or.inr rfl) | (with_reducible refine G.set ?_ _ (Or.inl ?_); rotate_left; focus (first | omega | (simp; done) | (simp; omega)))))⟩
    exact Hx.new _ _ _
end
end Go.Proofs.YtiakgjijlhfneaaGreatDoor
