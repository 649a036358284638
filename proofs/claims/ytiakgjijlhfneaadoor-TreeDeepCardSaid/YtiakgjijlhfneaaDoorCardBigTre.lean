/-
  The closed facts that go over the whole program, once for all laws of the seat. Printed by cardbig.py.
-/
import Derived.Test.YtiakgjijlhfneaaDoorRows
import Derived.JoinedOf
import Derived.KernelRfl
namespace Go.Proofs.YtiakgjijlhfneaaDoor
theorem and_t {a b : Bool} (h : a = true) (k : b = true) : (a && b) = true := by rw [h, k]; rfl
def joinW : List (List Char) → List Char
  | [] => []
  | [w] => w
  | w :: r => w ++ Char.ofNat 32 :: joinW r
theorem ws_one : ∀ (w : List Char), (w.all fun c => !(c == Char.ofNat 32)) = true → wordsSigns w = [w]
  | [], _ => rfl
  | c :: w, h => by
    simp only [List.all_cons, Bool.and_eq_true, Bool.not_eq_true', beq_eq_false_iff_ne] at h
    have ih := ws_one w h.2
    rw [wordsSigns, ih]
    exact fun e => h.1 e
theorem ws_app : ∀ (w r : List Char), (w.all fun c => !(c == Char.ofNat 32)) = true → wordsSigns (w ++ Char.ofNat 32 :: r) = w :: wordsSigns r
  | [], r, _ => rfl
  | c :: w, r, h => by
    simp only [List.all_cons, Bool.and_eq_true, Bool.not_eq_true', beq_eq_false_iff_ne] at h
    have ih := ws_app w r h.2
    rw [List.cons_append, wordsSigns, ih]
    exact fun e => h.1 e
theorem ws_join : ∀ (w : List Char) (ws : List (List Char)), ((w :: ws).all fun w => w.all fun c => !(c == Char.ofNat 32)) = true → wordsSigns (joinW (w :: ws)) = w :: ws
  | w, [], h => by
    simp only [List.all_cons, List.all_nil, Bool.and_true] at h
    exact ws_one w h
  | w, v :: ws, h => by
    rw [List.all_cons, Bool.and_eq_true] at h
    show wordsSigns (w ++ Char.ofNat 32 :: joinW (v :: ws)) = _
    rw [ws_app w _ h.1, ws_join v ws h.2]
def headW0 : List Char := [104, 97, 114, 110, 101, 115, 115].map Char.ofNat
def headW1 : List Char := [50, 52, 99, 98, 51, 99, 51, 101, 52, 55, 56, 48, 51, 53, 98, 55, 52, 57, 54, 49, 55, 99, 48, 99, 53, 57, 57, 99, 52, 49, 97, 98, 99, 50, 54, 55, 57, 53, 54, 51, 100, 98, 56, 53, 54, 49, 99, 98, 102, 99, 48, 99, 57, 99, 51, 100, 100, 48, 97, 53, 49, 52, 56, 55].map Char.ofNat
def headW2 : List Char := [99, 117, 116].map Char.ofNat
def headW3 : List Char := [97, 116].map Char.ofNat
def headW4 : List Char := [103, 114, 97, 116, 105, 99, 117, 108, 101, 47, 103, 114, 97, 116, 105, 99, 117, 108, 101, 108, 97, 119, 49, 53, 46, 84, 114, 101, 101, 68, 101, 101, 112].map Char.ofNat
theorem init_eq : Tryd.prog.initOrder = String.ofList (joinW [headW0, headW1, headW2, headW3, headW4]) := by kernel_rfl
theorem init_ws : wordsSigns Tryd.prog.initOrder.toList = [headW0, headW1, headW2, headW3, headW4] := by rw [init_eq, String.toList_ofList, ws_join _ _ (by kernel_rfl)]
theorem gen_mayEnter (P : Program) (h : wordsSigns P.initOrder.toList = [headW0, headW1, headW2, headW3, headW4]) (h2 : P.laysLater = Tryd.prog.laysLater) (h3 : P.bearsReflect = Tryd.prog.bearsReflect) (h4 : P.doorRows = Tryd.prog.doorRows) : P.mayEnter = true := by unfold Program.mayEnter Program.doorFits; rw [h, h2, h3, h4]; kernel_rfl
theorem big_mayEnter : Tryd.prog.mayEnter = true := gen_mayEnter _ init_ws rfl rfl rfl
theorem gen_lifts (P : Program) (h : wordsSigns P.initOrder.toList = [headW0, headW1, headW2, headW3, headW4]) : (Rows.treeDeepRow.lifted == P.liftsFinal) = true := by unfold Program.liftsFinal Program.headLifts; rw [h]; kernel_rfl
theorem big_lifts : (Rows.treeDeepRow.lifted == Tryd.prog.liftsFinal) = true := gen_lifts _ init_ws
theorem gen_make (P : Program) (h : wordsSigns P.initOrder.toList = [headW0, headW1, headW2, headW3, headW4]) : (P.make == some Rows.treeDeepRow.make) = true := by unfold Program.make Program.headLifts; rw [h]; kernel_rfl
theorem big_make : (Tryd.prog.make == some Rows.treeDeepRow.make) = true := gen_make _ init_ws
theorem gen_main (P : Program) (h : wordsSigns P.initOrder.toList = [headW0, headW1, headW2, headW3, headW4]) : P.mainIs = some (true, ("24cb3c3e478035b749617c0c599c41abc2679563db8561cbfc0c9c3dd0a51487" : String).toList) := by unfold Program.mainIs; rw [h]; kernel_rfl
theorem big_main : Tryd.prog.mainIs = some (true, ("24cb3c3e478035b749617c0c599c41abc2679563db8561cbfc0c9c3dd0a51487" : String).toList) := gen_main _ init_ws
end Go.Proofs.YtiakgjijlhfneaaDoor
