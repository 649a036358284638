/-
  The closed facts that go over the whole program, once for all laws of the seat. Printed by cardbig.py.
-/
import Derived.Test.YtjfonckmfafdgaaDoorRows
import Derived.JoinedOf
import Derived.KernelRfl
namespace Go.Proofs.YtjfonckmfafdgaaDoor
theorem and_t {a b : Bool} (h : a = true) (k : b = true) : (a && b) = true := by rw [h, k]; rfl
def joinW : List (List Char) → List Char
  | [] => []
  | [w] => w
  | w :: r => w ++ Char.ofNat 32 :: joinW r
theorem ws_one : ∀ (w : List Char), (w.all fun c => !(c == Char.ofNat 32)) = true → wordsSigns w = [w]
  | [], _ => rfl
  | c :: w, h => by
    simp only [List.all_cons, Bool.and_eq_true, Bool.not_eq_true', beq_eq_false_iff_ne] at h
    have ih := ws_one w h.2
    rw [wordsSigns, ih]
    exact fun e => h.1 e
theorem ws_app : ∀ (w r : List Char), (w.all fun c => !(c == Char.ofNat 32)) = true → wordsSigns (w ++ Char.ofNat 32 :: r) = w :: wordsSigns r
  | [], r, _ => rfl
  | c :: w, r, h => by
    simp only [List.all_cons, Bool.and_eq_true, Bool.not_eq_true', beq_eq_false_iff_ne] at h
    have ih := ws_app w r h.2
    rw [List.cons_append, wordsSigns, ih]
    exact fun e => h.1 e
theorem ws_join : ∀ (w : List Char) (ws : List (List Char)), ((w :: ws).all fun w => w.all fun c => !(c == Char.ofNat 32)) = true → wordsSigns (joinW (w :: ws)) = w :: ws
  | w, [], h => by
    simp only [List.all_cons, List.all_nil, Bool.and_true] at h
    exact ws_one w h
  | w, v :: ws, h => by
    rw [List.all_cons, Bool.and_eq_true] at h
    show wordsSigns (w ++ Char.ofNat 32 :: joinW (v :: ws)) = _
    rw [ws_app w _ h.1, ws_join v ws h.2]
def headW0 : List Char := [104, 97, 114, 110, 101, 115, 115].map Char.ofNat
def headW1 : List Char := [55, 102, 100, 102, 50, 101, 54, 53, 50, 49, 57, 50, 57, 98, 100, 102, 101, 55, 54, 48, 102, 102, 51, 51, 56, 51, 98, 51, 100, 57, 49, 98, 101, 53, 54, 55, 100, 99, 52, 100, 101, 100, 53, 99, 98, 57, 97, 102, 98, 48, 56, 49, 101, 102, 55, 48, 55, 54, 53, 51, 49, 57, 53, 97].map Char.ofNat
def headW2 : List Char := [99, 117, 116].map Char.ofNat
def headW3 : List Char := [97, 116].map Char.ofNat
def headW4 : List Char := [103, 114, 97, 116, 105, 99, 117, 108, 101, 47, 103, 114, 97, 116, 105, 99, 117, 108, 101, 108, 97, 119, 50, 56, 46, 79, 117, 116, 82, 97, 119].map Char.ofNat
def headW5 : List Char := [103, 114, 97, 116, 105, 99, 117, 108, 101, 47, 103, 114, 97, 116, 105, 99, 117, 108, 101, 108, 97, 119, 50, 56, 46, 79, 117, 116, 80, 97, 114, 115, 101, 115].map Char.ofNat
def headW6 : List Char := [103, 114, 97, 116, 105, 99, 117, 108, 101, 47, 103, 114, 97, 116, 105, 99, 117, 108, 101, 108, 97, 119, 50, 56, 46, 79, 117, 116, 81, 117, 111, 116, 101, 115].map Char.ofNat
def headW7 : List Char := [103, 114, 97, 116, 105, 99, 117, 108, 101, 47, 103, 114, 97, 116, 105, 99, 117, 108, 101, 108, 97, 119, 50, 56, 46, 79, 117, 116, 74, 83, 79, 78].map Char.ofNat
def headW8 : List Char := [103, 114, 97, 116, 105, 99, 117, 108, 101, 47, 103, 114, 97, 116, 105, 99, 117, 108, 101, 108, 97, 119, 50, 56, 46, 79, 117, 116, 67, 83, 86].map Char.ofNat
theorem init_eq : Tryd.prog.initOrder = String.ofList (joinW [headW0, headW1, headW2, headW3, headW4, headW5, headW6, headW7, headW8]) := by kernel_rfl
theorem init_ws : wordsSigns Tryd.prog.initOrder.toList = [headW0, headW1, headW2, headW3, headW4, headW5, headW6, headW7, headW8] := by rw [init_eq, String.toList_ofList, ws_join _ _ (by kernel_rfl)]
theorem gen_mayEnter (P : Program) (h : wordsSigns P.initOrder.toList = [headW0, headW1, headW2, headW3, headW4, headW5, headW6, headW7, headW8]) (h2 : P.laysLater = Tryd.prog.laysLater) (h3 : P.bearsReflect = Tryd.prog.bearsReflect) (h4 : P.doorRows = Tryd.prog.doorRows) : P.mayEnter = true := by unfold Program.mayEnter Program.doorFits; rw [h, h2, h3, h4]; kernel_rfl
theorem big_mayEnter : Tryd.prog.mayEnter = true := gen_mayEnter _ init_ws rfl rfl rfl
theorem gen_lifts (P : Program) (h : wordsSigns P.initOrder.toList = [headW0, headW1, headW2, headW3, headW4, headW5, headW6, headW7, headW8]) : (Rows.outRawRow.lifted == P.liftsFinal) = true := by unfold Program.liftsFinal Program.headLifts; rw [h]; kernel_rfl
theorem big_lifts : (Rows.outRawRow.lifted == Tryd.prog.liftsFinal) = true := gen_lifts _ init_ws
theorem gen_make (P : Program) (h : wordsSigns P.initOrder.toList = [headW0, headW1, headW2, headW3, headW4, headW5, headW6, headW7, headW8]) : (P.make == some Rows.outRawRow.make) = true := by unfold Program.make Program.headLifts; rw [h]; kernel_rfl
theorem big_make : (Tryd.prog.make == some Rows.outRawRow.make) = true := gen_make _ init_ws
theorem gen_main (P : Program) (h : wordsSigns P.initOrder.toList = [headW0, headW1, headW2, headW3, headW4, headW5, headW6, headW7, headW8]) : P.mainIs = some (true, ("7fdf2e6521929bdfe760ff3383b3d91be567dc4ded5cb9afb081ef707653195a" : String).toList) := by unfold Program.mainIs; rw [h]; kernel_rfl
theorem big_main : Tryd.prog.mainIs = some (true, ("7fdf2e6521929bdfe760ff3383b3d91be567dc4ded5cb9afb081ef707653195a" : String).toList) := gen_main _ init_ws
end Go.Proofs.YtjfonckmfafdgaaDoor
