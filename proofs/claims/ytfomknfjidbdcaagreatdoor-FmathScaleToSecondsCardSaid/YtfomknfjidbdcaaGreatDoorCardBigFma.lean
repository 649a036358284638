/-
  The closed facts that go over the whole program, once for all laws of the seat. Printed by cardbig.py.
-/
import Derived.Test.YtfomknfjidbdcaaGreatDoorRows
import Derived.JoinedOf
import Derived.KernelRfl
namespace Go.Proofs.YtfomknfjidbdcaaGreatDoor
theorem and_t {a b : Bool} (h : a = true) (k : b = true) : (a && b) = true := by rw [h, k]; rfl
def joinW : List (List Char) → List Char
  | [] => []
  | [w] => w
  | w :: r => w ++ Char.ofNat 32 :: joinW r
theorem ws_one : ∀ (w : List Char), (w.all fun c => !(c == Char.ofNat 32)) = true → wordsSigns w = [w]
  | [], _ => rfl
  | c :: w, h => by
    simp only [List.all_cons, Bool.and_eq_true, Bool.not_eq_true', beq_eq_false_iff_ne] at h
    have ih := ws_one w h.2
    rw [wordsSigns, ih]
    exact fun e => h.1 e
theorem ws_app : ∀ (w r : List Char), (w.all fun c => !(c == Char.ofNat 32)) = true → wordsSigns (w ++ Char.ofNat 32 :: r) = w :: wordsSigns r
  | [], r, _ => rfl
  | c :: w, r, h => by
    simp only [List.all_cons, Bool.and_eq_true, Bool.not_eq_true', beq_eq_false_iff_ne] at h
    have ih := ws_app w r h.2
    rw [List.cons_append, wordsSigns, ih]
    exact fun e => h.1 e
theorem ws_join : ∀ (w : List Char) (ws : List (List Char)), ((w :: ws).all fun w => w.all fun c => !(c == Char.ofNat 32)) = true → wordsSigns (joinW (w :: ws)) = w :: ws
  | w, [], h => by
    simp only [List.all_cons, List.all_nil, Bool.and_true] at h
    exact ws_one w h
  | w, v :: ws, h => by
    rw [List.all_cons, Bool.and_eq_true] at h
    show wordsSigns (w ++ Char.ofNat 32 :: joinW (v :: ws)) = _
    rw [ws_app w _ h.1, ws_join v ws h.2]
def headW0 : List Char := [104, 97, 114, 110, 101, 115, 115].map Char.ofNat
def headW1 : List Char := [52, 98, 52, 97, 54, 97, 102, 50, 48, 53, 101, 53, 56, 102, 48, 100, 100, 48, 97, 51, 55, 55, 101, 54, 55, 101, 101, 52, 53, 102, 100, 57, 57, 48, 100, 50, 51, 52, 48, 54, 49, 48, 102, 49, 55, 101, 98, 57, 56, 53, 101, 102, 48, 49, 54, 55, 48, 101, 56, 56, 98, 101, 53, 102].map Char.ofNat
def headW2 : List Char := [99, 117, 116].map Char.ofNat
def headW3 : List Char := [97, 116].map Char.ofNat
def headW4 : List Char := [103, 114, 97, 116, 105, 99, 117, 108, 101, 47, 103, 114, 97, 116, 105, 99, 117, 108, 101, 108, 97, 119, 49, 57, 46, 70, 109, 97, 116, 104, 65, 98, 115, 111, 108, 117, 116, 101].map Char.ofNat
def headW5 : List Char := [103, 114, 97, 116, 105, 99, 117, 108, 101, 47, 103, 114, 97, 116, 105, 99, 117, 108, 101, 108, 97, 119, 49, 57, 46, 70, 109, 97, 116, 104, 73, 110, 118, 101, 114, 116].map Char.ofNat
def headW6 : List Char := [103, 114, 97, 116, 105, 99, 117, 108, 101, 47, 103, 114, 97, 116, 105, 99, 117, 108, 101, 108, 97, 119, 49, 57, 46, 70, 109, 97, 116, 104, 73, 115, 78, 111, 110, 78, 117, 108, 108].map Char.ofNat
def headW7 : List Char := [103, 114, 97, 116, 105, 99, 117, 108, 101, 47, 103, 114, 97, 116, 105, 99, 117, 108, 101, 108, 97, 119, 49, 57, 46, 70, 109, 97, 116, 104, 77, 105, 110, 77, 97, 120].map Char.ofNat
def headW8 : List Char := [103, 114, 97, 116, 105, 99, 117, 108, 101, 47, 103, 114, 97, 116, 105, 99, 117, 108, 101, 108, 97, 119, 49, 57, 46, 70, 109, 97, 116, 104, 78, 101, 103, 97, 116, 101].map Char.ofNat
def headW9 : List Char := [103, 114, 97, 116, 105, 99, 117, 108, 101, 47, 103, 114, 97, 116, 105, 99, 117, 108, 101, 108, 97, 119, 49, 57, 46, 70, 109, 97, 116, 104, 79, 102, 102, 115, 101, 116].map Char.ofNat
def headW10 : List Char := [103, 114, 97, 116, 105, 99, 117, 108, 101, 47, 103, 114, 97, 116, 105, 99, 117, 108, 101, 108, 97, 119, 49, 57, 46, 70, 109, 97, 116, 104, 79, 102, 102, 115, 101, 116, 84, 111, 90, 101, 114, 111].map Char.ofNat
def headW11 : List Char := [103, 114, 97, 116, 105, 99, 117, 108, 101, 47, 103, 114, 97, 116, 105, 99, 117, 108, 101, 108, 97, 119, 49, 57, 46, 70, 109, 97, 116, 104, 80, 111, 119].map Char.ofNat
def headW12 : List Char := [103, 114, 97, 116, 105, 99, 117, 108, 101, 47, 103, 114, 97, 116, 105, 99, 117, 108, 101, 108, 97, 119, 49, 57, 46, 70, 109, 97, 116, 104, 82, 101, 109, 111, 118, 101, 65, 98, 111, 118, 101, 86, 97, 108, 117, 101].map Char.ofNat
def headW13 : List Char := [103, 114, 97, 116, 105, 99, 117, 108, 101, 47, 103, 114, 97, 116, 105, 99, 117, 108, 101, 108, 97, 119, 49, 57, 46, 70, 109, 97, 116, 104, 82, 101, 109, 111, 118, 101, 66, 101, 108, 111, 119, 86, 97, 108, 117, 101].map Char.ofNat
def headW14 : List Char := [103, 114, 97, 116, 105, 99, 117, 108, 101, 47, 103, 114, 97, 116, 105, 99, 117, 108, 101, 108, 97, 119, 49, 57, 46, 70, 109, 97, 116, 104, 82, 111, 117, 110, 100].map Char.ofNat
def headW15 : List Char := [103, 114, 97, 116, 105, 99, 117, 108, 101, 47, 103, 114, 97, 116, 105, 99, 117, 108, 101, 108, 97, 119, 49, 57, 46, 70, 109, 97, 116, 104, 83, 99, 97, 108, 101].map Char.ofNat
def headW16 : List Char := [103, 114, 97, 116, 105, 99, 117, 108, 101, 47, 103, 114, 97, 116, 105, 99, 117, 108, 101, 108, 97, 119, 49, 57, 46, 70, 109, 97, 116, 104, 83, 99, 97, 108, 101, 84, 111, 83, 101, 99, 111, 110, 100, 115].map Char.ofNat
def headW17 : List Char := [103, 114, 97, 116, 105, 99, 117, 108, 101, 47, 103, 114, 97, 116, 105, 99, 117, 108, 101, 108, 97, 119, 49, 57, 46, 70, 109, 97, 116, 104, 83, 105, 103, 110].map Char.ofNat
def headW18 : List Char := [103, 114, 97, 116, 105, 99, 117, 108, 101, 47, 103, 114, 97, 116, 105, 99, 117, 108, 101, 108, 97, 119, 49, 57, 46, 70, 109, 97, 116, 104, 83, 113, 117, 97, 114, 101, 82, 111, 111, 116].map Char.ofNat
def headW19 : List Char := [103, 114, 97, 116, 105, 99, 117, 108, 101, 47, 103, 114, 97, 116, 105, 99, 117, 108, 101, 108, 97, 119, 49, 57, 46, 70, 109, 97, 116, 104, 84, 114, 97, 110, 115, 102, 111, 114, 109, 78, 117, 108, 108].map Char.ofNat
def headW20 : List Char := [103, 114, 97, 116, 105, 99, 117, 108, 101, 47, 103, 114, 97, 116, 105, 99, 117, 108, 101, 108, 97, 119, 49, 57, 46, 70, 109, 97, 116, 104, 79, 116, 104, 101, 114, 115].map Char.ofNat
theorem init_eq : Tryz.prog.initOrder = String.ofList (joinW [headW0, headW1, headW2, headW3, headW4, headW5, headW6, headW7, headW8, headW9, headW10, headW11, headW12, headW13, headW14, headW15, headW16, headW17, headW18, headW19, headW20]) := by kernel_rfl
theorem init_ws : wordsSigns Tryz.prog.initOrder.toList = [headW0, headW1, headW2, headW3, headW4, headW5, headW6, headW7, headW8, headW9, headW10, headW11, headW12, headW13, headW14, headW15, headW16, headW17, headW18, headW19, headW20] := by rw [init_eq, String.toList_ofList, ws_join _ _ (by kernel_rfl)]
theorem gen_mayEnter (P : Program) (h : wordsSigns P.initOrder.toList = [headW0, headW1, headW2, headW3, headW4, headW5, headW6, headW7, headW8, headW9, headW10, headW11, headW12, headW13, headW14, headW15, headW16, headW17, headW18, headW19, headW20]) (h2 : P.laysLater = Tryz.prog.laysLater) (h3 : P.bearsReflect = Tryz.prog.bearsReflect) (h4 : P.doorRows = Tryz.prog.doorRows) : P.mayEnter = true := by unfold Program.mayEnter Program.doorFits; rw [h, h2, h3, h4]; kernel_rfl
theorem big_mayEnter : Tryz.prog.mayEnter = true := gen_mayEnter _ init_ws rfl rfl rfl
theorem gen_lifts (P : Program) (h : wordsSigns P.initOrder.toList = [headW0, headW1, headW2, headW3, headW4, headW5, headW6, headW7, headW8, headW9, headW10, headW11, headW12, headW13, headW14, headW15, headW16, headW17, headW18, headW19, headW20]) : (Rows.fmathAbsoluteRow.lifted == P.liftsFinal) = true := by unfold Program.liftsFinal Program.headLifts; rw [h]; kernel_rfl
theorem big_lifts : (Rows.fmathAbsoluteRow.lifted == Tryz.prog.liftsFinal) = true := gen_lifts _ init_ws
theorem gen_make (P : Program) (h : wordsSigns P.initOrder.toList = [headW0, headW1, headW2, headW3, headW4, headW5, headW6, headW7, headW8, headW9, headW10, headW11, headW12, headW13, headW14, headW15, headW16, headW17, headW18, headW19, headW20]) : (P.make == some Rows.fmathAbsoluteRow.make) = true := by unfold Program.make Program.headLifts; rw [h]; kernel_rfl
theorem big_make : (Tryz.prog.make == some Rows.fmathAbsoluteRow.make) = true := gen_make _ init_ws
theorem gen_main (P : Program) (h : wordsSigns P.initOrder.toList = [headW0, headW1, headW2, headW3, headW4, headW5, headW6, headW7, headW8, headW9, headW10, headW11, headW12, headW13, headW14, headW15, headW16, headW17, headW18, headW19, headW20]) : P.mainIs = some (true, ("4b4a6af205e58f0dd0a377e67ee45fd990d2340610f17eb985ef01670e88be5f" : String).toList) := by unfold Program.mainIs; rw [h]; kernel_rfl
theorem big_main : Tryz.prog.mainIs = some (true, ("4b4a6af205e58f0dd0a377e67ee45fd990d2340610f17eb985ef01670e88be5f" : String).toList) := gen_main _ init_ws
end Go.Proofs.YtfomknfjidbdcaaGreatDoor
