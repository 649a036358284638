/-
  The closed facts that go over the whole program, once for all laws of the seat. Printed by cardbig.py.
-/
import Derived.Test.YtkablhamnepfnaaGreatDoorRows
import Derived.JoinedOf
import Derived.KernelRfl
namespace Go.Proofs.YtkablhamnepfnaaGreatDoor
theorem and_t {a b : Bool} (h : a = true) (k : b = true) : (a && b) = true := by rw [h, k]; rfl
def joinW : List (List Char) → List Char
  | [] => []
  | [w] => w
  | w :: r => w ++ Char.ofNat 32 :: joinW r
theorem ws_one : ∀ (w : List Char), (w.all fun c => !(c == Char.ofNat 32)) = true → wordsSigns w = [w]
  | [], _ => rfl
  | c :: w, h => by
    simp only [List.all_cons, Bool.and_eq_true, Bool.not_eq_true', beq_eq_false_iff_ne] at h
    have ih := ws_one w h.2
    rw [wordsSigns, ih]
    exact fun e => h.1 e
theorem ws_app : ∀ (w r : List Char), (w.all fun c => !(c == Char.ofNat 32)) = true → wordsSigns (w ++ Char.ofNat 32 :: r) = w :: wordsSigns r
  | [], r, _ => rfl
  | c :: w, r, h => by
    simp only [List.all_cons, Bool.and_eq_true, Bool.not_eq_true', beq_eq_false_iff_ne] at h
    have ih := ws_app w r h.2
    rw [List.cons_append, wordsSigns, ih]
    exact fun e => h.1 e
theorem ws_join : ∀ (w : List Char) (ws : List (List Char)), ((w :: ws).all fun w => w.all fun c => !(c == Char.ofNat 32)) = true → wordsSigns (joinW (w :: ws)) = w :: ws
  | w, [], h => by
    simp only [List.all_cons, List.all_nil, Bool.and_true] at h
    exact ws_one w h
  | w, v :: ws, h => by
    rw [List.all_cons, Bool.and_eq_true] at h
    show wordsSigns (w ++ Char.ofNat 32 :: joinW (v :: ws)) = _
    rw [ws_app w _ h.1, ws_join v ws h.2]
def headW0 : List Char := [104, 97, 114, 110, 101, 115, 115].map Char.ofNat
def headW1 : List Char := [99, 54, 56, 57, 57, 54, 56, 51, 56, 51, 102, 53, 97, 57, 102, 101, 56, 101, 102, 57, 99, 48, 97, 51, 49, 98, 101, 53, 57, 102, 98, 49, 48, 55, 53, 48, 50, 57, 97, 98, 97, 51, 102, 57, 102, 54, 98, 52, 57, 53, 53, 49, 48, 51, 52, 50, 102, 102, 99, 99, 99, 98, 56, 51].map Char.ofNat
def headW2 : List Char := [99, 117, 116].map Char.ofNat
def headW3 : List Char := [97, 116].map Char.ofNat
def headW4 : List Char := [103, 114, 97, 116, 105, 99, 117, 108, 101, 47, 103, 114, 97, 116, 105, 99, 117, 108, 101, 108, 97, 119, 50, 48, 46, 70, 115, 116, 101, 112, 67, 104, 97, 110, 103, 101, 100].map Char.ofNat
def headW5 : List Char := [103, 114, 97, 116, 105, 99, 117, 108, 101, 47, 103, 114, 97, 116, 105, 99, 117, 108, 101, 108, 97, 119, 50, 48, 46, 70, 115, 116, 101, 112, 68, 101, 108, 97, 121].map Char.ofNat
def headW6 : List Char := [103, 114, 97, 116, 105, 99, 117, 108, 101, 47, 103, 114, 97, 116, 105, 99, 117, 108, 101, 108, 97, 119, 50, 48, 46, 70, 115, 116, 101, 112, 68, 101, 114, 105, 118, 97, 116, 105, 118, 101].map Char.ofNat
def headW7 : List Char := [103, 114, 97, 116, 105, 99, 117, 108, 101, 47, 103, 114, 97, 116, 105, 99, 117, 108, 101, 108, 97, 119, 50, 48, 46, 70, 115, 116, 101, 112, 73, 110, 116, 101, 103, 114, 97, 108].map Char.ofNat
def headW8 : List Char := [103, 114, 97, 116, 105, 99, 117, 108, 101, 47, 103, 114, 97, 116, 105, 99, 117, 108, 101, 108, 97, 119, 50, 48, 46, 70, 115, 116, 101, 112, 73, 110, 116, 101, 114, 112, 111, 108, 97, 116, 101].map Char.ofNat
def headW9 : List Char := [103, 114, 97, 116, 105, 99, 117, 108, 101, 47, 103, 114, 97, 116, 105, 99, 117, 108, 101, 108, 97, 119, 50, 48, 46, 70, 115, 116, 101, 112, 75, 101, 101, 112, 76, 97, 115, 116, 86, 97, 108, 117, 101].map Char.ofNat
def headW10 : List Char := [103, 114, 97, 116, 105, 99, 117, 108, 101, 47, 103, 114, 97, 116, 105, 99, 117, 108, 101, 108, 97, 119, 50, 48, 46, 70, 115, 116, 101, 112, 78, 111, 110, 78, 101, 103, 97, 116, 105, 118, 101, 68, 101, 114, 105, 118, 97, 116, 105, 118, 101].map Char.ofNat
def headW11 : List Char := [103, 114, 97, 116, 105, 99, 117, 108, 101, 47, 103, 114, 97, 116, 105, 99, 117, 108, 101, 108, 97, 119, 50, 48, 46, 70, 115, 116, 101, 112, 80, 101, 114, 83, 101, 99, 111, 110, 100].map Char.ofNat
def headW12 : List Char := [103, 114, 97, 116, 105, 99, 117, 108, 101, 47, 103, 114, 97, 116, 105, 99, 117, 108, 101, 108, 97, 119, 50, 48, 46, 70, 115, 116, 101, 112, 79, 116, 104, 101, 114, 115].map Char.ofNat
theorem init_eq : Tryz.prog.initOrder = String.ofList (joinW [headW0, headW1, headW2, headW3, headW4, headW5, headW6, headW7, headW8, headW9, headW10, headW11, headW12]) := by kernel_rfl
theorem init_ws : wordsSigns Tryz.prog.initOrder.toList = [headW0, headW1, headW2, headW3, headW4, headW5, headW6, headW7, headW8, headW9, headW10, headW11, headW12] := by rw [init_eq, String.toList_ofList, ws_join _ _ (by kernel_rfl)]
theorem gen_mayEnter (P : Program) (h : wordsSigns P.initOrder.toList = [headW0, headW1, headW2, headW3, headW4, headW5, headW6, headW7, headW8, headW9, headW10, headW11, headW12]) (h2 : P.laysLater = Tryz.prog.laysLater) (h3 : P.bearsReflect = Tryz.prog.bearsReflect) (h4 : P.doorRows = Tryz.prog.doorRows) : P.mayEnter = true := by unfold Program.mayEnter Program.doorFits; rw [h, h2, h3, h4]; kernel_rfl
theorem big_mayEnter : Tryz.prog.mayEnter = true := gen_mayEnter _ init_ws rfl rfl rfl
theorem gen_lifts (P : Program) (h : wordsSigns P.initOrder.toList = [headW0, headW1, headW2, headW3, headW4, headW5, headW6, headW7, headW8, headW9, headW10, headW11, headW12]) : (Rows.fstepChangedRow.lifted == P.liftsFinal) = true := by unfold Program.liftsFinal Program.headLifts; rw [h]; kernel_rfl
theorem big_lifts : (Rows.fstepChangedRow.lifted == Tryz.prog.liftsFinal) = true := gen_lifts _ init_ws
theorem gen_make (P : Program) (h : wordsSigns P.initOrder.toList = [headW0, headW1, headW2, headW3, headW4, headW5, headW6, headW7, headW8, headW9, headW10, headW11, headW12]) : (P.make == some Rows.fstepChangedRow.make) = true := by unfold Program.make Program.headLifts; rw [h]; kernel_rfl
theorem big_make : (Tryz.prog.make == some Rows.fstepChangedRow.make) = true := gen_make _ init_ws
theorem gen_main (P : Program) (h : wordsSigns P.initOrder.toList = [headW0, headW1, headW2, headW3, headW4, headW5, headW6, headW7, headW8, headW9, headW10, headW11, headW12]) : P.mainIs = some (true, ("c689968383f5a9fe8ef9c0a31be59fb1075029aba3f9f6b495510342ffcccb83" : String).toList) := by unfold Program.mainIs; rw [h]; kernel_rfl
theorem big_main : Tryz.prog.mainIs = some (true, ("c689968383f5a9fe8ef9c0a31be59fb1075029aba3f9f6b495510342ffcccb83" : String).toList) := gen_main _ init_ws
end Go.Proofs.YtkablhamnepfnaaGreatDoor
