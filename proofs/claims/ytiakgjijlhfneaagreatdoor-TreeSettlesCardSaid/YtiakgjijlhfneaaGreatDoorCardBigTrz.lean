/-
  The closed facts that go over the whole program, once for all laws of the seat. Printed by cardbig.py.
-/
import Derived.Test.YtiakgjijlhfneaaGreatDoorRows
import Derived.JoinedOf
import Derived.KernelRfl
namespace Go.Proofs.YtiakgjijlhfneaaGreatDoor
theorem and_t {a b : Bool} (h : a = true) (k : b = true) : (a && b) = true := by rw [h, k]; rfl
def joinW : List (List Char) → List Char
  | [] => []
  | [w] => w
  | w :: r => w ++ Char.ofNat 32 :: joinW r
theorem ws_one : ∀ (w : List Char), (w.all fun c => !(c == Char.ofNat 32)) = true → wordsSigns w = [w]
  | [], _ => rfl
  | c :: w, h => by
    simp only [List.all_cons, Bool.and_eq_true, Bool.not_eq_true', beq_eq_false_iff_ne] at h
    have ih := ws_one w h.2
    rw [wordsSigns, ih]
    exact fun e => h.1 e
theorem ws_app : ∀ (w r : List Char), (w.all fun c => !(c == Char.ofNat 32)) = true → wordsSigns (w ++ Char.ofNat 32 :: r) = w :: wordsSigns r
  | [], r, _ => rfl
  | c :: w, r, h => by
    simp only [List.all_cons, Bool.and_eq_true, Bool.not_eq_true', beq_eq_false_iff_ne] at h
    have ih := ws_app w r h.2
    rw [List.cons_append, wordsSigns, ih]
    exact fun e => h.1 e
theorem ws_join : ∀ (w : List Char) (ws : List (List Char)), ((w :: ws).all fun w => w.all fun c => !(c == Char.ofNat 32)) = true → wordsSigns (joinW (w :: ws)) = w :: ws
  | w, [], h => by
    simp only [List.all_cons, List.all_nil, Bool.and_true] at h
    exact ws_one w h
  | w, v :: ws, h => by
    rw [List.all_cons, Bool.and_eq_true] at h
    show wordsSigns (w ++ Char.ofNat 32 :: joinW (v :: ws)) = _
    rw [ws_app w _ h.1, ws_join v ws h.2]
def headW0 : List Char := [104, 97, 114, 110, 101, 115, 115].map Char.ofNat
def headW1 : List Char := [99, 100, 51, 50, 98, 57, 52, 98, 48, 50, 52, 97, 98, 54, 97, 52, 50, 99, 50, 98, 56, 98, 53, 48, 101, 54, 52, 98, 97, 99, 53, 48, 57, 52, 54, 49, 101, 57, 55, 98, 55, 101, 48, 52, 99, 51, 98, 51, 49, 55, 50, 48, 55, 55, 98, 50, 54, 102, 102, 99, 57, 98, 101, 100].map Char.ofNat
def headW2 : List Char := [99, 117, 116].map Char.ofNat
def headW3 : List Char := [97, 116].map Char.ofNat
def headW4 : List Char := [103, 114, 97, 116, 105, 99, 117, 108, 101, 47, 103, 114, 97, 116, 105, 99, 117, 108, 101, 108, 97, 119, 49, 53, 46, 84, 114, 101, 101, 80, 97, 114, 115, 101, 115].map Char.ofNat
def headW5 : List Char := [103, 114, 97, 116, 105, 99, 117, 108, 101, 47, 103, 114, 97, 116, 105, 99, 117, 108, 101, 108, 97, 119, 49, 53, 46, 84, 114, 101, 101, 66, 97, 99, 107].map Char.ofNat
def headW6 : List Char := [103, 114, 97, 116, 105, 99, 117, 108, 101, 47, 103, 114, 97, 116, 105, 99, 117, 108, 101, 108, 97, 119, 49, 53, 46, 84, 114, 101, 101, 83, 101, 116, 116, 108, 101, 115].map Char.ofNat
def headW7 : List Char := [103, 114, 97, 116, 105, 99, 117, 108, 101, 47, 103, 114, 97, 116, 105, 99, 117, 108, 101, 108, 97, 119, 49, 53, 46, 84, 114, 101, 101, 80, 114, 105, 110, 116, 115].map Char.ofNat
theorem init_eq : Tryz.prog.initOrder = String.ofList (joinW [headW0, headW1, headW2, headW3, headW4, headW5, headW6, headW7]) := by kernel_rfl
theorem init_ws : wordsSigns Tryz.prog.initOrder.toList = [headW0, headW1, headW2, headW3, headW4, headW5, headW6, headW7] := by rw [init_eq, String.toList_ofList, ws_join _ _ (by kernel_rfl)]
theorem gen_mayEnter (P : Program) (h : wordsSigns P.initOrder.toList = [headW0, headW1, headW2, headW3, headW4, headW5, headW6, headW7]) (h2 : P.laysLater = Tryz.prog.laysLater) (h3 : P.bearsReflect = Tryz.prog.bearsReflect) (h4 : P.doorRows = Tryz.prog.doorRows) : P.mayEnter = true := by unfold Program.mayEnter Program.doorFits; rw [h, h2, h3, h4]; kernel_rfl
theorem big_mayEnter : Tryz.prog.mayEnter = true := gen_mayEnter _ init_ws rfl rfl rfl
theorem gen_lifts (P : Program) (h : wordsSigns P.initOrder.toList = [headW0, headW1, headW2, headW3, headW4, headW5, headW6, headW7]) : (Rows.treeParsesRow.lifted == P.liftsFinal) = true := by unfold Program.liftsFinal Program.headLifts; rw [h]; kernel_rfl
theorem big_lifts : (Rows.treeParsesRow.lifted == Tryz.prog.liftsFinal) = true := gen_lifts _ init_ws
theorem gen_make (P : Program) (h : wordsSigns P.initOrder.toList = [headW0, headW1, headW2, headW3, headW4, headW5, headW6, headW7]) : (P.make == some Rows.treeParsesRow.make) = true := by unfold Program.make Program.headLifts; rw [h]; kernel_rfl
theorem big_make : (Tryz.prog.make == some Rows.treeParsesRow.make) = true := gen_make _ init_ws
theorem gen_main (P : Program) (h : wordsSigns P.initOrder.toList = [headW0, headW1, headW2, headW3, headW4, headW5, headW6, headW7]) : P.mainIs = some (true, ("cd32b94b024ab6a42c2b8b50e64bac509461e97b7e04c3b3172077b26ffc9bed" : String).toList) := by unfold Program.mainIs; rw [h]; kernel_rfl
theorem big_main : Tryz.prog.mainIs = some (true, ("cd32b94b024ab6a42c2b8b50e64bac509461e97b7e04c3b3172077b26ffc9bed" : String).toList) := gen_main _ init_ws
end Go.Proofs.YtiakgjijlhfneaaGreatDoor
