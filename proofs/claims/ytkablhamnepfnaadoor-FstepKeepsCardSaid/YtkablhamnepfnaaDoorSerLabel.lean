/-
  The walks of series.Label and the reference's Label.
-/
import Derived.Test.YtkablhamnepfnaaDoorSerSpec
import Derived.Test.YtkablhamnepfnaaDoorShelf
import Derived.Lib.Join
namespace Go.Proofs.YtkablhamnepfnaaDoor
open Go.RowKit
def joinC (X : List ByteArray) : List UInt8 := Lib.join (X.map (·.data.toList)) [44]
/-- texts from a place on, a comma ahead of each but the first of all -/
def joinD (X : List ByteArray) (i : Nat) : List UInt8 := if i = 0 then joinC X else Lib.joinTail [44] ((X.drop i).map (·.data.toList))
theorem joinD_zero (X : List ByteArray) : joinD X 0 = joinC X := by unfold joinD; rw [if_pos rfl]
theorem joinD_first {X : List ByteArray} (h : 0 < X.length) : joinD X 0 = X[0].data.toList ++ joinD X 1 := by
  unfold joinD
  rw [if_pos rfl, if_neg (by omega)]
  cases X with
  | nil => simp at h
  | cons x X => unfold joinC; rw [List.map_cons, Lib.join_cons]; rfl
theorem joinD_step {X : List ByteArray} {i : Nat} (h : i < X.length) (h0 : 0 < i) : joinD X i = [44] ++ X[i].data.toList ++ joinD X (i + 1) := by
  unfold joinD
  rw [if_neg (by omega), if_neg (by omega), List.drop_eq_getElem_cons h, List.map_cons]
  simp [Lib.joinTail]
theorem joinD_end {X : List ByteArray} {i : Nat} (h : i = X.length) : joinD X i = [] := by
  unfold joinD
  by_cases h0 : i = 0
  · rw [if_pos h0]; have : X = [] := List.eq_nil_of_length_eq_zero (by omega); subst this; rfl
  · rw [if_neg h0, List.drop_eq_nil_of_le (by omega)]; rfl
/-- a name, and texts in brackets -/
def labelL (nm : ByteArray) (X : List ByteArray) : List UInt8 := nm.data.toList ++ ([40] ++ (joinC X ++ [41]))
def labelB (nm : ByteArray) (X : List ByteArray) : ByteArray := ⟨(labelL nm X).toArray⟩
theorem data_inj {a b : ByteArray} (h : a.data.toList = b.data.toList) : a = b := by
  cases a; cases b; simp at h; subst h; rfl
theorem label_form (nm : ByteArray) (X : List ByteArray) : nm ++ ⟨#[40]⟩ ++ ⟨(joinC X).toArray⟩ ++ ⟨#[41]⟩ = labelB nm X := by
  apply data_inj
  simp [labelB, labelL, ByteArray.data_append]
theorem label_size (nm : ByteArray) (X : List ByteArray) : (labelB nm X).size = nm.size + (joinC X).length + 2 := by
  unfold labelB labelL
  rw [Lib.size_mk]
  simp
  have : nm.data.size = nm.size := rfl
  omega
set_option maxHeartbeats 8000000 in
theorem label18_any (nm : ByteArray) (v : Value) (X : List ByteArray) (w : World) (h : ERow strE w v X) (hp : 0 < X.length) (hlen : nm.size + (joinC X).length ≤ 1000000000) (hN : X.length ≤ 140737488355328) :
    Calls Tryd.prog 16 #[.string nm, v] w fun e w' => e = .returned (.string (labelB nm X)) ∧ w.grownBy w' none := by
  obtain ⟨A, c, rfl, q1, q2, q3⟩ := h
  have hl := Lib.hid (label_form nm X)
  obtain ⟨b, o, rfl, hb, hc⟩ := q3 hp
  have HJ := Lib.hid (Tryd.strings_Join b o c X ⟨#[44]⟩ w (fun j x hx => by
    obtain ⟨hj, rfl⟩ := List.getElem?_eq_some_iff.1 hx
    have := hc j hj 0 _ rfl
    simpa [strE] using this) hb hN q1 (show (joinC X).length ≤ _ by omega))
  have hs1 : (⟨(joinC X).toArray⟩ : ByteArray).size = (joinC X).length := by rw [Lib.size_mk]
  rw [show (Lib.join (X.map (·.data.toList)) (⟨#[44]⟩ : ByteArray).data.toList) = joinC X from rfl] at HJ
  rw [← hl.out]
  clear hc q3 hl
  generalize (⟨(joinC X).toArray⟩ : ByteArray) = J at *
  generalize (joinC X).length = n at *
  subst hs1
  go_enter Tryd.func16, Tryd.ntmps16
  go_wp2_with (go_at_call 31; refine HJ.out.mono ?_; rintro e w1 ⟨rfl, hbl⟩)
  go_ret
  exact ⟨ret_string rfl, G.of_below hbl⟩
theorem len_addC {t x : ByteArray} {r s R : List UInt8} {n : Nat} (h : t.data.toList ++ s = R) (h2 : s = x.data.toList ++ r) (h3 : R.length ≤ n) : t.size + x.size ≤ n := by
  subst h2; subst h
  simp at h3
  have e1 : t.data.size = t.size := rfl
  have e2 : x.data.size = x.size := rfl
  omega
theorem len_addC2 {t x : ByteArray} {r s R : List UInt8} {n : Nat} (h : t.data.toList ++ s = R) (h2 : s = [44] ++ x.data.toList ++ r) (h3 : R.length ≤ n) : t.size + 1 + x.size ≤ n := by
  subst h2; subst h
  simp at h3
  have e1 : t.data.size = t.size := rfl
  have e2 : x.data.size = x.size := rfl
  omega
end Go.Proofs.YtkablhamnepfnaaDoor
