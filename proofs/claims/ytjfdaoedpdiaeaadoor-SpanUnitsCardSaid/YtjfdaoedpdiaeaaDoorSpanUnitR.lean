/-
  The walk of the reference's unit. Printed by genunit.py.
-/
import Derived.Test.YtjfdaoedpdiaeaaDoorSpanUnitP
namespace Go.Proofs.YtjfdaoedpdiaeaaDoor
open Go.RowKit
set_option maxHeartbeats 8000000 in
theorem unit_ref (s : ByteArray) (w : World) : Calls Tryd.prog 23 #[.string s] w fun e w' => e = .returned (.int .i64 (unitN s : Nat)) ∧ w = w' := by
  obtain ⟨R, HR⟩ : ∃ R, Hid (unitN s = R) := ⟨_, Lib.hid rfl⟩
  rw [HR.out]
  have H0 : hitAt uw0 s 0 = ((s.toList == [115]) || (s.toList == [115, 101, 99]) || (s.toList == [115, 101, 99, 115]) || (s.toList == [115, 101, 99, 111, 110, 100]) || (s.toList == [115, 101, 99, 111, 110, 100, 115])) := hit_flat s uw0 _ (by simp only [uw0, List.map_cons, List.map_nil, List.or_cons, List.or_nil, Bool.or_false, Bool.or_assoc, ByteArray.toList_eq])
  have H1 : hitAt uw1 s 0 = ((s.toList == [109, 105, 110]) || (s.toList == [109, 105, 110, 115]) || (s.toList == [109, 105, 110, 117, 116, 101]) || (s.toList == [109, 105, 110, 117, 116, 101, 115])) := hit_flat s uw1 _ (by simp only [uw1, List.map_cons, List.map_nil, List.or_cons, List.or_nil, Bool.or_false, Bool.or_assoc, ByteArray.toList_eq])
  have H2 : hitAt uw2 s 0 = ((s.toList == [104]) || (s.toList == [104, 111, 117, 114]) || (s.toList == [104, 111, 117, 114, 115])) := hit_flat s uw2 _ (by simp only [uw2, List.map_cons, List.map_nil, List.or_cons, List.or_nil, Bool.or_false, Bool.or_assoc, ByteArray.toList_eq])
  have H3 : hitAt uw3 s 0 = ((s.toList == [100]) || (s.toList == [100, 97, 121]) || (s.toList == [100, 97, 121, 115])) := hit_flat s uw3 _ (by simp only [uw3, List.map_cons, List.map_nil, List.or_cons, List.or_nil, Bool.or_false, Bool.or_assoc, ByteArray.toList_eq])
  have H4 : hitAt uw4 s 0 = ((s.toList == [119]) || (s.toList == [119, 101, 101, 107]) || (s.toList == [119, 101, 101, 107, 115])) := hit_flat s uw4 _ (by simp only [uw4, List.map_cons, List.map_nil, List.or_cons, List.or_nil, Bool.or_false, Bool.or_assoc, ByteArray.toList_eq])
  have H5 : hitAt uw5 s 0 = ((s.toList == [109, 111, 110]) || (s.toList == [109, 111, 110, 116, 104]) || (s.toList == [109, 111, 110, 116, 104, 115])) := hit_flat s uw5 _ (by simp only [uw5, List.map_cons, List.map_nil, List.or_cons, List.or_nil, Bool.or_false, Bool.or_assoc, ByteArray.toList_eq])
  have H6 : hitAt uw6 s 0 = ((s.toList == [121]) || (s.toList == [121, 101, 97, 114]) || (s.toList == [121, 101, 97, 114, 115])) := hit_flat s uw6 _ (by simp only [uw6, List.map_cons, List.map_nil, List.or_cons, List.or_nil, Bool.or_false, Bool.or_assoc, ByteArray.toList_eq])
  have hu : Hid (R = if ((s.toList == [115]) || (s.toList == [115, 101, 99]) || (s.toList == [115, 101, 99, 115]) || (s.toList == [115, 101, 99, 111, 110, 100]) || (s.toList == [115, 101, 99, 111, 110, 100, 115])) = true then 1 else if ((s.toList == [109, 105, 110]) || (s.toList == [109, 105, 110, 115]) || (s.toList == [109, 105, 110, 117, 116, 101]) || (s.toList == [109, 105, 110, 117, 116, 101, 115])) = true then 60 else if ((s.toList == [104]) || (s.toList == [104, 111, 117, 114]) || (s.toList == [104, 111, 117, 114, 115])) = true then 3600 else if ((s.toList == [100]) || (s.toList == [100, 97, 121]) || (s.toList == [100, 97, 121, 115])) = true then 86400 else if ((s.toList == [119]) || (s.toList == [119, 101, 101, 107]) || (s.toList == [119, 101, 101, 107, 115])) = true then 604800 else if ((s.toList == [109, 111, 110]) || (s.toList == [109, 111, 110, 116, 104]) || (s.toList == [109, 111, 110, 116, 104, 115])) = true then 2592000 else if ((s.toList == [121]) || (s.toList == [121, 101, 97, 114]) || (s.toList == [121, 101, 97, 114, 115])) = true then 31536000 else 0) := Lib.hid (by rw [← HR.out]; unfold unitN; rw [H0, H1, H2, H3, H4, H5, H6])
  clear HR H0 H1 H2 H3 H4 H5 H6
  generalize e0 : (s.toList == [115]) = q0 at *
  generalize e1 : (s.toList == [115, 101, 99]) = q1 at *
  generalize e2 : (s.toList == [115, 101, 99, 115]) = q2 at *
  generalize e3 : (s.toList == [115, 101, 99, 111, 110, 100]) = q3 at *
  generalize e4 : (s.toList == [115, 101, 99, 111, 110, 100, 115]) = q4 at *
  generalize e5 : (s.toList == [109, 105, 110]) = q5 at *
  generalize e6 : (s.toList == [109, 105, 110, 115]) = q6 at *
  generalize e7 : (s.toList == [109, 105, 110, 117, 116, 101]) = q7 at *
  generalize e8 : (s.toList == [109, 105, 110, 117, 116, 101, 115]) = q8 at *
  generalize e9 : (s.toList == [104]) = q9 at *
  generalize e10 : (s.toList == [104, 111, 117, 114]) = q10 at *
  generalize e11 : (s.toList == [104, 111, 117, 114, 115]) = q11 at *
  generalize e12 : (s.toList == [100]) = q12 at *
  generalize e13 : (s.toList == [100, 97, 121]) = q13 at *
  generalize e14 : (s.toList == [100, 97, 121, 115]) = q14 at *
  generalize e15 : (s.toList == [119]) = q15 at *
  generalize e16 : (s.toList == [119, 101, 101, 107]) = q16 at *
  generalize e17 : (s.toList == [119, 101, 101, 107, 115]) = q17 at *
  generalize e18 : (s.toList == [109, 111, 110]) = q18 at *
  generalize e19 : (s.toList == [109, 111, 110, 116, 104]) = q19 at *
  generalize e20 : (s.toList == [109, 111, 110, 116, 104, 115]) = q20 at *
  generalize e21 : (s.toList == [121]) = q21 at *
  generalize e22 : (s.toList == [121, 101, 97, 114]) = q22 at *
  generalize e23 : (s.toList == [121, 101, 97, 114, 115]) = q23 at *
  cases q0
  case true =>
    go_enter Tryd.func23, Tryd.ntmps23
    go_wp2_with fail
    go_ret
    exact ⟨ret_int (by rw [hu.out]; simp), rfl⟩
  cases q1
  case true =>
    go_enter Tryd.func23, Tryd.ntmps23
    go_wp2_with fail
    go_ret
    exact ⟨ret_int (by rw [hu.out]; simp), rfl⟩
  cases q2
  case true =>
    go_enter Tryd.func23, Tryd.ntmps23
    go_wp2_with fail
    go_ret
    exact ⟨ret_int (by rw [hu.out]; simp), rfl⟩
  cases q3
  case true =>
    go_enter Tryd.func23, Tryd.ntmps23
    go_wp2_with fail
    go_ret
    exact ⟨ret_int (by rw [hu.out]; simp), rfl⟩
  cases q4
  case true =>
    go_enter Tryd.func23, Tryd.ntmps23
    go_wp2_with fail
    go_ret
    exact ⟨ret_int (by rw [hu.out]; simp), rfl⟩
  cases q5
  case true =>
    go_enter Tryd.func23, Tryd.ntmps23
    go_wp2_with fail
    go_ret
    exact ⟨ret_int (by rw [hu.out]; simp), rfl⟩
  cases q6
  case true =>
    go_enter Tryd.func23, Tryd.ntmps23
    go_wp2_with fail
    go_ret
    exact ⟨ret_int (by rw [hu.out]; simp), rfl⟩
  cases q7
  case true =>
    go_enter Tryd.func23, Tryd.ntmps23
    go_wp2_with fail
    go_ret
    exact ⟨ret_int (by rw [hu.out]; simp), rfl⟩
  cases q8
  case true =>
    go_enter Tryd.func23, Tryd.ntmps23
    go_wp2_with fail
    go_ret
    exact ⟨ret_int (by rw [hu.out]; simp), rfl⟩
  cases q9
  case true =>
    go_enter Tryd.func23, Tryd.ntmps23
    go_wp2_with fail
    go_ret
    exact ⟨ret_int (by rw [hu.out]; simp), rfl⟩
  cases q10
  case true =>
    go_enter Tryd.func23, Tryd.ntmps23
    go_wp2_with fail
    go_ret
    exact ⟨ret_int (by rw [hu.out]; simp), rfl⟩
  cases q11
  case true =>
    go_enter Tryd.func23, Tryd.ntmps23
    go_wp2_with fail
    go_ret
    exact ⟨ret_int (by rw [hu.out]; simp), rfl⟩
  cases q12
  case true =>
    go_enter Tryd.func23, Tryd.ntmps23
    go_wp2_with fail
    go_ret
    exact ⟨ret_int (by rw [hu.out]; simp), rfl⟩
  cases q13
  case true =>
    go_enter Tryd.func23, Tryd.ntmps23
    go_wp2_with fail
    go_ret
    exact ⟨ret_int (by rw [hu.out]; simp), rfl⟩
  cases q14
  case true =>
    go_enter Tryd.func23, Tryd.ntmps23
    go_wp2_with fail
    go_ret
    exact ⟨ret_int (by rw [hu.out]; simp), rfl⟩
  cases q15
  case true =>
    go_enter Tryd.func23, Tryd.ntmps23
    go_wp2_with fail
    go_ret
    exact ⟨ret_int (by rw [hu.out]; simp), rfl⟩
  cases q16
  case true =>
    go_enter Tryd.func23, Tryd.ntmps23
    go_wp2_with fail
    go_ret
    exact ⟨ret_int (by rw [hu.out]; simp), rfl⟩
  cases q17
  case true =>
    go_enter Tryd.func23, Tryd.ntmps23
    go_wp2_with fail
    go_ret
    exact ⟨ret_int (by rw [hu.out]; simp), rfl⟩
  cases q18
  case true =>
    go_enter Tryd.func23, Tryd.ntmps23
    go_wp2_with fail
    go_ret
    exact ⟨ret_int (by rw [hu.out]; simp), rfl⟩
  cases q19
  case true =>
    go_enter Tryd.func23, Tryd.ntmps23
    go_wp2_with fail
    go_ret
    exact ⟨ret_int (by rw [hu.out]; simp), rfl⟩
  cases q20
  case true =>
    go_enter Tryd.func23, Tryd.ntmps23
    go_wp2_with fail
    go_ret
    exact ⟨ret_int (by rw [hu.out]; simp), rfl⟩
  cases q21
  case true =>
    go_enter Tryd.func23, Tryd.ntmps23
    go_wp2_with fail
    go_ret
    exact ⟨ret_int (by rw [hu.out]; simp), rfl⟩
  cases q22
  case true =>
    go_enter Tryd.func23, Tryd.ntmps23
    go_wp2_with fail
    go_ret
    exact ⟨ret_int (by rw [hu.out]; simp), rfl⟩
  cases q23
  case true =>
    go_enter Tryd.func23, Tryd.ntmps23
    go_wp2_with fail
    go_ret
    exact ⟨ret_int (by rw [hu.out]; simp), rfl⟩
  go_enter Tryd.func23, Tryd.ntmps23
  go_wp2_with fail
  go_ret
  exact ⟨ret_int (by rw [hu.out]; simp), rfl⟩
end Go.Proofs.YtjfdaoedpdiaeaaDoor
