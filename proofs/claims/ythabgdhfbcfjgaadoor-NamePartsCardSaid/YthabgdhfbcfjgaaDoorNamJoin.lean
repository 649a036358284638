/-
  The walks of the two functions that put texts together with dots between.
-/
import Derived.Test.YthabgdhfbcfjgaaDoorNamIs2
import Derived.Lib.Join
namespace Go.Proofs.YthabgdhfbcfjgaaDoor
open Go.RowKit
/-- texts from a place on, a dot ahead of each but the first of all -/
def joinAt (X : List ByteArray) (i : Nat) : List UInt8 := if i = 0 then Lib.join (X.map (·.data.toList)) [46] else Lib.joinTail [46] ((X.drop i).map (·.data.toList))
theorem joinAt_zero (X : List ByteArray) : joinAt X 0 = Lib.join (X.map (·.data.toList)) [46] := by unfold joinAt; rw [if_pos rfl]
theorem joinAt_first {X : List ByteArray} (h : 0 < X.length) : joinAt X 0 = X[0].data.toList ++ joinAt X 1 := by
  unfold joinAt
  rw [if_pos rfl, if_neg (by omega)]
  cases X with
  | nil => simp at h
  | cons x X => rw [List.map_cons, Lib.join_cons]; rfl
theorem joinAt_step {X : List ByteArray} {i : Nat} (h : i < X.length) (h0 : 0 < i) : joinAt X i = [46] ++ X[i].data.toList ++ joinAt X (i + 1) := by
  unfold joinAt
  rw [if_neg (by omega), if_neg (by omega), List.drop_eq_getElem_cons h, List.map_cons]
  simp [Lib.joinTail]
theorem joinAt_end {X : List ByteArray} {i : Nat} (h : i = X.length) : joinAt X i = [] := by
  unfold joinAt
  by_cases h0 : i = 0
  · rw [if_pos h0]; have : X = [] := List.eq_nil_of_length_eq_zero (by omega); subst this; rfl
  · rw [if_neg h0, List.drop_eq_nil_of_le (by omega)]; rfl
theorem len_add {t x : ByteArray} {r s R : List UInt8} {n : Nat} (h : t.data.toList ++ s = R) (h2 : s = x.data.toList ++ r) (h3 : R.length ≤ n) : t.size + x.size ≤ n := by
  subst h2; subst h
  simp at h3
  have e1 : t.data.size = t.size := rfl
  have e2 : x.data.size = x.size := rfl
  omega
theorem len_add2 {t x : ByteArray} {r s R : List UInt8} {n : Nat} (h : t.data.toList ++ s = R) (h2 : s = [46] ++ x.data.toList ++ r) (h3 : R.length ≤ n) : t.size + 1 + x.size ≤ n := by
  subst h2; subst h
  simp at h3
  have e1 : t.data.size = t.size := rfl
  have e2 : x.data.size = x.size := rfl
  omega
def joinX (X : List ByteArray) : ByteArray := ⟨(Lib.join (X.map (·.data.toList)) [46]).toArray⟩

set_option maxHeartbeats 8000000 in
theorem refJoin_any (v : Value) (X : List ByteArray) (w : World) (h : ERow strE w v X) (hlen : (Lib.join (X.map (·.data.toList)) [46]).length ≤ 1000000000) :
    Calls Tryd.prog 11 #[v] w fun e w' => e = .returned (.string (joinX X)) ∧ w = w' := by
  have hl := h.le
  unfold maxLen at hl
  obtain ⟨A, c, rfl, q1, q2, q3⟩ := h
  have Q3 := Lib.hid q3; clear q3
  obtain ⟨R, HR⟩ : ∃ R, Hid (joinAt X 0 = R) := ⟨_, Lib.hid rfl⟩
  unfold joinX
  rw [← joinAt_zero, HR.out] at hlen ⊢
  have hlen' := Lib.hid hlen; clear hlen
  go_enter Tryd.func11, Tryd.ntmps11
  go_wp2_with fail
  go_loop [3, 4] (fun sv iv => ∃ (t : ByteArray) (i : Nat), sv = .string t ∧ iv = .int .i64 i ∧ i ≤ X.length ∧ Hid (t.data.toList ++ joinAt X i = R)) (fun _ iv => X.length - (intOf iv).toNat)
  case atStart => exact ⟨⟨#[]⟩, 0, rfl, rfl, by omega, Lib.hid (by rw [HR.out]; rfl)⟩
  case round =>
    obtain ⟨t, i, rfl, rfl, hi, H⟩ := hrel
    clear HR
    by_cases hlt : i < X.length
    · obtain ⟨b, o, rfl, hb, hc⟩ := Q3.out (by omega)
      have a3 : w.cell? ⟨b, o + i, none⟩ = some (.string X[i]) := by have := hc i hlt 0 _ rfl; simpa [strE] using this
      clear hc
      by_cases h0 : i = 0
      · subst h0
        have HS := Lib.hid (joinAt_first hlt)
        have a4 : w.cell? ⟨b, o, none⟩ = some (.string X[0]) := a3
        have hz := len_add H.out HS.out hlen'.out
        have hz2 : (t.size : Int) + X[0].size ≤ 1000000000 := by omega
        go_wp2_with fail
        refine ⟨⟨_, 1, rfl, rfl, by omega, Lib.hid ?_⟩, by simp [intOf]; omega⟩
        rw [← H.out, HS.out, ByteArray.data_append, Array.toList_append, List.append_assoc]
      · have hp : 0 < i := by omega
        have HS := Lib.hid (joinAt_step hlt hp)
        clear h0
        have hz := len_add2 H.out HS.out hlen'.out
        have hz2 : (t.size : Int) + 1 + X[i].size ≤ 1000000000 := by omega
        go_wp2_with fail
        refine ⟨⟨_, i + 1, rfl, by go_num, by omega, Lib.hid ?_⟩, by simp [intOf]; omega⟩
        rw [← H.out, HS.out]
        simp [ByteArray.data_append]
    · have HE := Lib.hid (joinAt_end (X := X) (i := i) (by omega))
      go_wp2_with fail
      go_ret
      refine ⟨ret_string ?_, rfl⟩
      rw [← H.out, HE.out, List.append_nil]
set_option maxHeartbeats 8000000 in
theorem join_any (v : Value) (X : List ByteArray) (w : World) (h : ERow strE w v X) (hlen : (Lib.join (X.map (·.data.toList)) [46]).length ≤ 140737488355328) (hN : X.length ≤ 140737488355328) :
    Calls Tryd.prog 10 #[v] w fun e w' => e = .returned (.string (joinX X)) ∧ w.grownBy w' none := by
  obtain ⟨A, c, rfl, q1, q2, q3⟩ := h
  rcases Nat.eq_zero_or_pos X.length with h0 | hp
  · obtain rfl : X = [] := List.eq_nil_of_length_eq_zero h0
    have HJ := Lib.hid (Tryd.strings_Join_none A c ⟨#[46]⟩ w)
    go_enter Tryd.func10, Tryd.ntmps10
    go_wp2_with (go_at_call 21; refine HJ.out.mono ?_; rintro e w1 ⟨rfl, rfl⟩)
    go_ret
    exact ⟨ret_string rfl, G.refl _ _⟩
  · obtain ⟨b, o, rfl, hb, hc⟩ := q3 hp
    have HJ := Lib.hid (Tryd.strings_Join b o c X ⟨#[46]⟩ w (fun j x hx => by
      obtain ⟨hj, rfl⟩ := List.getElem?_eq_some_iff.1 hx
      have := hc j hj 0 _ rfl
      simpa [strE] using this) hb hN q1 hlen)
    clear hc q3
    go_enter Tryd.func10, Tryd.ntmps10
    go_wp2_with (go_at_call 21; refine HJ.out.mono ?_; rintro e w1 ⟨rfl, hbl⟩)
    go_ret
    exact ⟨ret_string rfl, G.of_below hbl⟩
end Go.Proofs.YthabgdhfbcfjgaaDoor
