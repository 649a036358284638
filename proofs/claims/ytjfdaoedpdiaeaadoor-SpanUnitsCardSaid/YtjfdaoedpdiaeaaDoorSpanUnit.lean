/-
  The walks of the units of time.
-/
import Derived.Test.YtjfdaoedpdiaeaaDoorSpanSmall
namespace Go.Proofs.YtjfdaoedpdiaeaaDoor
open Go.RowKit
/-- is a text one of those from a place on? -/
def hitAt (X : List ByteArray) (s : ByteArray) (i : Nat) : Bool := (X.drop i).any (fun x => x.toList == s.toList)
theorem hitAt_step {X : List ByteArray} {s : ByteArray} {i : Nat} (h : i < X.length) : hitAt X s i = ((X[i].toList == s.toList) || hitAt X s (i + 1)) := by
  unfold hitAt; rw [List.drop_eq_getElem_cons h, List.any_cons]
theorem hitAt_end {X : List ByteArray} {s : ByteArray} {i : Nat} (h : ¬ i < X.length) : hitAt X s i = false := by
  unfold hitAt; rw [List.drop_eq_nil_of_le (by omega)]; rfl
set_option maxHeartbeats 4000000 in
theorem among_any (s : ByteArray) (v : Value) (X : List ByteArray) (w : World) (h : ERow strE w v X) :
    Calls Tryd.prog 40 #[.string s, v] w fun e w' => e = .returned (.bool (hitAt X s 0)) ∧ w = w' := by
  have hl := h.le
  unfold maxLen at hl
  obtain ⟨A, c, rfl, q1, q2, q3⟩ := h
  have Q3 := Lib.hid q3; clear q3
  obtain ⟨R, HR⟩ : ∃ R, Hid (hitAt X s 0 = R) := ⟨_, Lib.hid rfl⟩
  rw [HR.out]
  go_enter Tryd.func40, Tryd.ntmps40
  go_wp2_with fail
  go_loop [9] (fun iv => ∃ i : Nat, iv = .int .i64 i ∧ i ≤ X.length ∧ Hid (hitAt X s i = R)) (fun iv => X.length - (intOf iv).toNat)
  case atStart => exact ⟨0, rfl, by omega, HR⟩
  case round =>
    obtain ⟨i, rfl, hi, H⟩ := hrel
    clear HR
    by_cases hlt : i < X.length
    · obtain ⟨b, o, rfl, hb, hc⟩ := Q3.out (by omega)
      have a3 : w.cell? ⟨b, o + i, none⟩ = some (.string X[i]) := by have := hc i hlt 0 _ rfl; simpa [strE] using this
      clear hc
      have HS := Lib.hid (hitAt_step (s := s) hlt)
      cases hq : (X[i].toList == s.toList)
      · go_wp2_with fail
        go_round
        case rel => exact ⟨i + 1, by go_num, by omega, Lib.hid (by rw [← H.out, HS.out, hq, Bool.false_or])⟩
        case measure => simp [intOf]; omega
      · go_wp2_with fail
        go_ret
        exact ⟨ret_bool (by rw [← H.out, HS.out, hq]; rfl), rfl⟩
    · have HE := Lib.hid (hitAt_end (X := X) (s := s) hlt)
      go_wp2_with fail
      go_ret
      exact ⟨ret_bool (by rw [← H.out, HE.out]), rfl⟩
theorem amongA (s : ByteArray) (X : List ByteArray) (n : Nat) (cs : Array Value) (b : Nat) (w : World) (T : TypeId) (h1 : b = w.heap.size) (h2 : X.flatMap strE.cells = cs.toList) (h3 : X.length = n) (h4 : n ≤ 1000 := by decide) :
    Calls Tryd.prog 40 #[.string s, .slice (some ⟨b, 0, none⟩) n n] (w.alloc (.cells cs T)) fun e w' => e = .returned (.bool (hitAt X s 0)) ∧ w.alloc (.cells cs T) = w' := by
  subst h3
  exact among_any s _ X _ (ERow.of_hx (L := strE) (Nat.le_refl _) (by unfold maxLen; omega) (Hx.new' h1 h2))
end Go.Proofs.YtjfdaoedpdiaeaaDoor
