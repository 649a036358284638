/-
  Which time a text is; small facts on texts that begin with no digit.
-/
import Derived.Test.YtjfdaoedpdiaeaaDoorSpanDateP
namespace Go.Proofs.YtjfdaoedpdiaeaaDoor
open Go.RowKit
/-- a time that may be, or the error -/
def inV (n : Int) : Value := if n < 0 ∨ 4294967295 < n then .tuple #[.int .i64 0, .int .i64 7] else .tuple #[.int .i64 n, .int .i64 0]
theorem held_prog (n : Int) (w : World) : Calls Tryd.prog 30 #[.int .i64 n] w fun e w' => e = .returned (inV n) ∧ w = w' := by
  obtain ⟨V, hV⟩ : ∃ V, Hid (inV n = V) := ⟨_, Lib.hid rfl⟩
  rw [hV.out]
  by_cases h1 : n < 0
  · have hf : Hid (V = .tuple #[.int .i64 0, .int .i64 7]) := Lib.hid (by rw [← hV.out]; unfold inV; rw [if_pos (Or.inl h1)])
    go_enter Tryd.func30, Tryd.ntmps30
    go_wp2_with fail
    go_ret2
    exact ⟨by rw [hf.out]; rfl, rfl⟩
  by_cases h2 : 4294967295 < n
  · have hf : Hid (V = .tuple #[.int .i64 0, .int .i64 7]) := Lib.hid (by rw [← hV.out]; unfold inV; rw [if_pos (Or.inr h2)])
    go_enter Tryd.func30, Tryd.ntmps30
    go_wp2_with fail
    go_ret2
    exact ⟨by rw [hf.out]; rfl, rfl⟩
  have hf : Hid (V = .tuple #[.int .i64 n, .int .i64 0]) := Lib.hid (by rw [← hV.out]; unfold inV; rw [if_neg (by omega)])
  go_enter Tryd.func30, Tryd.ntmps30
  go_wp2_with fail
  go_ret2
  exact ⟨by rw [hf.out]; rfl, rfl⟩
theorem within_ref (n : Int) (w : World) : Calls Tryd.prog 31 #[.int .i64 n] w fun e w' => e = .returned (inV n) ∧ w = w' := by
  obtain ⟨V, hV⟩ : ∃ V, Hid (inV n = V) := ⟨_, Lib.hid rfl⟩
  rw [hV.out]
  by_cases h1 : n < 0
  · have hf : Hid (V = .tuple #[.int .i64 0, .int .i64 7]) := Lib.hid (by rw [← hV.out]; unfold inV; rw [if_pos (Or.inl h1)])
    go_enter Tryd.func31, Tryd.ntmps31
    go_wp2_with fail
    go_ret2
    exact ⟨by rw [hf.out]; rfl, rfl⟩
  by_cases h2 : 4294967295 < n
  · have hf : Hid (V = .tuple #[.int .i64 0, .int .i64 7]) := Lib.hid (by rw [← hV.out]; unfold inV; rw [if_pos (Or.inr h2)])
    go_enter Tryd.func31, Tryd.ntmps31
    go_wp2_with fail
    go_ret2
    exact ⟨by rw [hf.out]; rfl, rfl⟩
  have hf : Hid (V = .tuple #[.int .i64 n, .int .i64 0]) := Lib.hid (by rw [← hV.out]; unfold inV; rw [if_neg (by omega)])
  go_enter Tryd.func31, Tryd.ntmps31
  go_wp2_with fail
  go_ret2
  exact ⟨by rw [hf.out]; rfl, rfl⟩
/-- now and so much, if there is a number -/
def relV (o : Option Int) (now : Int) : Value := match o with
  | none => .tuple #[.int .i64 0, .int .i64 8]
  | some n => if now < 0 ∨ 4294967295 < now then .tuple #[.int .i64 0, .int .i64 7] else inV (now + n)
/-- a day, a minute, or a number of seconds -/
def plainV (s : ByteArray) : Value := match dateO s with
  | some n => .tuple #[.int .i64 n, .int .i64 0]
  | none => if s.size = 0 ∨ allAt s 0 = false ∨ s.size = 8 then .tuple #[.int .i64 0, .int .i64 8] else (match wholeO s with | none => .tuple #[.int .i64 0, .int .i64 7] | some n => inV n)
def isNow (s : ByteArray) : Bool := s.data.toList.take 3 == [110, 111, 119]
/-- which time a text is -/
def atV (s : ByteArray) (now : Int) : Value :=
  if isNow s then (if s.size = 3 then relV (some 0) now else if signedS (s.extract 3 s.size) then relV (interO (s.extract 3 s.size)) now else .tuple #[.int .i64 0, .int .i64 8])
  else if signedS s then relV (interO s) now else plainV s
theorem isNow_data {s : ByteArray} (h : isNow s = true) : ∃ r, s.data.toList = 110 :: 111 :: 119 :: r := by
  unfold isNow at h
  rw [beq_iff_eq] at h
  match hl : s.data.toList, h with
  | a :: b :: c :: r, h =>
    simp at h
    obtain ⟨rfl, rfl, rfl⟩ := h
    exact ⟨r, rfl⟩
theorem isNow_size {s : ByteArray} (h : isNow s = true) : 3 ≤ s.size := by
  obtain ⟨r, hr⟩ := isNow_data h
  have e : s.data.toList.length = s.size := by simp
  rw [hr] at e
  simp at e
  omega
theorem trim_now {s : ByteArray} (h : isNow s = true) : (⟨(Lib.trimPrefix s.data.toList [110, 111, 119]).toArray⟩ : ByteArray) = s.extract 3 s.size := by
  obtain ⟨r, hr⟩ := isNow_data h
  refine (ext_data ?_).symm
  rw [Lib.extract_to_end, hr]
  unfold Lib.trimPrefix Lib.hasPrefix
  rfl
theorem trim_not {s : ByteArray} (h : isNow s = false) : (⟨(Lib.trimPrefix s.data.toList [110, 111, 119]).toArray⟩ : ByteArray) = s := by
  refine (ext_data ?_).symm
  unfold isNow at h
  unfold Lib.trimPrefix Lib.hasPrefix
  rw [if_neg]
  intro hp
  rw [beq_eq_false_iff_ne] at h
  apply h
  have := List.isPrefixOf_iff_prefix.1 hp
  obtain ⟨t, ht⟩ := this
  rw [← ht]
  rfl
theorem head_of {s : ByteArray} {c : UInt8} {r : List UInt8} (h : s.data.toList = c :: r) : ∃ h0 : 0 < s.size, s[0] = c := by
  obtain ⟨h0, h1, _⟩ := first_data h
  exact ⟨h0, h1 h0⟩
theorem now_head {s : ByteArray} (h : isNow s = true) : ∃ h0 : 0 < s.size, isD s[0] = false := by
  obtain ⟨r, hr⟩ := isNow_data h
  obtain ⟨h0, h1⟩ := head_of hr
  exact ⟨h0, by rw [h1]; decide⟩
theorem now_signed {s : ByteArray} (h : isNow s = true) : signedS s = false := by
  obtain ⟨r, hr⟩ := isNow_data h
  obtain ⟨h0, h1⟩ := head_of hr
  unfold signedS
  rw [dif_pos h0, h1]; rfl
theorem signed_head {s : ByteArray} (h : signedS s = true) : ∃ h0 : 0 < s.size, isD s[0] = false := by
  have h0 := signed_pos h
  unfold signedS at h
  rw [dif_pos h0, Bool.or_eq_true] at h
  exact ⟨h0, h.elim (fun h => isD_not h (by omega)) (fun h => isD_not h (by omega))⟩
theorem bad_all {s : ByteArray} (h0 : 0 < s.size) (h : isD s[0] = false) : allAt s 0 = false := by rw [allAt_step h0, h, Bool.false_and]
theorem bad_date {s : ByteArray} (h0 : 0 < s.size) (h : isD s[0] = false) : dateO s = none := by
  have h1 : hmS s = false := by
    cases hm : hmS s
    · rfl
    · obtain ⟨h14, h2, _⟩ := hm_parts hm
      rw [allAt_zero, Lib.extract_data, drop_cons s 0 h0] at h2
      simp [h] at h2
  have h2 : dayN s = none := by unfold dayN; rw [if_neg (fun k => by rw [bad_all h0 h] at k; cases k.2)]
  unfold dateO capO
  rw [h1, h2]; rfl
theorem bad_plain {s : ByteArray} (h0 : 0 < s.size) (h : isD s[0] = false) : plainV s = .tuple #[.int .i64 0, .int .i64 8] := by
  unfold plainV
  rw [bad_date h0 h]
  dsimp only
  rw [if_pos (Or.inr (Or.inl (bad_all h0 h)))]
theorem bad_inter {s : ByteArray} (h0 : 0 < s.size) (h : isD s[0] = false) (hs : signedS s = false) : interO s = none := by
  have hb : bareS s = s := by unfold bareS; rw [hs]; rfl
  unfold interO
  rw [hb, lead_whole, runD_stop h0 h]
  rfl
theorem run_len (t : ByteArray) : ((runD t 0 : Int) != (t.size : Int)) = !allAt t 0 := by
  have e : t.data.toList.length = t.size := by simp
  have key : ∀ l : List UInt8, ((l.takeWhile isD).length = l.length) ↔ l.all isD = true := by
    intro l
    induction l with
    | nil => simp
    | cons c r ih =>
      cases hc : isD c
      · rw [List.takeWhile_cons_of_neg (by rw [hc]; simp), List.all_cons, hc]; simp
      · rw [List.takeWhile_cons_of_pos hc, List.all_cons, hc, List.length_cons, List.length_cons]; simp [ih]
  have k := key t.data.toList
  unfold runD
  rw [allAt_zero, List.drop_zero]
  generalize (t.data.toList.takeWhile isD).length = n at *
  rw [e] at k
  generalize t.size = z at *
  cases hA : t.data.toList.all isD
  · have : ¬ n = z := fun h1 => by rw [hA] at k; exact absurd (k.1 (by omega)) (by simp)
    simp; omega
  · have := k.2 hA
    subst this; simp
end Go.Proofs.YtjfdaoedpdiaeaaDoor
