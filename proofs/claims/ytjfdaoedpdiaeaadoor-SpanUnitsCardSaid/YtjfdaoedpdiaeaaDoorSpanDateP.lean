/-
  The walk of the program's Date.
-/
import Derived.Test.YtjfdaoedpdiaeaaDoorSpanDate
namespace Go.Proofs.YtjfdaoedpdiaeaaDoor
open Go.RowKit
theorem list_two : ∀ (l : List UInt8) (h : 2 < l.length), isD l[2] = false → (((l.takeWhile isD).length : Int) == 2) = (l.take 2).all isD := by
  intro l h hc
  match l, h, hc with
  | a :: b :: c :: r, _, hc =>
    have hc : isD c = false := hc
    cases ha : isD a
    · rw [List.takeWhile_cons_of_neg (by rw [ha]; simp)]
      simp [List.take, ha]
    · rw [List.takeWhile_cons_of_pos ha]
      cases hb : isD b
      · rw [List.takeWhile_cons_of_neg (by rw [hb]; simp)]
        simp [List.take, ha, hb]
      · rw [List.takeWhile_cons_of_pos hb, List.takeWhile_cons_of_neg (by rw [hc]; simp)]
        simp [List.take, ha, hb]
theorem run_two {t u : ByteArray} (h : 2 < t.size) (hc : isD t[2] = false) (hu : u.data.toList = t.data.toList.take 2) : ((runD t 0 : Int) == 2) = allAt u 0 := by
  have e : t.data.toList.length = t.size := by simp
  unfold runD
  rw [allAt_zero, hu, List.drop_zero]
  exact list_two _ (by omega) (by rw [← hc]; rfl)
theorem run_all {t : ByteArray} (h : t.size = 8) : ((runD t 0 : Int) != 8) = !allAt t 0 := by
  have e : t.data.toList.length = t.size := by simp
  have key : ∀ l : List UInt8, ((l.takeWhile isD).length = l.length) ↔ l.all isD = true := by
    intro l
    induction l with
    | nil => simp
    | cons c r ih =>
      cases hc : isD c
      · rw [List.takeWhile_cons_of_neg (by rw [hc]; simp), List.all_cons, hc]; simp
      · rw [List.takeWhile_cons_of_pos hc, List.all_cons, hc, List.length_cons, List.length_cons]; simp [ih]
  have k := key t.data.toList
  unfold runD
  rw [allAt_zero, List.drop_zero]
  generalize (t.data.toList.takeWhile isD).length = n at *
  cases hA : t.data.toList.all isD
  · have : ¬ n = 8 := fun h1 => by rw [hA] at k; exact absurd (k.1 (by omega)) (by simp)
    simp; omega
  · have := k.2 hA
    have : n = 8 := by omega
    subst this; rfl
theorem isD_not {c : UInt8} {n : Int} (h : ((c.toNat : Int) == n) = true) (hn : n < 48 ∨ 57 < n) : isD c = false := by
  have h : (c.toNat : Int) = n := by simpa using h
  unfold isD
  rw [h]
  rcases hn with hn | hn
  · rw [decide_eq_false (by omega), Bool.false_and]
  · rw [decide_eq_false (p := n ≤ 57) (by omega), Bool.and_false]
set_option maxHeartbeats 16000000 in
set_option maxRecDepth 100000 in
theorem date_prog (s : ByteArray) (w : World) (hs : s.size ≤ 1000) :
    Calls Tryd.prog 9 #[.string s] w fun e w' => e = .returned (wholeT (dateO s)) ∧ w.grownBy w' none := by
  obtain ⟨V, hV⟩ : ∃ V, Hid (wholeT (dateO s) = V) := ⟨_, Lib.hid rfl⟩
  rw [hV.out]
  have hO : Hid (dateO s = if hmS s then (if 23 < numB (s.extract 0 2) ∨ 59 < numB (s.extract 3 5) then none else capO (dayN (s.extract 6 14)) (numB (s.extract 0 2) * 3600 + numB (s.extract 3 5) * 60)) else capO (dayN s) 0) := Lib.hid rfl
  have hVn : Hid (dateO s = none → V = .tuple #[.int .i64 0, .bool false]) := Lib.hid (fun h => by rw [← hV.out, h]; rfl)
  have hH : Hid (hmS s = if h : s.size = 14 then ((s[2].toNat : Int) == 58) && (((s[5].toNat : Int) == 95) && (allAt (s.extract 0 2) 0 && allAt (s.extract 3 5) 0)) else false) := Lib.hid rfl
  have hP := Lib.hid (@hm_parts s)
  have zz : ∀ a b, (s.extract a b).size ≤ 1000 := fun a b => by rw [ByteArray.size_extract]; omega
  have HA := Lib.hid (fun w => digits16_any s w (by omega))
  have HB := Lib.hid (fun w => digits16_any (s.extract 3 14) w (by have := zz 3 14; omega))
  obtain ⟨T, M, hTM, hTs, hM⟩ : ∃ (T : ByteArray) (M : Nat), Hid ((hmS s = true → T = s.extract 6 14 ∧ M = numB (s.extract 0 2) * 3600 + numB (s.extract 3 5) * 60) ∧ (hmS s = false → T = s ∧ M = 0)) ∧ T.size ≤ 1000 ∧ M ≤ 500000 := by
    cases h : hmS s
    · exact ⟨s, 0, Lib.hid ⟨fun h => (by cases h), fun _ => ⟨rfl, rfl⟩⟩, hs, by omega⟩
    · obtain ⟨h1, h2, h3⟩ := hm_parts h
      have q1 := (two_whole h2 (by rw [ByteArray.size_extract]; omega)).2
      have q2 := (two_whole h3 (by rw [ByteArray.size_extract]; omega)).2
      exact ⟨_, _, Lib.hid ⟨fun _ => ⟨rfl, rfl⟩, fun h => (by cases h)⟩, zz _ _, by omega⟩
  have hW1 : Hid (hmS s = true → ∃ h m : Nat, numB (s.extract 0 2) = h ∧ numB (s.extract 3 5) = m ∧ h < 100 ∧ m < 100 ∧ wholeO (s.extract 0 2) = some (h : Int) ∧ wholeO (s.extract 3 5) = some (m : Int)) := Lib.hid (fun h => by
    obtain ⟨h1, h2, h3⟩ := hm_parts h
    have q1 := two_whole h2 (by rw [ByteArray.size_extract]; omega)
    have q2 := two_whole h3 (by rw [ByteArray.size_extract]; omega)
    exact ⟨_, _, rfl, rfl, q1.2, q2.2, q1.1, q2.1⟩)
  generalize hmS s = hm at *
  have HG := G.refl w none
  go_enter Tryd.func9, Tryd.ntmps9
  go_upto_region 2 with (fail)
  go_cut [40] (fun v wc => v = .bool hm ∧ w = wc)
  case first =>
    by_cases h14 : s.size = 14
    · have hq : Hid (hm = (((s[2].toNat : Int) == 58) && (((s[5].toNat : Int) == 95) && (allAt (s.extract 0 2) 0 && allAt (s.extract 3 5) 0)))) := Lib.hid (by rw [hH.out, dif_pos h14])
      have h14' : (((s.size : Nat) : Int) == 14) = true := by simp; omega
      cases h2 : ((s[2].toNat : Int) == 58)
      · go_wp2_with fail
        go_meet
        exact ⟨by rw [hq.out, h2]; rfl, rfl⟩
      cases h5 : ((s[5].toNat : Int) == 95)
      · go_wp2_with fail
        go_meet
        exact ⟨by rw [hq.out, h2, h5]; rfl, rfl⟩
      have k1 : ((runD s 0 : Int) == 2) = allAt (s.extract 0 2) 0 := run_two (by omega) (isD_not h2 (Or.inr (by omega))) (by rw [Lib.extract_data, List.drop_zero])
      have z11 : (s.extract 3 14).size = 11 := by rw [ByteArray.size_extract]; omega
      have k2 : ((runD (s.extract 3 14) 0 : Int) == 2) = allAt (s.extract 3 5) 0 := run_two (by omega) (by
          have := isD_not h5 (Or.inr (by omega))
          rw [← this]
          congr 1
          exact ByteArray.getElem_extract ..) (by rw [Lib.extract_data, Lib.extract_data, List.take_take]; rfl)
      clear hH hP hTM hO z11
      generalize allAt (s.extract 0 2) 0 = a1 at *
      generalize allAt (s.extract 3 5) 0 = a2 at *
      generalize runD s 0 = r1 at *
      generalize runD (s.extract 3 14) 0 = r2 at *
      cases a1
      · go_wp2_with (go_at_call_of 18 (Value.string s); refine (HA.out _).mono ?_; rintro e wn ⟨rfl, rfl⟩)
        go_meet
        exact ⟨by rw [hq.out, h2, h5]; rfl, rfl⟩
      cases a2 <;>
      · go_wp2_with (first | (go_at_call_of 18 (Value.string s); refine (HA.out _).mono ?_; rintro e wn ⟨rfl, rfl⟩) | (go_at_call_of 18 (Value.string (s.extract 3 14)); refine (HB.out _).mono ?_; rintro e wn ⟨rfl, rfl⟩))
        go_meet
        exact ⟨by rw [hq.out, h2, h5]; rfl, rfl⟩
    · have hq : Hid (hm = false) := Lib.hid (by rw [hH.out, dif_neg h14])
      have h14' : (((s.size : Nat) : Int) == 14) = false := by simp; omega
      go_wp2_with fail
      go_meet
      exact ⟨by rw [hq.out], rfl⟩
  obtain ⟨rfl, rfl⟩ := hcut
  go_upto_if 40 with (fail)
  go_cut [0, 4] (fun sv mv wc => sv = .string T ∧ mv = .int .i64 M ∧ w.grownBy wc none ∧ Hid (dateO s = capO (dayN T) M))
  case first =>
    cases hm
    · obtain ⟨e1, e2⟩ := hTM.out.2 rfl
      have E1 := Lib.hid e1; have E2 := Lib.hid e2
      clear e1 e2
      go_wp2_with fail
      go_meet
      exact ⟨by rw [E1.out], by rw [E2.out]; rfl, HG, Lib.hid (by rw [hO.out, E1.out, E2.out]; rfl)⟩
    · obtain ⟨e1, e2⟩ := hTM.out.1 rfl
      obtain ⟨h, m, q1, q2, q3, q4, q5, q6⟩ := hW1.out rfl
      obtain ⟨h14, _, _⟩ := hP.out rfl
      rw [q1, q2] at e2
      have hO2 : Hid (dateO s = if 23 < h ∨ 59 < m then none else capO (dayN (s.extract 6 14)) (h * 3600 + m * 60)) := Lib.hid (by rw [hO.out, q1, q2]; rfl)
      have E1 := Lib.hid e1; have E2 := Lib.hid e2
      have HH := Lib.hid (fun w => whole_prog (s.extract 0 2) w (by have := zz 0 2; omega))
      have HM := Lib.hid (fun w => whole_prog (s.extract 3 5) w (by have := zz 3 5; omega))
      rw [q5] at HH
      rw [q6] at HM
      simp only [wholeT] at HH HM
      clear e1 e2 q1 q2 q5 q6 hW1 hTM hO hH hP HA HB
      by_cases hh : (23 : Int) < (h : Int)
      · have hfin : Hid (V = .tuple #[.int .i64 0, .bool false]) := Lib.hid (hVn.out (by rw [hO2.out, if_pos (by omega)]))
        go_wp2_with (first | (go_at_call_of 19 (Value.string (s.extract 0 2)); refine (HH.out _).mono ?_; rintro e wn ⟨rfl, hgn⟩; replace HG := G.trans (w := w) (by have hb0 := (HG); (repeat first | with_reducible exact hb0 | with_reducible refine G.drewN ?_ _ | with_reducible refine G.drew ?_ | with_reducible refine G.alloc ?_ _ | with_reducible refine G.set ?_ _ (Or.inr rfl) | (with_reducible refine G.set ?_ _ (Or.inl ?_); rotate_left; focus (first | omega | (simp; done) | (simp; omega))))) hgn; clear hgn) | (go_at_call_of 19 (Value.string (s.extract 3 5)); refine (HM.out _).mono ?_; rintro e wn ⟨rfl, hgn⟩; replace HG := G.trans (w := w) (by have hb0 := (HG); (repeat first | with_reducible exact hb0 | with_reducible refine G.drewN ?_ _ | with_reducible refine G.drew ?_ | with_reducible refine G.alloc ?_ _ | with_reducible refine G.set ?_ _ (Or.inr rfl) | (with_reducible refine G.set ?_ _ (Or.inl ?_); rotate_left; focus (first | omega | (simp; done) | (simp; omega))))) hgn; clear hgn))
        go_ret2
        exact ⟨by rw [hfin.out]; rfl, (by have hb0 := (HG); (repeat first | with_reducible exact hb0 | with_reducible refine G.drewN ?_ _ | with_reducible refine G.drew ?_ | with_reducible refine G.alloc ?_ _ | with_reducible refine G.set ?_ _ (Or.inr rfl) | (with_reducible refine G.set ?_ _ (Or.inl ?_); rotate_left; focus (first | omega | (simp; done) | (simp; omega)))))⟩
      by_cases hmm : (59 : Int) < (m : Int)
      · have hfin : Hid (V = .tuple #[.int .i64 0, .bool false]) := Lib.hid (hVn.out (by rw [hO2.out, if_pos (by omega)]))
        go_wp2_with (first | (go_at_call_of 19 (Value.string (s.extract 0 2)); refine (HH.out _).mono ?_; rintro e wn ⟨rfl, hgn⟩; replace HG := G.trans (w := w) (by have hb0 := (HG); (repeat first | with_reducible exact hb0 | with_reducible refine G.drewN ?_ _ | with_reducible refine G.drew ?_ | with_reducible refine G.alloc ?_ _ | with_reducible refine G.set ?_ _ (Or.inr rfl) | (with_reducible refine G.set ?_ _ (Or.inl ?_); rotate_left; focus (first | omega | (simp; done) | (simp; omega))))) hgn; clear hgn) | (go_at_call_of 19 (Value.string (s.extract 3 5)); refine (HM.out _).mono ?_; rintro e wn ⟨rfl, hgn⟩; replace HG := G.trans (w := w) (by have hb0 := (HG); (repeat first | with_reducible exact hb0 | with_reducible refine G.drewN ?_ _ | with_reducible refine G.drew ?_ | with_reducible refine G.alloc ?_ _ | with_reducible refine G.set ?_ _ (Or.inr rfl) | (with_reducible refine G.set ?_ _ (Or.inl ?_); rotate_left; focus (first | omega | (simp; done) | (simp; omega))))) hgn; clear hgn))
        go_ret2
        exact ⟨by rw [hfin.out]; rfl, (by have hb0 := (HG); (repeat first | with_reducible exact hb0 | with_reducible refine G.drewN ?_ _ | with_reducible refine G.drew ?_ | with_reducible refine G.alloc ?_ _ | with_reducible refine G.set ?_ _ (Or.inr rfl) | (with_reducible refine G.set ?_ _ (Or.inl ?_); rotate_left; focus (first | omega | (simp; done) | (simp; omega)))))⟩
      go_wp2_with (first | (go_at_call_of 19 (Value.string (s.extract 0 2)); refine (HH.out _).mono ?_; rintro e wn ⟨rfl, hgn⟩; replace HG := G.trans (w := w) (by have hb0 := (HG); (repeat first | with_reducible exact hb0 | with_reducible refine G.drewN ?_ _ | with_reducible refine G.drew ?_ | with_reducible refine G.alloc ?_ _ | with_reducible refine G.set ?_ _ (Or.inr rfl) | (with_reducible refine G.set ?_ _ (Or.inl ?_); rotate_left; focus (first | omega | (simp; done) | (simp; omega))))) hgn; clear hgn) | (go_at_call_of 19 (Value.string (s.extract 3 5)); refine (HM.out _).mono ?_; rintro e wn ⟨rfl, hgn⟩; replace HG := G.trans (w := w) (by have hb0 := (HG); (repeat first | with_reducible exact hb0 | with_reducible refine G.drewN ?_ _ | with_reducible refine G.drew ?_ | with_reducible refine G.alloc ?_ _ | with_reducible refine G.set ?_ _ (Or.inr rfl) | (with_reducible refine G.set ?_ _ (Or.inl ?_); rotate_left; focus (first | omega | (simp; done) | (simp; omega))))) hgn; clear hgn))
      go_quiet (fail)
      go_wp2_with fail
      go_meet
      exact ⟨by rw [E1.out], by rw [E2.out]; first | rfl | (congr 1; omega), (by have hb0 := (HG); (repeat first | with_reducible exact hb0 | with_reducible refine G.drewN ?_ _ | with_reducible refine G.drew ?_ | with_reducible refine G.alloc ?_ _ | with_reducible refine G.set ?_ _ (Or.inr rfl) | (with_reducible refine G.set ?_ _ (Or.inl ?_); rotate_left; focus (first | omega | (simp; done) | (simp; omega))))), Lib.hid (by rw [hO2.out, if_neg (by omega), E1.out, E2.out])⟩
  obtain ⟨rfl, rfl, HG, HO⟩ := hcut
  clear hTM hW1 hO hH hP HA HB zz
  have hD : Hid (dayN T = if T.size = 8 ∧ allAt T 0 = true then (if okYMD (numB (T.extract 0 4)) (numB (T.extract 4 6)) (numB (T.extract 6 8)) then some (daysN (numB (T.extract 0 4)) (numB (T.extract 4 6)) (numB (T.extract 6 8))) else none) else none) := Lib.hid rfl
  have hVn2 : Hid (dayN T = none → V = .tuple #[.int .i64 0, .bool false]) := Lib.hid (fun h => hVn.out (by rw [HO.out, h]; rfl))
  have HA := Lib.hid (fun w => digits16_any T w (by omega))
  by_cases h8 : T.size = 8
  case neg =>
    have hfin : Hid (V = .tuple #[.int .i64 0, .bool false]) := Lib.hid (hVn2.out (by rw [hD.out, if_neg (fun h => h8 h.1)]))
    have h8' : (((T.size : Nat) : Int) != 8) = true := by simp; omega
    go_wp2_with fail
    go_ret2
    exact ⟨by rw [hfin.out]; rfl, (by have hb0 := (HG); (repeat first | with_reducible exact hb0 | with_reducible refine G.drewN ?_ _ | with_reducible refine G.drew ?_ | with_reducible refine G.alloc ?_ _ | with_reducible refine G.set ?_ _ (Or.inr rfl) | (with_reducible refine G.set ?_ _ (Or.inl ?_); rotate_left; focus (first | omega | (simp; done) | (simp; omega)))))⟩
  have h8' : (((T.size : Nat) : Int) != 8) = false := by simp; omega
  have hR := run_all h8
  cases hal : allAt T 0
  · have hfin : Hid (V = .tuple #[.int .i64 0, .bool false]) := Lib.hid (hVn2.out (by rw [hD.out, if_neg (fun h => by rw [hal] at h; cases h.2)]))
    rw [hal] at hR
    clear hal
    generalize runD T 0 = r at *
    go_wp2_with (go_at_call 18; refine (HA.out _).mono ?_; rintro e wn ⟨rfl, rfl⟩)
    go_ret2
    exact ⟨by rw [hfin.out]; rfl, (by have hb0 := (HG); (repeat first | with_reducible exact hb0 | with_reducible refine G.drewN ?_ _ | with_reducible refine G.drew ?_ | with_reducible refine G.alloc ?_ _ | with_reducible refine G.set ?_ _ (Or.inr rfl) | (with_reducible refine G.set ?_ _ (Or.inl ?_); rotate_left; focus (first | omega | (simp; done) | (simp; omega)))))⟩
  rw [hal] at hR
  generalize runD T 0 = r at *
  obtain ⟨y1, y2⟩ := piece_whole hal 0 4 (by omega) (by omega) (by omega)
  obtain ⟨m1, m2⟩ := piece_whole hal 4 6 (by omega) (by omega) (by omega)
  obtain ⟨d1, d2⟩ := piece_whole hal 6 8 (by omega) (by omega) (by omega)
  have hO2 : Hid (dayN T = if okYMD (numB (T.extract 0 4)) (numB (T.extract 4 6)) (numB (T.extract 6 8)) then some (daysN (numB (T.extract 0 4)) (numB (T.extract 4 6)) (numB (T.extract 6 8))) else none) := Lib.hid (by rw [hD.out, if_pos ⟨h8, hal⟩])
  have zz : ∀ a b, (T.extract a b).size ≤ 1000000 := fun a b => by rw [ByteArray.size_extract]; omega
  have HY := Lib.hid (fun w => whole_prog (T.extract 0 4) w (zz _ _))
  have HM := Lib.hid (fun w => whole_prog (T.extract 4 6) w (zz _ _))
  have HD := Lib.hid (fun w => whole_prog (T.extract 6 8) w (zz _ _))
  rw [y1] at HY
  rw [m1] at HM
  rw [d1] at HD
  simp only [wholeT] at HY HM HD
  clear y1 m1 d1 zz hal
  have e4 : (10 : Nat) ^ (4 - 0) = 10000 := by decide
  have e2 : (10 : Nat) ^ (6 - 4) = 100 := by decide
  have e3 : (10 : Nat) ^ (8 - 6) = 100 := by decide
  rw [e4] at y2
  rw [e2] at m2
  rw [e3] at d2
  clear e4 e2 e3
  generalize numB (T.extract 0 4) = y at *
  generalize numB (T.extract 4 6) = m at *
  generalize numB (T.extract 6 8) = d at *
  go_upto_region 13 with (first | (go_at_call 18; refine (HA.out _).mono ?_; rintro e wn ⟨rfl, rfl⟩) | (go_at_call_of 19 (Value.string (T.extract 0 4)); refine (HY.out _).mono ?_; rintro e wn ⟨rfl, hgn⟩; replace HG := G.trans (w := w) (by have hb0 := (HG); (repeat first | with_reducible exact hb0 | with_reducible refine G.drewN ?_ _ | with_reducible refine G.drew ?_ | with_reducible refine G.alloc ?_ _ | with_reducible refine G.set ?_ _ (Or.inr rfl) | (with_reducible refine G.set ?_ _ (Or.inl ?_); rotate_left; focus (first | omega | (simp; done) | (simp; omega))))) hgn; clear hgn) | (go_at_call_of 19 (Value.string (T.extract 4 6)); refine (HM.out _).mono ?_; rintro e wn ⟨rfl, hgn⟩; replace HG := G.trans (w := w) (by have hb0 := (HG); (repeat first | with_reducible exact hb0 | with_reducible refine G.drewN ?_ _ | with_reducible refine G.drew ?_ | with_reducible refine G.alloc ?_ _ | with_reducible refine G.set ?_ _ (Or.inr rfl) | (with_reducible refine G.set ?_ _ (Or.inl ?_); rotate_left; focus (first | omega | (simp; done) | (simp; omega))))) hgn; clear hgn) | (go_at_call_of 19 (Value.string (T.extract 6 8)); refine (HD.out _).mono ?_; rintro e wn ⟨rfl, hgn⟩; replace HG := G.trans (w := w) (by have hb0 := (HG); (repeat first | with_reducible exact hb0 | with_reducible refine G.drewN ?_ _ | with_reducible refine G.drew ?_ | with_reducible refine G.alloc ?_ _ | with_reducible refine G.set ?_ _ (Or.inr rfl) | (with_reducible refine G.set ?_ _ (Or.inl ?_); rotate_left; focus (first | omega | (simp; done) | (simp; omega))))) hgn; clear hgn))
  clear HY HM HD HA
  by_cases hy : (y : Int) < 1970
  · have hfin : Hid (V = .tuple #[.int .i64 0, .bool false]) := Lib.hid (hVn2.out (by rw [hO2.out, if_neg (by unfold okYMD; simp; omega)]))
    go_wp2_with fail
    go_ret2
    exact ⟨by rw [hfin.out]; rfl, (by have hb0 := (HG); (repeat first | with_reducible exact hb0 | with_reducible refine G.drewN ?_ _ | with_reducible refine G.drew ?_ | with_reducible refine G.alloc ?_ _ | with_reducible refine G.set ?_ _ (Or.inr rfl) | (with_reducible refine G.set ?_ _ (Or.inl ?_); rotate_left; focus (first | omega | (simp; done) | (simp; omega)))))⟩
  by_cases hm1 : (m : Int) < 1
  · have hfin : Hid (V = .tuple #[.int .i64 0, .bool false]) := Lib.hid (hVn2.out (by rw [hO2.out, if_neg (by unfold okYMD; simp; omega)]))
    go_wp2_with fail
    go_ret2
    exact ⟨by rw [hfin.out]; rfl, (by have hb0 := (HG); (repeat first | with_reducible exact hb0 | with_reducible refine G.drewN ?_ _ | with_reducible refine G.drew ?_ | with_reducible refine G.alloc ?_ _ | with_reducible refine G.set ?_ _ (Or.inr rfl) | (with_reducible refine G.set ?_ _ (Or.inl ?_); rotate_left; focus (first | omega | (simp; done) | (simp; omega)))))⟩
  by_cases hm2 : (12 : Int) < (m : Int)
  · have hfin : Hid (V = .tuple #[.int .i64 0, .bool false]) := Lib.hid (hVn2.out (by rw [hO2.out, if_neg (by unfold okYMD; simp; omega)]))
    go_wp2_with fail
    go_ret2
    exact ⟨by rw [hfin.out]; rfl, (by have hb0 := (HG); (repeat first | with_reducible exact hb0 | with_reducible refine G.drewN ?_ _ | with_reducible refine G.drew ?_ | with_reducible refine G.alloc ?_ _ | with_reducible refine G.set ?_ _ (Or.inr rfl) | (with_reducible refine G.set ?_ _ (Or.inl ?_); rotate_left; focus (first | omega | (simp; done) | (simp; omega)))))⟩
  by_cases hd1 : (d : Int) < 1
  · have hfin : Hid (V = .tuple #[.int .i64 0, .bool false]) := Lib.hid (hVn2.out (by rw [hO2.out, if_neg (by unfold okYMD; simp; omega)]))
    go_wp2_with fail
    go_ret2
    exact ⟨by rw [hfin.out]; rfl, (by have hb0 := (HG); (repeat first | with_reducible exact hb0 | with_reducible refine G.drewN ?_ _ | with_reducible refine G.drew ?_ | with_reducible refine G.alloc ?_ _ | with_reducible refine G.set ?_ _ (Or.inr rfl) | (with_reducible refine G.set ?_ _ (Or.inl ?_); rotate_left; focus (first | omega | (simp; done) | (simp; omega)))))⟩
  have HL := Lib.hid (fun (m : Nat) (hm : m ≤ 1000000) w => month_prog y m w (by omega) hm)
  have HL0 := Lib.hid (fun w => HL.out m (by omega) w)
  by_cases hd2 : (mlen y m : Int) < (d : Int)
  · have hfin : Hid (V = .tuple #[.int .i64 0, .bool false]) := Lib.hid (hVn2.out (by rw [hO2.out, if_neg (by unfold okYMD; simp; omega)]))
    go_wp2_with (go_at_call 24; refine (HL0.out _).mono ?_; rintro e wn ⟨rfl, rfl⟩)
    go_ret2
    exact ⟨by rw [hfin.out]; rfl, (by have hb0 := (HG); (repeat first | with_reducible exact hb0 | with_reducible refine G.drewN ?_ _ | with_reducible refine G.drew ?_ | with_reducible refine G.alloc ?_ _ | with_reducible refine G.set ?_ _ (Or.inr rfl) | (with_reducible refine G.set ?_ _ (Or.inl ?_); rotate_left; focus (first | omega | (simp; done) | (simp; omega)))))⟩
  have hd3 : ¬ mlen y m < d := by omega
  have hq : Hid (dayN T = some (daysN y m d)) := Lib.hid (by rw [hO2.out, if_pos (by unfold okYMD; simp; omega)])
  have hDN : Hid (daysN y m d = (d - 1) + msum y 1 (m - 1) + ysum 1970 (y - 1970)) := Lib.hid rfl
  have hO3 : Hid (dateO s = if ((daysN y m d : Nat) : Int) * 86400 + (M : Int) ≤ 4294967295 then some (((daysN y m d : Nat) : Int) * 86400 + (M : Int)) else none) := Lib.hid (by rw [HO.out, hq.out]; rfl)
  have b1 := Lib.hid (msum_le y 1)
  have b2 := Lib.hid (ysum_le 1970)
  have HYp := Lib.hid (fun (y : Nat) (hy : y ≤ 1000000) w => year_prog y w hy)
  generalize daysN y m d = N at *
  clear hO2 hVn2 hq HO hD hR
  go_wp2_with (go_at_call 24; refine (HL0.out _).mono ?_; rintro e wn ⟨rfl, rfl⟩)
  clear HL0
  go_loop [4, 15] (fun tv iv => ∃ j n : Nat, iv = .int .i64 ((j : Int) + 1970) ∧ j + 1970 ≤ y ∧ tv = .int .i64 n ∧ Hid (n = M + ysum 1970 j * 86400) ∧ n ≤ 500000000000) (fun _ iv => y - (intOf iv).toNat)
  case atStart => exact ⟨0, M, rfl, by omega, rfl, Lib.hid (by simp [ysum]), by omega⟩
  case round =>
    obtain ⟨j, n, rfl, hj, rfl, H, hn⟩ := hrel
    by_cases hlt : (j : Int) + 1970 < (y : Int)
    · have HLj := HYp.out (j + 1970) (by omega)
      have ej : ((j + 1970 : Nat) : Int) = (j : Int) + 1970 := by omega
      rw [ej] at HLj
      have HLj' := Lib.hid HLj
      have hys : Hid (ysum 1970 (j + 1) = ysum 1970 j + ylen (j + 1970)) := Lib.hid (by rw [ysum, Nat.add_comm 1970 j])
      have hle : ylen (j + 1970) ≤ 366 := by unfold ylen; split <;> omega
      clear HLj ej
      generalize ylen (j + 1970) = L at *
      go_wp2_with (go_at_call 25; refine (HLj'.out _).mono ?_; rintro e wn ⟨rfl, rfl⟩)
      refine ⟨?_, by simp [intOf]; omega⟩
      exact ⟨j + 1, n + L * 86400, by go_num, by omega, by go_num, Lib.hid (by have := H.out; have := hys.out; omega), by have := H.out; have := hys.out; have := b2.out (j + 1); omega⟩
    · have hjy : Hid (j = y - 1970) := Lib.hid (by omega)
      have H0 := Lib.hid (show n = M + ysum 1970 (y - 1970) * 86400 by rw [← hjy.out]; exact H.out)
      clear H hjy HYp
      go_wp2_with fail
      go_loop [4, 16] (fun tv iv => ∃ k t : Nat, iv = .int .i64 ((k : Int) + 1) ∧ k + 1 ≤ m ∧ tv = .int .i64 t ∧ Hid (t = n + msum y 1 k * 86400) ∧ t ≤ 600000000000) (fun _ iv => m - (intOf iv).toNat)
      case atStart => exact ⟨0, n, rfl, by omega, rfl, Lib.hid (by simp [msum]), by omega⟩
      case round =>
        obtain ⟨k, t, rfl, hk, rfl, H, ht⟩ := hrel
        by_cases hlt2 : (k : Int) + 1 < (m : Int)
        · have HLk := HL.out (k + 1) (by omega)
          have hle : mlen y (k + 1) ≤ 31 := by unfold mlen; (repeat' split) <;> omega
          have hms : Hid (msum y 1 (k + 1) = msum y 1 k + mlen y (k + 1)) := Lib.hid (by rw [msum, Nat.add_comm 1 k])
          have ek : ((k + 1 : Nat) : Int) = (k : Int) + 1 := by omega
          rw [ek] at HLk
          have HLk' := Lib.hid HLk
          clear HLk ek
          generalize mlen y (k + 1) = L at *
          go_wp2_with (go_at_call 24; refine (HLk'.out _).mono ?_; rintro e wn ⟨rfl, rfl⟩)
          refine ⟨?_, by simp [intOf]; omega⟩
          exact ⟨k + 1, t + L * 86400, by go_num, by omega, by go_num, Lib.hid (by have := H.out; have := hms.out; omega), by have := H.out; have := hms.out; have := b1.out (k + 1); omega⟩
        · have hkm : Hid (k = m - 1) := Lib.hid (by omega)
          have hN : (N : Int) * 86400 + (M : Int) = (t : Int) + ((d : Int) - 1) * 86400 := by
            have q1 := hDN.out; have q2 := H0.out; have q3 := H.out; have q4 := hkm.out
            subst q4
            generalize msum y 1 (m - 1) = A at *
            generalize ysum 1970 (y - 1970) = B at *
            subst q1 q2 q3
            have : ((d - 1 : Nat) : Int) = (d : Int) - 1 := by omega
            omega
          rw [hN] at hO3
          clear hN hkm H H0 hDN
          by_cases hc : (t : Int) + ((d : Int) - 1) * 86400 ≤ 4294967295
          · have hfin : Hid (V = .tuple #[.int .i64 ((t : Int) + ((d : Int) - 1) * 86400), .bool true]) := Lib.hid (by rw [← hV.out, hO3.out, if_pos hc]; rfl)
            go_wp2_with fail
            go_ret2
            exact ⟨by rw [hfin.out]; rfl, (by have hb0 := (HG); (repeat first | with_reducible exact hb0 | with_reducible refine G.drewN ?_ _ | with_reducible refine G.drew ?_ | with_reducible refine G.alloc ?_ _ | with_reducible refine G.set ?_ _ (Or.inr rfl) | (with_reducible refine G.set ?_ _ (Or.inl ?_); rotate_left; focus (first | omega | (simp; done) | (simp; omega)))))⟩
          · have hfin : Hid (V = .tuple #[.int .i64 0, .bool false]) := Lib.hid (hVn.out (by rw [hO3.out, if_neg hc]))
            go_wp2_with fail
            go_ret2
            exact ⟨by rw [hfin.out]; rfl, (by have hb0 := (HG); (repeat first | with_reducible exact hb0 | with_reducible refine G.drewN ?_ _ | with_reducible refine G.drew ?_ | with_reducible refine G.alloc ?_ _ | with_reducible refine G.set ?_ _ (Or.inr rfl) | (with_reducible refine G.set ?_ _ (Or.inl ?_); rotate_left; focus (first | omega | (simp; done) | (simp; omega)))))⟩
end Go.Proofs.YtjfdaoedpdiaeaaDoor
