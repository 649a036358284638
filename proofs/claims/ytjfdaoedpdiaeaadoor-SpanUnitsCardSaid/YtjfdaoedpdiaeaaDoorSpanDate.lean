/-
  What a text says as a day or as a minute of a day; the walk of the reference's Date.
-/
import Derived.Test.YtjfdaoedpdiaeaaDoorSpanDay
namespace Go.Proofs.YtjfdaoedpdiaeaaDoor
open Go.RowKit
/-- does a text name a minute ahead of a day? -/
def hmS (s : ByteArray) : Bool := if h : s.size = 14 then ((s[2].toNat : Int) == 58) && (((s[5].toNat : Int) == 95) && (allAt (s.extract 0 2) 0 && allAt (s.extract 3 5) 0)) else false
def capO (o : Option Nat) (more : Nat) : Option Int := o.bind fun n => if (n : Int) * 86400 + (more : Int) ≤ 4294967295 then some ((n : Int) * 86400 + (more : Int)) else none
/-- the second at which what a text names begins -/
def dateO (s : ByteArray) : Option Int := if hmS s then (if 23 < numB (s.extract 0 2) ∨ 59 < numB (s.extract 3 5) then none else capO (dayN (s.extract 6 14)) (numB (s.extract 0 2) * 3600 + numB (s.extract 3 5) * 60)) else capO (dayN s) 0
theorem dayN_le {s : ByteArray} {n : Nat} (h : dayN s = some n) : n ≤ 5000000 := by
  unfold dayN at h
  split at h
  · rename_i hs
    obtain ⟨_, y2⟩ := piece_whole hs.2 0 4 (by omega) (by omega) (by omega)
    have e4 : (10 : Nat) ^ (4 - 0) = 10000 := by decide
    rw [e4] at y2
    generalize numB (s.extract 0 4) = y at *
    generalize numB (s.extract 4 6) = m at *
    generalize numB (s.extract 6 8) = d at *
    split at h
    · rename_i hk
      have h := Option.some.inj h
      rw [← h]
      unfold okYMD at hk
      simp only [Bool.and_eq_true, decide_eq_true_eq] at hk
      have h1 := msum_le y 1 (m - 1)
      have h2 := ysum_le 1970 (y - 1970)
      have h3 : mlen y m ≤ 31 := by unfold mlen; (repeat' split) <;> omega
      unfold daysN
      omega
    · cases h
  · cases h
theorem capO_le {o : Option Nat} {more : Nat} {n : Int} (h : capO o more = some n) : 0 ≤ n ∧ n ≤ 4294967295 := by
  unfold capO at h
  cases o with
  | none => cases h
  | some k =>
    simp only [Option.bind_some] at h
    split at h
    · cases h; omega
    · cases h
theorem dateO_le {s : ByteArray} {n : Int} (h : dateO s = some n) : 0 ≤ n ∧ n ≤ 4294967295 := by
  unfold dateO at h
  split at h
  · split at h
    · cases h
    · exact capO_le h
  · exact capO_le h
theorem hm_parts {s : ByteArray} (h : hmS s = true) : s.size = 14 ∧ allAt (s.extract 0 2) 0 = true ∧ allAt (s.extract 3 5) 0 = true := by
  unfold hmS at h
  split at h
  · rename_i h14
    simp only [Bool.and_eq_true] at h
    exact ⟨h14, h.2.2.1, h.2.2.2⟩
  · cases h
/-- two digits say a number below 100 -/
theorem two_whole {t : ByteArray} (h : allAt t 0 = true) (hz : t.size = 2) : wholeO t = some (numB t : Int) ∧ numB t < 100 := by
  have h1 := piece_whole h 0 2 (by omega) (by omega) (by omega)
  have e : t.extract 0 2 = t := by rw [← hz]; exact ByteArray.extract_zero_size
  rw [e] at h1
  exact h1
set_option maxHeartbeats 8000000 in
theorem date_ref (s : ByteArray) (w : World) (hs : s.size ≤ 1000) :
    Calls Tryd.prog 10 #[.string s] w fun e w' => e = .returned (wholeT (dateO s)) ∧ w.grownBy w' none := by
  obtain ⟨V, hV⟩ : ∃ V, Hid (wholeT (dateO s) = V) := ⟨_, Lib.hid rfl⟩
  rw [hV.out]
  have hO : Hid (dateO s = if hmS s then (if 23 < numB (s.extract 0 2) ∨ 59 < numB (s.extract 3 5) then none else capO (dayN (s.extract 6 14)) (numB (s.extract 0 2) * 3600 + numB (s.extract 3 5) * 60)) else capO (dayN s) 0) := Lib.hid rfl
  have hVn : Hid (dateO s = none → V = .tuple #[.int .i64 0, .bool false]) := Lib.hid (fun h => by rw [← hV.out, h]; rfl)
  have hH : Hid (hmS s = if h : s.size = 14 then ((s[2].toNat : Int) == 58) && (((s[5].toNat : Int) == 95) && (allAt (s.extract 0 2) 0 && allAt (s.extract 3 5) 0)) else false) := Lib.hid rfl
  have hP := Lib.hid (@hm_parts s)
  have zz : ∀ a b, (s.extract a b).size ≤ 1000 := fun a b => by rw [ByteArray.size_extract]; omega
  have HA := Lib.hid (fun w => all16_any (s.extract 0 2) w (by have := zz 0 2; omega))
  have HB := Lib.hid (fun w => all16_any (s.extract 3 5) w (by have := zz 3 5; omega))
  obtain ⟨T, M, hTM, hTs, hM⟩ : ∃ (T : ByteArray) (M : Nat), Hid ((hmS s = true → T = s.extract 6 14 ∧ M = numB (s.extract 0 2) * 3600 + numB (s.extract 3 5) * 60) ∧ (hmS s = false → T = s ∧ M = 0)) ∧ T.size ≤ 1000 ∧ M ≤ 500000 := by
    cases h : hmS s
    · exact ⟨s, 0, Lib.hid ⟨fun h => (by cases h), fun _ => ⟨rfl, rfl⟩⟩, hs, by omega⟩
    · obtain ⟨h1, h2, h3⟩ := hm_parts h
      have q1 := (two_whole h2 (by rw [ByteArray.size_extract]; omega)).2
      have q2 := (two_whole h3 (by rw [ByteArray.size_extract]; omega)).2
      exact ⟨_, _, Lib.hid ⟨fun _ => ⟨rfl, rfl⟩, fun h => (by cases h)⟩, zz _ _, by omega⟩
  have hW1 : Hid (hmS s = true → ∃ h m : Nat, numB (s.extract 0 2) = h ∧ numB (s.extract 3 5) = m ∧ h < 100 ∧ m < 100 ∧ wholeO (s.extract 0 2) = some (h : Int) ∧ wholeO (s.extract 3 5) = some (m : Int)) := Lib.hid (fun h => by
    obtain ⟨h1, h2, h3⟩ := hm_parts h
    have q1 := two_whole h2 (by rw [ByteArray.size_extract]; omega)
    have q2 := two_whole h3 (by rw [ByteArray.size_extract]; omega)
    exact ⟨_, _, rfl, rfl, q1.2, q2.2, q1.1, q2.1⟩)
  generalize hmS s = hm at *
  have HG := G.refl w none
  go_enter Tryd.func10, Tryd.ntmps10
  go_upto_region 2 with (fail)
  go_cut [31] (fun v wc => v = .bool hm ∧ w = wc)
  case first =>
    by_cases h14 : s.size = 14
    · have hq : Hid (hm = (((s[2].toNat : Int) == 58) && (((s[5].toNat : Int) == 95) && (allAt (s.extract 0 2) 0 && allAt (s.extract 3 5) 0)))) := Lib.hid (by rw [hH.out, dif_pos h14])
      clear hH hP hTM hO
      generalize allAt (s.extract 0 2) 0 = a1 at *
      generalize allAt (s.extract 3 5) 0 = a2 at *
      have h14' : (((s.size : Nat) : Int) == 14) = true := by simp; omega
      cases h2 : ((s[2].toNat : Int) == 58)
      · go_wp2_with fail
        go_meet
        exact ⟨by rw [hq.out, h2]; rfl, rfl⟩
      cases h5 : ((s[5].toNat : Int) == 95)
      · go_wp2_with fail
        go_meet
        exact ⟨by rw [hq.out, h2, h5]; rfl, rfl⟩
      cases a1
      · go_wp2_with (go_at_call_of 26 (Value.string (s.extract 0 2)); refine (HA.out _).mono ?_; rintro e wn ⟨rfl, rfl⟩)
        go_meet
        exact ⟨by rw [hq.out, h2, h5]; rfl, rfl⟩
      cases a2 <;>
      · go_wp2_with (first | (go_at_call_of 26 (Value.string (s.extract 0 2)); refine (HA.out _).mono ?_; rintro e wn ⟨rfl, rfl⟩) | (go_at_call_of 26 (Value.string (s.extract 3 5)); refine (HB.out _).mono ?_; rintro e wn ⟨rfl, rfl⟩))
        go_meet
        exact ⟨by rw [hq.out, h2, h5]; rfl, rfl⟩
    · have hq : Hid (hm = false) := Lib.hid (by rw [hH.out, dif_neg h14])
      have h14' : (((s.size : Nat) : Int) == 14) = false := by simp; omega
      go_wp2_with fail
      go_meet
      exact ⟨by rw [hq.out], rfl⟩
  obtain ⟨rfl, rfl⟩ := hcut
  go_upto_if 31 with (fail)
  go_cut [0, 4] (fun sv mv wc => sv = .string T ∧ mv = .int .i64 M ∧ w.grownBy wc none ∧ Hid (dateO s = capO (dayN T) M))
  case first =>
    cases hm
    · obtain ⟨e1, e2⟩ := hTM.out.2 rfl
      have E1 := Lib.hid e1; have E2 := Lib.hid e2
      clear e1 e2
      go_wp2_with fail
      go_meet
      exact ⟨by rw [E1.out], by rw [E2.out]; rfl, HG, Lib.hid (by rw [hO.out, E1.out, E2.out]; rfl)⟩
    · obtain ⟨e1, e2⟩ := hTM.out.1 rfl
      obtain ⟨h, m, q1, q2, q3, q4, q5, q6⟩ := hW1.out rfl
      obtain ⟨h14, _, _⟩ := hP.out rfl
      rw [q1, q2] at e2
      have hO2 : Hid (dateO s = if 23 < h ∨ 59 < m then none else capO (dayN (s.extract 6 14)) (h * 3600 + m * 60)) := Lib.hid (by rw [hO.out, q1, q2]; rfl)
      have E1 := Lib.hid e1; have E2 := Lib.hid e2
      have HH := Lib.hid (fun w => num_ref w (zz _ _) q5)
      have HM := Lib.hid (fun w => num_ref w (zz _ _) q6)
      clear e1 e2 q1 q2 q5 q6 hW1 hTM hO hH hP HA HB
      go_wp2_with fail
      (refine wp_region_grow (w0 := w) (by have hb0 := (HG); (repeat first | with_reducible exact hb0 | with_reducible refine G.drewN ?_ _ | with_reducible refine G.drew ?_ | with_reducible refine G.alloc ?_ _ | with_reducible refine G.set ?_ _ (Or.inr rfl) | (with_reducible refine G.set ?_ _ (Or.inl ?_); rotate_left; focus (first | omega | (simp; done) | (simp; omega))))) (by kernel_rfl) (by kernel_rfl) ?_; (repeat (refine wpQuiet_step (fun K hK => ?_); go_simp; first | (refine hK _ ?_; clear hK K) | (apply Exists.intro; refine ⟨fun xq => ?_, hK _ ?_⟩; (focus (first | (go_at_call_of 27 (Value.string (s.extract 0 2)); exact grow_of (HH.out _)) | (go_at_call_of 27 (Value.string (s.extract 3 5)); exact grow_of (HM.out _)))); clear hK K))); refine wpQuiet_nil ?_; clear HG; intro wn HG)
      by_cases hh : (23 : Int) < (h : Int)
      · have hfin : Hid (V = .tuple #[.int .i64 0, .bool false]) := Lib.hid (hVn.out (by rw [hO2.out, if_pos (by omega)]))
        go_wp2_with fail
        go_ret2
        exact ⟨by rw [hfin.out]; rfl, (by have hb0 := (HG); (repeat first | with_reducible exact hb0 | with_reducible refine G.drewN ?_ _ | with_reducible refine G.drew ?_ | with_reducible refine G.alloc ?_ _ | with_reducible refine G.set ?_ _ (Or.inr rfl) | (with_reducible refine G.set ?_ _ (Or.inl ?_); rotate_left; focus (first | omega | (simp; done) | (simp; omega)))))⟩
      by_cases hmm : (59 : Int) < (m : Int)
      · have hfin : Hid (V = .tuple #[.int .i64 0, .bool false]) := Lib.hid (hVn.out (by rw [hO2.out, if_pos (by omega)]))
        go_wp2_with fail
        go_ret2
        exact ⟨by rw [hfin.out]; rfl, (by have hb0 := (HG); (repeat first | with_reducible exact hb0 | with_reducible refine G.drewN ?_ _ | with_reducible refine G.drew ?_ | with_reducible refine G.alloc ?_ _ | with_reducible refine G.set ?_ _ (Or.inr rfl) | (with_reducible refine G.set ?_ _ (Or.inl ?_); rotate_left; focus (first | omega | (simp; done) | (simp; omega)))))⟩
      go_wp2_with fail
      go_meet
      exact ⟨by rw [E1.out], by rw [E2.out]; first | rfl | (congr 1; omega), (by have hb0 := (HG); (repeat first | with_reducible exact hb0 | with_reducible refine G.drewN ?_ _ | with_reducible refine G.drew ?_ | with_reducible refine G.alloc ?_ _ | with_reducible refine G.set ?_ _ (Or.inr rfl) | (with_reducible refine G.set ?_ _ (Or.inl ?_); rotate_left; focus (first | omega | (simp; done) | (simp; omega))))), Lib.hid (by rw [hO2.out, if_neg (by omega), E1.out, E2.out])⟩
  obtain ⟨rfl, rfl, HG, HO⟩ := hcut
  have HD := Lib.hid (fun w => day_ref T w hTs)
  have hle := @dayN_le T
  generalize dayN T = o at *
  clear hTM hW1 hO hH hP HA HB
  rcases o with _ | n
  · have hfin : Hid (V = .tuple #[.int .i64 0, .bool false]) := Lib.hid (hVn.out HO.out)
    simp only [dayV] at HD
    clear hle
    go_wp2_with (go_at_call 28; refine (HD.out _).mono ?_; rintro e wn ⟨rfl, hgn⟩; replace HG := G.trans (w := w) (by have hb0 := (HG); (repeat first | with_reducible exact hb0 | with_reducible refine G.drewN ?_ _ | with_reducible refine G.drew ?_ | with_reducible refine G.alloc ?_ _ | with_reducible refine G.set ?_ _ (Or.inr rfl) | (with_reducible refine G.set ?_ _ (Or.inl ?_); rotate_left; focus (first | omega | (simp; done) | (simp; omega))))) hgn; clear hgn)
    go_ret2
    exact ⟨by rw [hfin.out]; rfl, (by have hb0 := (HG); (repeat first | with_reducible exact hb0 | with_reducible refine G.drewN ?_ _ | with_reducible refine G.drew ?_ | with_reducible refine G.alloc ?_ _ | with_reducible refine G.set ?_ _ (Or.inr rfl) | (with_reducible refine G.set ?_ _ (Or.inl ?_); rotate_left; focus (first | omega | (simp; done) | (simp; omega)))))⟩
  have hn := hle rfl
  clear hle
  have hO3 : Hid (dateO s = if (n : Int) * 86400 + (M : Int) ≤ 4294967295 then some ((n : Int) * 86400 + (M : Int)) else none) := Lib.hid HO.out
  simp only [dayV] at HD
  by_cases hb : (n : Int) * 86400 ≤ 4294967295
  · rw [decide_eq_true hb] at HD
    by_cases hc : (n : Int) * 86400 + (M : Int) ≤ 4294967295
    · have hfin : Hid (V = .tuple #[.int .i64 ((n : Int) * 86400 + (M : Int)), .bool true]) := Lib.hid (by rw [← hV.out, hO3.out, if_pos hc]; rfl)
      go_wp2_with (go_at_call 28; refine (HD.out _).mono ?_; rintro e wn ⟨rfl, hgn⟩; replace HG := G.trans (w := w) (by have hb0 := (HG); (repeat first | with_reducible exact hb0 | with_reducible refine G.drewN ?_ _ | with_reducible refine G.drew ?_ | with_reducible refine G.alloc ?_ _ | with_reducible refine G.set ?_ _ (Or.inr rfl) | (with_reducible refine G.set ?_ _ (Or.inl ?_); rotate_left; focus (first | omega | (simp; done) | (simp; omega))))) hgn; clear hgn)
      go_ret2
      exact ⟨by rw [hfin.out]; rfl, (by have hb0 := (HG); (repeat first | with_reducible exact hb0 | with_reducible refine G.drewN ?_ _ | with_reducible refine G.drew ?_ | with_reducible refine G.alloc ?_ _ | with_reducible refine G.set ?_ _ (Or.inr rfl) | (with_reducible refine G.set ?_ _ (Or.inl ?_); rotate_left; focus (first | omega | (simp; done) | (simp; omega)))))⟩
    · have hfin : Hid (V = .tuple #[.int .i64 0, .bool false]) := Lib.hid (hVn.out (by rw [hO3.out, if_neg hc]))
      go_wp2_with (go_at_call 28; refine (HD.out _).mono ?_; rintro e wn ⟨rfl, hgn⟩; replace HG := G.trans (w := w) (by have hb0 := (HG); (repeat first | with_reducible exact hb0 | with_reducible refine G.drewN ?_ _ | with_reducible refine G.drew ?_ | with_reducible refine G.alloc ?_ _ | with_reducible refine G.set ?_ _ (Or.inr rfl) | (with_reducible refine G.set ?_ _ (Or.inl ?_); rotate_left; focus (first | omega | (simp; done) | (simp; omega))))) hgn; clear hgn)
      go_ret2
      exact ⟨by rw [hfin.out]; rfl, (by have hb0 := (HG); (repeat first | with_reducible exact hb0 | with_reducible refine G.drewN ?_ _ | with_reducible refine G.drew ?_ | with_reducible refine G.alloc ?_ _ | with_reducible refine G.set ?_ _ (Or.inr rfl) | (with_reducible refine G.set ?_ _ (Or.inl ?_); rotate_left; focus (first | omega | (simp; done) | (simp; omega)))))⟩
  · rw [decide_eq_false hb] at HD
    have hfin : Hid (V = .tuple #[.int .i64 0, .bool false]) := Lib.hid (hVn.out (by rw [hO3.out, if_neg (by omega)]))
    go_wp2_with (go_at_call 28; refine (HD.out _).mono ?_; rintro e wn ⟨rfl, hgn⟩; replace HG := G.trans (w := w) (by have hb0 := (HG); (repeat first | with_reducible exact hb0 | with_reducible refine G.drewN ?_ _ | with_reducible refine G.drew ?_ | with_reducible refine G.alloc ?_ _ | with_reducible refine G.set ?_ _ (Or.inr rfl) | (with_reducible refine G.set ?_ _ (Or.inl ?_); rotate_left; focus (first | omega | (simp; done) | (simp; omega))))) hgn; clear hgn)
    go_ret2
    exact ⟨by rw [hfin.out]; rfl, (by have hb0 := (HG); (repeat first | with_reducible exact hb0 | with_reducible refine G.drewN ?_ _ | with_reducible refine G.drew ?_ | with_reducible refine G.alloc ?_ _ | with_reducible refine G.set ?_ _ (Or.inr rfl) | (with_reducible refine G.set ?_ _ (Or.inl ?_); rotate_left; focus (first | omega | (simp; done) | (simp; omega)))))⟩
end Go.Proofs.YtjfdaoedpdiaeaaDoor
