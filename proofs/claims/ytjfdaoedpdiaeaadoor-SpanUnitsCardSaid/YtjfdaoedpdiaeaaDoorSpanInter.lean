/-
  What a text of a number and a unit says; the walk of the program's Interval.
-/
import Derived.Test.YtjfdaoedpdiaeaaDoorSpanUnitR
namespace Go.Proofs.YtjfdaoedpdiaeaaDoor
open Go.RowKit
theorem take_while_len (l : List UInt8) : l.take (l.takeWhile isD).length = l.takeWhile isD := by
  induction l with
  | nil => rfl
  | cons c l ih =>
    cases h : isD c
    · rw [List.takeWhile_cons_of_neg (by rw [h]; simp)]; rfl
    · rw [List.takeWhile_cons_of_pos h, List.length_cons, List.take_succ_cons, ih]
theorem all_while (l : List UInt8) : (l.takeWhile isD).all isD = true := by
  induction l with
  | nil => rfl
  | cons c l ih =>
    cases h : isD c
    · rw [List.takeWhile_cons_of_neg (by rw [h]; simp)]; rfl
    · rw [List.takeWhile_cons_of_pos h, List.all_cons, h, ih]; rfl
theorem runD_le (t : ByteArray) : runD t 0 ≤ t.size := by
  unfold runD
  rw [List.drop_zero]
  have := (List.takeWhile_sublist (p := isD) (l := t.data.toList)).length_le
  have e : t.data.toList.length = t.size := by simp
  omega
/-- the digits that stand ahead, and what stands behind them -/
def leadB (t : ByteArray) : ByteArray := t.extract 0 (runD t 0)
def restB (t : ByteArray) : ByteArray := t.extract (runD t 0) t.size
theorem leadB_data (t : ByteArray) : (leadB t).data.toList = t.data.toList.takeWhile isD := by
  unfold leadB
  rw [Lib.extract_data, List.drop_zero, Nat.sub_zero]
  unfold runD
  rw [List.drop_zero, take_while_len]
theorem lead_minus (t : ByteArray) : minusS (leadB t) = false := minus_not (fun r h => by
  have := all_while t.data.toList
  rw [← leadB_data, h, List.all_cons, Bool.and_eq_true] at this
  exact absurd this.1 (by decide))
theorem lead_bare (t : ByteArray) : bareW (leadB t) = leadB t := by unfold bareW; rw [lead_minus]; rfl
theorem lead_whole (t : ByteArray) : wholeO (leadB t) = if runD t 0 = 0 then none else Option.map (fun (m : Nat) => (m : Int)) (numR 0 (leadB t).data.toList) := by
  have e : (leadB t).data.toList.length = runD t 0 := by rw [leadB_data]; unfold runD; rw [List.drop_zero]
  unfold wholeO
  rw [lead_bare, lead_minus]
  unfold okD
  rw [leadB_data, all_while, ← leadB_data, Bool.true_and]
  by_cases h : runD t 0 = 0
  · rw [if_pos h]
    have : (leadB t).data.toList = [] := List.eq_nil_of_length_eq_zero (by omega)
    rw [this]; rfl
  · rw [if_neg h]
    have : (leadB t).data.toList.isEmpty = false := by
      cases h2 : (leadB t).data.toList with
      | nil => rw [h2, List.length_nil] at e; omega
      | cons c r => rfl
    rw [this]; simp
theorem lead_nat (t : ByteArray) : wholeO (leadB t) = none ∨ ∃ m : Nat, wholeO (leadB t) = some (m : Int) ∧ (m : Int) ≤ 4611686018427387904 := by
  rw [lead_whole]
  split
  · exact Or.inl rfl
  · unfold numR
    split
    · rename_i h; exact Or.inr ⟨_, rfl, by unfold topN at h; omega⟩
    · exact Or.inl rfl
/-- how many seconds a text is -/
def interO (s : ByteArray) : Option Int := (wholeO (leadB (bareS s))).bind fun n =>
  if unitN (restB (bareS s)) = 0 ∨ (4294967295 : Int) / (unitN (restB (bareS s)) : Int) < n then none else some (if minusS s then -(n * (unitN (restB (bareS s)) : Int)) else n * (unitN (restB (bareS s)) : Int))
theorem inter_bound {s : ByteArray} {n : Int} (h : interO s = some n) : -4294967295 ≤ n ∧ n ≤ 4294967295 := by
  unfold interO at h
  rcases lead_nat (bareS s) with e | ⟨m, e, _⟩
  · rw [e] at h; cases h
  · rw [e] at h
    simp only [Option.bind_some] at h
    generalize unitN (restB (bareS s)) = u at h
    split at h
    · cases h
    · rename_i hn
      have hu : (u : Int) ≠ 0 := by omega
      have h1 := Int.ediv_mul_le 4294967295 hu
      have h2 : (m : Int) * (u : Int) ≤ (4294967295 : Int) / (u : Int) * (u : Int) := Int.mul_le_mul_of_nonneg_right (by omega) (by omega)
      have h3 : 0 ≤ (m : Int) * (u : Int) := Int.mul_nonneg (by omega) (by omega)
      generalize (m : Int) * (u : Int) = p at *
      split at h <;> (cases h; omega)
def sgnI (mi : Bool) : Int := if mi then -1 else 1
set_option maxHeartbeats 8000000 in
theorem inter_prog (s : ByteArray) (w : World) (hs : s.size ≤ 100000) :
    Calls Tryd.prog 7 #[.string s] w fun e w' => e = .returned (wholeT (interO s)) ∧ w.grownBy w' none := by
  obtain ⟨V, hV⟩ : ∃ V, Hid (wholeT (interO s) = V) := ⟨_, Lib.hid rfl⟩
  rw [hV.out]
  have hO : Hid (interO s = (wholeO (leadB (bareS s))).bind fun n => if unitN (restB (bareS s)) = 0 ∨ (4294967295 : Int) / (unitN (restB (bareS s)) : Int) < n then none else some (if minusS s then -(n * (unitN (restB (bareS s)) : Int)) else n * (unitN (restB (bareS s)) : Int))) := Lib.hid rfl
  have hsg : Hid (signedS s = if h : 0 < s.size then ((s[0].toNat : Int) == 45) || ((s[0].toNat : Int) == 43) else false) := Lib.hid rfl
  have hmi : Hid (minusS s = if h : 0 < s.size then ((s[0].toNat : Int) == 45) else false) := Lib.hid rfl
  have hba : Hid (bareS s = if signedS s then s.extract 1 s.size else s) := Lib.hid rfl
  have hpos := Lib.hid (@signed_pos s)
  have hbz := bareS_size s
  have HS := Lib.hid (fun w => signed16_any s w)
  generalize minusS s = mi at *
  generalize bareS s = t at *
  generalize signedS s = sg at *
  go_enter Tryd.func7, Tryd.ntmps7
  go_upto_if 10 with ((go_at_call 17; refine (HS.out _).mono ?_; rintro e wn ⟨rfl, rfl⟩))
  go_cut [0, 4] (fun sv mv wc => sv = .string t ∧ mv = .int .i64 (sgnI mi) ∧ w = wc)
  case first =>
    cases sg
    · have hq : Hid (t = s) := Lib.hid (by rw [hba.out]; rfl)
      have hm : Hid (mi = false) := Lib.hid (by
        rw [hmi.out]
        split
        · rename_i h0
          have := hsg.out
          rw [dif_pos h0] at this
          cases h1 : ((s[0].toNat : Int) == 45)
          · rfl
          · rw [h1] at this; cases this
        · rfl)
      go_wp2_with fail
      go_meet
      exact ⟨by rw [hq.out], by rw [hm.out]; rfl, rfl⟩
    · have h0 := hpos.out rfl
      have hq : Hid (t = s.extract 1 s.size) := Lib.hid (by rw [hba.out]; rfl)
      cases mi
      · have hm : ((s[0].toNat : Int) == 45) = false := by have := hmi.out; rw [dif_pos h0] at this; exact this.symm
        go_wp2_with fail
        go_meet
        exact ⟨by rw [hq.out], rfl, rfl⟩
      · have hm : ((s[0].toNat : Int) == 45) = true := by have := hmi.out; rw [dif_pos h0] at this; exact this.symm
        go_wp2_with fail
        go_meet
        exact ⟨by rw [hq.out], rfl, rfl⟩
  case rest =>
    obtain ⟨rfl, rfl, rfl⟩ := hcut
    have hk := runD_le t
    have HD := Lib.hid (fun w => digits16_any t w (by omega))
    have hlz : (leadB t).size ≤ 100000 := by unfold leadB; rw [ByteArray.size_extract]; omega
    have HW := Lib.hid (fun w => whole_prog (leadB t) w (by omega))
    have HU := Lib.hid (fun w => unit_prog (restB t) w)
    have HN := lead_nat t
    have HG := G.refl w none
    generalize unitN (restB t) = u at *
    have e1 : Hid (leadB t = t.extract 0 (runD t 0)) := Lib.hid rfl
    have e2 : Hid (restB t = t.extract (runD t 0) t.size) := Lib.hid rfl
    generalize wholeO (leadB t) = o at *
    rw [e1.out] at HW
    rw [e2.out] at HU
    clear hlz e1 e2
    generalize runD t 0 = k at *
    rcases HN with rfl | ⟨m, rfl, hm⟩
    · have hfin : Hid (V = .tuple #[.int .i64 0, .bool false]) := Lib.hid (by rw [← hV.out, hO.out]; rfl)
      simp only [wholeT] at HW
      cases mi <;>
      · simp only [sgnI]
        go_wp2_with (first | (go_at_call 19; refine (HW.out _).mono ?_; rintro e wn ⟨rfl, hgn⟩; replace HG := G.trans (w := w) (by have hb0 := (HG); (repeat first | with_reducible exact hb0 | with_reducible refine G.drewN ?_ _ | with_reducible refine G.drew ?_ | with_reducible refine G.alloc ?_ _ | with_reducible refine G.set ?_ _ (Or.inr rfl) | (with_reducible refine G.set ?_ _ (Or.inl ?_); rotate_left; focus (first | omega | (simp; done) | (simp; omega))))) hgn; clear hgn) | (go_at_call 20; refine (HU.out _).mono ?_; rintro e wn ⟨rfl, hgn⟩; replace HG := G.trans (w := w) (by have hb0 := (HG); (repeat first | with_reducible exact hb0 | with_reducible refine G.drewN ?_ _ | with_reducible refine G.drew ?_ | with_reducible refine G.alloc ?_ _ | with_reducible refine G.set ?_ _ (Or.inr rfl) | (with_reducible refine G.set ?_ _ (Or.inl ?_); rotate_left; focus (first | omega | (simp; done) | (simp; omega))))) hgn; clear hgn) | (go_at_call 18; refine (HD.out _).mono ?_; rintro e wn ⟨rfl, rfl⟩))
        go_ret2
        exact ⟨by rw [hfin.out]; rfl, (by have hb0 := (HG); (repeat first | with_reducible exact hb0 | with_reducible refine G.drewN ?_ _ | with_reducible refine G.drew ?_ | with_reducible refine G.alloc ?_ _ | with_reducible refine G.set ?_ _ (Or.inr rfl) | (with_reducible refine G.set ?_ _ (Or.inl ?_); rotate_left; focus (first | omega | (simp; done) | (simp; omega)))))⟩
    · simp only [wholeT] at HW
      by_cases hu : (u : Int) = 0
      · have hfin : Hid (V = .tuple #[.int .i64 0, .bool false]) := Lib.hid (by rw [← hV.out, hO.out, Option.bind_some, if_pos (Or.inl (by omega))]; rfl)
        have hu' : ((u : Int) == 0) = true := by simp [hu]
        cases mi <;>
        · simp only [sgnI]
          go_wp2_with (first | (go_at_call 19; refine (HW.out _).mono ?_; rintro e wn ⟨rfl, hgn⟩; replace HG := G.trans (w := w) (by have hb0 := (HG); (repeat first | with_reducible exact hb0 | with_reducible refine G.drewN ?_ _ | with_reducible refine G.drew ?_ | with_reducible refine G.alloc ?_ _ | with_reducible refine G.set ?_ _ (Or.inr rfl) | (with_reducible refine G.set ?_ _ (Or.inl ?_); rotate_left; focus (first | omega | (simp; done) | (simp; omega))))) hgn; clear hgn) | (go_at_call 20; refine (HU.out _).mono ?_; rintro e wn ⟨rfl, hgn⟩; replace HG := G.trans (w := w) (by have hb0 := (HG); (repeat first | with_reducible exact hb0 | with_reducible refine G.drewN ?_ _ | with_reducible refine G.drew ?_ | with_reducible refine G.alloc ?_ _ | with_reducible refine G.set ?_ _ (Or.inr rfl) | (with_reducible refine G.set ?_ _ (Or.inl ?_); rotate_left; focus (first | omega | (simp; done) | (simp; omega))))) hgn; clear hgn) | (go_at_call 18; refine (HD.out _).mono ?_; rintro e wn ⟨rfl, rfl⟩))
          go_ret2
          exact ⟨by rw [hfin.out]; rfl, (by have hb0 := (HG); (repeat first | with_reducible exact hb0 | with_reducible refine G.drewN ?_ _ | with_reducible refine G.drew ?_ | with_reducible refine G.alloc ?_ _ | with_reducible refine G.set ?_ _ (Or.inr rfl) | (with_reducible refine G.set ?_ _ (Or.inl ?_); rotate_left; focus (first | omega | (simp; done) | (simp; omega)))))⟩
      · have hu' : ((u : Int) == 0) = false := by simp; omega
        have hu1 : (1 : Int) ≤ (u : Int) := by omega
        have d1 : (4294967295 : Int) / (u : Int) ≤ 4294967295 := Int.ediv_le_self _ (by omega)
        have d2 : 0 ≤ (4294967295 : Int) / (u : Int) := Int.ediv_nonneg (by omega) (by omega)
        by_cases hb : (4294967295 : Int) / (u : Int) < (m : Int)
        · have hfin : Hid (V = .tuple #[.int .i64 0, .bool false]) := Lib.hid (by rw [← hV.out, hO.out, Option.bind_some, if_pos (Or.inr hb)]; rfl)
          cases mi <;>
          · simp only [sgnI]
            go_wp2_with (first | (go_at_call 19; refine (HW.out _).mono ?_; rintro e wn ⟨rfl, hgn⟩; replace HG := G.trans (w := w) (by have hb0 := (HG); (repeat first | with_reducible exact hb0 | with_reducible refine G.drewN ?_ _ | with_reducible refine G.drew ?_ | with_reducible refine G.alloc ?_ _ | with_reducible refine G.set ?_ _ (Or.inr rfl) | (with_reducible refine G.set ?_ _ (Or.inl ?_); rotate_left; focus (first | omega | (simp; done) | (simp; omega))))) hgn; clear hgn) | (go_at_call 20; refine (HU.out _).mono ?_; rintro e wn ⟨rfl, hgn⟩; replace HG := G.trans (w := w) (by have hb0 := (HG); (repeat first | with_reducible exact hb0 | with_reducible refine G.drewN ?_ _ | with_reducible refine G.drew ?_ | with_reducible refine G.alloc ?_ _ | with_reducible refine G.set ?_ _ (Or.inr rfl) | (with_reducible refine G.set ?_ _ (Or.inl ?_); rotate_left; focus (first | omega | (simp; done) | (simp; omega))))) hgn; clear hgn) | (go_at_call 18; refine (HD.out _).mono ?_; rintro e wn ⟨rfl, rfl⟩))
            go_ret2
            exact ⟨by rw [hfin.out]; rfl, (by have hb0 := (HG); (repeat first | with_reducible exact hb0 | with_reducible refine G.drewN ?_ _ | with_reducible refine G.drew ?_ | with_reducible refine G.alloc ?_ _ | with_reducible refine G.set ?_ _ (Or.inr rfl) | (with_reducible refine G.set ?_ _ (Or.inl ?_); rotate_left; focus (first | omega | (simp; done) | (simp; omega)))))⟩
        · have h1 := Int.ediv_mul_le 4294967295 hu
          have h2 : (m : Int) * (u : Int) ≤ (4294967295 : Int) / (u : Int) * (u : Int) := Int.mul_le_mul_of_nonneg_right (by omega) (by omega)
          have h3 : 0 ≤ (m : Int) * (u : Int) := Int.mul_nonneg (by omega) (by omega)
          have h4 : (m : Int) * (u : Int) ≤ 4294967295 := by omega
          clear h1 h2
          obtain ⟨P, hP⟩ : ∃ P, (m : Int) * (u : Int) = P := ⟨_, rfl⟩
          have hO' : Hid (interO s = some (if mi then -P else P)) := Lib.hid (by rw [hO.out, Option.bind_some, if_neg (by omega)]; rw [hP])
          have h5 : -(m : Int) * (u : Int) = -P := by rw [← hP]; exact Int.neg_mul _ _
          rw [hP] at h3 h4
          obtain ⟨D, hD⟩ : ∃ D, (4294967295 : Int) / (u : Int) = D := ⟨_, rfl⟩
          rw [hD] at hb d1 d2
          have hb' : D < (m : Int) ↔ False := by simp [hb]
          clear hO
          cases mi
          · have hfin : Hid (V = .tuple #[.int .i64 P, .bool true]) := Lib.hid (by rw [← hV.out, hO'.out]; rfl)
            simp only [sgnI]
            go_wp2_with (first | (go_at_call 19; refine (HW.out _).mono ?_; rintro e wn ⟨rfl, hgn⟩; replace HG := G.trans (w := w) (by have hb0 := (HG); (repeat first | with_reducible exact hb0 | with_reducible refine G.drewN ?_ _ | with_reducible refine G.drew ?_ | with_reducible refine G.alloc ?_ _ | with_reducible refine G.set ?_ _ (Or.inr rfl) | (with_reducible refine G.set ?_ _ (Or.inl ?_); rotate_left; focus (first | omega | (simp; done) | (simp; omega))))) hgn; clear hgn) | (go_at_call 20; refine (HU.out _).mono ?_; rintro e wn ⟨rfl, hgn⟩; replace HG := G.trans (w := w) (by have hb0 := (HG); (repeat first | with_reducible exact hb0 | with_reducible refine G.drewN ?_ _ | with_reducible refine G.drew ?_ | with_reducible refine G.alloc ?_ _ | with_reducible refine G.set ?_ _ (Or.inr rfl) | (with_reducible refine G.set ?_ _ (Or.inl ?_); rotate_left; focus (first | omega | (simp; done) | (simp; omega))))) hgn; clear hgn) | (go_at_call 18; refine (HD.out _).mono ?_; rintro e wn ⟨rfl, rfl⟩))
            go_ret2
            exact ⟨by rw [hfin.out]; rfl, (by have hb0 := (HG); (repeat first | with_reducible exact hb0 | with_reducible refine G.drewN ?_ _ | with_reducible refine G.drew ?_ | with_reducible refine G.alloc ?_ _ | with_reducible refine G.set ?_ _ (Or.inr rfl) | (with_reducible refine G.set ?_ _ (Or.inl ?_); rotate_left; focus (first | omega | (simp; done) | (simp; omega)))))⟩
          · have hfin : Hid (V = .tuple #[.int .i64 (-P), .bool true]) := Lib.hid (by rw [← hV.out, hO'.out]; rfl)
            simp only [sgnI]
            go_wp2_with (first | (go_at_call 19; refine (HW.out _).mono ?_; rintro e wn ⟨rfl, hgn⟩; replace HG := G.trans (w := w) (by have hb0 := (HG); (repeat first | with_reducible exact hb0 | with_reducible refine G.drewN ?_ _ | with_reducible refine G.drew ?_ | with_reducible refine G.alloc ?_ _ | with_reducible refine G.set ?_ _ (Or.inr rfl) | (with_reducible refine G.set ?_ _ (Or.inl ?_); rotate_left; focus (first | omega | (simp; done) | (simp; omega))))) hgn; clear hgn) | (go_at_call 20; refine (HU.out _).mono ?_; rintro e wn ⟨rfl, hgn⟩; replace HG := G.trans (w := w) (by have hb0 := (HG); (repeat first | with_reducible exact hb0 | with_reducible refine G.drewN ?_ _ | with_reducible refine G.drew ?_ | with_reducible refine G.alloc ?_ _ | with_reducible refine G.set ?_ _ (Or.inr rfl) | (with_reducible refine G.set ?_ _ (Or.inl ?_); rotate_left; focus (first | omega | (simp; done) | (simp; omega))))) hgn; clear hgn) | (go_at_call 18; refine (HD.out _).mono ?_; rintro e wn ⟨rfl, rfl⟩))
            go_ret2
            exact ⟨by rw [hfin.out]; rfl, (by have hb0 := (HG); (repeat first | with_reducible exact hb0 | with_reducible refine G.drewN ?_ _ | with_reducible refine G.drew ?_ | with_reducible refine G.alloc ?_ _ | with_reducible refine G.set ?_ _ (Or.inr rfl) | (with_reducible refine G.set ?_ _ (Or.inl ?_); rotate_left; focus (first | omega | (simp; done) | (simp; omega)))))⟩
end Go.Proofs.YtjfdaoedpdiaeaaDoor
