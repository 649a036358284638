/-
  The walk of the reference's Interval.
-/
import Derived.Test.YtjfdaoedpdiaeaaDoorSpanInter
import Derived.Deep.DeepCutAuto
namespace Go.Proofs.YtjfdaoedpdiaeaaDoor
open Go.RowKit
set_option maxHeartbeats 8000000 in
theorem inter_ref (s : ByteArray) (w : World) (hs : s.size ≤ 100000) :
    Calls Tryd.prog 8 #[.string s] w fun e w' => e = .returned (wholeT (interO s)) ∧ w.grownBy w' none := by
  obtain ⟨V, hV⟩ : ∃ V, Hid (wholeT (interO s) = V) := ⟨_, Lib.hid rfl⟩
  rw [hV.out]
  have hO : Hid (interO s = (wholeO (leadB (bareS s))).bind fun n => if unitN (restB (bareS s)) = 0 ∨ (4294967295 : Int) / (unitN (restB (bareS s)) : Int) < n then none else some (if minusS s then -(n * (unitN (restB (bareS s)) : Int)) else n * (unitN (restB (bareS s)) : Int))) := Lib.hid rfl
  have hsg : Hid (signedS s = if h : 0 < s.size then ((s[0].toNat : Int) == 45) || ((s[0].toNat : Int) == 43) else false) := Lib.hid rfl
  have hmi : Hid (minusS s = if h : 0 < s.size then ((s[0].toNat : Int) == 45) else false) := Lib.hid rfl
  have hba : Hid (bareS s = if signedS s then s.extract 1 s.size else s) := Lib.hid rfl
  have hpos := Lib.hid (@signed_pos s)
  have hbz := bareS_size s
  generalize minusS s = mi at *
  generalize bareS s = t at *
  generalize signedS s = sg at *
  go_enter Tryd.func8, Tryd.ntmps8
  go_upto_region 2 with (fail)
  go_cut [20] (fun v wc => v = .bool sg ∧ w = wc)
  case first =>
    by_cases h0 : 0 < s.size
    · have he := toList_full h0
      have hq : Hid (sg = (((s[0].toNat : Int) == 45) || ((s[0].toNat : Int) == 43))) := Lib.hid (by rw [hsg.out, dif_pos h0])
      cases h1 : ((s[0].toNat : Int) == 45)
      · cases h2 : ((s[0].toNat : Int) == 43) <;>
        · go_wp2_with fail
          go_meet
          exact ⟨by rw [hq.out, h1, h2]; rfl, rfl⟩
      · go_wp2_with fail
        go_meet
        exact ⟨by rw [hq.out, h1]; rfl, rfl⟩
    · have he := toList_empty h0
      have hq : Hid (sg = false) := Lib.hid (by rw [hsg.out, dif_neg h0])
      go_wp2_with fail
      go_meet
      exact ⟨by rw [hq.out], rfl⟩
  obtain ⟨rfl, rfl⟩ := hcut
  go_upto_if 20 with (fail)
  go_cut [0, 4] (fun sv mv wc => sv = .string t ∧ mv = .int .i64 (sgnI mi) ∧ w = wc)
  case first =>
    cases sg
    · have hq : Hid (t = s) := Lib.hid (by rw [hba.out]; rfl)
      have hm : Hid (mi = false) := Lib.hid (by
        rw [hmi.out]
        split
        · rename_i h0
          have := hsg.out
          rw [dif_pos h0] at this
          cases h1 : ((s[0].toNat : Int) == 45)
          · rfl
          · rw [h1] at this; cases this
        · rfl)
      go_wp2_with fail
      go_meet
      exact ⟨by rw [hq.out], by rw [hm.out]; rfl, rfl⟩
    · have h0 := hpos.out rfl
      have hq : Hid (t = s.extract 1 s.size) := Lib.hid (by rw [hba.out]; rfl)
      cases mi
      · have hm : ((s[0].toNat : Int) == 45) = false := by have := hmi.out; rw [dif_pos h0] at this; exact this.symm
        go_wp2_with fail
        go_meet
        exact ⟨by rw [hq.out], rfl, rfl⟩
      · have hm : ((s[0].toNat : Int) == 45) = true := by have := hmi.out; rw [dif_pos h0] at this; exact this.symm
        go_wp2_with fail
        go_meet
        exact ⟨by rw [hq.out], rfl, rfl⟩
  case rest =>
    obtain ⟨rfl, rfl, rfl⟩ := hcut
    have hts : t.size ≤ 100000 := by omega
    go_upto_block 0 with (fail)
    go_cut [5] (fun iv wc => iv = .int .i64 (runD t 0 : Nat) ∧ w = wc)
    case first =>
      obtain ⟨R, HR⟩ : ∃ R, Hid (runD t 0 = R) := ⟨_, Lib.hid rfl⟩
      go_wp2_with fail
      go_loop [5] (fun iv => ∃ i : Nat, iv = .int .i64 i ∧ i ≤ t.size ∧ Hid (i + runD t i = R)) (fun iv => t.size - (intOf iv).toNat)
      case atStart => exact ⟨0, rfl, by omega, Lib.hid (by rw [HR.out]; omega)⟩
      case round =>
        obtain ⟨i, rfl, hi, H⟩ := hrel
        by_cases hlt : i < t.size
        · by_cases hc : isD t[i] = true
          · have HS := Lib.hid (runD_step hlt hc)
            go_wp2_with (go_at_call 21; refine (digit16_any _ _).mono ?_; rintro e w' ⟨rfl, rfl⟩)
            exact ⟨⟨i + 1, by go_num, by omega, Lib.hid (by have := H.out; have := HS.out; omega)⟩, by simp [intOf]; omega⟩
          · have hc' : isD t[i] = false := by simpa using hc
            clear hc
            have HS := Lib.hid (runD_stop hlt hc')
            go_wp2_with (go_at_call 21; refine (digit16_any _ _).mono ?_; rintro e w' ⟨rfl, rfl⟩)
            go_meet
            exact ⟨by rw [show runD t 0 = i from by have := H.out; have := HS.out; have := HR.out; omega], rfl⟩
        · have HE := Lib.hid (runD_end hlt)
          go_wp2_with fail
          go_meet
          exact ⟨by rw [show runD t 0 = i from by have := H.out; have := HE.out; have := HR.out; omega], rfl⟩
    obtain ⟨rfl, rfl⟩ := hcut
    have hk := runD_le t
    have hlz : (leadB t).size ≤ 100000 := by unfold leadB; rw [ByteArray.size_extract]; omega
    have HW := Lib.hid (fun w => whole_ref (leadB t) w (by omega))
    have HU := Lib.hid (fun w => unit_ref (restB t) w)
    have HN := lead_nat t
    have hk0 : Hid (wholeO (leadB t) ≠ none → runD t 0 ≠ 0) := Lib.hid (fun h e => h (by rw [lead_whole, if_pos e]))
    have HG := G.refl w none
    generalize unitN (restB t) = u at *
    have e1 : Hid (leadB t = t.extract 0 (runD t 0)) := Lib.hid rfl
    have e2 : Hid (restB t = t.extract (runD t 0) t.size) := Lib.hid rfl
    generalize wholeO (leadB t) = o at *
    rw [e1.out] at HW
    rw [e2.out] at HU
    clear hlz e1 e2
    generalize runD t 0 = k at *
    rcases HN with rfl | ⟨m, rfl, hm⟩
    · have hfin : Hid (V = .tuple #[.int .i64 0, .bool false]) := Lib.hid (by rw [← hV.out, hO.out]; rfl)
      simp only [wholeT] at HW
      cases hq0 : ((k : Int) == 0) <;> cases hqu : ((u : Int) == 0) <;> cases mi <;>
      · simp only [sgnI]
        go_wp2_with (first | (go_at_call 22; refine (HW.out _).mono ?_; rintro e wn ⟨rfl, hgn⟩; replace HG := G.trans (w := w) (by have hb0 := (HG); (repeat first | with_reducible exact hb0 | with_reducible refine G.drewN ?_ _ | with_reducible refine G.drew ?_ | with_reducible refine G.alloc ?_ _ | with_reducible refine G.set ?_ _ (Or.inr rfl) | (with_reducible refine G.set ?_ _ (Or.inl ?_); rotate_left; focus (first | omega | (simp; done) | (simp; omega))))) hgn; clear hgn) | (go_at_call 23; refine (HU.out _).mono ?_; rintro e wn ⟨rfl, rfl⟩))
        go_ret2
        exact ⟨by rw [hfin.out]; rfl, (by have hb0 := (HG); (repeat first | with_reducible exact hb0 | with_reducible refine G.drewN ?_ _ | with_reducible refine G.drew ?_ | with_reducible refine G.alloc ?_ _ | with_reducible refine G.set ?_ _ (Or.inr rfl) | (with_reducible refine G.set ?_ _ (Or.inl ?_); rotate_left; focus (first | omega | (simp; done) | (simp; omega)))))⟩
    · simp only [wholeT] at HW
      have hk1 := hk0.out (by simp)
      have hk2 : ((k : Int) == 0) = false := by simp; omega
      clear hk1
      by_cases hu : (u : Int) = 0
      · have hfin : Hid (V = .tuple #[.int .i64 0, .bool false]) := Lib.hid (by rw [← hV.out, hO.out, Option.bind_some, if_pos (Or.inl (by omega))]; rfl)
        have hu' : ((u : Int) == 0) = true := by simp [hu]
        cases mi <;>
        · simp only [sgnI]
          go_wp2_with (first | (go_at_call 22; refine (HW.out _).mono ?_; rintro e wn ⟨rfl, hgn⟩; replace HG := G.trans (w := w) (by have hb0 := (HG); (repeat first | with_reducible exact hb0 | with_reducible refine G.drewN ?_ _ | with_reducible refine G.drew ?_ | with_reducible refine G.alloc ?_ _ | with_reducible refine G.set ?_ _ (Or.inr rfl) | (with_reducible refine G.set ?_ _ (Or.inl ?_); rotate_left; focus (first | omega | (simp; done) | (simp; omega))))) hgn; clear hgn) | (go_at_call 23; refine (HU.out _).mono ?_; rintro e wn ⟨rfl, rfl⟩))
          go_ret2
          exact ⟨by rw [hfin.out]; rfl, (by have hb0 := (HG); (repeat first | with_reducible exact hb0 | with_reducible refine G.drewN ?_ _ | with_reducible refine G.drew ?_ | with_reducible refine G.alloc ?_ _ | with_reducible refine G.set ?_ _ (Or.inr rfl) | (with_reducible refine G.set ?_ _ (Or.inl ?_); rotate_left; focus (first | omega | (simp; done) | (simp; omega)))))⟩
      · have hu' : ((u : Int) == 0) = false := by simp; omega
        have hu1 : (1 : Int) ≤ (u : Int) := by omega
        have d1 : (4294967295 : Int) / (u : Int) ≤ 4294967295 := Int.ediv_le_self _ (by omega)
        have d2 : 0 ≤ (4294967295 : Int) / (u : Int) := Int.ediv_nonneg (by omega) (by omega)
        by_cases hb : (4294967295 : Int) / (u : Int) < (m : Int)
        · have hfin : Hid (V = .tuple #[.int .i64 0, .bool false]) := Lib.hid (by rw [← hV.out, hO.out, Option.bind_some, if_pos (Or.inr hb)]; rfl)
          cases mi <;>
          · simp only [sgnI]
            go_wp2_with (first | (go_at_call 22; refine (HW.out _).mono ?_; rintro e wn ⟨rfl, hgn⟩; replace HG := G.trans (w := w) (by have hb0 := (HG); (repeat first | with_reducible exact hb0 | with_reducible refine G.drewN ?_ _ | with_reducible refine G.drew ?_ | with_reducible refine G.alloc ?_ _ | with_reducible refine G.set ?_ _ (Or.inr rfl) | (with_reducible refine G.set ?_ _ (Or.inl ?_); rotate_left; focus (first | omega | (simp; done) | (simp; omega))))) hgn; clear hgn) | (go_at_call 23; refine (HU.out _).mono ?_; rintro e wn ⟨rfl, rfl⟩))
            go_ret2
            exact ⟨by rw [hfin.out]; rfl, (by have hb0 := (HG); (repeat first | with_reducible exact hb0 | with_reducible refine G.drewN ?_ _ | with_reducible refine G.drew ?_ | with_reducible refine G.alloc ?_ _ | with_reducible refine G.set ?_ _ (Or.inr rfl) | (with_reducible refine G.set ?_ _ (Or.inl ?_); rotate_left; focus (first | omega | (simp; done) | (simp; omega)))))⟩
        · have h1 := Int.ediv_mul_le 4294967295 hu
          have h2 : (m : Int) * (u : Int) ≤ (4294967295 : Int) / (u : Int) * (u : Int) := Int.mul_le_mul_of_nonneg_right (by omega) (by omega)
          have h3 : 0 ≤ (m : Int) * (u : Int) := Int.mul_nonneg (by omega) (by omega)
          have h4 : (m : Int) * (u : Int) ≤ 4294967295 := by omega
          clear h1 h2
          obtain ⟨P, hP⟩ : ∃ P, (m : Int) * (u : Int) = P := ⟨_, rfl⟩
          have hO' : Hid (interO s = some (if mi then -P else P)) := Lib.hid (by rw [hO.out, Option.bind_some, if_neg (by omega)]; rw [hP])
          have h5 : -(m : Int) * (u : Int) = -P := by rw [← hP]; exact Int.neg_mul _ _
          rw [hP] at h3 h4
          obtain ⟨D, hD⟩ : ∃ D, (4294967295 : Int) / (u : Int) = D := ⟨_, rfl⟩
          rw [hD] at hb d1 d2
          have hb' : D < (m : Int) ↔ False := by simp [hb]
          clear hO
          cases mi
          · have hfin : Hid (V = .tuple #[.int .i64 P, .bool true]) := Lib.hid (by rw [← hV.out, hO'.out]; rfl)
            simp only [sgnI]
            go_wp2_with (first | (go_at_call 22; refine (HW.out _).mono ?_; rintro e wn ⟨rfl, hgn⟩; replace HG := G.trans (w := w) (by have hb0 := (HG); (repeat first | with_reducible exact hb0 | with_reducible refine G.drewN ?_ _ | with_reducible refine G.drew ?_ | with_reducible refine G.alloc ?_ _ | with_reducible refine G.set ?_ _ (Or.inr rfl) | (with_reducible refine G.set ?_ _ (Or.inl ?_); rotate_left; focus (first | omega | (simp; done) | (simp; omega))))) hgn; clear hgn) | (go_at_call 23; refine (HU.out _).mono ?_; rintro e wn ⟨rfl, rfl⟩))
            go_ret2
            exact ⟨by rw [hfin.out]; rfl, (by have hb0 := (HG); (repeat first | with_reducible exact hb0 | with_reducible refine G.drewN ?_ _ | with_reducible refine G.drew ?_ | with_reducible refine G.alloc ?_ _ | with_reducible refine G.set ?_ _ (Or.inr rfl) | (with_reducible refine G.set ?_ _ (Or.inl ?_); rotate_left; focus (first | omega | (simp; done) | (simp; omega)))))⟩
          · have hfin : Hid (V = .tuple #[.int .i64 (-P), .bool true]) := Lib.hid (by rw [← hV.out, hO'.out]; rfl)
            simp only [sgnI]
            go_wp2_with (first | (go_at_call 22; refine (HW.out _).mono ?_; rintro e wn ⟨rfl, hgn⟩; replace HG := G.trans (w := w) (by have hb0 := (HG); (repeat first | with_reducible exact hb0 | with_reducible refine G.drewN ?_ _ | with_reducible refine G.drew ?_ | with_reducible refine G.alloc ?_ _ | with_reducible refine G.set ?_ _ (Or.inr rfl) | (with_reducible refine G.set ?_ _ (Or.inl ?_); rotate_left; focus (first | omega | (simp; done) | (simp; omega))))) hgn; clear hgn) | (go_at_call 23; refine (HU.out _).mono ?_; rintro e wn ⟨rfl, rfl⟩))
            go_ret2
            exact ⟨by rw [hfin.out]; rfl, (by have hb0 := (HG); (repeat first | with_reducible exact hb0 | with_reducible refine G.drewN ?_ _ | with_reducible refine G.drew ?_ | with_reducible refine G.alloc ?_ _ | with_reducible refine G.set ?_ _ (Or.inr rfl) | (with_reducible refine G.set ?_ _ (Or.inl ?_); rotate_left; focus (first | omega | (simp; done) | (simp; omega)))))⟩
end Go.Proofs.YtjfdaoedpdiaeaaDoor
