/-
  The walk of the reference's At. Printed by genat.py.
-/
import Derived.Test.YtjfdaoedpdiaeaaDoorSpanAtP
namespace Go.Proofs.YtjfdaoedpdiaeaaDoor
open Go.RowKit
def n3S (s : ByteArray) : Bool := isNow s && decide (s.size = 3)
def r3S (s : ByteArray) : Bool := isNow s && (decide (3 < s.size) && signedS (s.extract 3 s.size))
def tS (s : ByteArray) : ByteArray := if r3S s then s.extract 3 s.size else s
def bS (s : ByteArray) : Bool := (interO (tS s)).isSome && signedS (tS s)
theorem at_split (s : ByteArray) (now : Int) : (bS s = true → ∃ n, interO (tS s) = some n ∧ atV s now = relV (some n) now) ∧ (bS s = false → n3S s = true → atV s now = relV (some 0) now) ∧ (bS s = false → n3S s = false → atV s now = plainV s) := by
  unfold bS tS r3S n3S atV
  cases hn : isNow s
  · simp only [Bool.false_and, Bool.false_eq_true, if_false]
    cases sg : signedS s
    · simp
    · obtain ⟨h0, h1⟩ := signed_head sg
      have hb := bad_plain h0 h1
      cases hi : interO s with
      | none => simp [relV, hb]
      | some n => simp
  · simp only [Bool.true_and, if_true]
    have h3 := isNow_size hn
    obtain ⟨h0, h1⟩ := now_head hn
    have hb := bad_plain h0 h1
    have hi := bad_inter h0 h1 (now_signed hn)
    by_cases hz : s.size = 3
    · have : ¬ 3 < s.size := by omega
      simp only [decide_eq_true hz, decide_eq_false this, if_pos hz, Bool.false_and, Bool.false_eq_true, if_false, hi]
      simp
    · have : 3 < s.size := by omega
      simp only [decide_eq_false hz, decide_eq_true this, if_neg hz, Bool.true_and]
      cases sg : signedS (s.extract 3 s.size)
      · simp only [Bool.false_eq_true, if_false, hi]
        simp [hb]
      · simp only [if_true, sg]
        cases hr : interO (s.extract 3 s.size) with
        | none => simp [relV, hb]
        | some n => simp
theorem tS_size {s : ByteArray} : (tS s).size ≤ s.size := by
  unfold tS; split
  · rw [ByteArray.size_extract]; omega
  · exact Nat.le_refl _
theorem now_eq (s : ByteArray) : (s.toList == [110, 111, 119]) = n3S s := by
  unfold n3S isNow
  have e : s.data.toList.length = s.size := by simp
  rw [ByteArray.toList_eq, ← e]
  match s.data.toList with
  | [] => rfl
  | [a] => simp
  | [a, b] => simp
  | [a, b, c] => simp
  | a :: b :: c :: d :: r => simp
theorem now_pre (s : ByteArray) : ((s.extract 0 3).toList == [110, 111, 119]) = isNow s := by
  unfold isNow
  rw [ByteArray.toList_eq, Lib.extract_data, List.drop_zero]
theorem r3_sign {s : ByteArray} (h : 3 < s.size) : signedS (s.extract 3 s.size) = (((s[3].toNat : Int) == 45) || ((s[3].toNat : Int) == 43)) := by
  have e : (s.extract 3 s.size).data.toList = s[3] :: s.data.toList.drop 4 := by rw [Lib.extract_to_end, drop_cons s 3 h]
  obtain ⟨h0, h1⟩ := head_of e
  unfold signedS
  rw [dif_pos h0, h1]
set_option maxHeartbeats 16000000 in
set_option maxRecDepth 100000 in
theorem at_ref (s : ByteArray) (now : Int) (w : World) (hs : s.size ≤ 1000) (hn1 : -9223372036854775808 ≤ now) (hn2 : now ≤ 9223372036854775807) :
    Calls Tryd.prog 12 #[.string s, .int .i64 now] w fun e w' => e = .returned (atV s now) ∧ w.grownBy w' none := by
  obtain ⟨V, hV⟩ : ∃ V, Hid (atV s now = V) := ⟨_, Lib.hid rfl⟩
  rw [hV.out]
  have HG := G.refl w none
  obtain ⟨k1, k2, k3⟩ := at_split s now
  rw [hV.out] at k1 k2 k3
  have K1 := Lib.hid k1; have K2 := Lib.hid k2; have K3 := Lib.hid k3
  clear k1 k2 k3
  have hN := now_eq s
  have hN2 := now_pre s
  have hR3 := Lib.hid (@r3_sign s)
  have h3 : Hid (r3S s = (isNow s && (decide (3 < s.size) && signedS (s.extract 3 s.size)))) := Lib.hid rfl
  have hTd : Hid (tS s = if r3S s then s.extract 3 s.size else s) := Lib.hid rfl
  have hBd : Hid (bS s = ((interO (tS s)).isSome && signedS (tS s))) := Lib.hid rfl
  have hTz := @tS_size s
  have hsT : Hid (signedS (tS s) = if h : 0 < (tS s).size then (((tS s)[0].toNat : Int) == 45) || (((tS s)[0].toNat : Int) == 43) else false) := Lib.hid rfl
  have hib := Lib.hid (fun (n : Int) (h : interO (tS s) = some n) => inter_bound h)
  have HI := Lib.hid (fun w => inter_ref (tS s) w (by omega))
  have HW := Lib.hid (fun w => whole_ref s w (by omega))
  have HD := Lib.hid (fun w => date_ref s w (by omega))
  have HR := Lib.hid (fun w => all16_any s w (by omega))
  have HH := Lib.hid within_ref
  generalize bS s = b56 at *
  generalize tS s = T at *
  generalize signedS T = sT at *
  generalize n3S s = n3 at *
  generalize isNow s = isn at *
  generalize r3S s = r3 at *
  go_enter Tryd.func12, Tryd.ntmps12
  go_upto_region 3 with (fail)
  go_cut [34] (fun v wc => v = .bool r3 ∧ w = wc)
  case first =>
    by_cases hz : 3 < s.size
    · have hz' : (3 : Int) < (s.size : Int) := by omega
      have hq : Hid (r3 = (isn && (((s[3].toNat : Int) == 45) || ((s[3].toNat : Int) == 43)))) := Lib.hid (by rw [h3.out, hR3.out hz, decide_eq_true hz, Bool.true_and])
      cases isn
      · go_wp2_with fail
        go_meet
        exact ⟨by rw [hq.out]; rfl, rfl⟩
      cases h1 : ((s[3].toNat : Int) == 45)
      · cases h2 : ((s[3].toNat : Int) == 43) <;>
        · go_wp2_with fail
          go_meet
          exact ⟨by rw [hq.out, h1, h2]; rfl, rfl⟩
      · go_wp2_with fail
        go_meet
        exact ⟨by rw [hq.out, h1]; rfl, rfl⟩
    · have hz' : ¬ (3 : Int) < (s.size : Int) := by omega
      have hq : Hid (r3 = false) := Lib.hid (by rw [h3.out, decide_eq_false hz, Bool.false_and, Bool.and_false])
      go_wp2_with fail
      go_meet
      exact ⟨by rw [hq.out], rfl⟩
  obtain ⟨rfl, rfl⟩ := hcut
  go_upto_if 34 with (fail)
  go_cut [6] (fun v wc => v = .string T ∧ w = wc)
  case first =>
    cases r3
    · have hq : Hid (T = s) := Lib.hid (by rw [hTd.out]; rfl)
      go_wp2_with fail
      go_meet
      exact ⟨by rw [hq.out], rfl⟩
    · have hq : Hid (T = s.extract 3 s.size) := Lib.hid (by rw [hTd.out]; rfl)
      have hz : 3 < s.size := by
        have := h3.out
        by_cases hz : 3 < s.size
        · exact hz
        · rw [decide_eq_false hz, Bool.false_and, Bool.and_false] at this; cases this
      go_wp2_with fail
      go_meet
      exact ⟨by rw [hq.out], rfl⟩
  obtain ⟨rfl, rfl⟩ := hcut
  clear hTd h3 hN2 hR3
  generalize interO T = io at *
  obtain ⟨ok, nI, hio, hiv, hnI⟩ : ∃ (ok : Bool) (nI : Int), Hid (wholeT io = .tuple #[.int .i64 nI, .bool ok]) ∧ Hid (io.isSome = ok ∧ (ok = true → io = some nI)) ∧ -4294967295 ≤ nI ∧ nI ≤ 4294967295 := by
    rcases io with _ | n
    · exact ⟨false, 0, Lib.hid rfl, Lib.hid ⟨rfl, fun h => (by cases h)⟩, by omega⟩
    · exact ⟨true, n, Lib.hid rfl, Lib.hid ⟨rfl, fun _ => rfl⟩, hib.out _ rfl⟩
  rw [hio.out] at HI
  go_upto_region 6 with ((go_at_call 8; refine (HI.out _).mono ?_; rintro e wn ⟨rfl, hgn⟩; replace HG := G.trans (w := w) (by have hb0 := (HG); (repeat first | with_reducible exact hb0 | with_reducible refine G.drewN ?_ _ | with_reducible refine G.drew ?_ | with_reducible refine G.alloc ?_ _ | with_reducible refine G.set ?_ _ (Or.inr rfl) | (with_reducible refine G.set ?_ _ (Or.inl ?_); rotate_left; focus (first | omega | (simp; done) | (simp; omega))))) hgn; clear hgn))
  go_cut [56] (fun v wc => v = .bool b56 ∧ w.grownBy wc none)
  case first =>
    have hq : Hid (b56 = (ok && sT)) := Lib.hid (by rw [hBd.out, hiv.out.1])
    cases ok
    · go_wp2_with fail
      go_meet
      exact ⟨by rw [hq.out]; rfl, (by have hb0 := (HG); (repeat first | with_reducible exact hb0 | with_reducible refine G.drewN ?_ _ | with_reducible refine G.drew ?_ | with_reducible refine G.alloc ?_ _ | with_reducible refine G.set ?_ _ (Or.inr rfl) | (with_reducible refine G.set ?_ _ (Or.inl ?_); rotate_left; focus (first | omega | (simp; done) | (simp; omega)))))⟩
    by_cases h0 : 0 < T.size
    · have he := toList_full h0
      have hq2 : Hid (sT = (((T[0].toNat : Int) == 45) || ((T[0].toNat : Int) == 43))) := Lib.hid (by rw [hsT.out, dif_pos h0])
      cases h1 : ((T[0].toNat : Int) == 45)
      · cases h2 : ((T[0].toNat : Int) == 43) <;>
        · go_wp2_with fail
          go_meet
          exact ⟨by rw [hq.out, hq2.out, h1, h2]; rfl, (by have hb0 := (HG); (repeat first | with_reducible exact hb0 | with_reducible refine G.drewN ?_ _ | with_reducible refine G.drew ?_ | with_reducible refine G.alloc ?_ _ | with_reducible refine G.set ?_ _ (Or.inr rfl) | (with_reducible refine G.set ?_ _ (Or.inl ?_); rotate_left; focus (first | omega | (simp; done) | (simp; omega)))))⟩
      · go_wp2_with fail
        go_meet
        exact ⟨by rw [hq.out, hq2.out, h1]; rfl, (by have hb0 := (HG); (repeat first | with_reducible exact hb0 | with_reducible refine G.drewN ?_ _ | with_reducible refine G.drew ?_ | with_reducible refine G.alloc ?_ _ | with_reducible refine G.set ?_ _ (Or.inr rfl) | (with_reducible refine G.set ?_ _ (Or.inl ?_); rotate_left; focus (first | omega | (simp; done) | (simp; omega)))))⟩
    · have he := toList_empty h0
      have hq2 : Hid (sT = false) := Lib.hid (by rw [hsT.out, dif_neg h0])
      go_wp2_with fail
      go_meet
      exact ⟨by rw [hq.out, hq2.out]; rfl, (by have hb0 := (HG); (repeat first | with_reducible exact hb0 | with_reducible refine G.drewN ?_ _ | with_reducible refine G.drew ?_ | with_reducible refine G.alloc ?_ _ | with_reducible refine G.set ?_ _ (Or.inr rfl) | (with_reducible refine G.set ?_ _ (Or.inl ?_); rotate_left; focus (first | omega | (simp; done) | (simp; omega)))))⟩
  obtain ⟨rfl, HG⟩ := hcut
  go_upto_if 56 with (fail)
  go_cut [7, 8] (fun rv nv wc => rv = .bool (n3 || b56) ∧ nv = .int .i64 (if b56 then nI else 0) ∧ w.grownBy wc none)
  case first =>
    cases b56 <;>
    · go_wp2_with fail
      go_meet
      exact ⟨by simp, rfl, (by have hb0 := (HG); (repeat first | with_reducible exact hb0 | with_reducible refine G.drewN ?_ _ | with_reducible refine G.drew ?_ | with_reducible refine G.alloc ?_ _ | with_reducible refine G.set ?_ _ (Or.inr rfl) | (with_reducible refine G.set ?_ _ (Or.inl ?_); rotate_left; focus (first | omega | (simp; done) | (simp; omega)))))⟩
  obtain ⟨rfl, rfl, HG⟩ := hcut
  have KR : Hid ((n3 || b56) = true → V = relV (some (if b56 then nI else 0)) now) := Lib.hid (fun h => by
    cases b56
    · rw [Bool.or_false] at h
      exact K2.out rfl h
    · obtain ⟨n, h1, h2⟩ := K1.out rfl
      have hok : ok = true := by rw [← hiv.out.1, h1]; rfl
      have := hiv.out.2 hok
      rw [h1] at this
      cases this
      exact h2)
  have KP : Hid ((n3 || b56) = false → V = plainV s) := Lib.hid (fun h => by
    cases b56
    · rw [Bool.or_false] at h
      exact K3.out rfl h
    · rw [Bool.or_true] at h; cases h)
  obtain ⟨n, hn, hnb⟩ : ∃ n : Int, (if b56 then nI else 0) = n ∧ -4294967295 ≤ n ∧ n ≤ 4294967295 := ⟨_, rfl, by cases b56 <;> simp <;> omega⟩
  rw [hn] at KR ⊢
  clear hn hnI hiv hio hib hBd hsT K1 K2 K3 HI
  generalize (n3 || b56) = rel at *
  obtain ⟨n1, n2⟩ := hnb
  cases rel
  case true =>
    have hrel := Lib.hid (KR.out rfl)
    clear KR KP
    have HH1 := Lib.hid (HH.out now)
    by_cases hz : now < 0 ∨ 4294967295 < now
    · rw [show inV now = .tuple #[.int .i64 0, .int .i64 7] from if_pos hz] at HH1
      have hfin : Hid (V = .tuple #[.int .i64 0, .int .i64 7]) := Lib.hid (by rw [hrel.out]; unfold relV; exact if_pos hz)
      clear hz
      go_wp2_with (first | (go_at_call_of 31 (Value.int IntKind.i64 now); refine (HH1.out _).mono ?_; rintro e wn ⟨rfl, rfl⟩))
      go_ret2
      exact ⟨by rw [hfin.out]; rfl, (by have hb0 := (HG); (repeat first | with_reducible exact hb0 | with_reducible refine G.drewN ?_ _ | with_reducible refine G.drew ?_ | with_reducible refine G.alloc ?_ _ | with_reducible refine G.set ?_ _ (Or.inr rfl) | (with_reducible refine G.set ?_ _ (Or.inl ?_); rotate_left; focus (first | omega | (simp; done) | (simp; omega)))))⟩
    · rw [show inV now = .tuple #[.int .i64 now, .int .i64 0] from if_neg hz] at HH1
      have hz1 : 0 ≤ now := by omega
      have hz2 : now ≤ 4294967295 := by omega
      obtain ⟨x, hx⟩ : ∃ x, now + n = x := ⟨_, rfl⟩
      have HH2 := Lib.hid (HH.out x)
      have hfin0 : Hid (V = inV x) := Lib.hid (by rw [hrel.out, ← hx]; unfold relV; exact if_neg hz)
      obtain ⟨a, b, hab⟩ := inV_form x
      rw [hab] at HH2 hfin0
      have hfin := hfin0
      clear hz hab hfin0
      go_wp2_with (go_at_call_of 31 (Value.int IntKind.i64 now); refine (HH1.out _).mono ?_; rintro e wn ⟨rfl, rfl⟩)
      refine (HH2.out _).mono ?_
      rintro e wn ⟨rfl, rfl⟩
      go_wp2_with (first | (go_at_call 31; refine (HH2.out _).mono ?_; rintro e wn ⟨rfl, rfl⟩))
      go_ret2
      exact ⟨by rw [hfin.out]; rfl, (by have hb0 := (HG); (repeat first | with_reducible exact hb0 | with_reducible refine G.drewN ?_ _ | with_reducible refine G.drew ?_ | with_reducible refine G.alloc ?_ _ | with_reducible refine G.set ?_ _ (Or.inr rfl) | (with_reducible refine G.set ?_ _ (Or.inl ?_); rotate_left; focus (first | omega | (simp; done) | (simp; omega)))))⟩
  case false =>
    have hO3 := Lib.hid (KP.out rfl)
    clear KR KP
    have hP : Hid (plainV s = match dateO s with | some n => .tuple #[.int .i64 n, .int .i64 0] | none => if s.size = 0 ∨ allAt s 0 = false ∨ s.size = 8 then .tuple #[.int .i64 0, .int .i64 8] else (match wholeO s with | none => .tuple #[.int .i64 0, .int .i64 7] | some n => inV n)) := Lib.hid rfl
    generalize dateO s = d at *
    rcases d with _ | m
    case some =>
      have hfin : Hid (V = .tuple #[.int .i64 m, .int .i64 0]) := Lib.hid (by rw [hO3.out, hP.out])
      simp only [wholeT] at HD
      go_wp2_with (first | (go_at_call 10; refine (HD.out _).mono ?_; rintro e wn ⟨rfl, hgn⟩; replace HG := G.trans (w := w) (by have hb0 := (HG); (repeat first | with_reducible exact hb0 | with_reducible refine G.drewN ?_ _ | with_reducible refine G.drew ?_ | with_reducible refine G.alloc ?_ _ | with_reducible refine G.set ?_ _ (Or.inr rfl) | (with_reducible refine G.set ?_ _ (Or.inl ?_); rotate_left; focus (first | omega | (simp; done) | (simp; omega))))) hgn; clear hgn))
      go_ret2
      exact ⟨by rw [hfin.out]; rfl, (by have hb0 := (HG); (repeat first | with_reducible exact hb0 | with_reducible refine G.drewN ?_ _ | with_reducible refine G.drew ?_ | with_reducible refine G.alloc ?_ _ | with_reducible refine G.set ?_ _ (Or.inr rfl) | (with_reducible refine G.set ?_ _ (Or.inl ?_); rotate_left; focus (first | omega | (simp; done) | (simp; omega)))))⟩
    case none =>
    simp only [wholeT] at HD
    have hP2 : Hid (V = if s.size = 0 ∨ allAt s 0 = false ∨ s.size = 8 then .tuple #[.int .i64 0, .int .i64 8] else (match wholeO s with | none => .tuple #[.int .i64 0, .int .i64 7] | some n => inV n)) := Lib.hid (by rw [hO3.out, hP.out])
    clear hP hO3
    by_cases h0 : 0 < s.size
    case neg =>
      have he := toList_empty h0
      have hfin : Hid (V = .tuple #[.int .i64 0, .int .i64 8]) := Lib.hid (by rw [hP2.out, if_pos (Or.inl (by omega))])
      go_wp2_with (first | (go_at_call 10; refine (HD.out _).mono ?_; rintro e wn ⟨rfl, hgn⟩; replace HG := G.trans (w := w) (by have hb0 := (HG); (repeat first | with_reducible exact hb0 | with_reducible refine G.drewN ?_ _ | with_reducible refine G.drew ?_ | with_reducible refine G.alloc ?_ _ | with_reducible refine G.set ?_ _ (Or.inr rfl) | (with_reducible refine G.set ?_ _ (Or.inl ?_); rotate_left; focus (first | omega | (simp; done) | (simp; omega))))) hgn; clear hgn))
      go_ret2
      exact ⟨by rw [hfin.out]; rfl, (by have hb0 := (HG); (repeat first | with_reducible exact hb0 | with_reducible refine G.drewN ?_ _ | with_reducible refine G.drew ?_ | with_reducible refine G.alloc ?_ _ | with_reducible refine G.set ?_ _ (Or.inr rfl) | (with_reducible refine G.set ?_ _ (Or.inl ?_); rotate_left; focus (first | omega | (simp; done) | (simp; omega)))))⟩
    have he := toList_full h0
    generalize allAt s 0 = al at *
    cases al
    · have hfin : Hid (V = .tuple #[.int .i64 0, .int .i64 8]) := Lib.hid (by rw [hP2.out, if_pos (Or.inr (Or.inl rfl))])
      go_wp2_with (first | (go_at_call 10; refine (HD.out _).mono ?_; rintro e wn ⟨rfl, hgn⟩; replace HG := G.trans (w := w) (by have hb0 := (HG); (repeat first | with_reducible exact hb0 | with_reducible refine G.drewN ?_ _ | with_reducible refine G.drew ?_ | with_reducible refine G.alloc ?_ _ | with_reducible refine G.set ?_ _ (Or.inr rfl) | (with_reducible refine G.set ?_ _ (Or.inl ?_); rotate_left; focus (first | omega | (simp; done) | (simp; omega))))) hgn; clear hgn) | (go_at_call 26; refine (HR.out _).mono ?_; rintro e wn ⟨rfl, rfl⟩))
      go_ret2
      exact ⟨by rw [hfin.out]; rfl, (by have hb0 := (HG); (repeat first | with_reducible exact hb0 | with_reducible refine G.drewN ?_ _ | with_reducible refine G.drew ?_ | with_reducible refine G.alloc ?_ _ | with_reducible refine G.set ?_ _ (Or.inr rfl) | (with_reducible refine G.set ?_ _ (Or.inl ?_); rotate_left; focus (first | omega | (simp; done) | (simp; omega)))))⟩
    by_cases h8 : s.size = 8
    · have h8' : ((s.size : Int) == 8) = true := by simp; omega
      have hfin : Hid (V = .tuple #[.int .i64 0, .int .i64 8]) := Lib.hid (by rw [hP2.out, if_pos (Or.inr (Or.inr h8))])
      go_wp2_with (first | (go_at_call 10; refine (HD.out _).mono ?_; rintro e wn ⟨rfl, hgn⟩; replace HG := G.trans (w := w) (by have hb0 := (HG); (repeat first | with_reducible exact hb0 | with_reducible refine G.drewN ?_ _ | with_reducible refine G.drew ?_ | with_reducible refine G.alloc ?_ _ | with_reducible refine G.set ?_ _ (Or.inr rfl) | (with_reducible refine G.set ?_ _ (Or.inl ?_); rotate_left; focus (first | omega | (simp; done) | (simp; omega))))) hgn; clear hgn) | (go_at_call 26; refine (HR.out _).mono ?_; rintro e wn ⟨rfl, rfl⟩))
      go_ret2
      exact ⟨by rw [hfin.out]; rfl, (by have hb0 := (HG); (repeat first | with_reducible exact hb0 | with_reducible refine G.drewN ?_ _ | with_reducible refine G.drew ?_ | with_reducible refine G.alloc ?_ _ | with_reducible refine G.set ?_ _ (Or.inr rfl) | (with_reducible refine G.set ?_ _ (Or.inl ?_); rotate_left; focus (first | omega | (simp; done) | (simp; omega)))))⟩
    have h8' : ((s.size : Int) == 8) = false := by simp; omega
    have hP3 : Hid (V = match wholeO s with | none => .tuple #[.int .i64 0, .int .i64 7] | some n => inV n) := Lib.hid (by rw [hP2.out, if_neg]; rintro (h | h | h) <;> first | omega | cases h)
    clear hP2 h8
    generalize wholeO s = wo at *
    rcases wo with _ | m
    · have hfin : Hid (V = .tuple #[.int .i64 0, .int .i64 7]) := hP3
      simp only [wholeT] at HW
      go_wp2_with (first | (go_at_call 10; refine (HD.out _).mono ?_; rintro e wn ⟨rfl, hgn⟩; replace HG := G.trans (w := w) (by have hb0 := (HG); (repeat first | with_reducible exact hb0 | with_reducible refine G.drewN ?_ _ | with_reducible refine G.drew ?_ | with_reducible refine G.alloc ?_ _ | with_reducible refine G.set ?_ _ (Or.inr rfl) | (with_reducible refine G.set ?_ _ (Or.inl ?_); rotate_left; focus (first | omega | (simp; done) | (simp; omega))))) hgn; clear hgn) | (go_at_call 26; refine (HR.out _).mono ?_; rintro e wn ⟨rfl, rfl⟩) | (go_at_call 22; refine (HW.out _).mono ?_; rintro e wn ⟨rfl, hgn⟩; replace HG := G.trans (w := w) (by have hb0 := (HG); (repeat first | with_reducible exact hb0 | with_reducible refine G.drewN ?_ _ | with_reducible refine G.drew ?_ | with_reducible refine G.alloc ?_ _ | with_reducible refine G.set ?_ _ (Or.inr rfl) | (with_reducible refine G.set ?_ _ (Or.inl ?_); rotate_left; focus (first | omega | (simp; done) | (simp; omega))))) hgn; clear hgn))
      go_ret2
      exact ⟨by rw [hfin.out]; rfl, (by have hb0 := (HG); (repeat first | with_reducible exact hb0 | with_reducible refine G.drewN ?_ _ | with_reducible refine G.drew ?_ | with_reducible refine G.alloc ?_ _ | with_reducible refine G.set ?_ _ (Or.inr rfl) | (with_reducible refine G.set ?_ _ (Or.inl ?_); rotate_left; focus (first | omega | (simp; done) | (simp; omega)))))⟩
    · have hfin0 : Hid (V = inV m) := hP3
      simp only [wholeT] at HW
      have HH2 := Lib.hid (HH.out m)
      obtain ⟨a, b, hab⟩ := inV_form m
      rw [hab] at HH2 hfin0
      have hfin := hfin0
      clear hab hfin0
      go_wp2_with (first | (go_at_call 10; refine (HD.out _).mono ?_; rintro e wn ⟨rfl, hgn⟩; replace HG := G.trans (w := w) (by have hb0 := (HG); (repeat first | with_reducible exact hb0 | with_reducible refine G.drewN ?_ _ | with_reducible refine G.drew ?_ | with_reducible refine G.alloc ?_ _ | with_reducible refine G.set ?_ _ (Or.inr rfl) | (with_reducible refine G.set ?_ _ (Or.inl ?_); rotate_left; focus (first | omega | (simp; done) | (simp; omega))))) hgn; clear hgn) | (go_at_call 26; refine (HR.out _).mono ?_; rintro e wn ⟨rfl, rfl⟩) | (go_at_call 22; refine (HW.out _).mono ?_; rintro e wn ⟨rfl, hgn⟩; replace HG := G.trans (w := w) (by have hb0 := (HG); (repeat first | with_reducible exact hb0 | with_reducible refine G.drewN ?_ _ | with_reducible refine G.drew ?_ | with_reducible refine G.alloc ?_ _ | with_reducible refine G.set ?_ _ (Or.inr rfl) | (with_reducible refine G.set ?_ _ (Or.inl ?_); rotate_left; focus (first | omega | (simp; done) | (simp; omega))))) hgn; clear hgn) | (go_at_call 31; refine (HH2.out _).mono ?_; rintro e wn ⟨rfl, rfl⟩))
      go_ret2
      exact ⟨by rw [hfin.out]; rfl, (by have hb0 := (HG); (repeat first | with_reducible exact hb0 | with_reducible refine G.drewN ?_ _ | with_reducible refine G.drew ?_ | with_reducible refine G.alloc ?_ _ | with_reducible refine G.set ?_ _ (Or.inr rfl) | (with_reducible refine G.set ?_ _ (Or.inl ?_); rotate_left; focus (first | omega | (simp; done) | (simp; omega)))))⟩
end Go.Proofs.YtjfdaoedpdiaeaaDoor
