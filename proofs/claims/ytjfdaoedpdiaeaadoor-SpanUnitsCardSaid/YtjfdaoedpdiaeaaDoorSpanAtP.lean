/-
  The walk of the program's At. Printed by genat.py.
-/
import Derived.Test.YtjfdaoedpdiaeaaDoorSpanAtAid
namespace Go.Proofs.YtjfdaoedpdiaeaaDoor
open Go.RowKit
theorem inV_form (x : Int) : ∃ a b, inV x = .tuple #[.int .i64 a, .int .i64 b] := by
  unfold inV; split
  · exact ⟨_, _, rfl⟩
  · exact ⟨_, _, rfl⟩
theorem neq_of {a b : ByteArray} (h : a.size ≠ b.size) : (a.toList == b.toList) = false ∧ (a.toList != b.toList) = true := by
  have k : (a.toList == b.toList) = false := by
    rw [beq_eq_false_iff_ne, ByteArray.toList_eq, ByteArray.toList_eq]
    intro e
    apply h
    have e1 : a.data.toList.length = a.size := by simp
    have e2 : b.data.toList.length = b.size := by simp
    rw [← e1, ← e2, e]
  exact ⟨k, by rw [bne, k]; rfl⟩
set_option maxHeartbeats 16000000 in
set_option maxRecDepth 100000 in
theorem at_prog (s : ByteArray) (now : Int) (w : World) (hs : s.size ≤ 1000) (hn1 : -9223372036854775808 ≤ now) (hn2 : now ≤ 9223372036854775807) :
    Calls Tryd.prog 11 #[.string s, .int .i64 now] w fun e w' => e = .returned (atV s now) ∧ w.grownBy w' none := by
  obtain ⟨V, hV⟩ : ∃ V, Hid (atV s now = V) := ⟨_, Lib.hid rfl⟩
  rw [hV.out]
  have HG := G.refl w none
  have hO : Hid (atV s now = if isNow s then (if s.size = 3 then relV (some 0) now else if signedS (s.extract 3 s.size) then relV (interO (s.extract 3 s.size)) now else .tuple #[.int .i64 0, .int .i64 8]) else if signedS s then relV (interO s) now else plainV s) := Lib.hid rfl
  have HT0 := Lib.hid (fun w => Tryd.strings_TrimPrefix s ⟨#[110, 111, 119]⟩ w)
  rw [show (⟨#[110, 111, 119]⟩ : ByteArray).data.toList = [110, 111, 119] from rfl] at HT0
  have HS := Lib.hid (fun w => signed16_any s w)
  have hRz : (s.extract 3 s.size).size = s.size - 3 := by rw [ByteArray.size_extract]; omega
  have HSR := Lib.hid (fun w => signed16_any (s.extract 3 s.size) w)
  have HI := Lib.hid (fun w => inter_prog s w (by omega))
  have HIR := Lib.hid (fun w => inter_prog (s.extract 3 s.size) w (by omega))
  have HW := Lib.hid (fun w => whole_prog s w (by omega))
  have HD := Lib.hid (fun w => date_prog s w (by omega))
  have HR := Lib.hid (fun w => digits16_any s w (by omega))
  have HH := Lib.hid held_prog
  cases hnw : isNow s
  case true =>
    have h3 := isNow_size hnw
    have HT := HT0
    rw [trim_now hnw] at HT
    have hO2 : Hid (V = if s.size = 3 then relV (some 0) now else if signedS (s.extract 3 s.size) then relV (interO (s.extract 3 s.size)) now else .tuple #[.int .i64 0, .int .i64 8]) := Lib.hid (by rw [← hV.out, hO.out, hnw]; rfl)
    clear HT0 hO hV hnw
    generalize s.extract 3 s.size = R at *
    obtain ⟨ne1, ne2⟩ := neq_of (show R.size ≠ s.size by omega)
    by_cases hz3 : s.size = 3
    · have hrel : Hid (V = relV (some 0) now) := Lib.hid (by rw [hO2.out, if_pos hz3])
      have he := toList_empty (show ¬ 0 < R.size by omega)
      have sg : signedS R = false := by unfold signedS; rw [dif_neg (by omega)]
      rw [sg] at HSR
      clear sg
      by_cases hz : now < 0 ∨ 4294967295 < now
      · have HH1 := Lib.hid (HH.out now)
        rw [show inV now = .tuple #[.int .i64 0, .int .i64 7] from if_pos hz] at HH1
        have hfin : Hid (V = .tuple #[.int .i64 0, .int .i64 7]) := Lib.hid (by rw [hrel.out]; unfold relV; exact if_pos hz)
        clear hz
        go_enter Tryd.func11, Tryd.ntmps11
        go_wp2_with (first | (go_at_call 29; refine (HT.out _).mono ?_; rintro e wn ⟨rfl, hwn⟩; obtain rfl := hwn.symm) | (go_at_call_of 17 (Value.string s); refine (HS.out _).mono ?_; rintro e wn ⟨rfl, rfl⟩) | (go_at_call_of 17 (Value.string R); refine (HSR.out _).mono ?_; rintro e wn ⟨rfl, rfl⟩) | (go_at_call_of 30 (Value.int IntKind.i64 now); refine (HH1.out _).mono ?_; rintro e wn ⟨rfl, rfl⟩))
        go_ret2
        exact ⟨by rw [hfin.out]; rfl, (by have hb0 := (HG); (repeat first | with_reducible exact hb0 | with_reducible refine G.drewN ?_ _ | with_reducible refine G.drew ?_ | with_reducible refine G.alloc ?_ _ | with_reducible refine G.set ?_ _ (Or.inr rfl) | (with_reducible refine G.set ?_ _ (Or.inl ?_); rotate_left; focus (first | omega | (simp; done) | (simp; omega)))))⟩
      · have HH1 := Lib.hid (HH.out now)
        rw [show inV now = .tuple #[.int .i64 now, .int .i64 0] from if_neg hz] at HH1
        have hz1 : 0 ≤ now := by omega
        have hz2 : now ≤ 4294967295 := by omega
        have HH2 := Lib.hid (HH.out (now + 0))
        have hfin0 : Hid (V = inV (now + 0)) := Lib.hid (by rw [hrel.out]; unfold relV; exact if_neg hz)
        obtain ⟨a, b, hab⟩ := inV_form (now + 0)
        rw [hab] at HH2 hfin0
        have hfin := hfin0
        clear hz hab hfin0
        rw [Int.add_zero] at HH2
        have hfin := Lib.hid (show V = .tuple #[.int .i64 now, .int .i64 0] by rw [hrel.out]; unfold relV; dsimp only; rw [Int.add_zero]; unfold inV; rw [if_neg (by omega), if_neg (by omega)])
        go_enter Tryd.func11, Tryd.ntmps11
        go_wp2_with (first | (go_at_call 29; refine (HT.out _).mono ?_; rintro e wn ⟨rfl, hwn⟩; obtain rfl := hwn.symm) | (go_at_call_of 17 (Value.string s); refine (HS.out _).mono ?_; rintro e wn ⟨rfl, rfl⟩) | (go_at_call_of 17 (Value.string R); refine (HSR.out _).mono ?_; rintro e wn ⟨rfl, rfl⟩) | (go_at_call 30; with_reducible refine (HH1.out _).mono ?_; rintro e wn ⟨rfl, rfl⟩))
        go_ret2
        exact ⟨by rw [hfin.out]; rfl, (by have hb0 := (HG); (repeat first | with_reducible exact hb0 | with_reducible refine G.drewN ?_ _ | with_reducible refine G.drew ?_ | with_reducible refine G.alloc ?_ _ | with_reducible refine G.set ?_ _ (Or.inr rfl) | (with_reducible refine G.set ?_ _ (Or.inl ?_); rotate_left; focus (first | omega | (simp; done) | (simp; omega)))))⟩
    · have he := toList_full (show 0 < R.size by omega)
      have hO3 : Hid (V = if signedS R then relV (interO R) now else .tuple #[.int .i64 0, .int .i64 8]) := Lib.hid (by rw [hO2.out, if_neg hz3])
      clear hO2
      cases sg : signedS R
      · have hfin : Hid (V = .tuple #[.int .i64 0, .int .i64 8]) := Lib.hid (by rw [hO3.out, sg]; rfl)
        rw [sg] at HSR
        clear sg
        go_enter Tryd.func11, Tryd.ntmps11
        go_wp2_with (first | (go_at_call 29; refine (HT.out _).mono ?_; rintro e wn ⟨rfl, hwn⟩; obtain rfl := hwn.symm) | (go_at_call_of 17 (Value.string s); refine (HS.out _).mono ?_; rintro e wn ⟨rfl, rfl⟩) | (go_at_call_of 17 (Value.string R); refine (HSR.out _).mono ?_; rintro e wn ⟨rfl, rfl⟩))
        go_ret2
        exact ⟨by rw [hfin.out]; rfl, (by have hb0 := (HG); (repeat first | with_reducible exact hb0 | with_reducible refine G.drewN ?_ _ | with_reducible refine G.drew ?_ | with_reducible refine G.alloc ?_ _ | with_reducible refine G.set ?_ _ (Or.inr rfl) | (with_reducible refine G.set ?_ _ (Or.inl ?_); rotate_left; focus (first | omega | (simp; done) | (simp; omega)))))⟩
      · have hrel0 : Hid (V = relV (interO R) now) := Lib.hid (by rw [hO3.out, sg]; rfl)
        have hib := @inter_bound R
        rw [sg] at HSR
        clear sg hO3
        generalize interO R = io at *
        rcases io with _ | n
        · have hfin : Hid (V = .tuple #[.int .i64 0, .int .i64 8]) := Lib.hid (by rw [hrel0.out]; rfl)
          simp only [wholeT] at HIR
          clear hib
          go_enter Tryd.func11, Tryd.ntmps11
          go_wp2_with (first | (go_at_call 29; refine (HT.out _).mono ?_; rintro e wn ⟨rfl, hwn⟩; obtain rfl := hwn.symm) | (go_at_call_of 17 (Value.string s); refine (HS.out _).mono ?_; rintro e wn ⟨rfl, rfl⟩) | (go_at_call_of 17 (Value.string R); refine (HSR.out _).mono ?_; rintro e wn ⟨rfl, rfl⟩) | (go_at_call_of 7 (Value.string R); refine (HIR.out _).mono ?_; rintro e wn ⟨rfl, hgn⟩; replace HG := G.trans (w := w) (by have hb0 := (HG); (repeat first | with_reducible exact hb0 | with_reducible refine G.drewN ?_ _ | with_reducible refine G.drew ?_ | with_reducible refine G.alloc ?_ _ | with_reducible refine G.set ?_ _ (Or.inr rfl) | (with_reducible refine G.set ?_ _ (Or.inl ?_); rotate_left; focus (first | omega | (simp; done) | (simp; omega))))) hgn; clear hgn))
          go_ret2
          exact ⟨by rw [hfin.out]; rfl, (by have hb0 := (HG); (repeat first | with_reducible exact hb0 | with_reducible refine G.drewN ?_ _ | with_reducible refine G.drew ?_ | with_reducible refine G.alloc ?_ _ | with_reducible refine G.set ?_ _ (Or.inr rfl) | (with_reducible refine G.set ?_ _ (Or.inl ?_); rotate_left; focus (first | omega | (simp; done) | (simp; omega)))))⟩
        · have hrel : Hid (V = relV (some n) now) := hrel0
          simp only [wholeT] at HIR
          obtain ⟨n1, n2⟩ := hib rfl
          clear hib
          by_cases hz : now < 0 ∨ 4294967295 < now
          · have HH1 := Lib.hid (HH.out now)
            rw [show inV now = .tuple #[.int .i64 0, .int .i64 7] from if_pos hz] at HH1
            have hfin : Hid (V = .tuple #[.int .i64 0, .int .i64 7]) := Lib.hid (by rw [hrel.out]; unfold relV; exact if_pos hz)
            clear hz
            go_enter Tryd.func11, Tryd.ntmps11
            go_wp2_with (first | (go_at_call 29; refine (HT.out _).mono ?_; rintro e wn ⟨rfl, hwn⟩; obtain rfl := hwn.symm) | (go_at_call_of 17 (Value.string s); refine (HS.out _).mono ?_; rintro e wn ⟨rfl, rfl⟩) | (go_at_call_of 17 (Value.string R); refine (HSR.out _).mono ?_; rintro e wn ⟨rfl, rfl⟩) | (go_at_call_of 7 (Value.string R); refine (HIR.out _).mono ?_; rintro e wn ⟨rfl, hgn⟩; replace HG := G.trans (w := w) (by have hb0 := (HG); (repeat first | with_reducible exact hb0 | with_reducible refine G.drewN ?_ _ | with_reducible refine G.drew ?_ | with_reducible refine G.alloc ?_ _ | with_reducible refine G.set ?_ _ (Or.inr rfl) | (with_reducible refine G.set ?_ _ (Or.inl ?_); rotate_left; focus (first | omega | (simp; done) | (simp; omega))))) hgn; clear hgn) | (go_at_call_of 30 (Value.int IntKind.i64 now); refine (HH1.out _).mono ?_; rintro e wn ⟨rfl, rfl⟩))
            go_ret2
            exact ⟨by rw [hfin.out]; rfl, (by have hb0 := (HG); (repeat first | with_reducible exact hb0 | with_reducible refine G.drewN ?_ _ | with_reducible refine G.drew ?_ | with_reducible refine G.alloc ?_ _ | with_reducible refine G.set ?_ _ (Or.inr rfl) | (with_reducible refine G.set ?_ _ (Or.inl ?_); rotate_left; focus (first | omega | (simp; done) | (simp; omega)))))⟩
          · have HH1 := Lib.hid (HH.out now)
            rw [show inV now = .tuple #[.int .i64 now, .int .i64 0] from if_neg hz] at HH1
            have hz1 : 0 ≤ now := by omega
            have hz2 : now ≤ 4294967295 := by omega
            have HH2 := Lib.hid (HH.out (now + n))
            have hfin0 : Hid (V = inV (now + n)) := Lib.hid (by rw [hrel.out]; unfold relV; exact if_neg hz)
            obtain ⟨a, b, hab⟩ := inV_form (now + n)
            rw [hab] at HH2 hfin0
            have hfin := hfin0
            clear hz hab hfin0
            go_enter Tryd.func11, Tryd.ntmps11
            go_wp2_with (first | (go_at_call 29; refine (HT.out _).mono ?_; rintro e wn ⟨rfl, hwn⟩; obtain rfl := hwn.symm) | (go_at_call_of 17 (Value.string s); refine (HS.out _).mono ?_; rintro e wn ⟨rfl, rfl⟩) | (go_at_call_of 17 (Value.string R); refine (HSR.out _).mono ?_; rintro e wn ⟨rfl, rfl⟩) | (go_at_call_of 7 (Value.string R); refine (HIR.out _).mono ?_; rintro e wn ⟨rfl, hgn⟩; replace HG := G.trans (w := w) (by have hb0 := (HG); (repeat first | with_reducible exact hb0 | with_reducible refine G.drewN ?_ _ | with_reducible refine G.drew ?_ | with_reducible refine G.alloc ?_ _ | with_reducible refine G.set ?_ _ (Or.inr rfl) | (with_reducible refine G.set ?_ _ (Or.inl ?_); rotate_left; focus (first | omega | (simp; done) | (simp; omega))))) hgn; clear hgn) | (go_at_call_of 30 (Value.int IntKind.i64 now); refine (HH1.out _).mono ?_; rintro e wn ⟨rfl, rfl⟩) | (go_at_call 30; refine (HH2.out _).mono ?_; rintro e wn ⟨rfl, rfl⟩))
            go_ret2
            exact ⟨by rw [hfin.out]; rfl, (by have hb0 := (HG); (repeat first | with_reducible exact hb0 | with_reducible refine G.drewN ?_ _ | with_reducible refine G.drew ?_ | with_reducible refine G.alloc ?_ _ | with_reducible refine G.set ?_ _ (Or.inr rfl) | (with_reducible refine G.set ?_ _ (Or.inl ?_); rotate_left; focus (first | omega | (simp; done) | (simp; omega)))))⟩
  case false =>
    have HT := HT0
    rw [trim_not hnw] at HT
    have hO2 : Hid (V = if signedS s then relV (interO s) now else plainV s) := Lib.hid (by rw [← hV.out, hO.out, hnw]; rfl)
    clear HT0 hO hV hnw HSR HIR hRz
    cases sg : signedS s
    case true =>
      have he := toList_full (signed_pos sg)
      have hrel0 : Hid (V = relV (interO s) now) := Lib.hid (by rw [hO2.out, sg]; rfl)
      have hib := @inter_bound s
      rw [sg] at HS
      clear sg hO2
      generalize interO s = io at *
      rcases io with _ | n
      · have hfin : Hid (V = .tuple #[.int .i64 0, .int .i64 8]) := Lib.hid (by rw [hrel0.out]; rfl)
        simp only [wholeT] at HI
        clear hib
        go_enter Tryd.func11, Tryd.ntmps11
        go_wp2_with (first | (go_at_call 29; refine (HT.out _).mono ?_; rintro e wn ⟨rfl, hwn⟩; obtain rfl := hwn.symm) | (go_at_call_of 17 (Value.string s); refine (HS.out _).mono ?_; rintro e wn ⟨rfl, rfl⟩) | (go_at_call_of 7 (Value.string s); refine (HI.out _).mono ?_; rintro e wn ⟨rfl, hgn⟩; replace HG := G.trans (w := w) (by have hb0 := (HG); (repeat first | with_reducible exact hb0 | with_reducible refine G.drewN ?_ _ | with_reducible refine G.drew ?_ | with_reducible refine G.alloc ?_ _ | with_reducible refine G.set ?_ _ (Or.inr rfl) | (with_reducible refine G.set ?_ _ (Or.inl ?_); rotate_left; focus (first | omega | (simp; done) | (simp; omega))))) hgn; clear hgn))
        go_ret2
        exact ⟨by rw [hfin.out]; rfl, (by have hb0 := (HG); (repeat first | with_reducible exact hb0 | with_reducible refine G.drewN ?_ _ | with_reducible refine G.drew ?_ | with_reducible refine G.alloc ?_ _ | with_reducible refine G.set ?_ _ (Or.inr rfl) | (with_reducible refine G.set ?_ _ (Or.inl ?_); rotate_left; focus (first | omega | (simp; done) | (simp; omega)))))⟩
      · have hrel : Hid (V = relV (some n) now) := hrel0
        simp only [wholeT] at HI
        obtain ⟨n1, n2⟩ := hib rfl
        clear hib
        by_cases hz : now < 0 ∨ 4294967295 < now
        · have HH1 := Lib.hid (HH.out now)
          rw [show inV now = .tuple #[.int .i64 0, .int .i64 7] from if_pos hz] at HH1
          have hfin : Hid (V = .tuple #[.int .i64 0, .int .i64 7]) := Lib.hid (by rw [hrel.out]; unfold relV; exact if_pos hz)
          clear hz
          go_enter Tryd.func11, Tryd.ntmps11
          go_wp2_with (first | (go_at_call 29; refine (HT.out _).mono ?_; rintro e wn ⟨rfl, hwn⟩; obtain rfl := hwn.symm) | (go_at_call_of 17 (Value.string s); refine (HS.out _).mono ?_; rintro e wn ⟨rfl, rfl⟩) | (go_at_call_of 7 (Value.string s); refine (HI.out _).mono ?_; rintro e wn ⟨rfl, hgn⟩; replace HG := G.trans (w := w) (by have hb0 := (HG); (repeat first | with_reducible exact hb0 | with_reducible refine G.drewN ?_ _ | with_reducible refine G.drew ?_ | with_reducible refine G.alloc ?_ _ | with_reducible refine G.set ?_ _ (Or.inr rfl) | (with_reducible refine G.set ?_ _ (Or.inl ?_); rotate_left; focus (first | omega | (simp; done) | (simp; omega))))) hgn; clear hgn) | (go_at_call_of 30 (Value.int IntKind.i64 now); refine (HH1.out _).mono ?_; rintro e wn ⟨rfl, rfl⟩))
          go_ret2
          exact ⟨by rw [hfin.out]; rfl, (by have hb0 := (HG); (repeat first | with_reducible exact hb0 | with_reducible refine G.drewN ?_ _ | with_reducible refine G.drew ?_ | with_reducible refine G.alloc ?_ _ | with_reducible refine G.set ?_ _ (Or.inr rfl) | (with_reducible refine G.set ?_ _ (Or.inl ?_); rotate_left; focus (first | omega | (simp; done) | (simp; omega)))))⟩
        · have HH1 := Lib.hid (HH.out now)
          rw [show inV now = .tuple #[.int .i64 now, .int .i64 0] from if_neg hz] at HH1
          have hz1 : 0 ≤ now := by omega
          have hz2 : now ≤ 4294967295 := by omega
          have HH2 := Lib.hid (HH.out (now + n))
          have hfin0 : Hid (V = inV (now + n)) := Lib.hid (by rw [hrel.out]; unfold relV; exact if_neg hz)
          obtain ⟨a, b, hab⟩ := inV_form (now + n)
          rw [hab] at HH2 hfin0
          have hfin := hfin0
          clear hz hab hfin0
          go_enter Tryd.func11, Tryd.ntmps11
          go_wp2_with (first | (go_at_call 29; refine (HT.out _).mono ?_; rintro e wn ⟨rfl, hwn⟩; obtain rfl := hwn.symm) | (go_at_call_of 17 (Value.string s); refine (HS.out _).mono ?_; rintro e wn ⟨rfl, rfl⟩) | (go_at_call_of 7 (Value.string s); refine (HI.out _).mono ?_; rintro e wn ⟨rfl, hgn⟩; replace HG := G.trans (w := w) (by have hb0 := (HG); (repeat first | with_reducible exact hb0 | with_reducible refine G.drewN ?_ _ | with_reducible refine G.drew ?_ | with_reducible refine G.alloc ?_ _ | with_reducible refine G.set ?_ _ (Or.inr rfl) | (with_reducible refine G.set ?_ _ (Or.inl ?_); rotate_left; focus (first | omega | (simp; done) | (simp; omega))))) hgn; clear hgn) | (go_at_call_of 30 (Value.int IntKind.i64 now); refine (HH1.out _).mono ?_; rintro e wn ⟨rfl, rfl⟩) | (go_at_call 30; refine (HH2.out _).mono ?_; rintro e wn ⟨rfl, rfl⟩))
          go_ret2
          exact ⟨by rw [hfin.out]; rfl, (by have hb0 := (HG); (repeat first | with_reducible exact hb0 | with_reducible refine G.drewN ?_ _ | with_reducible refine G.drew ?_ | with_reducible refine G.alloc ?_ _ | with_reducible refine G.set ?_ _ (Or.inr rfl) | (with_reducible refine G.set ?_ _ (Or.inl ?_); rotate_left; focus (first | omega | (simp; done) | (simp; omega)))))⟩
    case false =>
      have hO3 : Hid (V = plainV s) := Lib.hid (by rw [hO2.out, sg]; rfl)
      rw [sg] at HS
      clear sg hO2
      have hP : Hid (plainV s = match dateO s with | some n => .tuple #[.int .i64 n, .int .i64 0] | none => if s.size = 0 ∨ allAt s 0 = false ∨ s.size = 8 then .tuple #[.int .i64 0, .int .i64 8] else (match wholeO s with | none => .tuple #[.int .i64 0, .int .i64 7] | some n => inV n)) := Lib.hid rfl
      have hrl := run_len s
      generalize dateO s = d at *
      rcases d with _ | n
      case some =>
        have hfin : Hid (V = .tuple #[.int .i64 n, .int .i64 0]) := Lib.hid (by rw [hO3.out, hP.out])
        simp only [wholeT] at HD
        go_enter Tryd.func11, Tryd.ntmps11
        go_wp2_with (first | (go_at_call 29; refine (HT.out _).mono ?_; rintro e wn ⟨rfl, hwn⟩; obtain rfl := hwn.symm) | (go_at_call_of 17 (Value.string s); refine (HS.out _).mono ?_; rintro e wn ⟨rfl, rfl⟩) | (go_at_call 9; refine (HD.out _).mono ?_; rintro e wn ⟨rfl, hgn⟩; replace HG := G.trans (w := w) (by have hb0 := (HG); (repeat first | with_reducible exact hb0 | with_reducible refine G.drewN ?_ _ | with_reducible refine G.drew ?_ | with_reducible refine G.alloc ?_ _ | with_reducible refine G.set ?_ _ (Or.inr rfl) | (with_reducible refine G.set ?_ _ (Or.inl ?_); rotate_left; focus (first | omega | (simp; done) | (simp; omega))))) hgn; clear hgn))
        go_ret2
        exact ⟨by rw [hfin.out]; rfl, (by have hb0 := (HG); (repeat first | with_reducible exact hb0 | with_reducible refine G.drewN ?_ _ | with_reducible refine G.drew ?_ | with_reducible refine G.alloc ?_ _ | with_reducible refine G.set ?_ _ (Or.inr rfl) | (with_reducible refine G.set ?_ _ (Or.inl ?_); rotate_left; focus (first | omega | (simp; done) | (simp; omega)))))⟩
      case none =>
      simp only [wholeT] at HD
      have hP2 : Hid (V = if s.size = 0 ∨ allAt s 0 = false ∨ s.size = 8 then .tuple #[.int .i64 0, .int .i64 8] else (match wholeO s with | none => .tuple #[.int .i64 0, .int .i64 7] | some n => inV n)) := Lib.hid (by rw [hO3.out, hP.out])
      clear hP hO3
      by_cases h0 : 0 < s.size
      case neg =>
        have he := toList_empty h0
        have hfin : Hid (V = .tuple #[.int .i64 0, .int .i64 8]) := Lib.hid (by rw [hP2.out, if_pos (Or.inl (by omega))])
        go_enter Tryd.func11, Tryd.ntmps11
        go_wp2_with (first | (go_at_call 29; refine (HT.out _).mono ?_; rintro e wn ⟨rfl, hwn⟩; obtain rfl := hwn.symm) | (go_at_call_of 17 (Value.string s); refine (HS.out _).mono ?_; rintro e wn ⟨rfl, rfl⟩) | (go_at_call 9; refine (HD.out _).mono ?_; rintro e wn ⟨rfl, hgn⟩; replace HG := G.trans (w := w) (by have hb0 := (HG); (repeat first | with_reducible exact hb0 | with_reducible refine G.drewN ?_ _ | with_reducible refine G.drew ?_ | with_reducible refine G.alloc ?_ _ | with_reducible refine G.set ?_ _ (Or.inr rfl) | (with_reducible refine G.set ?_ _ (Or.inl ?_); rotate_left; focus (first | omega | (simp; done) | (simp; omega))))) hgn; clear hgn))
        go_ret2
        exact ⟨by rw [hfin.out]; rfl, (by have hb0 := (HG); (repeat first | with_reducible exact hb0 | with_reducible refine G.drewN ?_ _ | with_reducible refine G.drew ?_ | with_reducible refine G.alloc ?_ _ | with_reducible refine G.set ?_ _ (Or.inr rfl) | (with_reducible refine G.set ?_ _ (Or.inl ?_); rotate_left; focus (first | omega | (simp; done) | (simp; omega)))))⟩
      have he := toList_full h0
      generalize allAt s 0 = al at *
      generalize runD s 0 = r at *
      cases al
      · rw [Bool.not_false] at hrl
        have hfin : Hid (V = .tuple #[.int .i64 0, .int .i64 8]) := Lib.hid (by rw [hP2.out, if_pos (Or.inr (Or.inl rfl))])
        go_enter Tryd.func11, Tryd.ntmps11
        go_wp2_with (first | (go_at_call 29; refine (HT.out _).mono ?_; rintro e wn ⟨rfl, hwn⟩; obtain rfl := hwn.symm) | (go_at_call_of 17 (Value.string s); refine (HS.out _).mono ?_; rintro e wn ⟨rfl, rfl⟩) | (go_at_call 9; refine (HD.out _).mono ?_; rintro e wn ⟨rfl, hgn⟩; replace HG := G.trans (w := w) (by have hb0 := (HG); (repeat first | with_reducible exact hb0 | with_reducible refine G.drewN ?_ _ | with_reducible refine G.drew ?_ | with_reducible refine G.alloc ?_ _ | with_reducible refine G.set ?_ _ (Or.inr rfl) | (with_reducible refine G.set ?_ _ (Or.inl ?_); rotate_left; focus (first | omega | (simp; done) | (simp; omega))))) hgn; clear hgn) | (go_at_call 18; refine (HR.out _).mono ?_; rintro e wn ⟨rfl, rfl⟩))
        go_ret2
        exact ⟨by rw [hfin.out]; rfl, (by have hb0 := (HG); (repeat first | with_reducible exact hb0 | with_reducible refine G.drewN ?_ _ | with_reducible refine G.drew ?_ | with_reducible refine G.alloc ?_ _ | with_reducible refine G.set ?_ _ (Or.inr rfl) | (with_reducible refine G.set ?_ _ (Or.inl ?_); rotate_left; focus (first | omega | (simp; done) | (simp; omega)))))⟩
      rw [Bool.not_true] at hrl
      by_cases h8 : s.size = 8
      · have h8' : ((s.size : Int) == 8) = true := by simp; omega
        have hr8 : ((r : Int) != 8) = false := by rw [← hrl, h8]; rfl
        have hfin : Hid (V = .tuple #[.int .i64 0, .int .i64 8]) := Lib.hid (by rw [hP2.out, if_pos (Or.inr (Or.inr h8))])
        go_enter Tryd.func11, Tryd.ntmps11
        go_wp2_with (first | (go_at_call 29; refine (HT.out _).mono ?_; rintro e wn ⟨rfl, hwn⟩; obtain rfl := hwn.symm) | (go_at_call_of 17 (Value.string s); refine (HS.out _).mono ?_; rintro e wn ⟨rfl, rfl⟩) | (go_at_call 9; refine (HD.out _).mono ?_; rintro e wn ⟨rfl, hgn⟩; replace HG := G.trans (w := w) (by have hb0 := (HG); (repeat first | with_reducible exact hb0 | with_reducible refine G.drewN ?_ _ | with_reducible refine G.drew ?_ | with_reducible refine G.alloc ?_ _ | with_reducible refine G.set ?_ _ (Or.inr rfl) | (with_reducible refine G.set ?_ _ (Or.inl ?_); rotate_left; focus (first | omega | (simp; done) | (simp; omega))))) hgn; clear hgn) | (go_at_call 18; refine (HR.out _).mono ?_; rintro e wn ⟨rfl, rfl⟩))
        go_ret2
        exact ⟨by rw [hfin.out]; rfl, (by have hb0 := (HG); (repeat first | with_reducible exact hb0 | with_reducible refine G.drewN ?_ _ | with_reducible refine G.drew ?_ | with_reducible refine G.alloc ?_ _ | with_reducible refine G.set ?_ _ (Or.inr rfl) | (with_reducible refine G.set ?_ _ (Or.inl ?_); rotate_left; focus (first | omega | (simp; done) | (simp; omega)))))⟩
      have h8' : ((s.size : Int) == 8) = false := by simp; omega
      have hP3 : Hid (V = match wholeO s with | none => .tuple #[.int .i64 0, .int .i64 7] | some n => inV n) := Lib.hid (by rw [hP2.out, if_neg]; rintro (h | h | h) <;> first | omega | cases h)
      clear hP2 h8
      generalize wholeO s = o at *
      rcases o with _ | n
      · have hfin : Hid (V = .tuple #[.int .i64 0, .int .i64 7]) := hP3
        simp only [wholeT] at HW
        go_enter Tryd.func11, Tryd.ntmps11
        go_wp2_with (first | (go_at_call 29; refine (HT.out _).mono ?_; rintro e wn ⟨rfl, hwn⟩; obtain rfl := hwn.symm) | (go_at_call_of 17 (Value.string s); refine (HS.out _).mono ?_; rintro e wn ⟨rfl, rfl⟩) | (go_at_call 9; refine (HD.out _).mono ?_; rintro e wn ⟨rfl, hgn⟩; replace HG := G.trans (w := w) (by have hb0 := (HG); (repeat first | with_reducible exact hb0 | with_reducible refine G.drewN ?_ _ | with_reducible refine G.drew ?_ | with_reducible refine G.alloc ?_ _ | with_reducible refine G.set ?_ _ (Or.inr rfl) | (with_reducible refine G.set ?_ _ (Or.inl ?_); rotate_left; focus (first | omega | (simp; done) | (simp; omega))))) hgn; clear hgn) | (go_at_call 18; refine (HR.out _).mono ?_; rintro e wn ⟨rfl, rfl⟩) | (go_at_call 19; refine (HW.out _).mono ?_; rintro e wn ⟨rfl, hgn⟩; replace HG := G.trans (w := w) (by have hb0 := (HG); (repeat first | with_reducible exact hb0 | with_reducible refine G.drewN ?_ _ | with_reducible refine G.drew ?_ | with_reducible refine G.alloc ?_ _ | with_reducible refine G.set ?_ _ (Or.inr rfl) | (with_reducible refine G.set ?_ _ (Or.inl ?_); rotate_left; focus (first | omega | (simp; done) | (simp; omega))))) hgn; clear hgn))
        go_ret2
        exact ⟨by rw [hfin.out]; rfl, (by have hb0 := (HG); (repeat first | with_reducible exact hb0 | with_reducible refine G.drewN ?_ _ | with_reducible refine G.drew ?_ | with_reducible refine G.alloc ?_ _ | with_reducible refine G.set ?_ _ (Or.inr rfl) | (with_reducible refine G.set ?_ _ (Or.inl ?_); rotate_left; focus (first | omega | (simp; done) | (simp; omega)))))⟩
      · have hfin0 : Hid (V = inV n) := hP3
        simp only [wholeT] at HW
        have HH2 := Lib.hid (HH.out n)
        obtain ⟨a, b, hab⟩ := inV_form n
        rw [hab] at HH2 hfin0
        have hfin := hfin0
        clear hab hfin0
        go_enter Tryd.func11, Tryd.ntmps11
        go_wp2_with (first | (go_at_call 29; refine (HT.out _).mono ?_; rintro e wn ⟨rfl, hwn⟩; obtain rfl := hwn.symm) | (go_at_call_of 17 (Value.string s); refine (HS.out _).mono ?_; rintro e wn ⟨rfl, rfl⟩) | (go_at_call 9; refine (HD.out _).mono ?_; rintro e wn ⟨rfl, hgn⟩; replace HG := G.trans (w := w) (by have hb0 := (HG); (repeat first | with_reducible exact hb0 | with_reducible refine G.drewN ?_ _ | with_reducible refine G.drew ?_ | with_reducible refine G.alloc ?_ _ | with_reducible refine G.set ?_ _ (Or.inr rfl) | (with_reducible refine G.set ?_ _ (Or.inl ?_); rotate_left; focus (first | omega | (simp; done) | (simp; omega))))) hgn; clear hgn) | (go_at_call 18; refine (HR.out _).mono ?_; rintro e wn ⟨rfl, rfl⟩) | (go_at_call 19; refine (HW.out _).mono ?_; rintro e wn ⟨rfl, hgn⟩; replace HG := G.trans (w := w) (by have hb0 := (HG); (repeat first | with_reducible exact hb0 | with_reducible refine G.drewN ?_ _ | with_reducible refine G.drew ?_ | with_reducible refine G.alloc ?_ _ | with_reducible refine G.set ?_ _ (Or.inr rfl) | (with_reducible refine G.set ?_ _ (Or.inl ?_); rotate_left; focus (first | omega | (simp; done) | (simp; omega))))) hgn; clear hgn) | (go_at_call 30; refine (HH2.out _).mono ?_; rintro e wn ⟨rfl, rfl⟩))
        go_ret2
        exact ⟨by rw [hfin.out]; rfl, (by have hb0 := (HG); (repeat first | with_reducible exact hb0 | with_reducible refine G.drewN ?_ _ | with_reducible refine G.drew ?_ | with_reducible refine G.alloc ?_ _ | with_reducible refine G.set ?_ _ (Or.inr rfl) | (with_reducible refine G.set ?_ _ (Or.inl ?_); rotate_left; focus (first | omega | (simp; done) | (simp; omega)))))⟩
end Go.Proofs.YtjfdaoedpdiaeaaDoor
