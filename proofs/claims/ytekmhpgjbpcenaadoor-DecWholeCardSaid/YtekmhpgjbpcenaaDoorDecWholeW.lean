/-
  The walk of the law on whole numbers.
-/
import Derived.Test.YtekmhpgjbpcenaaDoorDecWholeAid
import Derived.Test.YtekmhpgjbpcenaaDoorDecKnown
namespace Go.Proofs.YtekmhpgjbpcenaaDoor
open Go.RowKit
def itoaS (n : Int) : ByteArray := ⟨(Lib.itoa n).toArray⟩
theorem digitsS (n : Int) (w : World) (h1 : -9223372036854775808 ≤ n) (h2 : n ≤ 9223372036854775807) (hp : Pow10 w) :
    Calls Tryd.prog 16 #[.int .i64 n] w fun e w' => e = .returned (.string (itoaS n)) ∧ w.grownBy w' none :=
  (digits_any n w h1 h2 hp).mono fun _ _ ⟨_, he, hz, _, hg⟩ => ⟨by rw [he, ext_data hz]; rfl, hg⟩
theorem refDigitsS (n : Int) (w : World) (h1 : -9223372036854775808 ≤ n) (h2 : n ≤ 9223372036854775807) :
    Calls Tryd.prog 17 #[.int .i64 n] w fun e w' => e = .returned (.string (itoaS n)) ∧ w.grownBy w' none :=
  (refDigits_any n w h1 h2).mono fun _ _ ⟨_, he, hz, _, hg⟩ => ⟨by rw [he, ext_data hz]; rfl, hg⟩
theorem itoaS_size {n : Int} (h1 : -9223372036854775808 ≤ n) (h2 : n ≤ 9223372036854775807) : (itoaS n).size ≤ 20 := by
  unfold itoaS; rw [Lib.size_mk]; exact itoa_len h1 h2
theorem okD_dec (k : Nat) : ∀ t : ByteArray, t.data.toList = Lib.decDigits k → okD t = true := by
  intro t ht
  unfold okD
  rw [ht, decDigits_isD, ne_empty (decDigits_ne k)]; rfl
theorem num_dec (k : Nat) : numR 0 (Lib.decDigits k) = if k ≤ topN then some k else none := by unfold numR; rw [decDigits_val]
theorem whole_itoa (n : Int) : wholeO (itoaS n) = if -4611686018427387904 ≤ n ∧ n ≤ 4611686018427387904 then some n else none := by
  by_cases hn : n < 0
  · have e : (itoaS n).data.toList = 45 :: Lib.decDigits n.natAbs := by show Lib.itoa n = _; unfold Lib.itoa; rw [if_pos hn]
    obtain ⟨h1, h2⟩ := minus_of e
    unfold wholeO
    rw [h1, okD_dec _ _ h2, h2, num_dec, if_pos rfl]
    by_cases hm : n.natAbs ≤ topN
    · rw [if_pos hm, if_pos (by unfold topN at hm; omega)]
      simp only [Option.map_some, if_true, Option.some.injEq]
      omega
    · rw [if_neg hm, if_neg (by unfold topN at hm; omega)]; rfl
  · have e : (itoaS n).data.toList = Lib.decDigits n.toNat := by show Lib.itoa n = _; unfold Lib.itoa; rw [if_neg hn]
    have h1 : minusS (itoaS n) = false := minus_not (fun r h => by
      rw [e] at h
      have := decDigits_isD n.toNat
      rw [h, List.all_cons, Bool.and_eq_true] at this
      exact absurd this.1 (by decide))
    have h2 : bareW (itoaS n) = itoaS n := by unfold bareW; rw [h1]; rfl
    unfold wholeO
    rw [h1, h2, okD_dec _ _ e, e, num_dec, if_pos rfl]
    by_cases hm : n.toNat ≤ topN
    · rw [if_pos hm, if_pos (by unfold topN at hm; omega)]
      simp only [Option.map_some, Bool.false_eq_true, if_false, Option.some.injEq]
      omega
    · rw [if_neg hm, if_neg (by unfold topN at hm; omega)]; rfl
set_option maxHeartbeats 8000000 in
theorem decWhole_walk (s : ByteArray) (n : Int) (w : World) (hs : s.size ≤ maxLen) (h1 : -9223372036854775808 ≤ n) (h2 : n ≤ 9223372036854775807) (hp : Pow10 w) :
    Calls Tryd.prog 7 #[.string s, .int .i64 n] w fun e w' => e = .returned (.bool true) ∧ w.grownBy w' none := by
  unfold maxLen at hs
  have HP := Lib.hid hp; clear hp
  have HG := G.refl w none
  by_cases hl : s.size ≤ 400
  · have HA := Lib.hid (fun w => whole_prog s w (by omega))
    have HB := Lib.hid (fun w => whole_ref s w (by omega))
    have HD := Lib.hid (fun w hp => digitsS n w h1 h2 hp)
    have HE := Lib.hid (fun w => refDigitsS n w h1 h2)
    have hz := itoaS_size h1 h2
    have HC := Lib.hid (fun w => whole_prog (itoaS n) w (by omega))
    rw [whole_itoa] at HC
    have HK := Lib.hid known2_any
    generalize itoaS n = Z at *
    generalize wholeO s = o at *
    by_cases ha : -4611686018427387904 ≤ n
    · by_cases hb : n ≤ 4611686018427387904
      · rw [if_pos ⟨ha, hb⟩] at HC
        simp only [wholeT] at HC
        clear hz
        rcases o with _ | m <;>
        · simp only [wholeT] at HA HB
          go_enter Tryd.func7, Tryd.ntmps7
          go_wp2_with (first | (go_at_call_of 14 (Value.string s); refine (HA.out _).mono ?_; rintro e wn ⟨rfl, hgn⟩; replace HG := G.trans (w := w) (by have hb0 := (HG); (repeat first | with_reducible exact hb0 | with_reducible refine G.drewN ?_ _ | with_reducible refine G.drew ?_ | with_reducible refine G.alloc ?_ _ | with_reducible refine G.set ?_ _ (Or.inr rfl) | (with_reducible refine G.set ?_ _ (Or.inl ?_); rotate_left; focus (first | omega | (simp; done) | (simp; omega))))) hgn; clear hgn) | (go_at_call_of 14 (Value.string Z); refine (HC.out _).mono ?_; rintro e wn ⟨rfl, hgn⟩; replace HG := G.trans (w := w) (by have hb0 := (HG); (repeat first | with_reducible exact hb0 | with_reducible refine G.drewN ?_ _ | with_reducible refine G.drew ?_ | with_reducible refine G.alloc ?_ _ | with_reducible refine G.set ?_ _ (Or.inr rfl) | (with_reducible refine G.set ?_ _ (Or.inl ?_); rotate_left; focus (first | omega | (simp; done) | (simp; omega))))) hgn; clear hgn) | (go_at_call 15; refine (HB.out _).mono ?_; rintro e wn ⟨rfl, hgn⟩; replace HG := G.trans (w := w) (by have hb0 := (HG); (repeat first | with_reducible exact hb0 | with_reducible refine G.drewN ?_ _ | with_reducible refine G.drew ?_ | with_reducible refine G.alloc ?_ _ | with_reducible refine G.set ?_ _ (Or.inr rfl) | (with_reducible refine G.set ?_ _ (Or.inl ?_); rotate_left; focus (first | omega | (simp; done) | (simp; omega))))) hgn; clear hgn) | (go_at_call 16; refine (HD.out _ (Pow10.kept (w := w) HP.out (by have hb0 := (HG); (repeat first | with_reducible exact hb0 | with_reducible refine G.drewN ?_ _ | with_reducible refine G.drew ?_ | with_reducible refine G.alloc ?_ _ | with_reducible refine G.set ?_ _ (Or.inr rfl) | (with_reducible refine G.set ?_ _ (Or.inl ?_); rotate_left; focus (first | omega | (simp; done) | (simp; omega))))))).mono ?_; rintro e wn ⟨rfl, hgn⟩; replace HG := G.trans (w := w) (by have hb0 := (HG); (repeat first | with_reducible exact hb0 | with_reducible refine G.drewN ?_ _ | with_reducible refine G.drew ?_ | with_reducible refine G.alloc ?_ _ | with_reducible refine G.set ?_ _ (Or.inr rfl) | (with_reducible refine G.set ?_ _ (Or.inl ?_); rotate_left; focus (first | omega | (simp; done) | (simp; omega))))) hgn; clear hgn) | (go_at_call 17; refine (HE.out _).mono ?_; rintro e wn ⟨rfl, hgn⟩; replace HG := G.trans (w := w) (by have hb0 := (HG); (repeat first | with_reducible exact hb0 | with_reducible refine G.drewN ?_ _ | with_reducible refine G.drew ?_ | with_reducible refine G.alloc ?_ _ | with_reducible refine G.set ?_ _ (Or.inr rfl) | (with_reducible refine G.set ?_ _ (Or.inl ?_); rotate_left; focus (first | omega | (simp; done) | (simp; omega))))) hgn; clear hgn) | (go_at_call 10; refine (HK.out _ (Pow10.kept (w := w) HP.out (by have hb0 := (HG); (repeat first | with_reducible exact hb0 | with_reducible refine G.drewN ?_ _ | with_reducible refine G.drew ?_ | with_reducible refine G.alloc ?_ _ | with_reducible refine G.set ?_ _ (Or.inr rfl) | (with_reducible refine G.set ?_ _ (Or.inl ?_); rotate_left; focus (first | omega | (simp; done) | (simp; omega))))))).mono ?_; rintro e wn ⟨rfl, hgn⟩; replace HG := G.trans (w := w) (by have hb0 := (HG); (repeat first | with_reducible exact hb0 | with_reducible refine G.drewN ?_ _ | with_reducible refine G.drew ?_ | with_reducible refine G.alloc ?_ _ | with_reducible refine G.set ?_ _ (Or.inr rfl) | (with_reducible refine G.set ?_ _ (Or.inl ?_); rotate_left; focus (first | omega | (simp; done) | (simp; omega))))) hgn; clear hgn))
          go_ret
          exact ⟨ret_bool (by first | rfl | (simp; omega)), (by have hb0 := (HG); (repeat first | with_reducible exact hb0 | with_reducible refine G.drewN ?_ _ | with_reducible refine G.drew ?_ | with_reducible refine G.alloc ?_ _ | with_reducible refine G.set ?_ _ (Or.inr rfl) | (with_reducible refine G.set ?_ _ (Or.inl ?_); rotate_left; focus (first | omega | (simp; done) | (simp; omega)))))⟩
      · rw [if_neg (fun h => hb h.2)] at HC
        simp only [wholeT] at HC
        clear hz
        rcases o with _ | m <;>
        · simp only [wholeT] at HA HB
          go_enter Tryd.func7, Tryd.ntmps7
          go_wp2_with (first | (go_at_call_of 14 (Value.string s); refine (HA.out _).mono ?_; rintro e wn ⟨rfl, hgn⟩; replace HG := G.trans (w := w) (by have hb0 := (HG); (repeat first | with_reducible exact hb0 | with_reducible refine G.drewN ?_ _ | with_reducible refine G.drew ?_ | with_reducible refine G.alloc ?_ _ | with_reducible refine G.set ?_ _ (Or.inr rfl) | (with_reducible refine G.set ?_ _ (Or.inl ?_); rotate_left; focus (first | omega | (simp; done) | (simp; omega))))) hgn; clear hgn) | (go_at_call_of 14 (Value.string Z); refine (HC.out _).mono ?_; rintro e wn ⟨rfl, hgn⟩; replace HG := G.trans (w := w) (by have hb0 := (HG); (repeat first | with_reducible exact hb0 | with_reducible refine G.drewN ?_ _ | with_reducible refine G.drew ?_ | with_reducible refine G.alloc ?_ _ | with_reducible refine G.set ?_ _ (Or.inr rfl) | (with_reducible refine G.set ?_ _ (Or.inl ?_); rotate_left; focus (first | omega | (simp; done) | (simp; omega))))) hgn; clear hgn) | (go_at_call 15; refine (HB.out _).mono ?_; rintro e wn ⟨rfl, hgn⟩; replace HG := G.trans (w := w) (by have hb0 := (HG); (repeat first | with_reducible exact hb0 | with_reducible refine G.drewN ?_ _ | with_reducible refine G.drew ?_ | with_reducible refine G.alloc ?_ _ | with_reducible refine G.set ?_ _ (Or.inr rfl) | (with_reducible refine G.set ?_ _ (Or.inl ?_); rotate_left; focus (first | omega | (simp; done) | (simp; omega))))) hgn; clear hgn) | (go_at_call 16; refine (HD.out _ (Pow10.kept (w := w) HP.out (by have hb0 := (HG); (repeat first | with_reducible exact hb0 | with_reducible refine G.drewN ?_ _ | with_reducible refine G.drew ?_ | with_reducible refine G.alloc ?_ _ | with_reducible refine G.set ?_ _ (Or.inr rfl) | (with_reducible refine G.set ?_ _ (Or.inl ?_); rotate_left; focus (first | omega | (simp; done) | (simp; omega))))))).mono ?_; rintro e wn ⟨rfl, hgn⟩; replace HG := G.trans (w := w) (by have hb0 := (HG); (repeat first | with_reducible exact hb0 | with_reducible refine G.drewN ?_ _ | with_reducible refine G.drew ?_ | with_reducible refine G.alloc ?_ _ | with_reducible refine G.set ?_ _ (Or.inr rfl) | (with_reducible refine G.set ?_ _ (Or.inl ?_); rotate_left; focus (first | omega | (simp; done) | (simp; omega))))) hgn; clear hgn) | (go_at_call 17; refine (HE.out _).mono ?_; rintro e wn ⟨rfl, hgn⟩; replace HG := G.trans (w := w) (by have hb0 := (HG); (repeat first | with_reducible exact hb0 | with_reducible refine G.drewN ?_ _ | with_reducible refine G.drew ?_ | with_reducible refine G.alloc ?_ _ | with_reducible refine G.set ?_ _ (Or.inr rfl) | (with_reducible refine G.set ?_ _ (Or.inl ?_); rotate_left; focus (first | omega | (simp; done) | (simp; omega))))) hgn; clear hgn) | (go_at_call 10; refine (HK.out _ (Pow10.kept (w := w) HP.out (by have hb0 := (HG); (repeat first | with_reducible exact hb0 | with_reducible refine G.drewN ?_ _ | with_reducible refine G.drew ?_ | with_reducible refine G.alloc ?_ _ | with_reducible refine G.set ?_ _ (Or.inr rfl) | (with_reducible refine G.set ?_ _ (Or.inl ?_); rotate_left; focus (first | omega | (simp; done) | (simp; omega))))))).mono ?_; rintro e wn ⟨rfl, hgn⟩; replace HG := G.trans (w := w) (by have hb0 := (HG); (repeat first | with_reducible exact hb0 | with_reducible refine G.drewN ?_ _ | with_reducible refine G.drew ?_ | with_reducible refine G.alloc ?_ _ | with_reducible refine G.set ?_ _ (Or.inr rfl) | (with_reducible refine G.set ?_ _ (Or.inl ?_); rotate_left; focus (first | omega | (simp; done) | (simp; omega))))) hgn; clear hgn))
          go_ret
          exact ⟨ret_bool (by first | rfl | (simp; omega)), (by have hb0 := (HG); (repeat first | with_reducible exact hb0 | with_reducible refine G.drewN ?_ _ | with_reducible refine G.drew ?_ | with_reducible refine G.alloc ?_ _ | with_reducible refine G.set ?_ _ (Or.inr rfl) | (with_reducible refine G.set ?_ _ (Or.inl ?_); rotate_left; focus (first | omega | (simp; done) | (simp; omega)))))⟩
    · rw [if_neg (fun h => ha h.1)] at HC
      simp only [wholeT] at HC
      clear hz
      rcases o with _ | m <;>
      · simp only [wholeT] at HA HB
        go_enter Tryd.func7, Tryd.ntmps7
        go_wp2_with (first | (go_at_call_of 14 (Value.string s); refine (HA.out _).mono ?_; rintro e wn ⟨rfl, hgn⟩; replace HG := G.trans (w := w) (by have hb0 := (HG); (repeat first | with_reducible exact hb0 | with_reducible refine G.drewN ?_ _ | with_reducible refine G.drew ?_ | with_reducible refine G.alloc ?_ _ | with_reducible refine G.set ?_ _ (Or.inr rfl) | (with_reducible refine G.set ?_ _ (Or.inl ?_); rotate_left; focus (first | omega | (simp; done) | (simp; omega))))) hgn; clear hgn) | (go_at_call_of 14 (Value.string Z); refine (HC.out _).mono ?_; rintro e wn ⟨rfl, hgn⟩; replace HG := G.trans (w := w) (by have hb0 := (HG); (repeat first | with_reducible exact hb0 | with_reducible refine G.drewN ?_ _ | with_reducible refine G.drew ?_ | with_reducible refine G.alloc ?_ _ | with_reducible refine G.set ?_ _ (Or.inr rfl) | (with_reducible refine G.set ?_ _ (Or.inl ?_); rotate_left; focus (first | omega | (simp; done) | (simp; omega))))) hgn; clear hgn) | (go_at_call 15; refine (HB.out _).mono ?_; rintro e wn ⟨rfl, hgn⟩; replace HG := G.trans (w := w) (by have hb0 := (HG); (repeat first | with_reducible exact hb0 | with_reducible refine G.drewN ?_ _ | with_reducible refine G.drew ?_ | with_reducible refine G.alloc ?_ _ | with_reducible refine G.set ?_ _ (Or.inr rfl) | (with_reducible refine G.set ?_ _ (Or.inl ?_); rotate_left; focus (first | omega | (simp; done) | (simp; omega))))) hgn; clear hgn) | (go_at_call 16; refine (HD.out _ (Pow10.kept (w := w) HP.out (by have hb0 := (HG); (repeat first | with_reducible exact hb0 | with_reducible refine G.drewN ?_ _ | with_reducible refine G.drew ?_ | with_reducible refine G.alloc ?_ _ | with_reducible refine G.set ?_ _ (Or.inr rfl) | (with_reducible refine G.set ?_ _ (Or.inl ?_); rotate_left; focus (first | omega | (simp; done) | (simp; omega))))))).mono ?_; rintro e wn ⟨rfl, hgn⟩; replace HG := G.trans (w := w) (by have hb0 := (HG); (repeat first | with_reducible exact hb0 | with_reducible refine G.drewN ?_ _ | with_reducible refine G.drew ?_ | with_reducible refine G.alloc ?_ _ | with_reducible refine G.set ?_ _ (Or.inr rfl) | (with_reducible refine G.set ?_ _ (Or.inl ?_); rotate_left; focus (first | omega | (simp; done) | (simp; omega))))) hgn; clear hgn) | (go_at_call 17; refine (HE.out _).mono ?_; rintro e wn ⟨rfl, hgn⟩; replace HG := G.trans (w := w) (by have hb0 := (HG); (repeat first | with_reducible exact hb0 | with_reducible refine G.drewN ?_ _ | with_reducible refine G.drew ?_ | with_reducible refine G.alloc ?_ _ | with_reducible refine G.set ?_ _ (Or.inr rfl) | (with_reducible refine G.set ?_ _ (Or.inl ?_); rotate_left; focus (first | omega | (simp; done) | (simp; omega))))) hgn; clear hgn) | (go_at_call 10; refine (HK.out _ (Pow10.kept (w := w) HP.out (by have hb0 := (HG); (repeat first | with_reducible exact hb0 | with_reducible refine G.drewN ?_ _ | with_reducible refine G.drew ?_ | with_reducible refine G.alloc ?_ _ | with_reducible refine G.set ?_ _ (Or.inr rfl) | (with_reducible refine G.set ?_ _ (Or.inl ?_); rotate_left; focus (first | omega | (simp; done) | (simp; omega))))))).mono ?_; rintro e wn ⟨rfl, hgn⟩; replace HG := G.trans (w := w) (by have hb0 := (HG); (repeat first | with_reducible exact hb0 | with_reducible refine G.drewN ?_ _ | with_reducible refine G.drew ?_ | with_reducible refine G.alloc ?_ _ | with_reducible refine G.set ?_ _ (Or.inr rfl) | (with_reducible refine G.set ?_ _ (Or.inl ?_); rotate_left; focus (first | omega | (simp; done) | (simp; omega))))) hgn; clear hgn))
        go_ret
        exact ⟨ret_bool (by first | rfl | (simp; omega)), (by have hb0 := (HG); (repeat first | with_reducible exact hb0 | with_reducible refine G.drewN ?_ _ | with_reducible refine G.drew ?_ | with_reducible refine G.alloc ?_ _ | with_reducible refine G.set ?_ _ (Or.inr rfl) | (with_reducible refine G.set ?_ _ (Or.inl ?_); rotate_left; focus (first | omega | (simp; done) | (simp; omega)))))⟩
  · go_enter Tryd.func7, Tryd.ntmps7
    go_wp2_with fail
    go_ret
    exact ⟨ret_bool rfl, HG⟩
end Go.Proofs.YtekmhpgjbpcenaaDoor
