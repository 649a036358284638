/-
  The law's own example; the walk of the law on what a text says.
-/
import Derived.Test.YtjfdaoedpdiaeaaDoorSpanClkR
namespace Go.Proofs.YtjfdaoedpdiaeaaDoor
open Go.RowKit
theorem dec1970 : Lib.decDigits 1970 = [49, 57, 55, 48] := by
  have e1 : Lib.decDigits 1 = [49] := Lib.decDigits_one (by omega)
  have e2 : Lib.decDigits 19 = [49, 57] := Lib.decDigits_two (by omega) (by omega)
  have e3 : Lib.decDigits 197 = [49, 57, 55] := by rw [Lib.decDigits, dif_neg (by omega), show 197 / 10 = 19 from rfl, e2]; rfl
  rw [Lib.decDigits, dif_neg (by omega), show 1970 / 10 = 197 from rfl, e3]; rfl
theorem known_clock : clockB (capT 86399) = ⟨#[49, 57, 55, 48, 45, 48, 49, 45, 48, 49, 32, 50, 51, 58, 53, 57, 58, 53, 57]⟩ := by
  have e0 : capT 86399 = 86399 := by decide
  have e1 : yOf 1970 (86399 / 86400) = (1970, 0) := yOf_stop (by decide)
  have e2 : mOf 1970 1 0 = (1, 0) := mOf_stop (by decide)
  unfold clockB clockL
  rw [e0, e1, e2, dec1970]
  rfl
theorem known_date : dateO ⟨#[49, 57, 55, 48, 48, 49, 48, 50]⟩ = some 86400 := by decide +kernel
theorem known_inter : interO ⟨#[45, 53, 109, 105, 110]⟩ = some (-300) := by
  have e1 : signedS ⟨#[45, 53, 109, 105, 110]⟩ = true := by decide
  have e2 : minusS ⟨#[45, 53, 109, 105, 110]⟩ = true := by decide
  have e3 : bareS ⟨#[45, 53, 109, 105, 110]⟩ = ⟨#[53, 109, 105, 110]⟩ := by unfold bareS; rw [e1]; rfl
  have e4 : runD ⟨#[53, 109, 105, 110]⟩ 0 = 1 := by decide
  have e5 : restB ⟨#[53, 109, 105, 110]⟩ = ⟨#[109, 105, 110]⟩ := by unfold restB; rw [e4]; rfl
  have e6 : leadB ⟨#[53, 109, 105, 110]⟩ = ⟨#[53]⟩ := by unfold leadB; rw [e4]; rfl
  have e7 : unitN ⟨#[109, 105, 110]⟩ = 60 := by simp [unitN, hitAt, uw0, uw1, ByteArray.toList_eq]
  have e8 : wholeO ⟨#[53]⟩ = some 5 := by decide
  unfold interO
  rw [e3, e5, e6, e7, e8, e2]
  decide
theorem known_at : atV ⟨#[45, 53, 109, 105, 110]⟩ 1000 = .tuple #[.int .i64 700, .int .i64 0] := by
  have e1 : isNow ⟨#[45, 53, 109, 105, 110]⟩ = false := by decide
  have e2 : signedS ⟨#[45, 53, 109, 105, 110]⟩ = true := by decide
  unfold atV
  rw [e1, e2, known_inter]
  rfl
set_option maxHeartbeats 4000000 in
theorem known16_any (w : World) (hp : Pow10 w) : Calls Tryd.prog 13 #[] w fun e w' => e = .returned (.bool true) ∧ w.grownBy w' none := by
  have HP := Lib.hid hp; clear hp
  have HA := Lib.hid (fun w => at_prog ⟨#[45, 53, 109, 105, 110]⟩ 1000 w (by decide) (by omega) (by omega))
  have HB := Lib.hid (fun w => date_prog ⟨#[49, 57, 55, 48, 48, 49, 48, 50]⟩ w (by decide))
  have HC := Lib.hid (fun w hp => clock_prog 86399 w (by omega) (by omega) hp)
  rw [known_at] at HA
  rw [known_date] at HB
  rw [known_clock] at HC
  simp only [wholeT] at HB
  have HG := G.refl w none
  go_enter Tryd.func13, Tryd.ntmps13
  go_wp2_with (first | (go_at_call 11; refine (HA.out _).mono ?_; rintro e wn ⟨rfl, hgn⟩; replace HG := G.trans (w := w) (by have hb0 := (HG); (repeat first | with_reducible exact hb0 | with_reducible refine G.drewN ?_ _ | with_reducible refine G.drew ?_ | with_reducible refine G.alloc ?_ _ | with_reducible refine G.set ?_ _ (Or.inr rfl) | (with_reducible refine G.set ?_ _ (Or.inl ?_); rotate_left; focus (first | omega | (simp; done) | (simp; omega))))) hgn; clear hgn) | (go_at_call 9; refine (HB.out _).mono ?_; rintro e wn ⟨rfl, hgn⟩; replace HG := G.trans (w := w) (by have hb0 := (HG); (repeat first | with_reducible exact hb0 | with_reducible refine G.drewN ?_ _ | with_reducible refine G.drew ?_ | with_reducible refine G.alloc ?_ _ | with_reducible refine G.set ?_ _ (Or.inr rfl) | (with_reducible refine G.set ?_ _ (Or.inl ?_); rotate_left; focus (first | omega | (simp; done) | (simp; omega))))) hgn; clear hgn) | (go_at_call 14; refine (HC.out _ (Pow10.kept (w := w) HP.out (by have hb0 := (HG); (repeat first | with_reducible exact hb0 | with_reducible refine G.drewN ?_ _ | with_reducible refine G.drew ?_ | with_reducible refine G.alloc ?_ _ | with_reducible refine G.set ?_ _ (Or.inr rfl) | (with_reducible refine G.set ?_ _ (Or.inl ?_); rotate_left; focus (first | omega | (simp; done) | (simp; omega))))))).mono ?_; rintro e wn ⟨rfl, hgn⟩; replace HG := G.trans (w := w) (by have hb0 := (HG); (repeat first | with_reducible exact hb0 | with_reducible refine G.drewN ?_ _ | with_reducible refine G.drew ?_ | with_reducible refine G.alloc ?_ _ | with_reducible refine G.set ?_ _ (Or.inr rfl) | (with_reducible refine G.set ?_ _ (Or.inl ?_); rotate_left; focus (first | omega | (simp; done) | (simp; omega))))) hgn; clear hgn))
  go_ret
  exact ⟨ret_bool rfl, (by have hb0 := (HG); (repeat first | with_reducible exact hb0 | with_reducible refine G.drewN ?_ _ | with_reducible refine G.drew ?_ | with_reducible refine G.alloc ?_ _ | with_reducible refine G.set ?_ _ (Or.inr rfl) | (with_reducible refine G.set ?_ _ (Or.inl ?_); rotate_left; focus (first | omega | (simp; done) | (simp; omega)))))⟩
theorem atV_form (s : ByteArray) (now : Int) : ∃ a b, atV s now = .tuple #[.int .i64 a, .int .i64 b] ∧ 0 ≤ b ∧ b ≤ 8 := by
  have hin : ∀ x, ∃ a b, inV x = .tuple #[.int .i64 a, .int .i64 b] ∧ 0 ≤ b ∧ b ≤ 8 := by
    intro x; unfold inV; split
    · exact ⟨_, _, rfl, by omega, by omega⟩
    · exact ⟨_, _, rfl, by omega, by omega⟩
  have hrel : ∀ o now, ∃ a b, relV o now = .tuple #[.int .i64 a, .int .i64 b] ∧ 0 ≤ b ∧ b ≤ 8 := by
    intro o now; unfold relV
    cases o with
    | none => exact ⟨_, _, rfl, by omega, by omega⟩
    | some n =>
      dsimp only
      split
      · exact ⟨_, _, rfl, by omega, by omega⟩
      · exact hin _
  have hpl : ∃ a b, plainV s = .tuple #[.int .i64 a, .int .i64 b] ∧ 0 ≤ b ∧ b ≤ 8 := by
    unfold plainV
    cases dateO s with
    | some n => exact ⟨_, _, rfl, by omega, by omega⟩
    | none =>
      dsimp only
      split
      · exact ⟨_, _, rfl, by omega, by omega⟩
      · cases wholeO s with
        | none => exact ⟨_, _, rfl, by omega, by omega⟩
        | some n => exact hin _
  unfold atV
  repeat' split
  all_goals first | exact hrel _ _ | exact hpl | exact ⟨_, _, rfl, by omega, by omega⟩
theorem wholeT_form (o : Option Int) : ∃ a b, wholeT o = .tuple #[.int .i64 a, .bool b] := by
  cases o with
  | none => exact ⟨_, _, rfl⟩
  | some n => exact ⟨_, _, rfl⟩
set_option maxHeartbeats 8000000 in
set_option maxRecDepth 100000 in
theorem spanReads_walk (s : ByteArray) (now : Int) (w : World) (_hs : s.size ≤ maxLen) (h1 : -9223372036854775808 ≤ now) (h2 : now ≤ 9223372036854775807) (hp : Pow10 w) :
    Calls Tryd.prog 3 #[.string s, .int .i64 now] w fun e w' => e = .returned (.bool true) ∧ w.grownBy w' none := by
  have hms := _hs
  unfold maxLen at hms
  have HP := Lib.hid hp; clear hp
  have HG := G.refl w none
  by_cases hl : (100 : Int) < (s.size : Int)
  · go_enter Tryd.func3, Tryd.ntmps3
    go_wp2_with fail
    go_ret
    exact ⟨ret_bool rfl, HG⟩
  have HA := Lib.hid (fun w => inter_prog s w (by omega))
  have HB := Lib.hid (fun w => inter_ref s w (by omega))
  have HC := Lib.hid (fun w => date_prog s w (by omega))
  have HD := Lib.hid (fun w => date_ref s w (by omega))
  have HE := Lib.hid (fun w => at_prog s now w (by omega) h1 h2)
  have HF := Lib.hid (fun w => at_ref s now w (by omega) h1 h2)
  have HK := Lib.hid known16_any
  obtain ⟨a, b, e1⟩ := wholeT_form (interO s)
  obtain ⟨c, d, e2⟩ := wholeT_form (dateO s)
  obtain ⟨t, x, e3, x0, x8⟩ := atV_form s now
  rw [e1] at HA HB
  rw [e2] at HC HD
  rw [e3] at HE HF
  clear e1 e2 e3
  have x9 : x ≤ 100 := by omega
  go_enter Tryd.func3, Tryd.ntmps3
  go_wp2_with (first | (go_at_call 7; refine (HA.out _).mono ?_; rintro e wn ⟨rfl, hgn⟩; replace HG := G.trans (w := w) (by have hb0 := (HG); (repeat first | with_reducible exact hb0 | with_reducible refine G.drewN ?_ _ | with_reducible refine G.drew ?_ | with_reducible refine G.alloc ?_ _ | with_reducible refine G.set ?_ _ (Or.inr rfl) | (with_reducible refine G.set ?_ _ (Or.inl ?_); rotate_left; focus (first | omega | (simp; done) | (simp; omega))))) hgn; clear hgn) | (go_at_call 8; refine (HB.out _).mono ?_; rintro e wn ⟨rfl, hgn⟩; replace HG := G.trans (w := w) (by have hb0 := (HG); (repeat first | with_reducible exact hb0 | with_reducible refine G.drewN ?_ _ | with_reducible refine G.drew ?_ | with_reducible refine G.alloc ?_ _ | with_reducible refine G.set ?_ _ (Or.inr rfl) | (with_reducible refine G.set ?_ _ (Or.inl ?_); rotate_left; focus (first | omega | (simp; done) | (simp; omega))))) hgn; clear hgn) | (go_at_call 9; refine (HC.out _).mono ?_; rintro e wn ⟨rfl, hgn⟩; replace HG := G.trans (w := w) (by have hb0 := (HG); (repeat first | with_reducible exact hb0 | with_reducible refine G.drewN ?_ _ | with_reducible refine G.drew ?_ | with_reducible refine G.alloc ?_ _ | with_reducible refine G.set ?_ _ (Or.inr rfl) | (with_reducible refine G.set ?_ _ (Or.inl ?_); rotate_left; focus (first | omega | (simp; done) | (simp; omega))))) hgn; clear hgn) | (go_at_call 10; refine (HD.out _).mono ?_; rintro e wn ⟨rfl, hgn⟩; replace HG := G.trans (w := w) (by have hb0 := (HG); (repeat first | with_reducible exact hb0 | with_reducible refine G.drewN ?_ _ | with_reducible refine G.drew ?_ | with_reducible refine G.alloc ?_ _ | with_reducible refine G.set ?_ _ (Or.inr rfl) | (with_reducible refine G.set ?_ _ (Or.inl ?_); rotate_left; focus (first | omega | (simp; done) | (simp; omega))))) hgn; clear hgn) | (go_at_call 11; refine (HE.out _).mono ?_; rintro e wn ⟨rfl, hgn⟩; replace HG := G.trans (w := w) (by have hb0 := (HG); (repeat first | with_reducible exact hb0 | with_reducible refine G.drewN ?_ _ | with_reducible refine G.drew ?_ | with_reducible refine G.alloc ?_ _ | with_reducible refine G.set ?_ _ (Or.inr rfl) | (with_reducible refine G.set ?_ _ (Or.inl ?_); rotate_left; focus (first | omega | (simp; done) | (simp; omega))))) hgn; clear hgn) | (go_at_call 12; refine (HF.out _).mono ?_; rintro e wn ⟨rfl, hgn⟩; replace HG := G.trans (w := w) (by have hb0 := (HG); (repeat first | with_reducible exact hb0 | with_reducible refine G.drewN ?_ _ | with_reducible refine G.drew ?_ | with_reducible refine G.alloc ?_ _ | with_reducible refine G.set ?_ _ (Or.inr rfl) | (with_reducible refine G.set ?_ _ (Or.inl ?_); rotate_left; focus (first | omega | (simp; done) | (simp; omega))))) hgn; clear hgn) | (go_at_call 13; refine (HK.out _ (Pow10.kept (w := w) HP.out (by have hb0 := (HG); (repeat first | with_reducible exact hb0 | with_reducible refine G.drewN ?_ _ | with_reducible refine G.drew ?_ | with_reducible refine G.alloc ?_ _ | with_reducible refine G.set ?_ _ (Or.inr rfl) | (with_reducible refine G.set ?_ _ (Or.inl ?_); rotate_left; focus (first | omega | (simp; done) | (simp; omega))))))).mono ?_; rintro e wn ⟨rfl, hgn⟩; replace HG := G.trans (w := w) (by have hb0 := (HG); (repeat first | with_reducible exact hb0 | with_reducible refine G.drewN ?_ _ | with_reducible refine G.drew ?_ | with_reducible refine G.alloc ?_ _ | with_reducible refine G.set ?_ _ (Or.inr rfl) | (with_reducible refine G.set ?_ _ (Or.inl ?_); rotate_left; focus (first | omega | (simp; done) | (simp; omega))))) hgn; clear hgn))
  go_ret
  exact ⟨ret_bool (by simp), (by have hb0 := (HG); (repeat first | with_reducible exact hb0 | with_reducible refine G.drewN ?_ _ | with_reducible refine G.drew ?_ | with_reducible refine G.alloc ?_ _ | with_reducible refine G.set ?_ _ (Or.inr rfl) | (with_reducible refine G.set ?_ _ (Or.inl ?_); rotate_left; focus (first | omega | (simp; done) | (simp; omega)))))⟩
end Go.Proofs.YtjfdaoedpdiaeaaDoor
