/-
  The law's own example; and the laws on what a text says and on what a value prints as.
-/
import Derived.Test.YtekmhpgjbpcenaaDoorDecParse
import Derived.Test.YtekmhpgjbpcenaaDoorRefPrint
namespace Go.Proofs.YtekmhpgjbpcenaaDoor
open Go.RowKit
theorem known_parse : parseO ⟨#[43, 46, 53]⟩ = none := by decide
theorem known_print : printV true (-1500000) = ⟨#[45, 49, 46, 53]⟩ := by
  have e1 : Lib.decDigits 1 = [49] := by rw [Lib.decDigits, dif_pos (by omega)]; rfl
  have e2 : Lib.decDigits 15 = [49, 53] := by rw [Lib.decDigits, dif_neg (by omega), show 15 / 10 = 1 from rfl, e1]; rfl
  have e3 : Lib.decDigits 150 = [49, 53, 48] := by rw [Lib.decDigits, dif_neg (by omega), show 150 / 10 = 15 from rfl, e2]; rfl
  have e4 : Lib.decDigits 1500 = [49, 53, 48, 48] := by rw [Lib.decDigits, dif_neg (by omega), show 1500 / 10 = 150 from rfl, e3]; rfl
  have e5 : Lib.decDigits 15000 = [49, 53, 48, 48, 48] := by rw [Lib.decDigits, dif_neg (by omega), show 15000 / 10 = 1500 from rfl, e4]; rfl
  have e6 : Lib.decDigits 150000 = [49, 53, 48, 48, 48, 48] := by rw [Lib.decDigits, dif_neg (by omega), show 150000 / 10 = 15000 from rfl, e5]; rfl
  have e7 : Lib.decDigits 1500000 = [49, 53, 48, 48, 48, 48, 48] := by rw [Lib.decDigits, dif_neg (by omega), show 1500000 / 10 = 150000 from rfl, e6]; rfl
  have h : printL (-1500000) = [45, 49, 46, 53] := by
    unfold printL printA fracD
    rw [show (-1500000 : Int).natAbs = 1500000 from rfl, show 1500000 / 1000000 = 1 from rfl, show 1500000 % 1000000 = 500000 from rfl, show 1000000 + 500000 = 1500000 from rfl, e1, e7]
    decide
  rw [printV_some (by decide), h]
set_option maxHeartbeats 4000000 in
theorem known2_any (w : World) (hp : Pow10 w) : Calls Tryd.prog 10 #[] w fun e w' => e = .returned (.bool true) ∧ w.grownBy w' none := by
  have HP := Lib.hid hp; clear hp
  have HA := Lib.hid (fun w => parse_any ⟨#[43, 46, 53]⟩ w (by decide))
  have HB := Lib.hid (fun w hp => print_any true (-1500000) w (by omega) (by omega) hp)
  unfold parseV at HA
  rw [known_parse] at HA
  rw [known_print] at HB
  simp only [valV, valC, Option.isSome_none] at HA
  have HG := G.refl w none
  go_enter Tryd.func10, Tryd.ntmps10
  go_wp2_with (first | (go_at_call 8; refine (HA.out _).mono ?_; rintro e wn ⟨rfl, hgn⟩; replace HG := G.trans (w := w) (by have hb0 := (HG); (repeat first | with_reducible exact hb0 | with_reducible refine G.drewN ?_ _ | with_reducible refine G.drew ?_ | with_reducible refine G.alloc ?_ _ | with_reducible refine G.set ?_ _ (Or.inr rfl) | (with_reducible refine G.set ?_ _ (Or.inl ?_); rotate_left; focus (first | omega | (simp; done) | (simp; omega))))) hgn; clear hgn) | (go_at_call 11; refine (HB.out _ (Pow10.kept (w := w) HP.out (by have hb0 := (HG); (repeat first | with_reducible exact hb0 | with_reducible refine G.drewN ?_ _ | with_reducible refine G.drew ?_ | with_reducible refine G.alloc ?_ _ | with_reducible refine G.set ?_ _ (Or.inr rfl) | (with_reducible refine G.set ?_ _ (Or.inl ?_); rotate_left; focus (first | omega | (simp; done) | (simp; omega))))))).mono ?_; rintro e wn ⟨rfl, hgn⟩; replace HG := G.trans (w := w) (by have hb0 := (HG); (repeat first | with_reducible exact hb0 | with_reducible refine G.drewN ?_ _ | with_reducible refine G.drew ?_ | with_reducible refine G.alloc ?_ _ | with_reducible refine G.set ?_ _ (Or.inr rfl) | (with_reducible refine G.set ?_ _ (Or.inl ?_); rotate_left; focus (first | omega | (simp; done) | (simp; omega))))) hgn; clear hgn))
  go_ret
  exact ⟨ret_bool rfl, (by have hb0 := (HG); (repeat first | with_reducible exact hb0 | with_reducible refine G.drewN ?_ _ | with_reducible refine G.drew ?_ | with_reducible refine G.alloc ?_ _ | with_reducible refine G.set ?_ _ (Or.inr rfl) | (with_reducible refine G.set ?_ _ (Or.inl ?_); rotate_left; focus (first | omega | (simp; done) | (simp; omega)))))⟩
set_option maxHeartbeats 4000000 in
theorem decParses_walk (s : ByteArray) (w : World) (hs : s.size ≤ maxLen) (hp : Pow10 w) :
    Calls Tryd.prog 3 #[.string s] w fun e w' => e = .returned (.bool true) ∧ w.grownBy w' none := by
  unfold maxLen at hs
  have HP := Lib.hid hp; clear hp
  have HG := G.refl w none
  by_cases h1 : s.size ≤ 400
  · have HA := Lib.hid (fun w => parse_any s w (by omega))
    have HR := Lib.hid (fun w => refParse_any s w (by omega))
    have HK := Lib.hid known2_any
    unfold parseV at HA HR
    generalize parseO s = o at HA HR
    rcases o with _ | n
    · simp only [valV, valC, Option.isSome_none] at HA HR
      go_enter Tryd.func3, Tryd.ntmps3
      go_wp2_with (first | (go_at_call 8; refine (HA.out _).mono ?_; rintro e w1 ⟨rfl, hg1⟩; replace HG := G.trans (w := w) (by have hb0 := (HG); (repeat first | with_reducible exact hb0 | with_reducible refine G.drewN ?_ _ | with_reducible refine G.drew ?_ | with_reducible refine G.alloc ?_ _ | with_reducible refine G.set ?_ _ (Or.inr rfl) | (with_reducible refine G.set ?_ _ (Or.inl ?_); rotate_left; focus (first | omega | (simp; done) | (simp; omega))))) hg1; clear hg1) | (go_at_call 9; refine (HR.out _).mono ?_; rintro e w2 ⟨rfl, hg2⟩; have hv := Hx.kept (Hx.new w1 #[.bool false, .int .i64 0] 23) hg2 (by simp); replace HG := G.trans (w := w) (by have hb0 := (HG); (repeat first | with_reducible exact hb0 | with_reducible refine G.drewN ?_ _ | with_reducible refine G.drew ?_ | with_reducible refine G.alloc ?_ _ | with_reducible refine G.set ?_ _ (Or.inr rfl) | (with_reducible refine G.set ?_ _ (Or.inl ?_); rotate_left; focus (first | omega | (simp; done) | (simp; omega))))) hg2; clear hg2; have x0 := hv.cell 0; have x1 := hv.cell 1; have x2 := hv.lt) | (go_at_call 10; refine (HK.out _ (Pow10.kept (w := w) HP.out (by have hb0 := (HG); (repeat first | with_reducible exact hb0 | with_reducible refine G.drewN ?_ _ | with_reducible refine G.drew ?_ | with_reducible refine G.alloc ?_ _ | with_reducible refine G.set ?_ _ (Or.inr rfl) | (with_reducible refine G.set ?_ _ (Or.inl ?_); rotate_left; focus (first | omega | (simp; done) | (simp; omega))))))).mono ?_; rintro e wn ⟨rfl, hgn⟩; replace HG := G.trans (w := w) (by have hb0 := (HG); (repeat first | with_reducible exact hb0 | with_reducible refine G.drewN ?_ _ | with_reducible refine G.drew ?_ | with_reducible refine G.alloc ?_ _ | with_reducible refine G.set ?_ _ (Or.inr rfl) | (with_reducible refine G.set ?_ _ (Or.inl ?_); rotate_left; focus (first | omega | (simp; done) | (simp; omega))))) hgn; clear hgn))
      go_ret
      exact ⟨ret_bool rfl, (by have hb0 := (HG); (repeat first | with_reducible exact hb0 | with_reducible refine G.drewN ?_ _ | with_reducible refine G.drew ?_ | with_reducible refine G.alloc ?_ _ | with_reducible refine G.set ?_ _ (Or.inr rfl) | (with_reducible refine G.set ?_ _ (Or.inl ?_); rotate_left; focus (first | omega | (simp; done) | (simp; omega)))))⟩
    · simp only [valV, valC, Option.isSome_some] at HA HR
      go_enter Tryd.func3, Tryd.ntmps3
      go_wp2_with (first | (go_at_call 8; refine (HA.out _).mono ?_; rintro e w1 ⟨rfl, hg1⟩; replace HG := G.trans (w := w) (by have hb0 := (HG); (repeat first | with_reducible exact hb0 | with_reducible refine G.drewN ?_ _ | with_reducible refine G.drew ?_ | with_reducible refine G.alloc ?_ _ | with_reducible refine G.set ?_ _ (Or.inr rfl) | (with_reducible refine G.set ?_ _ (Or.inl ?_); rotate_left; focus (first | omega | (simp; done) | (simp; omega))))) hg1; clear hg1) | (go_at_call 9; refine (HR.out _).mono ?_; rintro e w2 ⟨rfl, hg2⟩; have hv := Hx.kept (Hx.new w1 #[.bool true, .int .i64 n] 23) hg2 (by simp); replace HG := G.trans (w := w) (by have hb0 := (HG); (repeat first | with_reducible exact hb0 | with_reducible refine G.drewN ?_ _ | with_reducible refine G.drew ?_ | with_reducible refine G.alloc ?_ _ | with_reducible refine G.set ?_ _ (Or.inr rfl) | (with_reducible refine G.set ?_ _ (Or.inl ?_); rotate_left; focus (first | omega | (simp; done) | (simp; omega))))) hg2; clear hg2; have x0 := hv.cell 0; have x1 := hv.cell 1; have x2 := hv.lt) | (go_at_call 10; refine (HK.out _ (Pow10.kept (w := w) HP.out (by have hb0 := (HG); (repeat first | with_reducible exact hb0 | with_reducible refine G.drewN ?_ _ | with_reducible refine G.drew ?_ | with_reducible refine G.alloc ?_ _ | with_reducible refine G.set ?_ _ (Or.inr rfl) | (with_reducible refine G.set ?_ _ (Or.inl ?_); rotate_left; focus (first | omega | (simp; done) | (simp; omega))))))).mono ?_; rintro e wn ⟨rfl, hgn⟩; replace HG := G.trans (w := w) (by have hb0 := (HG); (repeat first | with_reducible exact hb0 | with_reducible refine G.drewN ?_ _ | with_reducible refine G.drew ?_ | with_reducible refine G.alloc ?_ _ | with_reducible refine G.set ?_ _ (Or.inr rfl) | (with_reducible refine G.set ?_ _ (Or.inl ?_); rotate_left; focus (first | omega | (simp; done) | (simp; omega))))) hgn; clear hgn))
      go_ret
      exact ⟨ret_bool rfl, (by have hb0 := (HG); (repeat first | with_reducible exact hb0 | with_reducible refine G.drewN ?_ _ | with_reducible refine G.drew ?_ | with_reducible refine G.alloc ?_ _ | with_reducible refine G.set ?_ _ (Or.inr rfl) | (with_reducible refine G.set ?_ _ (Or.inl ?_); rotate_left; focus (first | omega | (simp; done) | (simp; omega)))))⟩
  · go_enter Tryd.func3, Tryd.ntmps3
    go_wp2_with fail
    go_ret
    exact ⟨ret_bool rfl, HG⟩
end Go.Proofs.YtekmhpgjbpcenaaDoor
