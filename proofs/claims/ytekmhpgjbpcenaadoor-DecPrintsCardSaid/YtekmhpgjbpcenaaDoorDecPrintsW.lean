/-
  The walk of the law on printed values.
-/
import Derived.Test.YtekmhpgjbpcenaaDoorDecBack
import Derived.Test.YtekmhpgjbpcenaaDoorDecKnown
namespace Go.Proofs.YtekmhpgjbpcenaaDoor
open Go.RowKit
theorem noneB_spell : (noneB.toList == [78, 111, 110, 101]) = true := by rw [ByteArray.toList_eq]; decide
set_option maxHeartbeats 4000000 in
theorem decPrints_walk (b : Bool) (n : Int) (w : World) (h1 : -9223372036854775808 ≤ n) (h2 : n ≤ 9223372036854775807) (hp : Pow10 w) :
    Calls Tryd.prog 4 #[.agg #[.bool b, .int .i64 n]] w fun e w' => e = .returned (.bool true) ∧ w.grownBy w' none := by
  have HP := Lib.hid hp; clear hp
  have HG := G.refl w none
  have HA := Lib.hid (fun w hp => print_any b n w h1 h2 hp)
  have HB := Lib.hid (fun w => refPrint_any b n w h1 h2)
  have hz := printV_size b n
  have HC := Lib.hid (fun w => parse_any (printV b n) w (by omega))
  have HK := Lib.hid known2_any
  have HI := Lib.hid (fun w => known1_any w b n)
  clear h1 h2
  cases hk : (b && isR b n)
  · have hv := printV_none hk
    have ho : parseO (printV b n) = none := by rw [hv, parse_none]
    unfold parseV at HC
    rw [ho] at HC
    rw [hv] at HA HB HC
    rw [hk] at HI
    simp only [valV, valC, Option.isSome_none] at HC
    have hsp := noneB_spell
    clear hz ho hv hk
    generalize noneB = S at *
    go_enter Tryd.func4, Tryd.ntmps4
    go_wp2_with (first | (go_at_call 11; refine (HA.out _ (Pow10.kept (w := w) HP.out (by have hb0 := (HG); (repeat first | with_reducible exact hb0 | with_reducible refine G.drewN ?_ _ | with_reducible refine G.drew ?_ | with_reducible refine G.alloc ?_ _ | with_reducible refine G.set ?_ _ (Or.inr rfl) | (with_reducible refine G.set ?_ _ (Or.inl ?_); rotate_left; focus (first | omega | (simp; done) | (simp; omega))))))).mono ?_; rintro e w1 ⟨rfl, hgn⟩; have hx := Hx.kept (Hx.new w #[.bool b, .int .i64 n] 23) hgn (by simp); replace HG := G.trans (w := w) (by have hb0 := (HG); (repeat first | with_reducible exact hb0 | with_reducible refine G.drewN ?_ _ | with_reducible refine G.drew ?_ | with_reducible refine G.alloc ?_ _ | with_reducible refine G.set ?_ _ (Or.inr rfl) | (with_reducible refine G.set ?_ _ (Or.inl ?_); rotate_left; focus (first | omega | (simp; done) | (simp; omega))))) hgn; clear hgn; have x0 := hx.cell 0; have x1 := hx.cell 1; have x2 := hx.lt) | (go_at_call 12; refine (HB.out _).mono ?_; rintro e w2 ⟨rfl, hgn⟩; have hx2 := Hx.kept hx hgn (by simp); replace HG := G.trans (w := w) (by have hb0 := (HG); (repeat first | with_reducible exact hb0 | with_reducible refine G.drewN ?_ _ | with_reducible refine G.drew ?_ | with_reducible refine G.alloc ?_ _ | with_reducible refine G.set ?_ _ (Or.inr rfl) | (with_reducible refine G.set ?_ _ (Or.inl ?_); rotate_left; focus (first | omega | (simp; done) | (simp; omega))))) hgn; clear hgn; have y0 := hx2.cell 0; have y1 := hx2.cell 1; have y2 := hx2.lt) | (go_at_call 8; refine (HC.out _).mono ?_; rintro e w3 ⟨rfl, hgn⟩; have hx3 := Hx.kept hx2 hgn (by simp); replace HG := G.trans (w := w) (by have hb0 := (HG); (repeat first | with_reducible exact hb0 | with_reducible refine G.drewN ?_ _ | with_reducible refine G.drew ?_ | with_reducible refine G.alloc ?_ _ | with_reducible refine G.set ?_ _ (Or.inr rfl) | (with_reducible refine G.set ?_ _ (Or.inl ?_); rotate_left; focus (first | omega | (simp; done) | (simp; omega))))) hgn; clear hgn; have z0 := hx3.cell 0; have z1 := hx3.cell 1; have z2 := hx3.lt) | (go_at_call 13; refine (HI.out _).mono ?_; rintro e wn ⟨rfl, hgn⟩; replace HG := G.trans (w := w) (by have hb0 := (HG); (repeat first | with_reducible exact hb0 | with_reducible refine G.drewN ?_ _ | with_reducible refine G.drew ?_ | with_reducible refine G.alloc ?_ _ | with_reducible refine G.set ?_ _ (Or.inr rfl) | (with_reducible refine G.set ?_ _ (Or.inl ?_); rotate_left; focus (first | omega | (simp; done) | (simp; omega))))) hgn; clear hgn) | (go_at_call 10; refine (HK.out _ (Pow10.kept (w := w) HP.out (by have hb0 := (HG); (repeat first | with_reducible exact hb0 | with_reducible refine G.drewN ?_ _ | with_reducible refine G.drew ?_ | with_reducible refine G.alloc ?_ _ | with_reducible refine G.set ?_ _ (Or.inr rfl) | (with_reducible refine G.set ?_ _ (Or.inl ?_); rotate_left; focus (first | omega | (simp; done) | (simp; omega))))))).mono ?_; rintro e wn ⟨rfl, hgn⟩; replace HG := G.trans (w := w) (by have hb0 := (HG); (repeat first | with_reducible exact hb0 | with_reducible refine G.drewN ?_ _ | with_reducible refine G.drew ?_ | with_reducible refine G.alloc ?_ _ | with_reducible refine G.set ?_ _ (Or.inr rfl) | (with_reducible refine G.set ?_ _ (Or.inl ?_); rotate_left; focus (first | omega | (simp; done) | (simp; omega))))) hgn; clear hgn))
    go_ret
    exact ⟨ret_bool rfl, (by have hb0 := (HG); (repeat first | with_reducible exact hb0 | with_reducible refine G.drewN ?_ _ | with_reducible refine G.drew ?_ | with_reducible refine G.alloc ?_ _ | with_reducible refine G.set ?_ _ (Or.inr rfl) | (with_reducible refine G.set ?_ _ (Or.inl ?_); rotate_left; focus (first | omega | (simp; done) | (simp; omega)))))⟩
  · cases b
    · cases hk
    have hr : isR true n = true := by simpa using hk
    have ho := parse_print hr
    unfold parseV at HC
    rw [ho] at HC
    rw [hk] at HI
    simp only [valV, valC, Option.isSome_some] at HC
    clear hz ho hk hr
    generalize printV true n = S at *
    go_enter Tryd.func4, Tryd.ntmps4
    go_wp2_with (first | (go_at_call 11; refine (HA.out _ (Pow10.kept (w := w) HP.out (by have hb0 := (HG); (repeat first | with_reducible exact hb0 | with_reducible refine G.drewN ?_ _ | with_reducible refine G.drew ?_ | with_reducible refine G.alloc ?_ _ | with_reducible refine G.set ?_ _ (Or.inr rfl) | (with_reducible refine G.set ?_ _ (Or.inl ?_); rotate_left; focus (first | omega | (simp; done) | (simp; omega))))))).mono ?_; rintro e w1 ⟨rfl, hgn⟩; have hx := Hx.kept (Hx.new w #[.bool true, .int .i64 n] 23) hgn (by simp); replace HG := G.trans (w := w) (by have hb0 := (HG); (repeat first | with_reducible exact hb0 | with_reducible refine G.drewN ?_ _ | with_reducible refine G.drew ?_ | with_reducible refine G.alloc ?_ _ | with_reducible refine G.set ?_ _ (Or.inr rfl) | (with_reducible refine G.set ?_ _ (Or.inl ?_); rotate_left; focus (first | omega | (simp; done) | (simp; omega))))) hgn; clear hgn; have x0 := hx.cell 0; have x1 := hx.cell 1; have x2 := hx.lt) | (go_at_call 12; refine (HB.out _).mono ?_; rintro e w2 ⟨rfl, hgn⟩; have hx2 := Hx.kept hx hgn (by simp); replace HG := G.trans (w := w) (by have hb0 := (HG); (repeat first | with_reducible exact hb0 | with_reducible refine G.drewN ?_ _ | with_reducible refine G.drew ?_ | with_reducible refine G.alloc ?_ _ | with_reducible refine G.set ?_ _ (Or.inr rfl) | (with_reducible refine G.set ?_ _ (Or.inl ?_); rotate_left; focus (first | omega | (simp; done) | (simp; omega))))) hgn; clear hgn; have y0 := hx2.cell 0; have y1 := hx2.cell 1; have y2 := hx2.lt) | (go_at_call 8; refine (HC.out _).mono ?_; rintro e w3 ⟨rfl, hgn⟩; have hx3 := Hx.kept hx2 hgn (by simp); replace HG := G.trans (w := w) (by have hb0 := (HG); (repeat first | with_reducible exact hb0 | with_reducible refine G.drewN ?_ _ | with_reducible refine G.drew ?_ | with_reducible refine G.alloc ?_ _ | with_reducible refine G.set ?_ _ (Or.inr rfl) | (with_reducible refine G.set ?_ _ (Or.inl ?_); rotate_left; focus (first | omega | (simp; done) | (simp; omega))))) hgn; clear hgn; have z0 := hx3.cell 0; have z1 := hx3.cell 1; have z2 := hx3.lt) | (go_at_call 13; refine (HI.out _).mono ?_; rintro e w4 ⟨rfl, hgn⟩; have hx4 := Hx.kept (Hx.alloc hx3 (.cells #[.bool true, .int .i64 n] 23)) hgn (by simp); have hy4 := Hx.kept (Hx.new w3 #[.bool true, .int .i64 n] 23) hgn (by simp); replace HG := G.trans (w := w) (by have hb0 := (HG); (repeat first | with_reducible exact hb0 | with_reducible refine G.drewN ?_ _ | with_reducible refine G.drew ?_ | with_reducible refine G.alloc ?_ _ | with_reducible refine G.set ?_ _ (Or.inr rfl) | (with_reducible refine G.set ?_ _ (Or.inl ?_); rotate_left; focus (first | omega | (simp; done) | (simp; omega))))) hgn; clear hgn; have u0 := hx4.cell 0; have u1 := hx4.cell 1; have u2 := hx4.lt; have v0 := hy4.cell 0; have v1 := hy4.cell 1; have v2 := hy4.lt) | (go_at_call 10; refine (HK.out _ (Pow10.kept (w := w) HP.out (by have hb0 := (HG); (repeat first | with_reducible exact hb0 | with_reducible refine G.drewN ?_ _ | with_reducible refine G.drew ?_ | with_reducible refine G.alloc ?_ _ | with_reducible refine G.set ?_ _ (Or.inr rfl) | (with_reducible refine G.set ?_ _ (Or.inl ?_); rotate_left; focus (first | omega | (simp; done) | (simp; omega))))))).mono ?_; rintro e wn ⟨rfl, hgn⟩; replace HG := G.trans (w := w) (by have hb0 := (HG); (repeat first | with_reducible exact hb0 | with_reducible refine G.drewN ?_ _ | with_reducible refine G.drew ?_ | with_reducible refine G.alloc ?_ _ | with_reducible refine G.set ?_ _ (Or.inr rfl) | (with_reducible refine G.set ?_ _ (Or.inl ?_); rotate_left; focus (first | omega | (simp; done) | (simp; omega))))) hgn; clear hgn))
    go_ret
    exact ⟨ret_bool rfl, (by have hb0 := (HG); (repeat first | with_reducible exact hb0 | with_reducible refine G.drewN ?_ _ | with_reducible refine G.drew ?_ | with_reducible refine G.alloc ?_ _ | with_reducible refine G.set ?_ _ (Or.inr rfl) | (with_reducible refine G.set ?_ _ (Or.inl ?_); rotate_left; focus (first | omega | (simp; done) | (simp; omega)))))⟩
end Go.Proofs.YtekmhpgjbpcenaaDoor
