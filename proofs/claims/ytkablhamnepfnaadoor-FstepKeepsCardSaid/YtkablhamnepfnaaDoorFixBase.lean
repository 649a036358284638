/-
  The walks of the sums of values in millionths. Printed by genfix.py.
  The walks of the differences of values in millionths. Printed by genfix.py.
  The walks of the values without a sign, of whole ones, of what is less. Printed by genfix.py.
-/
import Derived.Test.YtkablhamnepfnaaDoorVal
import Derived.Test.YtkablhamnepfnaaDoorGrowBase
import Derived.Deep.DeepCutAuto
import Derived.Deep.RegionHeld3
import Derived.RegionTactic
import Derived.ChangeAlike
namespace Go.Proofs.YtkablhamnepfnaaDoor
open Go.RowKit
/-- the number of a value that is one, and not none -/
def vK (b : Bool) (n : Int) : Option Int := if b && isR b n then some n else none
def sumO (x y : Option Int) : Option Int := x.bind fun x => y.bind fun y => ofR (x + y)
theorem vK_some {b : Bool} {n : Int} (h : (b && isR b n) = true) : vK b n = some n ∧ b = true ∧ -4611686018427387904 ≤ n ∧ n ≤ 4611686018427387904 := by
  unfold vK
  rw [h]
  cases b
  · cases h
  · exact ⟨rfl, rfl, by simpa [isR] using h⟩
/-- a value's two cells -/
def vB (o : Option Int) : Bool := o.isSome
def vN (o : Option Int) : Int := o.getD 0
theorem valV_form (o : Option Int) : valV o = .agg #[.bool (vB o), .int .i64 (vN o)] := by cases o <;> rfl
theorem valC_form (o : Option Int) : valC o = [.bool (vB o), .int .i64 (vN o)] := by cases o <;> rfl
/-- what is none, or a number that may be -/
def Fits (o : Option Int) : Prop := ∀ n, o = some n → -4611686018427387904 ≤ n ∧ n ≤ 4611686018427387904
theorem ofR_fits (n : Int) : Fits (ofR n) := by
  intro m h
  unfold ofR at h
  split at h
  · rename_i hb; cases h; exact hb
  · cases h
theorem none_fits : Fits none := fun _ h => by cases h
theorem vK_fits (b : Bool) (n : Int) : Fits (vK b n) := by
  intro m h
  unfold vK at h
  split at h
  · rename_i hb
    cases h
    cases b
    · cases hb
    · simpa [isR] using hb
  · cases h
theorem vK_back {o : Option Int} (h : Fits o) : vK (vB o) (vN o) = o := by
  cases o with
  | none => rfl
  | some n =>
    have hb := h n rfl
    unfold vK isR vB vN
    simp only [Option.isSome_some, Option.getD_some, if_true, Bool.true_and, decide_eq_true hb.1, decide_eq_true hb.2]
theorem sumO_fits (x y : Option Int) : Fits (sumO x y) := by
  cases x with
  | none => exact none_fits
  | some x => cases y with
    | none => exact none_fits
    | some y => exact ofR_fits _
theorem vK_none {b : Bool} {n : Int} (h : (b && isR b n) = false) : vK b n = none := by unfold vK; rw [h]; rfl
theorem sumO_none_r (x : Option Int) : sumO x none = none := by cases x <;> rfl
theorem fixedKnown_any (w : World) (b : Bool) (n : Int) : Calls Tryd.prog 62 #[.agg #[.bool b, .int .i64 n]] w fun e w' => e = .returned (.bool (b && isR b n)) ∧ w.grownBy w' none := by
  cases b
  · go_enter Tryd.func62, Tryd.ntmps62
    go_wp2_with (go_at_call 15; refine (fixedIs_any _ _ _).mono ?_; rintro e w1 ⟨rfl, hg1⟩)
    go_ret
    exact ⟨ret_bool rfl, (by have hb0 := (G.refl w none); (repeat first | with_reducible exact hb0 | with_reducible refine G.drewN ?_ _ | with_reducible refine G.drew ?_ | with_reducible refine G.alloc ?_ _ | with_reducible refine G.set ?_ _ (Or.inr rfl) | (with_reducible refine G.set ?_ _ (Or.inl ?_); rotate_left; focus (first | omega | (simp; done) | (simp; omega)))))⟩
  · go_enter Tryd.func62, Tryd.ntmps62
    go_wp2_with (go_at_call 15; refine (fixedIs_any _ _ _).mono ?_; rintro e w1 ⟨rfl, hg1⟩)
    go_ret
    exact ⟨ret_bool (by simp), G.trans (by have hb0 := (G.refl w none); (repeat first | with_reducible exact hb0 | with_reducible refine G.drewN ?_ _ | with_reducible refine G.drew ?_ | with_reducible refine G.alloc ?_ _ | with_reducible refine G.set ?_ _ (Or.inr rfl) | (with_reducible refine G.set ?_ _ (Or.inl ?_); rotate_left; focus (first | omega | (simp; done) | (simp; omega))))) hg1⟩
set_option maxHeartbeats 8000000 in
theorem sum_any (w : World) (b1 b2 : Bool) (x y : Int) : Calls Tryd.prog 63 #[.agg #[.bool b1, .int .i64 x], .agg #[.bool b2, .int .i64 y]] w fun e w' => e = .returned (valV (sumO (vK b1 x) (vK b2 y))) ∧ w.grownBy w' none := by
  obtain ⟨V, hV⟩ : ∃ V, Hid (sumO (vK b1 x) (vK b2 y) = V) := ⟨_, Lib.hid rfl⟩
  rw [hV.out]
  have KA := Lib.hid (fun w => fixedKnown_any w b1 x)
  have KB := Lib.hid (fun w => fixedKnown_any w b2 y)
  have k1 := @vK_some b1 x
  have k2 := @vK_some b2 y
  have k3 := @vK_none b1 x
  have k4 := @vK_none b2 y
  generalize (b1 && isR b1 x) = ka at *
  generalize (b2 && isR b2 y) = kb at *
  have K1 := Lib.hid k1; have K2 := Lib.hid k2; have K3 := Lib.hid k3; have K4 := Lib.hid k4
  clear k1 k2 k3 k4
  go_enter Tryd.func63, Tryd.ntmps63
  go_upto_region 0 with (fail)
  go_cut [2, 3, 4] (fun p q r wc => p = .pointer (some ⟨w.heap.size, 0, none⟩) ∧ q = .pointer (some ⟨w.heap.size + 1, 0, none⟩) ∧ r = .pointer (some ⟨w.heap.size + 1 + 1, 0, none⟩) ∧ w.grownBy wc none ∧ Hx wc w.heap.size [.bool b1, .int .i64 x] 28 ∧ Hx wc (w.heap.size + 1) [.bool b2, .int .i64 y] 28 ∧ Hx wc (w.heap.size + 1 + 1) [.bool false, .int .i64 0] 28)
  case first =>
    have HG := G.refl w none
    go_wp2_with fail
    go_meet
    exact ⟨rfl, rfl, rfl, (by exact G.go HG), Hx.alloc (Hx.alloc (Hx.new _ _ _) _) _, Hx.alloc (Hx.new' (by simp) rfl) _, Hx.new' (by simp) rfl⟩
  obtain ⟨rfl, rfl, rfl, HG, ha, hb, hr⟩ := hcut
  have ha_0 := ha.cell 0; have ha_1 := ha.cell 1; have ha_2 := ha.free 0; have ha_3 := ha.free 1; have ha_4 := ha.lt
  have hb_0 := hb.cell 0; have hb_1 := hb.cell 1; have hb_2 := hb.free 0; have hb_3 := hb.free 1; have hb_4 := hb.lt
  have hr_0 := hr.cell 0; have hr_1 := hr.cell 1; have hr_2 := hr.free 0; have hr_3 := hr.free 1; have hr_4 := hr.lt
  cases ka
  · have hfin : Hid (V = none) := Lib.hid (by rw [← hV.out, K3.out rfl]; rfl)
    go_wp2_with (go_at_call_of 62 (Value.int IntKind.i64 x); (with_reducible refine (KA.out _).mono ?_); rintro e wn ⟨rfl, hgn⟩; replace HG := G.trans (w := w) (by exact G.go HG) hgn; replace ha := Hx.kept (by first | exact Hx.go ha | exact Hx.go2) hgn (by simp); have ha_0 := ha.cell 0; have ha_1 := ha.cell 1; have ha_2 := ha.free 0; have ha_3 := ha.free 1; have ha_4 := ha.lt; replace hb := Hx.kept (by first | exact Hx.go hb | exact Hx.go2) hgn (by simp); have hb_0 := hb.cell 0; have hb_1 := hb.cell 1; have hb_2 := hb.free 0; have hb_3 := hb.free 1; have hb_4 := hb.lt; replace hr := Hx.kept (by first | exact Hx.go hr | exact Hx.go2) hgn (by simp); have hr_0 := hr.cell 0; have hr_1 := hr.cell 1; have hr_2 := hr.free 0; have hr_3 := hr.free 1; have hr_4 := hr.lt; clear hgn)
    refine ret_cell (valC none) (w.heap.size + 1 + 1) 28 rfl rfl (Tryd.isAgg28 _) (Tryd.sizeOf28 _) rfl ?_ ⟨by rw [hfin.out]; rfl, (by exact G.go HG)⟩
    exact (by first | exact Hx.go hr | exact Hx.go2)
  obtain ⟨va, rfl, a1, a2⟩ := K1.out rfl
  cases kb
  · have hfin : Hid (V = none) := Lib.hid (by rw [← hV.out, K4.out rfl, sumO_none_r])
    go_wp2_with (first | (go_at_call_of 62 (Value.int IntKind.i64 x); (with_reducible refine (KA.out _).mono ?_); rintro e wn ⟨rfl, hgn⟩; replace HG := G.trans (w := w) (by exact G.go HG) hgn; replace ha := Hx.kept (by first | exact Hx.go ha | exact Hx.go2) hgn (by simp); have ha_0 := ha.cell 0; have ha_1 := ha.cell 1; have ha_2 := ha.free 0; have ha_3 := ha.free 1; have ha_4 := ha.lt; replace hb := Hx.kept (by first | exact Hx.go hb | exact Hx.go2) hgn (by simp); have hb_0 := hb.cell 0; have hb_1 := hb.cell 1; have hb_2 := hb.free 0; have hb_3 := hb.free 1; have hb_4 := hb.lt; replace hr := Hx.kept (by first | exact Hx.go hr | exact Hx.go2) hgn (by simp); have hr_0 := hr.cell 0; have hr_1 := hr.cell 1; have hr_2 := hr.free 0; have hr_3 := hr.free 1; have hr_4 := hr.lt; clear hgn) | (go_at_call_of 62 (Value.int IntKind.i64 y); (with_reducible refine (KB.out _).mono ?_); rintro e wn ⟨rfl, hgn⟩; replace HG := G.trans (w := w) (by exact G.go HG) hgn; replace ha := Hx.kept (by first | exact Hx.go ha | exact Hx.go2) hgn (by simp); have ha_0 := ha.cell 0; have ha_1 := ha.cell 1; have ha_2 := ha.free 0; have ha_3 := ha.free 1; have ha_4 := ha.lt; replace hb := Hx.kept (by first | exact Hx.go hb | exact Hx.go2) hgn (by simp); have hb_0 := hb.cell 0; have hb_1 := hb.cell 1; have hb_2 := hb.free 0; have hb_3 := hb.free 1; have hb_4 := hb.lt; replace hr := Hx.kept (by first | exact Hx.go hr | exact Hx.go2) hgn (by simp); have hr_0 := hr.cell 0; have hr_1 := hr.cell 1; have hr_2 := hr.free 0; have hr_3 := hr.free 1; have hr_4 := hr.lt; clear hgn))
    refine ret_cell (valC none) (w.heap.size + 1 + 1) 28 rfl rfl (Tryd.isAgg28 _) (Tryd.sizeOf28 _) rfl ?_ ⟨by rw [hfin.out]; rfl, (by exact G.go HG)⟩
    exact (by first | exact Hx.go hr | exact Hx.go2)
  obtain ⟨vb, rfl, c1, c2⟩ := K2.out rfl
  have hV2 : Hid (V = ofR (x + y)) := Lib.hid (by rw [← hV.out, va, vb]; rfl)
  have HO := Lib.hid (fun w => fixedOf_any w (x + y))
  clear K1 K2 K3 K4 va vb hV
  by_cases h1 : 0 < y
  · have hny : ¬ y < 0 := by omega
    by_cases h2 : 4611686018427387904 - y < x
    · have hfin : Hid (V = none) := Lib.hid (by rw [hV2.out]; unfold ofR; rw [if_neg (by omega)])
      go_wp2_with (first | (go_at_call_of 62 (Value.int IntKind.i64 x); (with_reducible refine (KA.out _).mono ?_); rintro e wn ⟨rfl, hgn⟩; replace HG := G.trans (w := w) (by exact G.go HG) hgn; replace ha := Hx.kept (by first | exact Hx.go ha | exact Hx.go2) hgn (by simp); have ha_0 := ha.cell 0; have ha_1 := ha.cell 1; have ha_2 := ha.free 0; have ha_3 := ha.free 1; have ha_4 := ha.lt; replace hb := Hx.kept (by first | exact Hx.go hb | exact Hx.go2) hgn (by simp); have hb_0 := hb.cell 0; have hb_1 := hb.cell 1; have hb_2 := hb.free 0; have hb_3 := hb.free 1; have hb_4 := hb.lt; replace hr := Hx.kept (by first | exact Hx.go hr | exact Hx.go2) hgn (by simp); have hr_0 := hr.cell 0; have hr_1 := hr.cell 1; have hr_2 := hr.free 0; have hr_3 := hr.free 1; have hr_4 := hr.lt; clear hgn) | (go_at_call_of 62 (Value.int IntKind.i64 y); (with_reducible refine (KB.out _).mono ?_); rintro e wn ⟨rfl, hgn⟩; replace HG := G.trans (w := w) (by exact G.go HG) hgn; replace ha := Hx.kept (by first | exact Hx.go ha | exact Hx.go2) hgn (by simp); have ha_0 := ha.cell 0; have ha_1 := ha.cell 1; have ha_2 := ha.free 0; have ha_3 := ha.free 1; have ha_4 := ha.lt; replace hb := Hx.kept (by first | exact Hx.go hb | exact Hx.go2) hgn (by simp); have hb_0 := hb.cell 0; have hb_1 := hb.cell 1; have hb_2 := hb.free 0; have hb_3 := hb.free 1; have hb_4 := hb.lt; replace hr := Hx.kept (by first | exact Hx.go hr | exact Hx.go2) hgn (by simp); have hr_0 := hr.cell 0; have hr_1 := hr.cell 1; have hr_2 := hr.free 0; have hr_3 := hr.free 1; have hr_4 := hr.lt; clear hgn))
      refine ret_cell (valC none) (w.heap.size + 1 + 1) 28 rfl rfl (Tryd.isAgg28 _) (Tryd.sizeOf28 _) rfl ?_ ⟨by rw [hfin.out]; rfl, (by exact G.go HG)⟩
      exact (by first | exact Hx.go hr | exact Hx.go2)
    · have hq : ofR (x + y) = some (x + y) := by unfold ofR; rw [if_pos (by omega)]
      have hfin : Hid (V = some (x + y)) := Lib.hid (by rw [hV2.out, hq])
      rw [hq] at HO
      simp only [valV, valC] at HO
      clear hq
      go_wp2_with (first | (go_at_call_of 62 (Value.int IntKind.i64 x); (with_reducible refine (KA.out _).mono ?_); rintro e wn ⟨rfl, hgn⟩; replace HG := G.trans (w := w) (by exact G.go HG) hgn; replace ha := Hx.kept (by first | exact Hx.go ha | exact Hx.go2) hgn (by simp); have ha_0 := ha.cell 0; have ha_1 := ha.cell 1; have ha_2 := ha.free 0; have ha_3 := ha.free 1; have ha_4 := ha.lt; replace hb := Hx.kept (by first | exact Hx.go hb | exact Hx.go2) hgn (by simp); have hb_0 := hb.cell 0; have hb_1 := hb.cell 1; have hb_2 := hb.free 0; have hb_3 := hb.free 1; have hb_4 := hb.lt; replace hr := Hx.kept (by first | exact Hx.go hr | exact Hx.go2) hgn (by simp); have hr_0 := hr.cell 0; have hr_1 := hr.cell 1; have hr_2 := hr.free 0; have hr_3 := hr.free 1; have hr_4 := hr.lt; clear hgn) | (go_at_call_of 62 (Value.int IntKind.i64 y); (with_reducible refine (KB.out _).mono ?_); rintro e wn ⟨rfl, hgn⟩; replace HG := G.trans (w := w) (by exact G.go HG) hgn; replace ha := Hx.kept (by first | exact Hx.go ha | exact Hx.go2) hgn (by simp); have ha_0 := ha.cell 0; have ha_1 := ha.cell 1; have ha_2 := ha.free 0; have ha_3 := ha.free 1; have ha_4 := ha.lt; replace hb := Hx.kept (by first | exact Hx.go hb | exact Hx.go2) hgn (by simp); have hb_0 := hb.cell 0; have hb_1 := hb.cell 1; have hb_2 := hb.free 0; have hb_3 := hb.free 1; have hb_4 := hb.lt; replace hr := Hx.kept (by first | exact Hx.go hr | exact Hx.go2) hgn (by simp); have hr_0 := hr.cell 0; have hr_1 := hr.cell 1; have hr_2 := hr.free 0; have hr_3 := hr.free 1; have hr_4 := hr.lt; clear hgn) | (go_at_call 37; (with_reducible refine (HO.out _).mono ?_); rintro e wn ⟨rfl, hgn⟩; replace HG := G.trans (w := w) (by exact G.go HG) hgn; replace ha := Hx.kept (by first | exact Hx.go ha | exact Hx.go2) hgn (by simp); have ha_0 := ha.cell 0; have ha_1 := ha.cell 1; have ha_2 := ha.free 0; have ha_3 := ha.free 1; have ha_4 := ha.lt; replace hb := Hx.kept (by first | exact Hx.go hb | exact Hx.go2) hgn (by simp); have hb_0 := hb.cell 0; have hb_1 := hb.cell 1; have hb_2 := hb.free 0; have hb_3 := hb.free 1; have hb_4 := hb.lt; replace hr := Hx.kept (by first | exact Hx.go hr | exact Hx.go2) hgn (by simp); have hr_0 := hr.cell 0; have hr_1 := hr.cell 1; have hr_2 := hr.free 0; have hr_3 := hr.free 1; have hr_4 := hr.lt; clear hgn))
      refine ret_cell (valC (some (x + y))) (w.heap.size + 1 + 1) 28 rfl rfl (Tryd.isAgg28 _) (Tryd.sizeOf28 _) rfl ?_ ⟨by rw [hfin.out]; rfl, (by exact G.go HG)⟩
      exact (by first | exact Hx.go hr | exact Hx.go2)
  by_cases h3 : y < 0
  · by_cases h4 : x < -4611686018427387904 - y
    · have hfin : Hid (V = none) := Lib.hid (by rw [hV2.out]; unfold ofR; rw [if_neg (by omega)])
      go_wp2_with (first | (go_at_call_of 62 (Value.int IntKind.i64 x); (with_reducible refine (KA.out _).mono ?_); rintro e wn ⟨rfl, hgn⟩; replace HG := G.trans (w := w) (by exact G.go HG) hgn; replace ha := Hx.kept (by first | exact Hx.go ha | exact Hx.go2) hgn (by simp); have ha_0 := ha.cell 0; have ha_1 := ha.cell 1; have ha_2 := ha.free 0; have ha_3 := ha.free 1; have ha_4 := ha.lt; replace hb := Hx.kept (by first | exact Hx.go hb | exact Hx.go2) hgn (by simp); have hb_0 := hb.cell 0; have hb_1 := hb.cell 1; have hb_2 := hb.free 0; have hb_3 := hb.free 1; have hb_4 := hb.lt; replace hr := Hx.kept (by first | exact Hx.go hr | exact Hx.go2) hgn (by simp); have hr_0 := hr.cell 0; have hr_1 := hr.cell 1; have hr_2 := hr.free 0; have hr_3 := hr.free 1; have hr_4 := hr.lt; clear hgn) | (go_at_call_of 62 (Value.int IntKind.i64 y); (with_reducible refine (KB.out _).mono ?_); rintro e wn ⟨rfl, hgn⟩; replace HG := G.trans (w := w) (by exact G.go HG) hgn; replace ha := Hx.kept (by first | exact Hx.go ha | exact Hx.go2) hgn (by simp); have ha_0 := ha.cell 0; have ha_1 := ha.cell 1; have ha_2 := ha.free 0; have ha_3 := ha.free 1; have ha_4 := ha.lt; replace hb := Hx.kept (by first | exact Hx.go hb | exact Hx.go2) hgn (by simp); have hb_0 := hb.cell 0; have hb_1 := hb.cell 1; have hb_2 := hb.free 0; have hb_3 := hb.free 1; have hb_4 := hb.lt; replace hr := Hx.kept (by first | exact Hx.go hr | exact Hx.go2) hgn (by simp); have hr_0 := hr.cell 0; have hr_1 := hr.cell 1; have hr_2 := hr.free 0; have hr_3 := hr.free 1; have hr_4 := hr.lt; clear hgn))
      refine ret_cell (valC none) (w.heap.size + 1 + 1) 28 rfl rfl (Tryd.isAgg28 _) (Tryd.sizeOf28 _) rfl ?_ ⟨by rw [hfin.out]; rfl, (by exact G.go HG)⟩
      exact (by first | exact Hx.go hr | exact Hx.go2)
    · have hq : ofR (x + y) = some (x + y) := by unfold ofR; rw [if_pos (by omega)]
      have hfin : Hid (V = some (x + y)) := Lib.hid (by rw [hV2.out, hq])
      rw [hq] at HO
      simp only [valV, valC] at HO
      clear hq
      go_wp2_with (first | (go_at_call_of 62 (Value.int IntKind.i64 x); (with_reducible refine (KA.out _).mono ?_); rintro e wn ⟨rfl, hgn⟩; replace HG := G.trans (w := w) (by exact G.go HG) hgn; replace ha := Hx.kept (by first | exact Hx.go ha | exact Hx.go2) hgn (by simp); have ha_0 := ha.cell 0; have ha_1 := ha.cell 1; have ha_2 := ha.free 0; have ha_3 := ha.free 1; have ha_4 := ha.lt; replace hb := Hx.kept (by first | exact Hx.go hb | exact Hx.go2) hgn (by simp); have hb_0 := hb.cell 0; have hb_1 := hb.cell 1; have hb_2 := hb.free 0; have hb_3 := hb.free 1; have hb_4 := hb.lt; replace hr := Hx.kept (by first | exact Hx.go hr | exact Hx.go2) hgn (by simp); have hr_0 := hr.cell 0; have hr_1 := hr.cell 1; have hr_2 := hr.free 0; have hr_3 := hr.free 1; have hr_4 := hr.lt; clear hgn) | (go_at_call_of 62 (Value.int IntKind.i64 y); (with_reducible refine (KB.out _).mono ?_); rintro e wn ⟨rfl, hgn⟩; replace HG := G.trans (w := w) (by exact G.go HG) hgn; replace ha := Hx.kept (by first | exact Hx.go ha | exact Hx.go2) hgn (by simp); have ha_0 := ha.cell 0; have ha_1 := ha.cell 1; have ha_2 := ha.free 0; have ha_3 := ha.free 1; have ha_4 := ha.lt; replace hb := Hx.kept (by first | exact Hx.go hb | exact Hx.go2) hgn (by simp); have hb_0 := hb.cell 0; have hb_1 := hb.cell 1; have hb_2 := hb.free 0; have hb_3 := hb.free 1; have hb_4 := hb.lt; replace hr := Hx.kept (by first | exact Hx.go hr | exact Hx.go2) hgn (by simp); have hr_0 := hr.cell 0; have hr_1 := hr.cell 1; have hr_2 := hr.free 0; have hr_3 := hr.free 1; have hr_4 := hr.lt; clear hgn) | (go_at_call 37; (with_reducible refine (HO.out _).mono ?_); rintro e wn ⟨rfl, hgn⟩; replace HG := G.trans (w := w) (by exact G.go HG) hgn; replace ha := Hx.kept (by first | exact Hx.go ha | exact Hx.go2) hgn (by simp); have ha_0 := ha.cell 0; have ha_1 := ha.cell 1; have ha_2 := ha.free 0; have ha_3 := ha.free 1; have ha_4 := ha.lt; replace hb := Hx.kept (by first | exact Hx.go hb | exact Hx.go2) hgn (by simp); have hb_0 := hb.cell 0; have hb_1 := hb.cell 1; have hb_2 := hb.free 0; have hb_3 := hb.free 1; have hb_4 := hb.lt; replace hr := Hx.kept (by first | exact Hx.go hr | exact Hx.go2) hgn (by simp); have hr_0 := hr.cell 0; have hr_1 := hr.cell 1; have hr_2 := hr.free 0; have hr_3 := hr.free 1; have hr_4 := hr.lt; clear hgn))
      refine ret_cell (valC (some (x + y))) (w.heap.size + 1 + 1) 28 rfl rfl (Tryd.isAgg28 _) (Tryd.sizeOf28 _) rfl ?_ ⟨by rw [hfin.out]; rfl, (by exact G.go HG)⟩
      exact (by first | exact Hx.go hr | exact Hx.go2)
  have hq : ofR (x + y) = some (x + y) := by unfold ofR; rw [if_pos (by omega)]
  have hfin : Hid (V = some (x + y)) := Lib.hid (by rw [hV2.out, hq])
  rw [hq] at HO
  simp only [valV, valC] at HO
  clear hq
  go_wp2_with (first | (go_at_call_of 62 (Value.int IntKind.i64 x); (with_reducible refine (KA.out _).mono ?_); rintro e wn ⟨rfl, hgn⟩; replace HG := G.trans (w := w) (by exact G.go HG) hgn; replace ha := Hx.kept (by first | exact Hx.go ha | exact Hx.go2) hgn (by simp); have ha_0 := ha.cell 0; have ha_1 := ha.cell 1; have ha_2 := ha.free 0; have ha_3 := ha.free 1; have ha_4 := ha.lt; replace hb := Hx.kept (by first | exact Hx.go hb | exact Hx.go2) hgn (by simp); have hb_0 := hb.cell 0; have hb_1 := hb.cell 1; have hb_2 := hb.free 0; have hb_3 := hb.free 1; have hb_4 := hb.lt; replace hr := Hx.kept (by first | exact Hx.go hr | exact Hx.go2) hgn (by simp); have hr_0 := hr.cell 0; have hr_1 := hr.cell 1; have hr_2 := hr.free 0; have hr_3 := hr.free 1; have hr_4 := hr.lt; clear hgn) | (go_at_call_of 62 (Value.int IntKind.i64 y); (with_reducible refine (KB.out _).mono ?_); rintro e wn ⟨rfl, hgn⟩; replace HG := G.trans (w := w) (by exact G.go HG) hgn; replace ha := Hx.kept (by first | exact Hx.go ha | exact Hx.go2) hgn (by simp); have ha_0 := ha.cell 0; have ha_1 := ha.cell 1; have ha_2 := ha.free 0; have ha_3 := ha.free 1; have ha_4 := ha.lt; replace hb := Hx.kept (by first | exact Hx.go hb | exact Hx.go2) hgn (by simp); have hb_0 := hb.cell 0; have hb_1 := hb.cell 1; have hb_2 := hb.free 0; have hb_3 := hb.free 1; have hb_4 := hb.lt; replace hr := Hx.kept (by first | exact Hx.go hr | exact Hx.go2) hgn (by simp); have hr_0 := hr.cell 0; have hr_1 := hr.cell 1; have hr_2 := hr.free 0; have hr_3 := hr.free 1; have hr_4 := hr.lt; clear hgn) | (go_at_call 37; (with_reducible refine (HO.out _).mono ?_); rintro e wn ⟨rfl, hgn⟩; replace HG := G.trans (w := w) (by exact G.go HG) hgn; replace ha := Hx.kept (by first | exact Hx.go ha | exact Hx.go2) hgn (by simp); have ha_0 := ha.cell 0; have ha_1 := ha.cell 1; have ha_2 := ha.free 0; have ha_3 := ha.free 1; have ha_4 := ha.lt; replace hb := Hx.kept (by first | exact Hx.go hb | exact Hx.go2) hgn (by simp); have hb_0 := hb.cell 0; have hb_1 := hb.cell 1; have hb_2 := hb.free 0; have hb_3 := hb.free 1; have hb_4 := hb.lt; replace hr := Hx.kept (by first | exact Hx.go hr | exact Hx.go2) hgn (by simp); have hr_0 := hr.cell 0; have hr_1 := hr.cell 1; have hr_2 := hr.free 0; have hr_3 := hr.free 1; have hr_4 := hr.lt; clear hgn))
  refine ret_cell (valC (some (x + y))) (w.heap.size + 1 + 1) 28 rfl rfl (Tryd.isAgg28 _) (Tryd.sizeOf28 _) rfl ?_ ⟨by rw [hfin.out]; rfl, (by exact G.go HG)⟩
  exact (by first | exact Hx.go hr | exact Hx.go2)
set_option maxHeartbeats 4000000 in
theorem two1_any (w : World) (b1 b2 : Bool) (x y : Int) : Calls Tryd.prog 18 #[.agg #[.bool b1, .int .i64 x], .agg #[.bool b2, .int .i64 y]] w fun e w' => e = .returned (.bool ((b1 && isR b1 x) && (b2 && isR b2 y))) ∧ w.grownBy w' none := by
  have KA := Lib.hid (fun w => known1_any w b1 x)
  have KB := Lib.hid (fun w => known1_any w b2 y)
  generalize (b1 && isR b1 x) = ka at *
  generalize (b2 && isR b2 y) = kb at *
  go_enter Tryd.func18, Tryd.ntmps18
  go_upto_region 0 with (fail)
  go_cut [2, 3, 4] (fun p q r wc => p = .pointer (some ⟨w.heap.size, 0, none⟩) ∧ q = .pointer (some ⟨w.heap.size + 1, 0, none⟩) ∧ r = .bool false ∧ w.grownBy wc none ∧ Hx wc w.heap.size [.bool b1, .int .i64 x] 28 ∧ Hx wc (w.heap.size + 1) [.bool b2, .int .i64 y] 28)
  case first =>
    have HG := G.refl w none
    go_wp2_with fail
    go_meet
    exact ⟨rfl, rfl, rfl, (by exact G.go HG), Hx.alloc (Hx.new _ _ _) _, Hx.new' (by simp) rfl⟩
  obtain ⟨rfl, rfl, rfl, HG, ha, hb⟩ := hcut
  have ha_0 := ha.cell 0; have ha_1 := ha.cell 1; have ha_2 := ha.free 0; have ha_3 := ha.free 1; have ha_4 := ha.lt
  have hb_0 := hb.cell 0; have hb_1 := hb.cell 1; have hb_2 := hb.free 0; have hb_3 := hb.free 1; have hb_4 := hb.lt
  cases ka
  · go_wp2_with (go_at_call_of 32 (Value.int IntKind.i64 x); (with_reducible refine (KA.out _).mono ?_); rintro e wn ⟨rfl, hgn⟩; replace HG := G.trans (w := w) (by exact G.go HG) hgn; replace ha := Hx.kept (by first | exact Hx.go ha | exact Hx.go2) hgn (by simp); have ha_0 := ha.cell 0; have ha_1 := ha.cell 1; have ha_2 := ha.free 0; have ha_3 := ha.free 1; have ha_4 := ha.lt; replace hb := Hx.kept (by first | exact Hx.go hb | exact Hx.go2) hgn (by simp); have hb_0 := hb.cell 0; have hb_1 := hb.cell 1; have hb_2 := hb.free 0; have hb_3 := hb.free 1; have hb_4 := hb.lt; clear hgn)
    go_ret
    exact ⟨ret_bool rfl, (by exact G.go HG)⟩
  · go_wp2_with (first | (go_at_call_of 32 (Value.int IntKind.i64 x); (with_reducible refine (KA.out _).mono ?_); rintro e wn ⟨rfl, hgn⟩; replace HG := G.trans (w := w) (by exact G.go HG) hgn; replace ha := Hx.kept (by first | exact Hx.go ha | exact Hx.go2) hgn (by simp); have ha_0 := ha.cell 0; have ha_1 := ha.cell 1; have ha_2 := ha.free 0; have ha_3 := ha.free 1; have ha_4 := ha.lt; replace hb := Hx.kept (by first | exact Hx.go hb | exact Hx.go2) hgn (by simp); have hb_0 := hb.cell 0; have hb_1 := hb.cell 1; have hb_2 := hb.free 0; have hb_3 := hb.free 1; have hb_4 := hb.lt; clear hgn) | (go_at_call_of 32 (Value.int IntKind.i64 y); (with_reducible refine (KB.out _).mono ?_); rintro e wn ⟨rfl, hgn⟩; replace HG := G.trans (w := w) (by exact G.go HG) hgn; replace ha := Hx.kept (by first | exact Hx.go ha | exact Hx.go2) hgn (by simp); have ha_0 := ha.cell 0; have ha_1 := ha.cell 1; have ha_2 := ha.free 0; have ha_3 := ha.free 1; have ha_4 := ha.lt; replace hb := Hx.kept (by first | exact Hx.go hb | exact Hx.go2) hgn (by simp); have hb_0 := hb.cell 0; have hb_1 := hb.cell 1; have hb_2 := hb.free 0; have hb_3 := hb.free 1; have hb_4 := hb.lt; clear hgn))
    go_ret
    exact ⟨ret_bool (by simp), (by exact G.go HG)⟩
end Go.Proofs.YtkablhamnepfnaaDoor
namespace Go.Proofs.YtkablhamnepfnaaDoor
open Go.RowKit
def subO (x y : Option Int) : Option Int := x.bind fun x => y.bind fun y => ofR (x - y)
theorem vK_of {n : Int} (h : -4611686018427387904 ≤ n ∧ n ≤ 4611686018427387904) : vK true n = some n := by
  unfold vK isR
  simp only [if_true, Bool.true_and, decide_eq_true h.1, decide_eq_true h.2]
theorem subO_some (x : Option Int) (y : Int) : sumO x (some (-y)) = subO x (some y) := by
  unfold sumO subO
  cases x with
  | none => rfl
  | some x => show ofR (x + -y) = ofR (x - y); rw [Int.sub_eq_add_neg]
theorem subO_none_r (x : Option Int) : subO x none = none := by cases x <;> rfl
theorem subO_fits (x y : Option Int) : Fits (subO x y) := by
  cases x with
  | none => exact none_fits
  | some x => cases y with
    | none => exact none_fits
    | some y => exact ofR_fits _
set_option maxHeartbeats 8000000 in
theorem sub_any (w : World) (b1 b2 : Bool) (x y : Int) : Calls Tryd.prog 42 #[.agg #[.bool b1, .int .i64 x], .agg #[.bool b2, .int .i64 y]] w fun e w' => e = .returned (valV (subO (vK b1 x) (vK b2 y))) ∧ w.grownBy w' none := by
  obtain ⟨V, hV⟩ : ∃ V, Hid (subO (vK b1 x) (vK b2 y) = V) := ⟨_, Lib.hid rfl⟩
  rw [hV.out]
  have KA := Lib.hid (fun w => fixedKnown_any w b1 x)
  have KB := Lib.hid (fun w => fixedKnown_any w b2 y)
  have k1 := @vK_some b1 x
  have k2 := @vK_some b2 y
  have k3 := @vK_none b1 x
  have k4 := @vK_none b2 y
  generalize (b1 && isR b1 x) = ka at *
  generalize (b2 && isR b2 y) = kb at *
  have K1 := Lib.hid k1; have K2 := Lib.hid k2; have K3 := Lib.hid k3; have K4 := Lib.hid k4
  clear k1 k2 k3 k4
  go_enter Tryd.func42, Tryd.ntmps42
  go_upto_region 0 with (fail)
  go_cut [2, 3, 4] (fun p q r wc => p = .pointer (some ⟨w.heap.size, 0, none⟩) ∧ q = .pointer (some ⟨w.heap.size + 1, 0, none⟩) ∧ r = .pointer (some ⟨w.heap.size + 1 + 1, 0, none⟩) ∧ w.grownBy wc none ∧ Hx wc w.heap.size [.bool b1, .int .i64 x] 28 ∧ Hx wc (w.heap.size + 1) [.bool b2, .int .i64 y] 28 ∧ Hx wc (w.heap.size + 1 + 1) [.bool false, .int .i64 0] 28)
  case first =>
    have HG := G.refl w none
    go_wp2_with fail
    go_meet
    exact ⟨rfl, rfl, rfl, (by exact G.go HG), Hx.alloc (Hx.alloc (Hx.new _ _ _) _) _, Hx.alloc (Hx.new' (by simp) rfl) _, Hx.new' (by simp) rfl⟩
  obtain ⟨rfl, rfl, rfl, HG, ha, hb, hr⟩ := hcut
  have ha_0 := ha.cell 0; have ha_1 := ha.cell 1; have ha_2 := ha.free 0; have ha_3 := ha.free 1; have ha_4 := ha.lt
  have hb_0 := hb.cell 0; have hb_1 := hb.cell 1; have hb_2 := hb.free 0; have hb_3 := hb.free 1; have hb_4 := hb.lt
  have hr_0 := hr.cell 0; have hr_1 := hr.cell 1; have hr_2 := hr.free 0; have hr_3 := hr.free 1; have hr_4 := hr.lt
  cases kb
  · have hfin : Hid (V = none) := Lib.hid (by rw [← hV.out, K4.out rfl, subO_none_r])
    go_wp2_with (go_at_call 62; (with_reducible refine (KB.out _).mono ?_); rintro e wn ⟨rfl, hgn⟩; replace HG := G.trans (w := w) (by exact G.go HG) hgn; replace ha := Hx.kept (by first | exact Hx.go ha | exact Hx.go2) hgn (by simp); have ha_0 := ha.cell 0; have ha_1 := ha.cell 1; have ha_2 := ha.free 0; have ha_3 := ha.free 1; have ha_4 := ha.lt; replace hb := Hx.kept (by first | exact Hx.go hb | exact Hx.go2) hgn (by simp); have hb_0 := hb.cell 0; have hb_1 := hb.cell 1; have hb_2 := hb.free 0; have hb_3 := hb.free 1; have hb_4 := hb.lt; replace hr := Hx.kept (by first | exact Hx.go hr | exact Hx.go2) hgn (by simp); have hr_0 := hr.cell 0; have hr_1 := hr.cell 1; have hr_2 := hr.free 0; have hr_3 := hr.free 1; have hr_4 := hr.lt; clear hgn)
    refine ret_cell (valC none) (w.heap.size + 1 + 1) 28 rfl rfl (Tryd.isAgg28 _) (Tryd.sizeOf28 _) rfl ?_ ⟨by rw [hfin.out]; rfl, (by exact G.go HG)⟩
    exact (by first | exact Hx.go hr | exact Hx.go2)
  obtain ⟨vb, rfl, c1, c2⟩ := K2.out rfl
  have hO : ofR (-y) = some (-y) := by unfold ofR; rw [if_pos (by omega)]
  have HO := Lib.hid (fun w => fixedOf_any w (-y))
  rw [hO] at HO
  have HS := Lib.hid (fun w => sum_any w b1 true x (-y))
  rw [vK_of (by omega), subO_some, ← vb, hV.out, valV_form] at HS
  simp only [valV, valC] at HO
  have hwr : IntKind.i64.wrap (-y) = -y := by rw [IntKind.wrap_i64]; omega
  clear hO K1 K2 K3 K4 vb hV KA
  go_upto_region 3 with ((go_at_call 62; (with_reducible refine (KB.out _).mono ?_); rintro e wn ⟨rfl, hgn⟩; replace HG := G.trans (w := w) (by exact G.go HG) hgn; replace ha := Hx.kept (by first | exact Hx.go ha | exact Hx.go2) hgn (by simp); have ha_0 := ha.cell 0; have ha_1 := ha.cell 1; have ha_2 := ha.free 0; have ha_3 := ha.free 1; have ha_4 := ha.lt; replace hb := Hx.kept (by first | exact Hx.go hb | exact Hx.go2) hgn (by simp); have hb_0 := hb.cell 0; have hb_1 := hb.cell 1; have hb_2 := hb.free 0; have hb_3 := hb.free 1; have hb_4 := hb.lt; replace hr := Hx.kept (by first | exact Hx.go hr | exact Hx.go2) hgn (by simp); have hr_0 := hr.cell 0; have hr_1 := hr.cell 1; have hr_2 := hr.free 0; have hr_3 := hr.free 1; have hr_4 := hr.lt; clear hgn))
  (have ha_q0 := fun x => (Hx.inG ha x).cell 0; have ha_q1 := fun x => (Hx.inG ha x).cell 1; have hb_q0 := fun x => (Hx.inG hb x).cell 0; have hb_q1 := fun x => (Hx.inG hb x).cell 1; have hr_q0 := fun x => (Hx.inG hr x).cell 0; have hr_q1 := fun x => (Hx.inG hr x).cell 1; have xq_ := HG; refine wp_region_last (G.refl _ none) (by kernel_rfl) (by kernel_rfl) (by kernel_rfl) ?_; simp only [mapLast, lastOf, idle]; (repeat (refine wpQuiet_step (fun K hK => ?_); go_simp; first | (refine hK _ ?_; clear hK K) | (apply Exists.intro; refine ⟨fun xq => ?_, hK _ ?_⟩; (focus (first | (go_at_call 37; with_reducible exact grow_of (HO.out _)) | (go_at_call 63; with_reducible exact grow_of (HS.out _)))); clear hK K))); refine wpQuiet_nil ?_; intro wn hgn; replace HG := G.trans (w := w) HG hgn; clear ha_q0 ha_q1; replace ha := Hx.kept ha hgn (by simp); have ha_0 := ha.cell 0; have ha_1 := ha.cell 1; have ha_2 := ha.free 0; have ha_3 := ha.free 1; have ha_4 := ha.lt; clear hb_q0 hb_q1; replace hb := Hx.kept hb hgn (by simp); have hb_0 := hb.cell 0; have hb_1 := hb.cell 1; have hb_2 := hb.free 0; have hb_3 := hb.free 1; have hb_4 := hb.lt; clear hr_q0 hr_q1; replace hr := Hx.kept hr hgn (by simp); have hr_0 := hr.cell 0; have hr_1 := hr.cell 1; have hr_2 := hr.free 0; have hr_3 := hr.free 1; have hr_4 := hr.lt; clear hgn xq_)
  go_wp2_with fail
  refine ret_cell [.bool (vB V), .int .i64 (vN V)] (w.heap.size + 1 + 1) 28 rfl rfl (Tryd.isAgg28 _) (Tryd.sizeOf28 _) rfl ?_ ⟨by rw [valV_form], (by exact G.go HG)⟩
  exact (by first | exact Hx.go hr | exact Hx.go2)
end Go.Proofs.YtkablhamnepfnaaDoor
namespace Go.Proofs.YtkablhamnepfnaaDoor
open Go.RowKit
def absO (x : Option Int) : Option Int := x.map fun x => max x (-x)
def intO (n : Int) : Option Int := if -4611686018427 ≤ n ∧ n ≤ 4611686018427 then some (n * 1000000) else none
def ltO (x y : Option Int) : Bool := match x, y with | some x, some y => decide (x < y) | _, _ => false
theorem absO_fits {x : Option Int} (h : Fits x) : Fits (absO x) := by
  cases x with
  | none => exact none_fits
  | some x =>
    have hb := h x rfl
    intro m hm
    unfold absO at hm
    have hm : max x (-x) = m := Option.some.inj hm
    omega
theorem intO_fits (n : Int) : Fits (intO n) := by
  intro m h
  unfold intO at h
  split at h
  · have h := Option.some.inj h
    omega
  · cases h
set_option maxHeartbeats 4000000 in
theorem int_any (w : World) (n : Int) : Calls Tryd.prog 36 #[.int .i64 n] w fun e w' => e = .returned (valV (intO n)) ∧ w.grownBy w' none := by
  obtain ⟨V, hV⟩ : ∃ V, Hid (intO n = V) := ⟨_, Lib.hid rfl⟩
  rw [hV.out]
  have HG := G.refl w none
  by_cases h1 : 4611686018427 < n
  · have hfin : Hid (V = none) := Lib.hid (by rw [← hV.out]; unfold intO; rw [if_neg (by omega)])
    go_enter Tryd.func36, Tryd.ntmps36
    go_wp2_with fail
    refine ret_cell (valC none) w.heap.size 28 rfl rfl (Tryd.isAgg28 _) (Tryd.sizeOf28 _) rfl ?_ ⟨by rw [hfin.out]; rfl, (by exact G.go HG)⟩
    exact Hx.new _ _ _
  by_cases h2 : n < -4611686018427
  · have hfin : Hid (V = none) := Lib.hid (by rw [← hV.out]; unfold intO; rw [if_neg (by omega)])
    go_enter Tryd.func36, Tryd.ntmps36
    go_wp2_with fail
    refine ret_cell (valC none) w.heap.size 28 rfl rfl (Tryd.isAgg28 _) (Tryd.sizeOf28 _) rfl ?_ ⟨by rw [hfin.out]; rfl, (by exact G.go HG)⟩
    exact Hx.new _ _ _
  have hO : ofR (n * 1000000) = some (n * 1000000) := by unfold ofR; rw [if_pos (by omega)]
  have hfin : Hid (V = some (n * 1000000)) := Lib.hid (by rw [← hV.out]; unfold intO; rw [if_pos (by omega)])
  have HO := Lib.hid (fun w => fixedOf_any w (n * 1000000))
  rw [hO] at HO
  simp only [valV, valC] at HO
  clear hO hV
  go_enter Tryd.func36, Tryd.ntmps36
  go_upto_region 0 with (fail)
  go_cut [2] (fun r wc => r = .pointer (some ⟨w.heap.size, 0, none⟩) ∧ w.grownBy wc none ∧ Hx wc w.heap.size [.bool false, .int .i64 0] 28)
  case first =>
    go_wp2_with fail
    go_meet
    exact ⟨rfl, (by exact G.go HG), Hx.new _ _ _⟩
  obtain ⟨rfl, HG, hr⟩ := hcut
  have hr_0 := hr.cell 0; have hr_1 := hr.cell 1; have hr_2 := hr.free 0; have hr_3 := hr.free 1; have hr_4 := hr.lt
  go_wp2_with (go_at_call 37; (with_reducible refine (HO.out _).mono ?_); rintro e wn ⟨rfl, hgn⟩; replace HG := G.trans (w := w) (by exact G.go HG) hgn; replace hr := Hx.kept (by first | exact Hx.go hr | exact Hx.go2) hgn (by simp); have hr_0 := hr.cell 0; have hr_1 := hr.cell 1; have hr_2 := hr.free 0; have hr_3 := hr.free 1; have hr_4 := hr.lt; clear hgn)
  refine ret_cell (valC (some (n * 1000000))) w.heap.size 28 rfl rfl (Tryd.isAgg28 _) (Tryd.sizeOf28 _) rfl ?_ ⟨by rw [hfin.out]; rfl, (by exact G.go HG)⟩
  exact (by first | exact Hx.go hr | exact Hx.go2)
set_option maxHeartbeats 4000000 in
theorem less1_any (w : World) (b1 b2 : Bool) (x y : Int) : Calls Tryd.prog 9 #[.agg #[.bool b1, .int .i64 x], .agg #[.bool b2, .int .i64 y]] w fun e w' => e = .returned (.bool (ltO (vK b1 x) (vK b2 y))) ∧ w.grownBy w' none := by
  obtain ⟨V, hV⟩ : ∃ V, Hid (ltO (vK b1 x) (vK b2 y) = V) := ⟨_, Lib.hid rfl⟩
  rw [hV.out]
  have KA := Lib.hid (fun w => two1_any w b1 b2 x y)
  have k1 := @vK_some b1 x
  have k2 := @vK_some b2 y
  have k3 := @vK_none b1 x
  have k4 := @vK_none b2 y
  generalize (b1 && isR b1 x) = ka at *
  generalize (b2 && isR b2 y) = kb at *
  have K1 := Lib.hid k1; have K2 := Lib.hid k2; have K3 := Lib.hid k3; have K4 := Lib.hid k4
  clear k1 k2 k3 k4
  go_enter Tryd.func9, Tryd.ntmps9
  go_upto_region 0 with (fail)
  go_cut [2, 3, 4] (fun p q r wc => p = .pointer (some ⟨w.heap.size, 0, none⟩) ∧ q = .pointer (some ⟨w.heap.size + 1, 0, none⟩) ∧ r = .bool false ∧ w.grownBy wc none ∧ Hx wc w.heap.size [.bool b1, .int .i64 x] 28 ∧ Hx wc (w.heap.size + 1) [.bool b2, .int .i64 y] 28)
  case first =>
    have HG := G.refl w none
    go_wp2_with fail
    go_meet
    exact ⟨rfl, rfl, rfl, (by exact G.go HG), Hx.alloc (Hx.new _ _ _) _, Hx.new' (by simp) rfl⟩
  obtain ⟨rfl, rfl, rfl, HG, ha, hb⟩ := hcut
  have ha_0 := ha.cell 0; have ha_1 := ha.cell 1; have ha_2 := ha.free 0; have ha_3 := ha.free 1; have ha_4 := ha.lt
  have hb_0 := hb.cell 0; have hb_1 := hb.cell 1; have hb_2 := hb.free 0; have hb_3 := hb.free 1; have hb_4 := hb.lt
  cases ka
  · have hfin : Hid (V = false) := Lib.hid (by rw [← hV.out, K3.out rfl]; rfl)
    rw [Bool.false_and] at KA
    go_wp2_with (go_at_call 18; (with_reducible refine (KA.out _).mono ?_); rintro e wn ⟨rfl, hgn⟩; replace HG := G.trans (w := w) (by exact G.go HG) hgn; replace ha := Hx.kept (by first | exact Hx.go ha | exact Hx.go2) hgn (by simp); have ha_0 := ha.cell 0; have ha_1 := ha.cell 1; have ha_2 := ha.free 0; have ha_3 := ha.free 1; have ha_4 := ha.lt; replace hb := Hx.kept (by first | exact Hx.go hb | exact Hx.go2) hgn (by simp); have hb_0 := hb.cell 0; have hb_1 := hb.cell 1; have hb_2 := hb.free 0; have hb_3 := hb.free 1; have hb_4 := hb.lt; clear hgn)
    go_ret
    exact ⟨ret_bool (by rw [hfin.out]), (by exact G.go HG)⟩
  obtain ⟨va, rfl, a1, a2⟩ := K1.out rfl
  cases kb
  · have hfin : Hid (V = false) := Lib.hid (by rw [← hV.out, K4.out rfl, va]; rfl)
    rw [Bool.and_false] at KA
    go_wp2_with (first | (go_at_call 18; (with_reducible refine (KA.out _).mono ?_); rintro e wn ⟨rfl, hgn⟩; replace HG := G.trans (w := w) (by exact G.go HG) hgn; replace ha := Hx.kept (by first | exact Hx.go ha | exact Hx.go2) hgn (by simp); have ha_0 := ha.cell 0; have ha_1 := ha.cell 1; have ha_2 := ha.free 0; have ha_3 := ha.free 1; have ha_4 := ha.lt; replace hb := Hx.kept (by first | exact Hx.go hb | exact Hx.go2) hgn (by simp); have hb_0 := hb.cell 0; have hb_1 := hb.cell 1; have hb_2 := hb.free 0; have hb_3 := hb.free 1; have hb_4 := hb.lt; clear hgn))
    go_ret
    exact ⟨ret_bool (by rw [hfin.out]), (by exact G.go HG)⟩
  obtain ⟨vb, rfl, c1, c2⟩ := K2.out rfl
  have hfin : Hid (V = decide (x < y)) := Lib.hid (by rw [← hV.out, va, vb]; rfl)
  rw [Bool.and_true] at KA
  clear K1 K2 K3 K4 va vb hV
  by_cases hxy : x < y <;>
  · go_wp2_with (first | (go_at_call 18; (with_reducible refine (KA.out _).mono ?_); rintro e wn ⟨rfl, hgn⟩; replace HG := G.trans (w := w) (by exact G.go HG) hgn; replace ha := Hx.kept (by first | exact Hx.go ha | exact Hx.go2) hgn (by simp); have ha_0 := ha.cell 0; have ha_1 := ha.cell 1; have ha_2 := ha.free 0; have ha_3 := ha.free 1; have ha_4 := ha.lt; replace hb := Hx.kept (by first | exact Hx.go hb | exact Hx.go2) hgn (by simp); have hb_0 := hb.cell 0; have hb_1 := hb.cell 1; have hb_2 := hb.free 0; have hb_3 := hb.free 1; have hb_4 := hb.lt; clear hgn))
    go_ret
    exact ⟨ret_bool (by first | (rw [hfin.out]; done) | (rw [hfin.out]; simp [hxy])), (by exact G.go HG)⟩
set_option maxHeartbeats 4000000 in
theorem val_any (w : World) (n : Int) (ok : Bool) : Calls Tryd.prog 67 #[.int .i64 n, .bool ok] w fun e w' => e = .returned (valV (if ok then ofR n else none)) ∧ w.grownBy w' none := by
  have HG := G.refl w none
  cases ok
  · have hfin : Hid ((if false = true then ofR n else none) = (none : Option Int)) := Lib.hid rfl
    go_enter Tryd.func67, Tryd.ntmps67
    go_wp2_with fail
    refine ret_cell (valC none) w.heap.size 28 rfl rfl (Tryd.isAgg28 _) (Tryd.sizeOf28 _) rfl ?_ ⟨rfl, (by exact G.go HG)⟩
    exact Hx.new _ _ _
  · obtain ⟨V, hV⟩ : ∃ V, Hid (ofR n = V) := ⟨_, Lib.hid rfl⟩
    have HO := Lib.hid (fun w => fixedOf_any w n)
    rw [hV.out, valV_form] at HO
    rw [if_pos rfl, hV.out]
    go_enter Tryd.func67, Tryd.ntmps67
    go_upto_region 0 with (fail)
    go_cut [4] (fun r wc => r = .pointer (some ⟨w.heap.size, 0, none⟩) ∧ w.grownBy wc none ∧ Hx wc w.heap.size [.bool false, .int .i64 0] 28)
    case first =>
      go_wp2_with fail
      go_meet
      exact ⟨rfl, (by exact G.go HG), Hx.new _ _ _⟩
    obtain ⟨rfl, HG, hr⟩ := hcut
    have hr_0 := hr.cell 0; have hr_1 := hr.cell 1; have hr_2 := hr.free 0; have hr_3 := hr.free 1; have hr_4 := hr.lt
    go_wp2_with (go_at_call 37; (with_reducible refine (HO.out _).mono ?_); rintro e wn ⟨rfl, hgn⟩; replace HG := G.trans (w := w) (by exact G.go HG) hgn; replace hr := Hx.kept (by first | exact Hx.go hr | exact Hx.go2) hgn (by simp); have hr_0 := hr.cell 0; have hr_1 := hr.cell 1; have hr_2 := hr.free 0; have hr_3 := hr.free 1; have hr_4 := hr.lt; clear hgn)
    refine ret_cell [.bool (vB V), .int .i64 (vN V)] w.heap.size 28 rfl rfl (Tryd.isAgg28 _) (Tryd.sizeOf28 _) rfl ?_ ⟨by rw [valV_form], (by exact G.go HG)⟩
    exact (by first | exact Hx.go hr | exact Hx.go2)
end Go.Proofs.YtkablhamnepfnaaDoor
