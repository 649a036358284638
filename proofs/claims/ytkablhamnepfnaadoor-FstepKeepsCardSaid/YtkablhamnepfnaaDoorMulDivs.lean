/-
  The walks of both packages' products and quotients of values. Printed by genmul.py.
-/
import Derived.Test.YtkablhamnepfnaaDoorMulProg
namespace Go.Proofs.YtkablhamnepfnaaDoor
open Go.RowKit
theorem mulDivV_form (o : Option Int) : mulDivV o = .tuple #[.int .i64 (vN o), .bool (vB o)] := by cases o <;> rfl
theorem mulDivO_fits (a b c : Int) : Fits (mulDivO a b c) := by
  intro m h
  unfold mulDivO at h
  split at h
  · cases h
  · split at h
    · cases h
    · rename_i hq
      generalize quoR (a.natAbs * b.natAbs) c.natAbs = q at *
      have h := Option.some.inj h
      split at h <;> omega
theorem of_back {o : Option Int} (h : Fits o) : (if vB o then ofR (vN o) else none) = o := by
  cases o with
  | none => rfl
  | some n =>
    have hb := h n rfl
    show (if true = true then ofR n else none) = some n
    rw [if_pos rfl]
    unfold ofR
    rw [if_pos hb]
def mulO (x y : Option Int) : Option Int := x.bind fun x => y.bind fun y => mulDivO x y 1000000
def divO (x y : Option Int) : Option Int := x.bind fun x => y.bind fun y => mulDivO x 1000000 y
theorem mulO_none_r (x : Option Int) : mulO x none = none := by cases x <;> rfl
theorem divO_none_r (x : Option Int) : divO x none = none := by cases x <;> rfl
theorem mulO_fits (x y : Option Int) : Fits (mulO x y) := by
  cases x with
  | none => exact none_fits
  | some x => cases y with
    | none => exact none_fits
    | some y => exact (mulDivO_fits x y 1000000 : Fits (mulDivO x y 1000000))
theorem divO_fits (x y : Option Int) : Fits (divO x y) := by
  cases x with
  | none => exact none_fits
  | some x => cases y with
    | none => exact none_fits
    | some y => exact (mulDivO_fits x 1000000 y : Fits (mulDivO x 1000000 y))
set_option maxHeartbeats 8000000 in
theorem div_any (w : World) (b1 b2 : Bool) (x y : Int) : Calls Tryd.prog 52 #[.agg #[.bool b1, .int .i64 x], .agg #[.bool b2, .int .i64 y]] w fun e w' => e = .returned (valV (divO (vK b1 x) (vK b2 y))) ∧ w.grownBy w' none := by
  obtain ⟨V, hV⟩ : ∃ V, Hid (divO (vK b1 x) (vK b2 y) = V) := ⟨_, Lib.hid rfl⟩
  have hVf : Fits V := by rw [← hV.out]; exact divO_fits _ _
  rw [hV.out]
  have KA := Lib.hid (fun w => fixedKnown_any w b1 x)
  have KB := Lib.hid (fun w => fixedKnown_any w b2 y)
  have k1 := @vK_some b1 x
  have k2 := @vK_some b2 y
  have k3 := @vK_none b1 x
  have k4 := @vK_none b2 y
  generalize (b1 && isR b1 x) = ka at *
  generalize (b2 && isR b2 y) = kb at *
  have K1 := Lib.hid k1; have K2 := Lib.hid k2; have K3 := Lib.hid k3; have K4 := Lib.hid k4
  clear k1 k2 k3 k4
  go_enter Tryd.func52, Tryd.ntmps52
  go_upto_region 0 with (fail)
  go_cut [2, 3, 4] (fun p q r wc => p = .pointer (some ⟨w.heap.size, 0, none⟩) ∧ q = .pointer (some ⟨w.heap.size + 1, 0, none⟩) ∧ r = .pointer (some ⟨w.heap.size + 1 + 1, 0, none⟩) ∧ w.grownBy wc none ∧ Hx wc w.heap.size [.bool b1, .int .i64 x] 28 ∧ Hx wc (w.heap.size + 1) [.bool b2, .int .i64 y] 28 ∧ Hx wc (w.heap.size + 1 + 1) [.bool false, .int .i64 0] 28)
  case first =>
    have HG := G.refl w none
    go_wp2_with fail
    go_meet
    exact ⟨rfl, rfl, rfl, (by exact G.go HG), Hx.alloc (Hx.alloc (Hx.new _ _ _) _) _, Hx.alloc (Hx.new' (by simp) rfl) _, Hx.new' (by simp) rfl⟩
  obtain ⟨rfl, rfl, rfl, HG, ha, hb, hr⟩ := hcut
  have ha_0 := ha.cell 0; have ha_1 := ha.cell 1; have ha_2 := ha.free 0; have ha_3 := ha.free 1; have ha_4 := ha.lt
  have hb_0 := hb.cell 0; have hb_1 := hb.cell 1; have hb_2 := hb.free 0; have hb_3 := hb.free 1; have hb_4 := hb.lt
  have hr_0 := hr.cell 0; have hr_1 := hr.cell 1; have hr_2 := hr.free 0; have hr_3 := hr.free 1; have hr_4 := hr.lt
  cases ka
  · have hfin : Hid (V = none) := Lib.hid (by rw [← hV.out, K3.out rfl]; rfl)
    go_wp2_with (go_at_call_of 62 (Value.int IntKind.i64 x); (with_reducible refine (KA.out _).mono ?_); rintro e wn ⟨rfl, hgn⟩; replace HG := G.trans (w := w) (by exact G.go HG) hgn; replace ha := Hx.kept (by first | exact Hx.go ha | exact Hx.go2) hgn (by simp); have ha_0 := ha.cell 0; have ha_1 := ha.cell 1; have ha_2 := ha.free 0; have ha_3 := ha.free 1; have ha_4 := ha.lt; replace hb := Hx.kept (by first | exact Hx.go hb | exact Hx.go2) hgn (by simp); have hb_0 := hb.cell 0; have hb_1 := hb.cell 1; have hb_2 := hb.free 0; have hb_3 := hb.free 1; have hb_4 := hb.lt; replace hr := Hx.kept (by first | exact Hx.go hr | exact Hx.go2) hgn (by simp); have hr_0 := hr.cell 0; have hr_1 := hr.cell 1; have hr_2 := hr.free 0; have hr_3 := hr.free 1; have hr_4 := hr.lt; clear hgn)
    refine ret_cell (valC none) (w.heap.size + 1 + 1) 28 rfl rfl (Tryd.isAgg28 _) (Tryd.sizeOf28 _) rfl ?_ ⟨by rw [hfin.out]; rfl, (by exact G.go HG)⟩
    exact (by first | exact Hx.go hr | exact Hx.go2)
  obtain ⟨va, rfl, a1, a2⟩ := K1.out rfl
  cases kb
  · have hfin : Hid (V = none) := Lib.hid (by rw [← hV.out, K4.out rfl, divO_none_r])
    go_wp2_with (first | (go_at_call_of 62 (Value.int IntKind.i64 x); (with_reducible refine (KA.out _).mono ?_); rintro e wn ⟨rfl, hgn⟩; replace HG := G.trans (w := w) (by exact G.go HG) hgn; replace ha := Hx.kept (by first | exact Hx.go ha | exact Hx.go2) hgn (by simp); have ha_0 := ha.cell 0; have ha_1 := ha.cell 1; have ha_2 := ha.free 0; have ha_3 := ha.free 1; have ha_4 := ha.lt; replace hb := Hx.kept (by first | exact Hx.go hb | exact Hx.go2) hgn (by simp); have hb_0 := hb.cell 0; have hb_1 := hb.cell 1; have hb_2 := hb.free 0; have hb_3 := hb.free 1; have hb_4 := hb.lt; replace hr := Hx.kept (by first | exact Hx.go hr | exact Hx.go2) hgn (by simp); have hr_0 := hr.cell 0; have hr_1 := hr.cell 1; have hr_2 := hr.free 0; have hr_3 := hr.free 1; have hr_4 := hr.lt; clear hgn) | (go_at_call_of 62 (Value.int IntKind.i64 y); (with_reducible refine (KB.out _).mono ?_); rintro e wn ⟨rfl, hgn⟩; replace HG := G.trans (w := w) (by exact G.go HG) hgn; replace ha := Hx.kept (by first | exact Hx.go ha | exact Hx.go2) hgn (by simp); have ha_0 := ha.cell 0; have ha_1 := ha.cell 1; have ha_2 := ha.free 0; have ha_3 := ha.free 1; have ha_4 := ha.lt; replace hb := Hx.kept (by first | exact Hx.go hb | exact Hx.go2) hgn (by simp); have hb_0 := hb.cell 0; have hb_1 := hb.cell 1; have hb_2 := hb.free 0; have hb_3 := hb.free 1; have hb_4 := hb.lt; replace hr := Hx.kept (by first | exact Hx.go hr | exact Hx.go2) hgn (by simp); have hr_0 := hr.cell 0; have hr_1 := hr.cell 1; have hr_2 := hr.free 0; have hr_3 := hr.free 1; have hr_4 := hr.lt; clear hgn))
    refine ret_cell (valC none) (w.heap.size + 1 + 1) 28 rfl rfl (Tryd.isAgg28 _) (Tryd.sizeOf28 _) rfl ?_ ⟨by rw [hfin.out]; rfl, (by exact G.go HG)⟩
    exact (by first | exact Hx.go hr | exact Hx.go2)
  obtain ⟨vb, rfl, c1, c2⟩ := K2.out rfl
  have hM : mulDivO x 1000000 y = V := by rw [← hV.out, va, vb]; rfl
  have HM := Lib.hid (fun w => mulDiv_any x 1000000 y w (by omega) (by omega) (by omega) (by omega) (by omega) (by omega))
  rw [hM, mulDivV_form] at HM
  clear K1 K2 K3 K4 va vb hV hM
  have HO := Lib.hid (fun w => val_any w (vN V) (vB V))
  rw [of_back hVf, valV_form] at HO
  clear hVf
  have hvv := Lib.hid (valV_form V)
  generalize vN V = n at *
  generalize vB V = ok at *
  go_wp2_with (first | (go_at_call_of 62 (Value.int IntKind.i64 x); (with_reducible refine (KA.out _).mono ?_); rintro e wn ⟨rfl, hgn⟩; replace HG := G.trans (w := w) (by exact G.go HG) hgn; replace ha := Hx.kept (by first | exact Hx.go ha | exact Hx.go2) hgn (by simp); have ha_0 := ha.cell 0; have ha_1 := ha.cell 1; have ha_2 := ha.free 0; have ha_3 := ha.free 1; have ha_4 := ha.lt; replace hb := Hx.kept (by first | exact Hx.go hb | exact Hx.go2) hgn (by simp); have hb_0 := hb.cell 0; have hb_1 := hb.cell 1; have hb_2 := hb.free 0; have hb_3 := hb.free 1; have hb_4 := hb.lt; replace hr := Hx.kept (by first | exact Hx.go hr | exact Hx.go2) hgn (by simp); have hr_0 := hr.cell 0; have hr_1 := hr.cell 1; have hr_2 := hr.free 0; have hr_3 := hr.free 1; have hr_4 := hr.lt; clear hgn) | (go_at_call_of 62 (Value.int IntKind.i64 y); (with_reducible refine (KB.out _).mono ?_); rintro e wn ⟨rfl, hgn⟩; replace HG := G.trans (w := w) (by exact G.go HG) hgn; replace ha := Hx.kept (by first | exact Hx.go ha | exact Hx.go2) hgn (by simp); have ha_0 := ha.cell 0; have ha_1 := ha.cell 1; have ha_2 := ha.free 0; have ha_3 := ha.free 1; have ha_4 := ha.lt; replace hb := Hx.kept (by first | exact Hx.go hb | exact Hx.go2) hgn (by simp); have hb_0 := hb.cell 0; have hb_1 := hb.cell 1; have hb_2 := hb.free 0; have hb_3 := hb.free 1; have hb_4 := hb.lt; replace hr := Hx.kept (by first | exact Hx.go hr | exact Hx.go2) hgn (by simp); have hr_0 := hr.cell 0; have hr_1 := hr.cell 1; have hr_2 := hr.free 0; have hr_3 := hr.free 1; have hr_4 := hr.lt; clear hgn) | (go_at_call 48; (with_reducible refine (HM.out _).mono ?_); rintro e wn ⟨rfl, hgn⟩; replace HG := G.trans (w := w) (by exact G.go HG) hgn; replace ha := Hx.kept (by first | exact Hx.go ha | exact Hx.go2) hgn (by simp); have ha_0 := ha.cell 0; have ha_1 := ha.cell 1; have ha_2 := ha.free 0; have ha_3 := ha.free 1; have ha_4 := ha.lt; replace hb := Hx.kept (by first | exact Hx.go hb | exact Hx.go2) hgn (by simp); have hb_0 := hb.cell 0; have hb_1 := hb.cell 1; have hb_2 := hb.free 0; have hb_3 := hb.free 1; have hb_4 := hb.lt; replace hr := Hx.kept (by first | exact Hx.go hr | exact Hx.go2) hgn (by simp); have hr_0 := hr.cell 0; have hr_1 := hr.cell 1; have hr_2 := hr.free 0; have hr_3 := hr.free 1; have hr_4 := hr.lt; clear hgn) | (go_at_call 67; (with_reducible refine (HO.out _).mono ?_); rintro e wn ⟨rfl, hgn⟩; replace HG := G.trans (w := w) (by exact G.go HG) hgn; replace ha := Hx.kept (by first | exact Hx.go ha | exact Hx.go2) hgn (by simp); have ha_0 := ha.cell 0; have ha_1 := ha.cell 1; have ha_2 := ha.free 0; have ha_3 := ha.free 1; have ha_4 := ha.lt; replace hb := Hx.kept (by first | exact Hx.go hb | exact Hx.go2) hgn (by simp); have hb_0 := hb.cell 0; have hb_1 := hb.cell 1; have hb_2 := hb.free 0; have hb_3 := hb.free 1; have hb_4 := hb.lt; replace hr := Hx.kept (by first | exact Hx.go hr | exact Hx.go2) hgn (by simp); have hr_0 := hr.cell 0; have hr_1 := hr.cell 1; have hr_2 := hr.free 0; have hr_3 := hr.free 1; have hr_4 := hr.lt; clear hgn))
  refine ret_cell [.bool ok, .int .i64 n] (w.heap.size + 1 + 1) 28 rfl rfl (Tryd.isAgg28 _) (Tryd.sizeOf28 _) rfl ?_ ⟨by rw [hvv.out], (by exact G.go HG)⟩
  exact (by first | exact Hx.go hr | exact Hx.go2)
end Go.Proofs.YtkablhamnepfnaaDoor
