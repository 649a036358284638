/-
  The walk of a function behind a box; all sixteen functions together. Printed by genfmdoesg.py.
-/
import Derived.Test.YtfomknfjidbdcaaGreatDoorFmDoesF
namespace Go.Proofs.YtfomknfjidbdcaaGreatDoor
open Go.RowKit

set_option maxHeartbeats 8000000 in
theorem boxed19_any (g : Nat) (eg : ∀ args w, (callFunc g args).run Tryz.prog w = .ok (.enter g args) w) (w : World) (B : Nat) (W : Work) (sv : Value) (hw : WorkAt w B W sv) (q : Nat) (hq : Hx w q [fnV g] 43) (v D : Option Int)
    (hd : ∀ x w', v = some x → (W.has && !vB W.k) = false → w.grownBy w' none → Calls Tryz.prog g #[.pointer (some ⟨B, 0, none⟩), .agg #[.bool true, .int .i64 x]] w' fun e w'' => e = .returned (valV D) ∧ w'.grownBy w'' none) :
    Calls Tryz.prog 95 #[.pointer (some ⟨B, 0, none⟩), .agg #[.bool (vB v), .int .i64 (vN v)], .pointer (some ⟨q, 0, none⟩)] w fun e w' => e = .returned (valV (if v.isSome && !(W.has && !vB W.k) then D else none)) ∧ w.grownBy w' none := by
  replace hw := hw.hx
  replace hq : Hx w q [.func (.func g) #[] #[]] 43 := hq
  have hvv := Lib.hid (valV_form D)
  cases v with
  | none =>
    show Calls _ _ #[_, .agg #[.bool false, .int .i64 0], _] _ _
    clear hd
    have HG := G.refl w none
    go_enter Tryz.func95, Tryz.ntmps95
    go_upto_region 0 with (fail)
    go_cut [4, 5] (fun p r wc => p = .pointer (some ⟨w.heap.size, 0, none⟩) ∧ r = .pointer (some ⟨w.heap.size + 1, 0, none⟩) ∧ w.grownBy wc none ∧ Hx wc w.heap.size [.bool false, .int .i64 0] 28 ∧ Hx wc (w.heap.size + 1) [.bool false, .int .i64 0] 28 ∧ Hx wc B [.string W.S.name, .int .i64 W.S.start, .int .i64 W.S.step, sv, .int .i64 W.S.cons, .bool (vB W.k), .int .i64 (vN W.k), .bool W.has, .bool (vB W.low), .int .i64 (vN W.low), .bool (vB W.high), .int .i64 (vN W.high)] 52 ∧ Hx wc q [.func (.func g) #[] #[]] 43)
    case first =>
      go_wp2_with fail
      go_meet
      exact ⟨rfl, rfl, (by exact G.go HG), Hx.alloc (Hx.new _ _ _) _, Hx.new' (by simp) rfl, Hx.alloc (Hx.alloc hw _) _, Hx.alloc (Hx.alloc hq _) _⟩
    obtain ⟨rfl, rfl, HG, ha, hr, hw, hq⟩ := hcut
    have ha_0 := ha.cell 0; have ha_1 := ha.cell 1; have ha_2 := ha.free 0; have ha_3 := ha.free 1; have ha_4 := ha.lt; have hr_0 := hr.cell 0; have hr_1 := hr.cell 1; have hr_2 := hr.free 0; have hr_3 := hr.free 1; have hr_4 := hr.lt; have hw_0 := hw.cell 0; have hw_1 := hw.cell 1; have hw_2 := hw.cell 2; have hw_3 := hw.cell 3; have hw_4 := hw.cell 4; have hw_5 := hw.cell 5; have hw_6 := hw.cell 6; have hw_7 := hw.cell 7; have hw_8 := hw.cell 8; have hw_9 := hw.cell 9; have hw_10 := hw.cell 10; have hw_11 := hw.cell 11; have hw_f0 := hw.free 0; have hw_f1 := hw.free 1; have hw_f2 := hw.free 2; have hw_f3 := hw.free 3; have hw_f4 := hw.free 4; have hw_f5 := hw.free 5; have hw_f6 := hw.free 6; have hw_f7 := hw.free 7; have hw_f8 := hw.free 8; have hw_f9 := hw.free 9; have hw_f10 := hw.free 10; have hw_f11 := hw.free 11; have hw_l := hw.lt
    have hq_0 := hq.cell 0
    go_wp2_with fail
    refine ret_cell [.bool false, .int .i64 0] (w.heap.size + 1) 28 rfl rfl (Tryz.isAgg28 _) (Tryz.sizeOf28 _) rfl ?_ ⟨rfl, (by exact G.go HG)⟩
    exact (by first | exact Hx.go hr | exact Hx.go2)
  | some x =>
    show Calls _ _ #[_, .agg #[.bool true, .int .i64 x], _] _ _
    cases hh : W.has && !vB W.k
    · have HD := Lib.hid (fun w' hg => hd x w' rfl hh hg)
      rw [valV_form] at HD
      clear hd
      cases h3 : W.has
      · clear hh
        have HG := G.refl w none
        go_enter Tryz.func95, Tryz.ntmps95
        go_upto_region 0 with (fail)
        go_cut [4, 5] (fun p r wc => p = .pointer (some ⟨w.heap.size, 0, none⟩) ∧ r = .pointer (some ⟨w.heap.size + 1, 0, none⟩) ∧ w.grownBy wc none ∧ Hx wc w.heap.size [.bool true, .int .i64 x] 28 ∧ Hx wc (w.heap.size + 1) [.bool false, .int .i64 0] 28 ∧ Hx wc B [.string W.S.name, .int .i64 W.S.start, .int .i64 W.S.step, sv, .int .i64 W.S.cons, .bool (vB W.k), .int .i64 (vN W.k), .bool W.has, .bool (vB W.low), .int .i64 (vN W.low), .bool (vB W.high), .int .i64 (vN W.high)] 52 ∧ Hx wc q [.func (.func g) #[] #[]] 43)
        case first =>
          go_wp2_with fail
          go_meet
          exact ⟨rfl, rfl, (by exact G.go HG), Hx.alloc (Hx.new _ _ _) _, Hx.new' (by simp) rfl, Hx.alloc (Hx.alloc hw _) _, Hx.alloc (Hx.alloc hq _) _⟩
        obtain ⟨rfl, rfl, HG, ha, hr, hw, hq⟩ := hcut
        have ha_0 := ha.cell 0; have ha_1 := ha.cell 1; have ha_2 := ha.free 0; have ha_3 := ha.free 1; have ha_4 := ha.lt; have hr_0 := hr.cell 0; have hr_1 := hr.cell 1; have hr_2 := hr.free 0; have hr_3 := hr.free 1; have hr_4 := hr.lt; have hw_0 := hw.cell 0; have hw_1 := hw.cell 1; have hw_2 := hw.cell 2; have hw_3 := hw.cell 3; have hw_4 := hw.cell 4; have hw_5 := hw.cell 5; have hw_6 := hw.cell 6; have hw_7 := hw.cell 7; have hw_8 := hw.cell 8; have hw_9 := hw.cell 9; have hw_10 := hw.cell 10; have hw_11 := hw.cell 11; have hw_f0 := hw.free 0; have hw_f1 := hw.free 1; have hw_f2 := hw.free 2; have hw_f3 := hw.free 3; have hw_f4 := hw.free 4; have hw_f5 := hw.free 5; have hw_f6 := hw.free 6; have hw_f7 := hw.free 7; have hw_f8 := hw.free 8; have hw_f9 := hw.free 9; have hw_f10 := hw.free 10; have hw_f11 := hw.free 11; have hw_l := hw.lt
        have hq_0 := hq.cell 0
        rw [h3] at hw_7
        go_wp2_with (go_at_fn g; (with_reducible refine (HD.out _ (by exact G.go HG)).mono ?_); rintro e wn ⟨rfl, hgn⟩; replace HG := G.trans (w := w) (by exact G.go HG) hgn; replace hr := Hx.kept (by first | exact Hx.go hr | exact Hx.go2) hgn (by simp); have hr_0 := hr.cell 0; have hr_1 := hr.cell 1; have hr_2 := hr.free 0; have hr_3 := hr.free 1; have hr_4 := hr.lt; clear hgn)
        refine ret_cell [.bool (vB D), .int .i64 (vN D)] (w.heap.size + 1) 28 rfl rfl (Tryz.isAgg28 _) (Tryz.sizeOf28 _) rfl ?_ ⟨by rw [hvv.out], (by exact G.go HG)⟩
        exact (by first | exact Hx.go hr | exact Hx.go2)
      · have h4 : vB W.k = true := by rw [h3] at hh; cases h5 : vB W.k <;> simp_all
        clear hh
        have HG := G.refl w none
        go_enter Tryz.func95, Tryz.ntmps95
        go_upto_region 0 with (fail)
        go_cut [4, 5] (fun p r wc => p = .pointer (some ⟨w.heap.size, 0, none⟩) ∧ r = .pointer (some ⟨w.heap.size + 1, 0, none⟩) ∧ w.grownBy wc none ∧ Hx wc w.heap.size [.bool true, .int .i64 x] 28 ∧ Hx wc (w.heap.size + 1) [.bool false, .int .i64 0] 28 ∧ Hx wc B [.string W.S.name, .int .i64 W.S.start, .int .i64 W.S.step, sv, .int .i64 W.S.cons, .bool (vB W.k), .int .i64 (vN W.k), .bool W.has, .bool (vB W.low), .int .i64 (vN W.low), .bool (vB W.high), .int .i64 (vN W.high)] 52 ∧ Hx wc q [.func (.func g) #[] #[]] 43)
        case first =>
          go_wp2_with fail
          go_meet
          exact ⟨rfl, rfl, (by exact G.go HG), Hx.alloc (Hx.new _ _ _) _, Hx.new' (by simp) rfl, Hx.alloc (Hx.alloc hw _) _, Hx.alloc (Hx.alloc hq _) _⟩
        obtain ⟨rfl, rfl, HG, ha, hr, hw, hq⟩ := hcut
        have ha_0 := ha.cell 0; have ha_1 := ha.cell 1; have ha_2 := ha.free 0; have ha_3 := ha.free 1; have ha_4 := ha.lt; have hr_0 := hr.cell 0; have hr_1 := hr.cell 1; have hr_2 := hr.free 0; have hr_3 := hr.free 1; have hr_4 := hr.lt; have hw_0 := hw.cell 0; have hw_1 := hw.cell 1; have hw_2 := hw.cell 2; have hw_3 := hw.cell 3; have hw_4 := hw.cell 4; have hw_5 := hw.cell 5; have hw_6 := hw.cell 6; have hw_7 := hw.cell 7; have hw_8 := hw.cell 8; have hw_9 := hw.cell 9; have hw_10 := hw.cell 10; have hw_11 := hw.cell 11; have hw_f0 := hw.free 0; have hw_f1 := hw.free 1; have hw_f2 := hw.free 2; have hw_f3 := hw.free 3; have hw_f4 := hw.free 4; have hw_f5 := hw.free 5; have hw_f6 := hw.free 6; have hw_f7 := hw.free 7; have hw_f8 := hw.free 8; have hw_f9 := hw.free 9; have hw_f10 := hw.free 10; have hw_f11 := hw.free 11; have hw_l := hw.lt
        have hq_0 := hq.cell 0
        rw [h3] at hw_7
        rw [h4] at hw_5
        go_wp2_with (go_at_fn g; (with_reducible refine (HD.out _ (by exact G.go HG)).mono ?_); rintro e wn ⟨rfl, hgn⟩; replace HG := G.trans (w := w) (by exact G.go HG) hgn; replace hr := Hx.kept (by first | exact Hx.go hr | exact Hx.go2) hgn (by simp); have hr_0 := hr.cell 0; have hr_1 := hr.cell 1; have hr_2 := hr.free 0; have hr_3 := hr.free 1; have hr_4 := hr.lt; clear hgn)
        refine ret_cell [.bool (vB D), .int .i64 (vN D)] (w.heap.size + 1) 28 rfl rfl (Tryz.isAgg28 _) (Tryz.sizeOf28 _) rfl ?_ ⟨by rw [hvv.out], (by exact G.go HG)⟩
        exact (by first | exact Hx.go hr | exact Hx.go2)
    · have h1 : W.has = true := by cases h3 : W.has <;> simp_all
      have h2 : vB W.k = false := by cases h3 : vB W.k <;> simp_all
      clear hd hh
      have HG := G.refl w none
      go_enter Tryz.func95, Tryz.ntmps95
      go_upto_region 0 with (fail)
      go_cut [4, 5] (fun p r wc => p = .pointer (some ⟨w.heap.size, 0, none⟩) ∧ r = .pointer (some ⟨w.heap.size + 1, 0, none⟩) ∧ w.grownBy wc none ∧ Hx wc w.heap.size [.bool true, .int .i64 x] 28 ∧ Hx wc (w.heap.size + 1) [.bool false, .int .i64 0] 28 ∧ Hx wc B [.string W.S.name, .int .i64 W.S.start, .int .i64 W.S.step, sv, .int .i64 W.S.cons, .bool (vB W.k), .int .i64 (vN W.k), .bool W.has, .bool (vB W.low), .int .i64 (vN W.low), .bool (vB W.high), .int .i64 (vN W.high)] 52 ∧ Hx wc q [.func (.func g) #[] #[]] 43)
      case first =>
        go_wp2_with fail
        go_meet
        exact ⟨rfl, rfl, (by exact G.go HG), Hx.alloc (Hx.new _ _ _) _, Hx.new' (by simp) rfl, Hx.alloc (Hx.alloc hw _) _, Hx.alloc (Hx.alloc hq _) _⟩
      obtain ⟨rfl, rfl, HG, ha, hr, hw, hq⟩ := hcut
      have ha_0 := ha.cell 0; have ha_1 := ha.cell 1; have ha_2 := ha.free 0; have ha_3 := ha.free 1; have ha_4 := ha.lt; have hr_0 := hr.cell 0; have hr_1 := hr.cell 1; have hr_2 := hr.free 0; have hr_3 := hr.free 1; have hr_4 := hr.lt; have hw_0 := hw.cell 0; have hw_1 := hw.cell 1; have hw_2 := hw.cell 2; have hw_3 := hw.cell 3; have hw_4 := hw.cell 4; have hw_5 := hw.cell 5; have hw_6 := hw.cell 6; have hw_7 := hw.cell 7; have hw_8 := hw.cell 8; have hw_9 := hw.cell 9; have hw_10 := hw.cell 10; have hw_11 := hw.cell 11; have hw_f0 := hw.free 0; have hw_f1 := hw.free 1; have hw_f2 := hw.free 2; have hw_f3 := hw.free 3; have hw_f4 := hw.free 4; have hw_f5 := hw.free 5; have hw_f6 := hw.free 6; have hw_f7 := hw.free 7; have hw_f8 := hw.free 8; have hw_f9 := hw.free 9; have hw_f10 := hw.free 10; have hw_f11 := hw.free 11; have hw_l := hw.lt
      have hq_0 := hq.cell 0
      rw [h1] at hw_7
      rw [h2] at hw_5
      go_wp2_with fail
      refine ret_cell [.bool false, .int .i64 0] (w.heap.size + 1) 28 rfl rfl (Tryz.isAgg28 _) (Tryz.sizeOf28 _) rfl ?_ ⟨by simp; rfl, (by exact G.go HG)⟩
      exact (by first | exact Hx.go hr | exact Hx.go2)
theorem cond_drop {v D : Option Int} {h : Bool} {k : Option Int} (h1 : v = none → D = none) (h2 : h = true → k = none → D = none) : (if v.isSome && !(h && !vB k) then D else none) = D := by
  cases v with
  | none => rw [h1 rfl]; rfl
  | some x =>
    cases h
    · rfl
    · cases k with
      | none => rw [h2 rfl rfl]; rfl
      | some k => rfl
theorem fm10_none (k : Option Int) : fm10 k none = none := by
  unfold fm10
  cases k with
  | none => rfl
  | some k =>
    cases wholeO (some k) with
    | none => rfl
    | some n =>
      show (if 0 ≤ n ∧ n ≤ 6 then roundO n none else none) = none
      split <;> rfl
theorem fm12_none (s : Int) (k : Option Int) : fm12 s k none = none := by
  unfold fm12
  cases wholeO k <;> rfl
theorem fmDoes_any (i : Nat) (hi : i < 16) (w : World) (B : Nat) (W : Work) (sv : Value) (hw : WorkAt w B W sv) (p : Nat → Nat) (hb : fmBoxes w p) (v : Option Int) (hv : Fits v) (hk : Fits W.k) (hl : Fits W.low) (hh : Fits W.high) (hs : 1 ≤ W.S.step ∧ W.S.step ≤ 1099511627776)
    (hhas : fmNeed i = 1 → W.has = true) (hno : fmMost i = 0 → W.has = false) (r : FRow) (hr : (fmRows p)[i]? = some r) :
    Calls Tryz.prog r.fn (#[.pointer (some ⟨B, 0, none⟩), .agg #[.bool (vB v), .int .i64 (vN v)]] ++ r.cap) w fun e w' => e = .returned (valV (fmV i W.S.step W.has W.k W.low W.high v)) ∧ w.grownBy w' none := by
  match i, hi, hr, hhas, hno with
  | 0, _, hr, hhas, hno =>
    obtain rfl := Option.some.inj hr
    have hc := cond_drop (v := v) (D := fm0 v) (h := W.has) (k := W.k) (fun e => by subst e; exact rfl) (fun e1 e2 => by rw [hno rfl] at e1; cases e1)
    refine (boxed19_any 45 (enters_of Tryz.func45 (by kernel_rfl) rfl) w B W sv hw (p 0) (hb 0 (by omega) rfl) v (fm0 v) (fun x w' e hq hg => ?_)).mono ?_
    · subst e; have hx := fits_of hv; exact does0 w' B x hx
    · rintro e w' ⟨rfl, hg⟩; exact ⟨by rw [hc]; rfl, hg⟩
  | 1, _, hr, hhas, hno =>
    obtain rfl := Option.some.inj hr
    have hc := cond_drop (v := v) (D := fm1 v) (h := W.has) (k := W.k) (fun e => by subst e; exact rfl) (fun e1 e2 => by rw [hno rfl] at e1; cases e1)
    refine (boxed19_any 47 (enters_of Tryz.func47 (by kernel_rfl) rfl) w B W sv hw (p 1) (hb 1 (by omega) rfl) v (fm1 v) (fun x w' e hq hg => ?_)).mono ?_
    · subst e; have hx := fits_of hv; exact does1 w' B x hx
    · rintro e w' ⟨rfl, hg⟩; exact ⟨by rw [hc]; rfl, hg⟩
  | 2, _, hr, hhas, hno =>
    obtain rfl := Option.some.inj hr
    exact does2 w B v
  | 3, _, hr, hhas, hno =>
    obtain rfl := Option.some.inj hr
    have hc := cond_drop (v := v) (D := fm3 W.low W.high v) (h := W.has) (k := W.k) (fun e => by subst e; exact rfl) (fun e1 e2 => by rw [hno rfl] at e1; cases e1)
    refine (boxed19_any 49 (enters_of Tryz.func49 (by kernel_rfl) rfl) w B W sv hw (p 3) (hb 3 (by omega) rfl) v (fm3 W.low W.high v) (fun x w' e hq hg => ?_)).mono ?_
    · subst e; have hx := fits_of hv; exact does3 w' B W sv (hw.kept hg) x hx hl hh
    · rintro e w' ⟨rfl, hg⟩; exact ⟨by rw [hc]; rfl, hg⟩
  | 4, _, hr, hhas, hno =>
    obtain rfl := Option.some.inj hr
    have hc := cond_drop (v := v) (D := fm4 v) (h := W.has) (k := W.k) (fun e => by subst e; exact rfl) (fun e1 e2 => by rw [hno rfl] at e1; cases e1)
    refine (boxed19_any 50 (enters_of Tryz.func50 (by kernel_rfl) rfl) w B W sv hw (p 4) (hb 4 (by omega) rfl) v (fm4 v) (fun x w' e hq hg => ?_)).mono ?_
    · subst e; have hx := fits_of hv; exact does4 w' B x hx
    · rintro e w' ⟨rfl, hg⟩; exact ⟨by rw [hc]; rfl, hg⟩
  | 5, _, hr, hhas, hno =>
    obtain rfl := Option.some.inj hr
    have hc := cond_drop (v := v) (D := fm5 W.k v) (h := W.has) (k := W.k) (fun e => by subst e; exact rfl) (fun e1 e2 => by rw [e2]; exact sumO_none_r _)
    refine (boxed19_any 53 (enters_of Tryz.func53 (by kernel_rfl) rfl) w B W sv hw (p 5) (hb 5 (by omega) rfl) v (fm5 W.k v) (fun x w' e hq hg => ?_)).mono ?_
    · subst e; have hx := fits_of hv; exact does5 w' B W sv (hw.kept hg) x hx hk
    · rintro e w' ⟨rfl, hg⟩; exact ⟨by rw [hc]; rfl, hg⟩
  | 6, _, hr, hhas, hno =>
    obtain rfl := Option.some.inj hr
    have hc := cond_drop (v := v) (D := fm6 W.low v) (h := W.has) (k := W.k) (fun e => by subst e; exact rfl) (fun e1 e2 => by rw [hno rfl] at e1; cases e1)
    refine (boxed19_any 55 (enters_of Tryz.func55 (by kernel_rfl) rfl) w B W sv hw (p 6) (hb 6 (by omega) rfl) v (fm6 W.low v) (fun x w' e hq hg => ?_)).mono ?_
    · subst e; have hx := fits_of hv; exact does6 w' B W sv (hw.kept hg) x hx hl
    · rintro e w' ⟨rfl, hg⟩; exact ⟨by rw [hc]; rfl, hg⟩
  | 7, _, hr, hhas, hno =>
    obtain rfl := Option.some.inj hr
    have hc := cond_drop (v := v) (D := fm7 W.k v) (h := W.has) (k := W.k) (fun e => by subst e; exact rfl) (fun e1 e2 => by rw [e2]; exact by cases v <;> rfl)
    refine (boxed19_any 56 (enters_of Tryz.func56 (by kernel_rfl) rfl) w B W sv hw (p 7) (hb 7 (by omega) rfl) v (fm7 W.k v) (fun x w' e hq hg => ?_)).mono ?_
    · subst e; have hx := fits_of hv; exact does7 w' B W sv (hw.kept hg) x hx hk
    · rintro e w' ⟨rfl, hg⟩; exact ⟨by rw [hc]; rfl, hg⟩
  | 8, _, hr, hhas, hno =>
    obtain rfl := Option.some.inj hr
    exact does8 w B W sv hw v hv hk
  | 9, _, hr, hhas, hno =>
    obtain rfl := Option.some.inj hr
    exact does9 w B W sv hw v hv hk
  | 10, _, hr, hhas, hno =>
    obtain rfl := Option.some.inj hr
    have hc := cond_drop (v := v) (D := fm10 W.k v) (h := W.has) (k := W.k) (fun e => by subst e; exact fm10_none _) (fun e1 e2 => by rw [e2]; exact rfl)
    refine (boxed19_any 59 (enters_of Tryz.func59 (by kernel_rfl) rfl) w B W sv hw (p 10) (hb 10 (by omega) rfl) v (fm10 W.k v) (fun x w' e hq hg => ?_)).mono ?_
    · subst e; have hx := fits_of hv; exact does10 w' B W sv (hw.kept hg) x hx hk (by rw [hhas rfl] at hq; cases hz : W.k <;> simp_all [vB])
    · rintro e w' ⟨rfl, hg⟩; exact ⟨by rw [hc]; rfl, hg⟩
  | 11, _, hr, hhas, hno =>
    obtain rfl := Option.some.inj hr
    have hc := cond_drop (v := v) (D := fm11 W.k v) (h := W.has) (k := W.k) (fun e => by subst e; exact rfl) (fun e1 e2 => by rw [e2]; exact mulO_none_r _)
    refine (boxed19_any 60 (enters_of Tryz.func60 (by kernel_rfl) rfl) w B W sv hw (p 11) (hb 11 (by omega) rfl) v (fm11 W.k v) (fun x w' e hq hg => ?_)).mono ?_
    · subst e; have hx := fits_of hv; exact does11 w' B W sv (hw.kept hg) x hx hk
    · rintro e w' ⟨rfl, hg⟩; exact ⟨by rw [hc]; rfl, hg⟩
  | 12, _, hr, hhas, hno =>
    obtain rfl := Option.some.inj hr
    have hc := cond_drop (v := v) (D := fm12 W.S.step W.k v) (h := W.has) (k := W.k) (fun e => by subst e; exact fm12_none _ _) (fun e1 e2 => by rw [e2]; exact rfl)
    refine (boxed19_any 62 (enters_of Tryz.func62 (by kernel_rfl) rfl) w B W sv hw (p 12) (hb 12 (by omega) rfl) v (fm12 W.S.step W.k v) (fun x w' e hq hg => ?_)).mono ?_
    · subst e; have hx := fits_of hv; exact does12 w' B W sv (hw.kept hg) x hx hk hs
    · rintro e w' ⟨rfl, hg⟩; exact ⟨by rw [hc]; rfl, hg⟩
  | 13, _, hr, hhas, hno =>
    obtain rfl := Option.some.inj hr
    have hc := cond_drop (v := v) (D := fm13 v) (h := W.has) (k := W.k) (fun e => by subst e; exact rfl) (fun e1 e2 => by rw [hno rfl] at e1; cases e1)
    refine (boxed19_any 63 (enters_of Tryz.func63 (by kernel_rfl) rfl) w B W sv hw (p 13) (hb 13 (by omega) rfl) v (fm13 v) (fun x w' e hq hg => ?_)).mono ?_
    · subst e; have hx := fits_of hv; exact does13 w' B x hx
    · rintro e w' ⟨rfl, hg⟩; exact ⟨by rw [hc]; rfl, hg⟩
  | 14, _, hr, hhas, hno =>
    obtain rfl := Option.some.inj hr
    have hc := cond_drop (v := v) (D := fm14 v) (h := W.has) (k := W.k) (fun e => by subst e; exact rfl) (fun e1 e2 => by rw [hno rfl] at e1; cases e1)
    refine (boxed19_any 64 (enters_of Tryz.func64 (by kernel_rfl) rfl) w B W sv hw (p 14) (hb 14 (by omega) rfl) v (fm14 v) (fun x w' e hq hg => ?_)).mono ?_
    · subst e; have hx := fits_of hv; exact does14 w' B x hx
    · rintro e w' ⟨rfl, hg⟩; exact ⟨by rw [hc]; rfl, hg⟩
  | 15, _, hr, hhas, hno =>
    obtain rfl := Option.some.inj hr
    exact does15 w B W sv hw v
  | n + 16, h, _, _, _ => exact absurd h (by omega)
end Go.Proofs.YtfomknfjidbdcaaGreatDoor
