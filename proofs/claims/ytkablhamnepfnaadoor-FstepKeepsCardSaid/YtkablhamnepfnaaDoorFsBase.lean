/-
  The walk of each: what a function says of each place, in a row. Printed by genfseach.py.
  More methods of fstep's work: whole, fills. Printed by genfswork2.py.
  The functions on places: the closures, and what each hands over. Printed by genfsclos.py.
  Plain words on what is made of places: rises, sums. Hand-written.
-/
import Derived.Test.YtkablhamnepfnaaDoorFsWork
import Derived.Test.YtkablhamnepfnaaDoorSerOwn
import Derived.Test.YtkablhamnepfnaaDoorFixAdd
import Derived.Test.YtkablhamnepfnaaDoorMulDivs
namespace Go.Proofs.YtkablhamnepfnaaDoor
open Go.RowKit
theorem range_step (V : Nat → Option Int) (j : Nat) : ((List.range (j + 1)).map fun q => vP (V q)) = ((List.range j).map fun q => vP (V q)) ++ [vP (V j)] := by
  rw [List.range_succ, List.map_append, List.map_cons, List.map_nil]
set_option maxHeartbeats 8000000 in
theorem each_any (g : FuncId) (fs cap : Array Value) (eg : ∀ args w, (callFunc g args).run Tryd.prog w = .ok (.enter g args) w) (w : World) (B : Nat) (W : FWork) (sv : Value) (hw : FAt w B W sv) (h : ERow valE w sv W.S.vals) (hl : W.S.vals.length ≤ 1000000) (V : Nat → Option Int) (row : Option Nat) (hrow : ∀ c, row = some c → c < w.heap.size ∧ c ≠ B) (I : Nat → World → Prop) (hI0 : I 0 w)
    (hIk : ∀ j w1 w2 r, I j w1 → w.grownBy w1 row → w1.grownBy w2 r → (∀ c, r = some c → w.heap.size ≤ c) → I j w2)
    (hcall : ∀ (j : Nat) (wj : World), j < W.S.vals.length → w.grownBy wj row → I j wj → Calls Tryd.prog g (fs.push (.int .i64 (j : Int)) ++ cap) wj fun e w2 => e = .returned (valV (V j)) ∧ wj.grownBy w2 row ∧ I (j + 1) w2) :
    Calls Tryd.prog 33 #[.pointer (some ⟨B, 0, none⟩), .func (.func g) fs cap] w fun e w2 => ∃ u, e = .returned u ∧ EOwn valE 28 w2 w.heap.size u ((List.range W.S.vals.length).map fun q => vP (V q)) ∧ w.grownBy w2 row ∧ I W.S.vals.length w2 := by
  have HC := Lib.hid hcall; clear hcall
  have HIk := Lib.hid hIk; clear hIk
  have HR := Lib.hid hrow; clear hrow
  have hwl := (hw.hx).lt
  replace hw := hw.hx
  obtain ⟨A, c, rfl, -, -, -⟩ := h
  have hBr : some B ≠ row := fun e => (HR.out B e.symm).2 rfl
  have hw_0 := hw.cell 0; have hw_f0 := hw.free 0; have hw_1 := hw.cell 1; have hw_f1 := hw.free 1; have hw_2 := hw.cell 2; have hw_f2 := hw.free 2; have hw_3 := hw.cell 3; have hw_f3 := hw.free 3; have hw_4 := hw.cell 4; have hw_f4 := hw.free 4; have hw_5 := hw.cell 5; have hw_f5 := hw.free 5; have hw_6 := hw.cell 6; have hw_f6 := hw.free 6; have hw_7 := hw.cell 7; have hw_f7 := hw.free 7; have hw_l := hw.lt
  go_enter Tryd.func33, Tryd.ntmps33
  go_wp2_with fail
  go_loopw [5, 6, 13] (fun lv _ iv wr => ∃ (j : Nat) (ts : List (Bool × Int)), iv = .int .i64 (j : Int) ∧ j ≤ W.S.vals.length ∧ w.grownBy wr row ∧ I j wr ∧ Hid (ts = ((List.range j).map fun q => vP (V q))) ∧ EOwn valE 28 wr w.heap.size lv ts) (fun _ _ iv _ => W.S.vals.length - (intOf iv).toNat)
  case atStart => exact ⟨0, [], rfl, by omega, G.refl w row, hI0, Lib.hid rfl, EOwn.nil _ _ _ _⟩
  case round =>
    obtain ⟨j, ts, rfl, hj, HG, hI, HT, HO⟩ := hrel
    obtain ⟨ua, un, uc, rfl⟩ : ∃ a n c, u5 = .slice a n c := by rcases HO.form with ⟨e, _⟩ | ⟨_, _, e, _⟩ <;> exact ⟨_, _, _, e⟩
    by_cases hlt : j < W.S.vals.length
    · have hc := HC.out j _ hlt HG hI
      rw [valV_form] at hc
      have HT2 : Hid (ts ++ [vP (V j)] = ((List.range (j + 1)).map fun q => vP (V q))) := Lib.hid (by rw [HT.out]; exact (range_step V j).symm)
      have htl : ts.length = j := by rw [HT.out]; simp
      clear HT
      have hDv : vP (V j) = (vB (V j), vN (V j)) := rfl
      rw [hDv] at HT2
      generalize vB (V j) = db at *
      generalize vN (V j) = dn at *
      clear hDv
      go_wp2_with (first | (go_at_fn g; (with_reducible refine hc.mono ?_); rintro e wn ⟨rfl, hgn, hI2⟩) | (at_builtin; refine stop_own ?_))
      unfold StopO
      have hgc := G.trans HG hgn
      have HO2 := HO.kept hgn (by
        cases hob : (Value.slice ua un uc).ownBlock with
        | none => exact Or.inl rfl
        | some q => exact Or.inr (fun e => by have h1 := (HO.lt q hob).1; have h2 := (HR.out q e.symm).1; omega))
      have hsz := hgc.size
      refine wpList_append_el valE rfl _ _ 24 28 rfl Tryd.underlying24 info_val w.heap.size (.slice ua un uc) ts rfl _ (db, dn) 28 rfl ?_ ⟨EOwn.alloc HO2 _, Hx.new' (by simp) rfl, Nat.le_trans hsz (by simp), by omega⟩
      intro g2 cap2 wa hown hgrow
      have hga := G.trans' (G.alloc hgc _) hgrow (fun c e => Or.inl (HO.lt c e).1)
      have hI3 := HIk.out (j + 1) _ _ _ (HIk.out (j + 1) wn _ none hI2 hgc (World.grownBy_alloc wn _ none) (fun c e => by cases e)) (G.alloc hgc _) hgrow (fun c e => (HO.lt c e).1)
      clear hgrow HO HO2 hc
      go_wp2_with fail
      refine ⟨?_, by first | (simp [intOf]; done) | (simp [intOf]; omega)⟩
      exact ⟨j + 1, ts ++ [(db, dn)], by go_num, by omega, hga, hI3, HT2, by first | exact hown | (rw [htl] at hown; exact hown)⟩
    · obtain rfl : j = W.S.vals.length := by omega
      have hrow2 := HO
      rw [HT.out] at hrow2
      go_wp2_with fail
      go_ret
      exact ⟨_, rfl, hrow2, HG, hI⟩
end Go.Proofs.YtkablhamnepfnaaDoor
namespace Go.Proofs.YtkablhamnepfnaaDoor
open Go.RowKit
set_option maxHeartbeats 8000000 in
theorem fwhole_any (w : World) (B : Nat) (W : FWork) (sv : Value) (hw : FAt w B W sv) (hf : Fits W.k) : Calls Tryd.prog 38 #[.pointer (some ⟨B, 0, none⟩)] w fun e w' => e = .returned (.tuple #[.int .i64 (wholeT W.k), .bool (wholeB W.k)]) ∧ w.grownBy w' none := by
  replace hw := hw.hx
  have hw_0 := hw.cell 0; have hw_f0 := hw.free 0; have hw_1 := hw.cell 1; have hw_f1 := hw.free 1; have hw_2 := hw.cell 2; have hw_f2 := hw.free 2; have hw_3 := hw.cell 3; have hw_f3 := hw.free 3; have hw_4 := hw.cell 4; have hw_f4 := hw.free 4; have hw_5 := hw.cell 5; have hw_f5 := hw.free 5; have hw_6 := hw.cell 6; have hw_f6 := hw.free 6; have hw_7 := hw.cell 7; have hw_f7 := hw.free 7; have hw_l := hw.lt
  have hT := Lib.hid (show wholeT W.k = (vN W.k).tdiv 1000000 from rfl)
  have hB := Lib.hid (show wholeB W.k = (vB W.k && decide ((vN W.k).tmod 1000000 = 0)) from rfl)
  rw [hT.out, hB.out]
  have hb : -4611686018427387904 ≤ vN W.k ∧ vN W.k ≤ 4611686018427387904 := by
    cases hk : W.k with
    | none => simp [vN]
    | some z => rw [hk] at hf; exact hf z rfl
  clear hT hB hf
  generalize vN W.k = z at *
  generalize vB W.k = b at *
  have hwr : IntKind.i64.wrap (z.tdiv 1000000) = z.tdiv 1000000 := by
    rw [IntKind.wrap_i64]
    rcases Int.le_total 0 z with g | g
    · have h1 := Int.tdiv_nonneg g (show (0 : Int) ≤ 1000000 by omega)
      have h2 := Int.tdiv_le_self 1000000 g
      omega
    · have h1 := Int.tdiv_nonneg (show 0 ≤ -z by omega) (show (0 : Int) ≤ 1000000 by omega)
      have h2 := Int.tdiv_le_self 1000000 (show 0 ≤ -z by omega)
      rw [Int.neg_tdiv] at h1 h2
      omega
  cases b
  · go_enter Tryd.func38, Tryd.ntmps38
    go_upto_region 1 with (fail)
    go_quiet (fail)
    go_wp2_with fail
    go_ret2
    exact ⟨by simp, (by have hb0 := (G.refl w none); (repeat first | with_reducible exact hb0 | with_reducible refine G.drewN ?_ _ | with_reducible refine G.drew ?_ | with_reducible refine G.alloc ?_ _ | with_reducible refine G.set ?_ _ (Or.inr rfl) | (with_reducible refine G.set ?_ _ (Or.inl ?_); rotate_left; focus (first | omega | (simp; done) | (simp; omega)))))⟩
  by_cases hz : z.tmod 1000000 = 0
  · go_enter Tryd.func38, Tryd.ntmps38
    go_upto_region 1 with (fail)
    go_quiet (fail)
    go_wp2_with fail
    go_ret2
    exact ⟨by simp [hz], (by have hb0 := (G.refl w none); (repeat first | with_reducible exact hb0 | with_reducible refine G.drewN ?_ _ | with_reducible refine G.drew ?_ | with_reducible refine G.alloc ?_ _ | with_reducible refine G.set ?_ _ (Or.inr rfl) | (with_reducible refine G.set ?_ _ (Or.inl ?_); rotate_left; focus (first | omega | (simp; done) | (simp; omega)))))⟩
  · go_enter Tryd.func38, Tryd.ntmps38
    go_upto_region 1 with (fail)
    go_quiet (fail)
    go_wp2_with fail
    go_ret2
    exact ⟨by simp [hz], (by have hb0 := (G.refl w none); (repeat first | with_reducible exact hb0 | with_reducible refine G.drewN ?_ _ | with_reducible refine G.drew ?_ | with_reducible refine G.alloc ?_ _ | with_reducible refine G.set ?_ _ (Or.inr rfl) | (with_reducible refine G.set ?_ _ (Or.inl ?_); rotate_left; focus (first | omega | (simp; done) | (simp; omega)))))⟩
set_option maxHeartbeats 8000000 in
theorem ffills_any (w : World) (B : Nat) (W : FWork) (sv : Value) (hw : FAt w B W sv) (hs : ∃ a n c, sv = .slice a n c) (hf : Fits W.k) (many : Int) : Calls Tryd.prog 47 #[.pointer (some ⟨B, 0, none⟩), .int .i64 many] w fun e w' => e = .returned (.bool (fillsB W.has W.k many)) ∧ w.grownBy w' none := by
  have HG := G.refl w none
  have HWh := Lib.hid (fun w2 (h : Hx w2 B [.string W.S.name, .int .i64 W.S.start, .int .i64 W.S.step, sv, .int .i64 W.S.cons, .bool (vB W.k), .int .i64 (vN W.k), .bool W.has] 44) => fwhole_any w2 B W sv h hf)
  have hfb : fillsB W.has W.k many = (!W.has || (wholeB W.k && decide (many ≤ wholeT W.k))) := by
    unfold fillsB
    rw [wholeO_eq]
    cases wholeB W.k <;> rfl
  rw [hfb]
  obtain ⟨sa, sn, sc, rfl⟩ := hs
  replace hw := hw.hx
  generalize hok : wholeB W.k = ok at *
  generalize hnn : wholeT W.k = n at *
  clear hfb hok hnn
  generalize W.has = hb at *
  by_cases hmn : many ≤ n
  all_goals (
    cases hb <;> cases ok <;> (
      have hw_0 := hw.cell 0; have hw_f0 := hw.free 0; have hw_1 := hw.cell 1; have hw_f1 := hw.free 1; have hw_2 := hw.cell 2; have hw_f2 := hw.free 2; have hw_3 := hw.cell 3; have hw_f3 := hw.free 3; have hw_4 := hw.cell 4; have hw_f4 := hw.free 4; have hw_5 := hw.cell 5; have hw_f5 := hw.free 5; have hw_6 := hw.cell 6; have hw_f6 := hw.free 6; have hw_7 := hw.cell 7; have hw_f7 := hw.free 7; have hw_l := hw.lt
      go_enter Tryd.func47, Tryd.ntmps47
      go_wp2_with (go_at_call 38; (with_reducible refine (HWh.out _ hw).mono ?_); rintro e wn ⟨rfl, hgn⟩; replace HG := G.trans (w := w) (by exact G.go HG) hgn; replace hw := Hx.kept hw hgn (by simp); have hw_0 := hw.cell 0; have hw_f0 := hw.free 0; have hw_1 := hw.cell 1; have hw_f1 := hw.free 1; have hw_2 := hw.cell 2; have hw_f2 := hw.free 2; have hw_3 := hw.cell 3; have hw_f3 := hw.free 3; have hw_4 := hw.cell 4; have hw_f4 := hw.free 4; have hw_5 := hw.cell 5; have hw_f5 := hw.free 5; have hw_6 := hw.cell 6; have hw_f6 := hw.free 6; have hw_7 := hw.cell 7; have hw_f7 := hw.free 7; have hw_l := hw.lt; clear hgn)
      go_ret
      exact ⟨by simp [hmn], (by exact G.go HG)⟩))
end Go.Proofs.YtkablhamnepfnaaDoor
namespace Go.Proofs.YtkablhamnepfnaaDoor
open Go.RowKit
theorem opts_fits (S : Ser) (i : Nat) : Fits (S.opts.getD i none) := by
  by_cases h : i < S.vals.length
  · rw [opts_at S i h]; exact vK_fits _ _
  · rw [opts_out S i (by omega)]; exact none_fits
theorem atO_fits (S : Ser) (i : Int) : Fits (atO S.opts i) := by
  unfold atO
  split
  · exact opts_fits S _
  · exact none_fits
theorem atO_nat (X : List (Option Int)) (j : Nat) : atO X (j : Int) = X.getD j none := by
  unfold atO
  rw [if_pos (by omega)]; rfl
set_option maxHeartbeats 8000000 in
set_option maxRecDepth 100000 in
theorem fderiv1_any (w : World) (B : Nat) (W : FWork) (sv : Value) (hm : FAt w B W sv) (h : ERow valE w sv W.S.vals) (hall : W.S.vals.all (fun p => isR p.1 p.2) = true) (hl : W.S.vals.length ≤ 1000000) (q : Nat) (hq : Hx w q [.pointer (some ⟨B, 0, none⟩)] 42) (j : Nat) (hj : j < W.S.vals.length) : Calls Tryd.prog 41 #[.int .i64 (j : Int), .pointer (some ⟨q, 0, none⟩)] w fun e w' => e = .returned (valV (subO (W.S.opts.getD j none) (atO W.S.opts ((j : Int) - 1)))) ∧ w.grownBy w' none := by
  have HG := G.refl w none
  have HA1 := Lib.hid (fun w2 (h1 : Hx w2 B [.string W.S.name, .int .i64 W.S.start, .int .i64 W.S.step, sv, .int .i64 W.S.cons, .bool (vB W.k), .int .i64 (vN W.k), .bool W.has] 44) h2 => fat_any w2 B W sv h1 h2 hall (j : Int) (by omega) (by omega))
  have HA2 := Lib.hid (fun w2 (h1 : Hx w2 B [.string W.S.name, .int .i64 W.S.start, .int .i64 W.S.step, sv, .int .i64 W.S.cons, .bool (vB W.k), .int .i64 (vN W.k), .bool W.has] 44) h2 => fat_any w2 B W sv h1 h2 hall ((j : Int) - 1) (by omega) (by omega))
  rw [atO_nat] at HA1
  have ha := opts_fits W.S j
  have hb := atO_fits W.S ((j : Int) - 1)
  generalize W.S.opts.getD j none = va at *
  generalize atO W.S.opts ((j : Int) - 1) = vb at *
  have HS := Lib.hid (fun w2 => sub_any w2 (vB va) (vB vb) (vN va) (vN vb))
  rw [vK_form ha, vK_form hb] at HS
  have hvv := Lib.hid (valV_form (subO va vb))
  generalize subO va vb = R at *
  rw [valV_form] at HA1 HA2 HS
  have hwr : IntKind.i64.wrap ((j : Int) - 1) = (j : Int) - 1 := by rw [IntKind.wrap_i64]; omega
  have HV := Lib.hid h
  obtain ⟨A, c, rfl, -, -, -⟩ := h
  replace hm := hm.hx
  go_enter Tryd.func41, Tryd.ntmps41
  go_upto_region 0 with (fail)
  go_cut [3] (fun r wc => r = .pointer (some ⟨w.heap.size, 0, none⟩) ∧ w.grownBy wc none ∧ Hx wc w.heap.size [.bool false, .int .i64 0] 28 ∧ Hx wc B [.string W.S.name, .int .i64 W.S.start, .int .i64 W.S.step, .slice A W.S.vals.length c, .int .i64 W.S.cons, .bool (vB W.k), .int .i64 (vN W.k), .bool W.has] 44 ∧ Hx wc q [.pointer (some ⟨B, 0, none⟩)] 42)
  case first =>
    go_wp2_with fail
    go_meet
    exact ⟨rfl, (by exact G.go HG), Hx.new _ _ _, Hx.alloc hm _, Hx.alloc hq _⟩
  obtain ⟨rfl, HG, hr, hm, hq⟩ := hcut
  have HVx := Lib.hid (HV.out.kept0 HG)
  go_upto_region 1 with (fail)
  (have hr_q0 := fun x => (Hx.inG hr x).cell 0; have hr_q1 := fun x => (Hx.inG hr x).cell 1; have hq_q0 := fun x => (Hx.inG hq x).cell 0; have hm_q0 := fun x => (Hx.inG hm x).cell 0; have hm_q1 := fun x => (Hx.inG hm x).cell 1; have hm_q2 := fun x => (Hx.inG hm x).cell 2; have hm_q3 := fun x => (Hx.inG hm x).cell 3; have hm_q4 := fun x => (Hx.inG hm x).cell 4; have hm_q5 := fun x => (Hx.inG hm x).cell 5; have hm_q6 := fun x => (Hx.inG hm x).cell 6; have hm_q7 := fun x => (Hx.inG hm x).cell 7; have xq_ := HG; refine wp_region_last (G.refl _ none) (by kernel_rfl) (by kernel_rfl) (by kernel_rfl) ?_; simp only [mapLast, lastOf, idle]; (repeat (refine wpQuiet_step (fun K hK => ?_); go_simp; first | (refine hK _ ?_; clear hK K) | (apply Exists.intro; refine ⟨fun xq => ?_, hK _ ?_⟩; (focus (first | (go_at_call 40; first | (have h0 := HA1.out xq.1 (Hx.inG hm xq) (HVx.out.kept0 xq.2); with_reducible exact grow_of h0) | (have h0 := HA2.out xq.1 (Hx.inG hm xq) (HVx.out.kept0 xq.2); with_reducible exact grow_of h0)) | (go_at_call 42; have h0 := HS.out xq.1; with_reducible exact grow_of h0))); clear hK K))); refine wpQuiet_nil ?_; intro wn hgn; replace HG := G.trans (w := w) HG hgn; clear hr_q0 hr_q1; replace hr := Hx.kept hr hgn (by simp); have hr_0 := hr.cell 0; have hr_1 := hr.cell 1; have hr_2 := hr.free 0; have hr_3 := hr.free 1; have hr_4 := hr.lt; clear hq_q0; replace hq := Hx.kept hq hgn (by simp); have hq_0 := hq.cell 0; have hq_f0 := hq.free 0; have hq_l := hq.lt; clear hm_q0 hm_q1 hm_q2 hm_q3 hm_q4 hm_q5 hm_q6 hm_q7; replace hm := Hx.kept hm hgn (by simp); have hm_0 := hm.cell 0; have hm_1 := hm.cell 1; have hm_2 := hm.cell 2; have hm_3 := hm.cell 3; have hm_4 := hm.cell 4; have hm_5 := hm.cell 5; have hm_6 := hm.cell 6; have hm_7 := hm.cell 7; have hm_f0 := hm.free 0; have hm_f1 := hm.free 1; have hm_f2 := hm.free 2; have hm_f3 := hm.free 3; have hm_f4 := hm.free 4; have hm_f5 := hm.free 5; have hm_f6 := hm.free 6; have hm_f7 := hm.free 7; have hm_l := hm.lt; clear hgn xq_)
  have hr_0 := hr.cell 0; have hr_f0 := hr.free 0; have hr_1 := hr.cell 1; have hr_f1 := hr.free 1; have hr_l := hr.lt
  go_wp2_with fail
  refine ret_cell [.bool (vB R), .int .i64 (vN R)] w.heap.size 28 rfl rfl (Tryd.isAgg28 _) (Tryd.sizeOf28 _) rfl ?_ ⟨by rw [hvv.out], (by exact G.go HG)⟩
  exact (by first | exact Hx.go hr | exact Hx.go2)
theorem push_one (x y : Value) : ((#[] : Array Value).push x ++ #[y]) = #[x, y] := by simp
def FsRow (i : Nat) (W : FWork) (w : World) (e : Ending) (w' : World) : Prop := ∃ u, e = .returned u ∧ EOwn valE 28 w' w.heap.size u ((List.range W.S.vals.length).map fun j => vP (fsV i W.S.step W.has W.k W.S.opts j)) ∧ w.grownBy w' none
set_option maxHeartbeats 8000000 in
set_option maxRecDepth 100000 in
theorem fderiv_any (w : World) (B : Nat) (W : FWork) (sv : Value) (hm : FAt w B W sv) (h : ERow valE w sv W.S.vals) (hall : W.S.vals.all (fun p => isR p.1 p.2) = true) (hl : W.S.vals.length ≤ 1000000) : Calls Tryd.prog 21 #[.pointer (some ⟨B, 0, none⟩)] w fun e w' => FsRow 2 W w e w' := by
  have HG := G.refl w none
  have HV := Lib.hid h
  have HE := Lib.hid (fun w2 q (h1 : Hx w2 B [.string W.S.name, .int .i64 W.S.start, .int .i64 W.S.step, sv, .int .i64 W.S.cons, .bool (vB W.k), .int .i64 (vN W.k), .bool W.has] 44) h2 (hq : Hx w2 q [.pointer (some ⟨B, 0, none⟩)] 42) => each_any 41 #[] #[.pointer (some ⟨q, 0, none⟩)] (enters_of Tryd.func41 (by kernel_rfl) rfl) w2 B W sv h1 h2 hl (fun j => fsV 2 W.S.step W.has W.k W.S.opts j) none (fun c e => by cases e) (fun _ _ => True) trivial (fun _ _ _ _ _ _ _ _ => trivial) (fun j wj hj hg _ => by rw [push_one]; exact (fderiv1_any wj B W sv (FAt.kept h1 hg (by simp)) (h2.kept0 hg) hall hl q (Hx.kept hq hg (by simp)) j hj).mono fun e w3 hh => ⟨hh.1, hh.2, trivial⟩))
  obtain ⟨A, c, rfl, -, -, -⟩ := h
  replace hm := hm.hx
  go_enter Tryd.func21, Tryd.ntmps21
  go_upto_region 0 with (fail)
  go_cut [1, 2] (fun p r wc => p = .pointer (some ⟨w.heap.size, 0, none⟩) ∧ r = .slice none 0 0 ∧ w.grownBy wc none ∧ Hx wc B [.string W.S.name, .int .i64 W.S.start, .int .i64 W.S.step, .slice A W.S.vals.length c, .int .i64 W.S.cons, .bool (vB W.k), .int .i64 (vN W.k), .bool W.has] 44 ∧ Hx wc w.heap.size [.pointer (some ⟨B, 0, none⟩)] 42)
  case first =>
    go_wp2_with fail
    go_meet
    exact ⟨rfl, rfl, (by exact G.go HG), Hx.alloc hm _, Hx.new _ _ _⟩
  obtain ⟨rfl, rfl, HG, hm, hq⟩ := hcut
  have hq_0 := hq.cell 0; have hq_l := hq.lt
  have hsz0 := HG.size
  go_wp2_with (go_at_call 33; (with_reducible refine (HE.out _ _ hm (HV.out.kept0 HG) hq).mono ?_); rintro e wn ⟨u, rfl, hu, hgn, -⟩; replace HG := G.trans (w := w) (by exact G.go HG) hgn; clear hgn)
  go_ret
  exact ⟨u, rfl, EOwn.mono hu hsz0, HG⟩
end Go.Proofs.YtkablhamnepfnaaDoor
namespace Go.Proofs.YtkablhamnepfnaaDoor
open Go.RowKit
theorem rise_hit {x y d : Int} {k : Option Int} (h : subO (some x) (some y) = some d) (hd : 0 ≤ d) : riseO (some x) (some y) k = some d := by
  unfold riseO
  simp only []
  rw [h]
  simp only [if_pos hd]
theorem sub_low {x y d : Int} (h : subO (some x) (some y) = some d) : d = x - y := by
  have h : ofR (x - y) = some d := h
  unfold ofR at h
  split at h
  · exact (Option.some.inj h).symm
  · cases h
theorem rise_up {x y : Int} {k : Option Int} (h : x < y) : riseO (some x) (some y) k = (match k with | some m => if x ≤ m then sum3 (subO (some m) (some y)) (some x) (some 1000000) else none | none => none) := by
  unfold riseO
  simp only []
  cases hs : subO (some x) (some y) with
  | none => cases k <;> rfl
  | some d =>
    have := sub_low hs
    simp only [if_neg (show ¬ 0 ≤ d by omega)]
    cases k <;> rfl
theorem add3_fit (p q r : Option Int) (hp : Fits p) (hq : Fits q) (hr : Fits r) : addO [(vB p, vN p), (vB q, vN q), (vB r, vN r)] = sum3 p q r := by
  show sumO (sumO (sumO (some 0) (vK (vB p) (vN p))) (vK (vB q) (vN q))) (vK (vB r) (vN r)) = _
  rw [vK_form hp, vK_form hq, vK_form hr]
  rfl
theorem add2_fit (p q : Option Int) (hp : Fits p) (hq : Fits q) : addO [(vB p, vN p), (vB q, vN q)] = sumO (sumO (some 0) p) q := by
  show sumO (sumO (some 0) (vK (vB p) (vN p))) (vK (vB q) (vN q)) = _
  rw [vK_form hp, vK_form hq]
theorem sumTo_fits (X : List (Option Int)) : ∀ j, Fits (sumTo X j)
  | 0 => fits_some (by omega)
  | j + 1 => by
    unfold sumTo
    split
    · exact sumTo_fits X j
    · exact sumO_fits _ _
theorem sumTo_none {X : List (Option Int)} {j : Nat} (h : X.getD j none = none) : sumTo X (j + 1) = sumTo X j := by
  show (match X.getD j none with | none => sumTo X j | some v => sumO (sumO (some 0) (sumTo X j)) (some v)) = _
  rw [h]
theorem sumTo_some {X : List (Option Int)} {j : Nat} {v : Int} (h : X.getD j none = some v) : sumTo X (j + 1) = sumO (sumO (some 0) (sumTo X j)) (some v) := by
  show (match X.getD j none with | none => sumTo X j | some v => sumO (sumO (some 0) (sumTo X j)) (some v)) = _
  rw [h]
theorem rowCells {S : Ser} (hall : S.vals.all (fun p => isR p.1 p.2) = true) {w wr : World} {b o m : Nat} (h : ∀ i (hi : i < S.vals.length) j u, (valE.cells S.vals[i])[j]? = some u → w.cell? ⟨b, o + i * valE.k + j, none⟩ = some u) (hg : w.grownBy wr none) (hb : b < w.heap.size) (hm : m < S.vals.length) : wr.cell? ⟨b, o + m * 2, none⟩ = some (.bool (vB (S.opts.getD m none))) ∧ wr.cell? ⟨b, o + m * 2 + 1, none⟩ = some (.int .i64 (vN (S.opts.getD m none))) := by
  obtain ⟨e0, e1⟩ := opts_pair hall m hm
  have := valCells h hg hb hm
  rwa [e0, e1] at this
theorem opts_lt {S : Ser} {m : Nat} {x : Int} (h : S.opts.getD m none = some x) : m < S.vals.length := by
  rcases Nat.lt_or_ge m S.vals.length with g | g
  · exact g
  · rw [opts_out S m g] at h; cases h
/-- a quiet region in the class of grown worlds, with facts on cells -/
theorem inGc {w0 w : World} {a : Addr} {u : Value} (h : ∀ wr, w0.grownBy wr none → wr.cell? a = some u) (hg : w0.grownBy w none) (x : GrowW w) : x.1.cell? a = some u := h _ (G.trans hg x.2)
theorem wholeT_range {k : Option Int} (hf : Fits k) : -4611686018427387904 ≤ wholeT k ∧ wholeT k ≤ 4611686018427387904 := by
  have := wholeT_le hf
  omega
end Go.Proofs.YtkablhamnepfnaaDoor
