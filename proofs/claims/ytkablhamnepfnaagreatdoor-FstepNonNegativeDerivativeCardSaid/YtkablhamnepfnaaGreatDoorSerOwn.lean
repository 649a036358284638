/-
  A row laid behind an own one at once; the walks of the reference's Own and Same. Printed by genserown.py.
-/
import Derived.Test.YtkablhamnepfnaaGreatDoorSerIs
import Derived.Laws.StructEq
import Derived.Laws.AppendOwnNone
import Derived.BigQuiet
namespace Go.Proofs.YtkablhamnepfnaaGreatDoor
open Go.RowKit
theorem run_append_nothing {P : Program} {w : World} (base : Nat) (t ty e : TypeId) (i : TypeInfo) (size : Nat) (ht : P.underlying t = some (.slice e)) (hi : P.info? e = some i)
    (v : Value) (n : Nat) (xs : List Value) (hown : w.ownsRow base e size v n xs) (A : Option Addr) (c : Nat) :
    (Builtin.append_ #[t, t] ty #[v, .slice A 0 c]).run P w = .ok v w := by
  rcases hown.2 with ⟨rfl, rfl⟩ | ⟨g, cap, cur, rfl, _, _, hnc, _⟩
  · cases A <;> simp [Builtin.append_, run_underlying ht, sizeOf, typeInfo, hi, Builtin.lenOf, Builtin.firstCells, loadCells, loadCellsFrom, Result.andThen]
  · cases A <;> simp [Builtin.append_, run_underlying ht, sizeOf, typeInfo, hi, Builtin.lenOf, Builtin.firstCells, hnc, storeCells, loadCells, loadCellsFrom, Result.andThen]
/-- a whole row behind one that the call owns -/
theorem wpList_append_row {P : Program} {ops : Array Oper} {rest : List Oper} {o : Oper} {a : Act} {Q : Exit → Act → World → Prop} {w : World} {α : Type} (L : Elt α) (hgd : o.guard = none) (s x : Operand) (t E : TypeId)
    (ho : o.op = .call { callee := .builtin .append, args := #[s, x], argTypes := #[t, t] }) (ht : P.underlying t = some (.slice E)) (hE : (P.info? E).map (fun i => (i.zero, i.size, i.bytes)) = some (some L.zero, L.k, L.bytes))
    (base : Nat) (v : Value) (ts : List α) (hs : a.eval s = v) (u : Value) (us : List α) (hx : a.eval x = u)
    (h : ∀ v' w', EOwn L E w' base v' (ts ++ us) → w.grownBy w' v.ownBlock → wpList P ops Q rest (a.put o.dst v') w')
    (hside : EOwn L E w base v ts ∧ ERow L w u us ∧ base ≤ w.heap.size ∧ ts.length + us.length ≤ 10000000) : wpList P ops Q (o :: rest) a w := by
  obtain ⟨i0, hi, hz0, hz1, hz2⟩ := info_parts hE
  obtain ⟨h1, h2, h3, h4⟩ := hside
  obtain ⟨A, c, rfl, hc1, hc2, hcell⟩ := h2
  by_cases h0 : us.length = 0
  · obtain rfl : us = [] := List.eq_nil_of_length_eq_zero h0
    refine wpList_plain hgd fun K hK => ?_
    have hrun := run_append_nothing (P := P) (w := w) base t o.type E i0 L.k ht hi v ts.length (ts.flatMap L.cells) h1.own A c
    unfold Oper.wp execOp
    simp only [ho, resolve, invoke, builtin, Sem.run_bind, Sem.run_pure, Result.andThen_ok, List.map_toArray, List.map_cons, List.map_nil, hs, hx, List.length_nil, hrun]
    exact hK _ _ (h v w (by rw [List.append_nil]; exact h1) (G.refl _ _))
  obtain ⟨b, o2, rfl, hb, hcc⟩ := hcell (by omega)
  refine wpList_append_own w hgd s x t ho base E i0 L.zero L.k L.bytes ht hi hz0 hz1 hz2 L.zc L.pos v ts.length (ts.flatMap L.cells) hs h1.own ⟨b, o2, none⟩ us.length c (us.flatMap L.cells) hx (L.flat_len us) ?_ (L.flat_one us) ?_ ?_ h3 ?_
  · intro j y hu
    have hadd : (⟨b, o2, none⟩ : Addr).add j = ⟨b, o2 + j, none⟩ := by unfold Addr.add; split <;> simp_all
    rw [hadd]
    have hj : j < us.length * L.k := by rw [← L.flat_len]; exact (List.getElem?_eq_some_iff.1 hu).1
    have hp := L.pos
    have hi2 : j / L.k < us.length := (Nat.div_lt_iff_lt_mul hp).2 hj
    have hm : j % L.k < L.k := Nat.mod_lt _ hp
    have hdm : j / L.k * L.k + j % L.k = j := Nat.div_add_mod' j L.k
    have hm2 : j % L.k < (L.cells us[j / L.k]).length := by rw [L.len]; exact hm
    have e1 := L.flat_at us (j / L.k) hi2 (j % L.k) _ (List.getElem?_eq_getElem hm2)
    rw [hdm, hu] at e1
    have e2 := hcc (j / L.k) hi2 (j % L.k) _ (List.getElem?_eq_getElem hm2)
    rw [Nat.add_assoc, hdm] at e2
    rw [e2, e1]
  · unfold maxLen; omega
  · have := L.small
    have h5 : (ts.length + us.length) * L.bytes ≤ 10000000 * 200 := Nat.mul_le_mul (by omega) this
    omega
  · intro v' w' hown hg _
    refine h v' w' ?_ hg
    unfold EOwn
    rw [List.length_append, List.flatMap_append]
    exact hown
/-- where a walk is to stand still -/
def StopO (p : Prop) : Prop := p
theorem stop_own {p : Prop} (h : StopO p) : p := h
/-- a series handed back -/
def SerRet (S : Ser) (w : World) (e : Ending) (w' : World) : Prop := ∃ u, e = .returned (.agg #[.string S.name, .int .i64 S.start, .int .i64 S.step, u, .int .i64 S.cons]) ∧ ERow valE w' u S.vals ∧ w.grownBy w' none
set_option maxHeartbeats 4000000 in
theorem own18_any (S : Ser) (sv : Value) (w : World) (h : ERow valE w sv S.vals) (h3 : S.vals.length ≤ 1000000) : Calls Tryz.prog 17 #[.agg #[.string S.name, .int .i64 S.start, .int .i64 S.step, sv, .int .i64 S.cons]] w fun e w' => SerRet S w e w' := by
  have HV := Lib.hid h
  have HG := G.refl w none
  obtain ⟨A, c, rfl, q1, q2, q3⟩ := h
  clear q3
  go_enter Tryz.func17, Tryz.ntmps17
  go_upto_region 0 with (fail)
  go_cut [1, 2] (fun p1 p2 wc => p1 = .pointer (some ⟨w.heap.size, 0, none⟩) ∧ p2 = .pointer (some ⟨(w.heap.size + 1), 0, none⟩) ∧ w.grownBy wc none ∧ Hx wc w.heap.size [.string S.name, .int .i64 S.start, .int .i64 S.step, .slice A S.vals.length c, .int .i64 S.cons] 24 ∧ Hx wc (w.heap.size + 1) [.string ⟨#[]⟩, .int .i64 0, .int .i64 0, .slice none 0 0, .int .i64 0] 24)
  case first =>
    go_wp2_with fail
    go_meet
    exact ⟨rfl, rfl, (by exact G.go HG), Hx.alloc (Hx.new _ _ _) _, Hx.new' (by simp) rfl⟩
  obtain ⟨rfl, rfl, HG, hs, hr⟩ := hcut
  rename World => wx
  have hs_0 := hs.cell 0; have hs_f0 := hs.free 0; have hs_1 := hs.cell 1; have hs_f1 := hs.free 1; have hs_2 := hs.cell 2; have hs_f2 := hs.free 2; have hs_3 := hs.cell 3; have hs_f3 := hs.free 3; have hs_4 := hs.cell 4; have hs_f4 := hs.free 4; have hs_l := hs.lt
  go_wp2_with (at_builtin; refine stop_own ?_)
  unfold StopO
  have HO : EOwn valE 28 (wx.alloc (.cells #[] 28)) wx.heap.size (.slice (some ⟨wx.heap.size, 0, none⟩) 0 0) [] := World.ownsRow_made wx #[] 0 (Nat.le_refl _) (by decide) rfl
  have hsz := HG.size
  have hrl := hr.lt
  refine wpList_append_row valE rfl _ _ 22 28 rfl Tryz.underlying22 info_val wx.heap.size _ [] rfl _ S.vals rfl ?_ ⟨HO, HV.out.kept0 (G.alloc HG _), by simp, by simp; omega⟩
  intro v2 wa hown hgrow
  rw [List.nil_append] at hown
  have HGa := G.trans' (row := none) (G.alloc HG (.cells #[] 28)) hgrow (fun c e => Or.inl (by have := Option.some.inj e; simp only at this; omega))
  replace hs := Hx.kept (Hx.alloc hs _) hgrow (fun e => by have := Option.some.inj e; simp only at this; omega)
  replace hr := Hx.kept (Hx.alloc hr _) hgrow (fun e => by have := Option.some.inj e; simp only at this; omega)
  obtain ⟨ua, un, uc, rfl⟩ : ∃ a n c, v2 = .slice a n c := by rcases hown.form with ⟨e, _⟩ | ⟨_, _, e, _⟩ <;> exact ⟨_, _, _, e⟩
  have hno : (Value.slice ua un uc).ownBlock ≠ some w.heap.size := fun e => by have := (hown.lt _ e).1; omega
  have hno2 : (Value.slice ua un uc).ownBlock ≠ some (w.heap.size + 1) := fun e => by have := (hown.lt _ e).1; omega
  clear HG HO
  have hs_0 := hs.cell 0; have hs_f0 := hs.free 0; have hs_1 := hs.cell 1; have hs_f1 := hs.free 1; have hs_2 := hs.cell 2; have hs_f2 := hs.free 2; have hs_3 := hs.cell 3; have hs_f3 := hs.free 3; have hs_4 := hs.cell 4; have hs_f4 := hs.free 4; have hs_l := hs.lt
  have hr_0 := hr.cell 0; have hr_f0 := hr.free 0; have hr_1 := hr.cell 1; have hr_f1 := hr.free 1; have hr_2 := hr.cell 2; have hr_f2 := hr.free 2; have hr_3 := hr.cell 3; have hr_f3 := hr.free 3; have hr_4 := hr.cell 4; have hr_f4 := hr.free 4; have hr_l := hr.lt
  go_wp2_with fail
  refine ret_cell [.string S.name, .int .i64 S.start, .int .i64 S.step, .slice ua un uc, .int .i64 S.cons] (w.heap.size + 1) 24 rfl rfl (Tryz.isAgg24 _) (Tryz.sizeOf24 _) rfl ?_ ⟨_, rfl, EOwn.row (E := 28) (base := wx.heap.size) (by have hb0 := (hown); (repeat first | with_reducible exact hb0 | with_reducible apply EOwn.drewN | with_reducible apply EOwn.drew | with_reducible apply EOwn.alloc | (with_reducible apply EOwn.set; (case hne => (first | assumption | omega | (simp; done) | (simp; omega)))))), (by exact G.go HGa)⟩
  exact (by first | exact Hx.go hr | exact Hx.go2)
set_option maxHeartbeats 8000000 in
set_option maxRecDepth 100000 in
theorem same18_any (S : Ser) (sv su : Value) (w : World) (h : ERow valE w sv S.vals) (h2 : ERow valE w su S.vals) : Calls Tryz.prog 32 #[.agg #[.string S.name, .int .i64 S.start, .int .i64 S.step, sv, .int .i64 S.cons], .agg #[.string S.name, .int .i64 S.start, .int .i64 S.step, su, .int .i64 S.cons]] w fun e w' => e = .returned (.bool true) ∧ w.grownBy w' none := by
  have hle := h.le
  unfold maxLen at hle
  have HG := G.refl w none
  obtain ⟨A, c, rfl, q1, q2, q3⟩ := h
  have Q3 := Lib.hid q3; clear q3
  obtain ⟨A2, c2, rfl, r1, r2, r3⟩ := h2
  have R3 := Lib.hid r3; clear r3
  go_enter Tryz.func32, Tryz.ntmps32
  go_upto_region 0 with (fail)
  go_cut [2, 3, 4] (fun p2 p3 p4 wc => p2 = .pointer (some ⟨w.heap.size, 0, none⟩) ∧ p3 = .pointer (some ⟨(w.heap.size + 1), 0, none⟩) ∧ p4 = .bool false ∧ w.grownBy wc none ∧ Hx wc w.heap.size [.string S.name, .int .i64 S.start, .int .i64 S.step, .slice A S.vals.length c, .int .i64 S.cons] 24 ∧ Hx wc (w.heap.size + 1) [.string S.name, .int .i64 S.start, .int .i64 S.step, .slice A2 S.vals.length c2, .int .i64 S.cons] 24)
  case first =>
    go_wp2_with fail
    go_meet
    exact ⟨rfl, rfl, rfl, (by exact G.go HG), Hx.alloc (Hx.new _ _ _) _, Hx.new' (by simp) rfl⟩
  obtain ⟨rfl, rfl, rfl, HG, ha, hb⟩ := hcut
  rename World => wx
  have ha_0 := ha.cell 0; have ha_f0 := ha.free 0; have ha_1 := ha.cell 1; have ha_f1 := ha.free 1; have ha_2 := ha.cell 2; have ha_f2 := ha.free 2; have ha_3 := ha.cell 3; have ha_f3 := ha.free 3; have ha_4 := ha.cell 4; have ha_f4 := ha.free 4; have ha_l := ha.lt
  have hb_0 := hb.cell 0; have hb_f0 := hb.free 0; have hb_1 := hb.cell 1; have hb_f1 := hb.free 1; have hb_2 := hb.cell 2; have hb_f2 := hb.free 2; have hb_3 := hb.cell 3; have hb_f3 := hb.free 3; have hb_4 := hb.cell 4; have hb_f4 := hb.free 4; have hb_l := hb.lt
  go_wp2_with fail
  go_loopw [5] (fun iv wr => ∃ (j : Nat), iv = .int .i64 j ∧ j ≤ S.vals.length ∧ wx.grownBy wr none) (fun iv _ => S.vals.length - (intOf iv).toNat)
  case atStart => exact ⟨0, rfl, by omega, (by have hb0 := (G.refl wx none); (repeat first | with_reducible exact hb0 | with_reducible refine G.drewN ?_ _ | with_reducible refine G.drew ?_ | with_reducible refine G.alloc ?_ _ | with_reducible refine G.set ?_ _ (Or.inr rfl) | (with_reducible refine G.set ?_ _ (Or.inl ?_); rotate_left; focus (first | omega | (simp; done) | (simp; omega)))))⟩
  case round =>
    clear ha_0 ha_f0 hb_0 hb_f0 ha_1 ha_f1 hb_1 hb_f1 ha_2 ha_f2 hb_2 hb_f2 ha_3 ha_f3 hb_3 hb_f3 ha_4 ha_f4 hb_4 hb_f4 ha_l hb_l
    obtain ⟨j, rfl, hj, hgx⟩ := hrel
    replace ha := Hx.kept ha hgx (by simp)
    replace hb := Hx.kept hb hgx (by simp)
    have ha_3 := ha.cell 3; have hb_3 := hb.cell 3; have ha_l := ha.lt; have hb_l := hb.lt
    have HG2 := G.trans HG hgx
    by_cases hlt : j < S.vals.length
    · obtain ⟨b1, o1, rfl, hb1, hc1⟩ := Q3.out (by omega)
      obtain ⟨x0, x1⟩ := valCells hc1 HG2 hb1 hlt
      obtain ⟨b2, o2, rfl, hb2, hc2⟩ := R3.out (by omega)
      obtain ⟨y0, y1⟩ := valCells hc2 HG2 hb2 hlt
      clear hc1 hc2
      generalize S.vals[j].1 = vb at *
      generalize S.vals[j].2 = vn at *
      go_wp2_with fail
      go_quiet (fail)
      go_wp2_with fail
      refine ⟨?_, by first | (simp [intOf]; done) | (simp [intOf]; omega)⟩
      exact ⟨j + 1, by go_num, by omega, (by exact G.go hgx)⟩
    · go_wp2_with fail
      go_ret
      exact ⟨rfl, (by exact G.go HG2)⟩
end Go.Proofs.YtkablhamnepfnaaGreatDoor
