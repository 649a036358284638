/-
  The walk of the reference's sum of a row of values.
-/
import Derived.Test.YtkablhamnepfnaaGreatDoorFixAdd
namespace Go.Proofs.YtkablhamnepfnaaGreatDoor
open Go.RowKit
set_option maxHeartbeats 8000000 in
set_option maxRecDepth 100000 in
theorem add1_any (X : List (Bool × Int)) (v : Value) (w : World) (h : ERow valE w v X) (hl : X.length ≤ 1000000) : Calls Tryz.prog 55 #[v] w fun e w' => e = .returned (valV (addO X)) ∧ w.grownBy w' none := by
  obtain ⟨V, hV⟩ : ∃ V, Hid (addO X = V) := ⟨_, Lib.hid rfl⟩
  rw [hV.out]
  have HG := G.refl w none
  obtain ⟨A, c, rfl, q1, q2, q3⟩ := h
  have Q3 := Lib.hid q3; clear q3
  have HO := Lib.hid (fun w => refOf_any w 0)
  rw [show ofR 0 = some 0 from if_pos (by omega)] at HO
  simp only [valV, valC] at HO
  go_enter Tryz.func55, Tryz.ntmps55
  go_upto_region 0 with (fail)
  go_cut [2] (fun r wc => r = .pointer (some ⟨w.heap.size, 0, none⟩) ∧ w.grownBy wc none ∧ Hx wc w.heap.size [.bool false, .int .i64 0] 28)
  case first =>
    go_wp2_with fail
    go_meet
    exact ⟨rfl, (by exact G.go HG), Hx.new _ _ _⟩
  obtain ⟨rfl, HG, hr⟩ := hcut
  go_upto_region 1 with (fail)
  go_cut [3] (fun p wd => ∃ B, p = .pointer (some ⟨B, 0, none⟩) ∧ w.heap.size < B ∧ w.grownBy wd none ∧ Hx wd w.heap.size [.bool false, .int .i64 0] 28 ∧ Hx wd B [.bool true, .int .i64 0] 28)
  case first =>
    go_wp2_with (go_at_call 54; refine (HO.out _).mono ?_; rintro e wn ⟨rfl, hgn⟩; have hlt := hr.lt; have hsz := hgn.size; replace hr := Hx.kept hr hgn (by simp); replace HG := G.trans HG hgn; clear hgn)
    go_meet
    exact ⟨_, rfl, by omega, (by exact G.go HG), Hx.alloc hr _, Hx.new _ _ _⟩
  obtain ⟨B, rfl, hAB, HG, hr, hb⟩ := hcut
  go_wp2_with fail
  clear HO
  go_loopw [4] (fun iv wr => ∃ (i : Nat) (acc : Option Int), iv = .int .i64 i ∧ i ≤ X.length ∧ Hid (Fits acc) ∧ Hid (addFrom acc (X.drop i) = V) ∧ w.grownBy wr none ∧ Hx wr w.heap.size [.bool false, .int .i64 0] 28 ∧ Hx wr B [.bool (vB acc), .int .i64 (vN acc)] 28) (fun iv _ => X.length - (intOf iv).toNat)
  case atStart => exact ⟨0, some 0, rfl, by omega, Lib.hid (fun n h => by cases h; omega), Lib.hid (by rw [List.drop_zero]; exact hV.out), HG, hr, hb⟩
  case round =>
    clear HG hr hb
    obtain ⟨i, acc, rfl, hi, HF, HV, HG, hr, hb⟩ := hrel
    have hb_0 := hb.cell 0; have hb_1 := hb.cell 1; have hb_2 := hb.free 0; have hb_3 := hb.free 1; have hb_4 := hb.lt
    by_cases hlt : i < X.length
    · obtain ⟨b, o, rfl, hbl, hc⟩ := Q3.out (by omega)
      have hneB : ¬ b = B := by omega
      have x0 : wr.cell? ⟨b, o + i * 2, none⟩ = some (.bool X[i].1) := by rw [G.cell HG (a := ⟨b, o + i * 2, none⟩) hbl (by simp)]; have := hc i hlt 0 _ rfl; simpa [valE] using this
      have x1 : wr.cell? ⟨b, o + i * 2 + 1, none⟩ = some (.int .i64 X[i].2) := by rw [G.cell HG (a := ⟨b, o + i * 2 + 1, none⟩) hbl (by simp)]; have := hc i hlt 1 _ rfl; simpa [valE] using this
      have hst := addFrom_step (acc := acc) hlt
      have HS := Lib.hid (fun w => plus_any w (vB acc) X[i].1 (vN acc) X[i].2)
      rw [vK_back HF.out, valV_form] at HS
      have HFn := Lib.hid (sumO_fits acc (vK X[i].1 X[i].2))
      have HVn := Lib.hid (hst ▸ HV.out)
      clear hc hst HV HF
      generalize sumO acc (vK X[i].1 X[i].2) = acc2 at *
      generalize X[i].1 = vb at *
      generalize X[i].2 = vn at *
      go_wp2_with fail
      have y0 := fun x : GrowW wr => (GrowW.cell x (a := ⟨b, o + i * 2, none⟩) (Nat.lt_of_lt_of_le hbl HG.size)).trans x0
      have y1 := fun x : GrowW wr => (GrowW.cell x (a := ⟨b, o + i * 2 + 1, none⟩) (Nat.lt_of_lt_of_le hbl HG.size)).trans x1
      (have hr_q0 := fun x => (Hx.inG hr x).cell 0; have hr_q1 := fun x => (Hx.inG hr x).cell 1; have hb_q0 := fun x => (Hx.inG hb x).cell 0; have hb_q1 := fun x => (Hx.inG hb x).cell 1; have xq_ := HG; refine wp_region_last (G.refl _ none) (by kernel_rfl) (by kernel_rfl) (by kernel_rfl) ?_; simp only [mapLast, lastOf, idle]; (repeat (refine wpQuiet_step (fun K hK => ?_); go_simp; first | (refine hK _ ?_; clear hK K) | (apply Exists.intro; refine ⟨fun xq => ?_, hK _ ?_⟩; (focus ((go_at_call 91; with_reducible exact grow_of (HS.out _)))); clear hK K))); refine wpQuiet_nil ?_; intro wn hgn; replace HG := G.trans (w := w) HG hgn; clear hr_q0 hr_q1; replace hr := Hx.kept hr hgn (by simp); have hr_0 := hr.cell 0; have hr_1 := hr.cell 1; have hr_2 := hr.free 0; have hr_3 := hr.free 1; have hr_4 := hr.lt; clear hb_q0 hb_q1; replace hb := Hx.kept hb hgn (by simp); have hb_0 := hb.cell 0; have hb_1 := hb.cell 1; have hb_2 := hb.free 0; have hb_3 := hb.free 1; have hb_4 := hb.lt; clear hgn xq_)
      go_wp2_with fail
      refine ⟨?_, by first | (simp [intOf]; done) | (simp [intOf]; omega)⟩
      exact ⟨i + 1, acc2, by go_num, by omega, HFn, HVn, (by exact G.go HG), (by first | exact Hx.go hr | exact Hx.go2), (by first | exact Hx.go hb | exact Hx.go2)⟩
    · have hend := addFrom_end (acc := acc) hlt
      have hfin : Hid (V = acc) := Lib.hid (by rw [← HV.out, hend])
      have hr_0 := hr.cell 0; have hr_1 := hr.cell 1; have hr_2 := hr.free 0; have hr_3 := hr.free 1; have hr_4 := hr.lt
      have hvv := Lib.hid (valV_form V)
      clear hend HV HF
      go_wp2_with fail
      refine ret_cell [.bool (vB acc), .int .i64 (vN acc)] w.heap.size 28 rfl rfl (Tryz.isAgg28 _) (Tryz.sizeOf28 _) rfl ?_ ⟨by rw [hvv.out, hfin.out], (by exact G.go HG)⟩
      exact (by first | exact Hx.go hr | exact Hx.go2)
end Go.Proofs.YtkablhamnepfnaaGreatDoor
