/-
  The walks of the sums of rows of values.
-/
import Derived.Test.YtkablhamnepfnaaDoorFixBase
import Derived.Test.YtkablhamnepfnaaDoorElRow
import Derived.Deep.CutBlock
namespace Go.Proofs.YtkablhamnepfnaaDoor
open Go.RowKit
/-- a block that is kept over steps that only lay blocks, and over a call -/
theorem Hx.via {w0 w1 w2 : World} {b : Nat} {cs : List Value} {T : TypeId} (h : Hx w0 b cs T) (hs : w0.grownBy w1 none) (hg : w1.grownBy w2 none) : Hx w2 b cs T := (h.kept hs (by simp)).kept hg (by simp)
def addFrom (acc : Option Int) (X : List (Bool × Int)) : Option Int := (X.map fun p => vK p.1 p.2).foldl sumO acc
def addO (X : List (Bool × Int)) : Option Int := addFrom (some 0) X
theorem addFrom_step {acc : Option Int} {X : List (Bool × Int)} {i : Nat} (h : i < X.length) : addFrom acc (X.drop i) = addFrom (sumO acc (vK X[i].1 X[i].2)) (X.drop (i + 1)) := by
  unfold addFrom; rw [List.drop_eq_getElem_cons h]; rfl
theorem addFrom_end {acc : Option Int} {X : List (Bool × Int)} {i : Nat} (h : ¬ i < X.length) : addFrom acc (X.drop i) = acc := by
  unfold addFrom; rw [List.drop_eq_nil_of_le (by omega)]; rfl
set_option maxHeartbeats 8000000 in
set_option maxRecDepth 100000 in
theorem add_any (X : List (Bool × Int)) (v : Value) (w : World) (h : ERow valE w v X) (hl : X.length ≤ 1000000) : Calls Tryd.prog 44 #[v] w fun e w' => e = .returned (valV (addO X)) ∧ w.grownBy w' none := by
  obtain ⟨V, hV⟩ : ∃ V, Hid (addO X = V) := ⟨_, Lib.hid rfl⟩
  rw [hV.out]
  have HG := G.refl w none
  obtain ⟨A, c, rfl, q1, q2, q3⟩ := h
  have Q3 := Lib.hid q3; clear q3
  have HO := Lib.hid (fun w => fixedOf_any w 0)
  rw [show ofR 0 = some 0 from if_pos (by omega)] at HO
  simp only [valV, valC] at HO
  go_enter Tryd.func44, Tryd.ntmps44
  go_upto_region 0 with (fail)
  go_cut [2] (fun r wc => r = .pointer (some ⟨w.heap.size, 0, none⟩) ∧ w.grownBy wc none ∧ Hx wc w.heap.size [.bool false, .int .i64 0] 28)
  case first =>
    go_wp2_with fail
    go_meet
    exact ⟨rfl, (by exact G.go HG), Hx.new _ _ _⟩
  obtain ⟨rfl, HG, hr⟩ := hcut
  go_upto_region 1 with (fail)
  go_cut [3] (fun p wd => ∃ B, p = .pointer (some ⟨B, 0, none⟩) ∧ w.heap.size < B ∧ w.grownBy wd none ∧ Hx wd w.heap.size [.bool false, .int .i64 0] 28 ∧ Hx wd B [.bool true, .int .i64 0] 28)
  case first =>
    go_wp2_with (go_at_call 37; refine (HO.out _).mono ?_; rintro e wn ⟨rfl, hgn⟩; have hlt := hr.lt; have hsz := hgn.size; replace hr := Hx.kept hr hgn (by simp); replace HG := G.trans HG hgn; clear hgn)
    go_meet
    exact ⟨_, rfl, by omega, (by exact G.go HG), Hx.alloc hr _, Hx.new _ _ _⟩
  obtain ⟨B, rfl, hAB, HG, hr, hb⟩ := hcut
  go_wp2_with fail
  clear HO
  go_loopw [5, 9] (fun _ iv wr => ∃ (i : Nat) (acc : Option Int), iv = .int .i64 i ∧ i ≤ X.length ∧ Hid (Fits acc) ∧ Hid (addFrom acc (X.drop i) = V) ∧ w.grownBy wr none ∧ Hx wr w.heap.size [.bool false, .int .i64 0] 28 ∧ Hx wr B [.bool (vB acc), .int .i64 (vN acc)] 28) (fun _ iv _ => X.length - (intOf iv).toNat)
  case atStart => exact ⟨0, some 0, rfl, by omega, Lib.hid (fun n h => by cases h; omega), Lib.hid (by rw [List.drop_zero]; exact hV.out), HG, hr, hb⟩
  case round =>
    clear HG hr hb
    obtain ⟨i, acc, rfl, hi, HF, HV, HG, hr, hb⟩ := hrel
    have hb_0 := hb.cell 0; have hb_1 := hb.cell 1; have hb_2 := hb.free 0; have hb_3 := hb.free 1; have hb_4 := hb.lt
    by_cases hlt : i < X.length
    · obtain ⟨b, o, rfl, hbl, hc⟩ := Q3.out (by omega)
      have hneB : ¬ b = B := by omega
      have x0 : wr.cell? ⟨b, o + i * 2, none⟩ = some (.bool X[i].1) := by rw [G.cell HG (a := ⟨b, o + i * 2, none⟩) hbl (by simp)]; have := hc i hlt 0 _ rfl; simpa [valE] using this
      have x1 : wr.cell? ⟨b, o + i * 2 + 1, none⟩ = some (.int .i64 X[i].2) := by rw [G.cell HG (a := ⟨b, o + i * 2 + 1, none⟩) hbl (by simp)]; have := hc i hlt 1 _ rfl; simpa [valE] using this
      have hst := addFrom_step (acc := acc) hlt
      have HS := Lib.hid (fun w => sum_any w (vB acc) X[i].1 (vN acc) X[i].2)
      rw [vK_back HF.out, valV_form] at HS
      have HFn := Lib.hid (sumO_fits acc (vK X[i].1 X[i].2))
      have HVn := Lib.hid (hst ▸ HV.out)
      clear hc hst HV HF
      generalize sumO acc (vK X[i].1 X[i].2) = acc2 at *
      generalize X[i].1 = vb at *
      generalize X[i].2 = vn at *
      go_wp2_with (go_at_call 63; (with_reducible refine (HS.out _).mono ?_); rintro e wn ⟨rfl, hgn⟩; replace HG := G.trans (w := w) (by exact G.go HG) hgn; replace hr := Hx.via hr (by repeat (first | with_reducible exact G.refl _ _ | with_reducible refine G.drewN ?_ _ | with_reducible refine G.drew ?_ | with_reducible refine G.alloc ?_ _)) hgn; have hr_0 := hr.cell 0; have hr_1 := hr.cell 1; have hr_2 := hr.free 0; have hr_3 := hr.free 1; have hr_4 := hr.lt; replace hb := Hx.via hb (by repeat (first | with_reducible exact G.refl _ _ | with_reducible refine G.drewN ?_ _ | with_reducible refine G.drew ?_ | with_reducible refine G.alloc ?_ _)) hgn; have hb_0 := hb.cell 0; have hb_1 := hb.cell 1; have hb_2 := hb.free 0; have hb_3 := hb.free 1; have hb_4 := hb.lt; clear hgn)
      refine ⟨?_, by first | (simp [intOf]; done) | (simp [intOf]; omega)⟩
      exact ⟨i + 1, acc2, by go_num, by omega, HFn, HVn, (by exact G.go HG), (by first | exact Hx.go hr | exact Hx.go2), (by first | exact Hx.go hb | exact Hx.go2)⟩
    · have hend := addFrom_end (acc := acc) hlt
      have hfin : Hid (V = acc) := Lib.hid (by rw [← HV.out, hend])
      have hr_0 := hr.cell 0; have hr_1 := hr.cell 1; have hr_2 := hr.free 0; have hr_3 := hr.free 1; have hr_4 := hr.lt
      have hvv := Lib.hid (valV_form V)
      clear hend HV HF
      go_wp2_with fail
      refine ret_cell [.bool (vB acc), .int .i64 (vN acc)] w.heap.size 28 rfl rfl (Tryd.isAgg28 _) (Tryd.sizeOf28 _) rfl ?_ ⟨by rw [hvv.out, hfin.out], (by exact G.go HG)⟩
      exact (by first | exact Hx.go hr | exact Hx.go2)
end Go.Proofs.YtkablhamnepfnaaDoor
