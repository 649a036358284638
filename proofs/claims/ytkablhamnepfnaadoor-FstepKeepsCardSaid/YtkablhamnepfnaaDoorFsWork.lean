/-
  A series and what a function on places has beside it; the walks of its methods. Printed by genfswork.py.
-/
import Derived.Test.YtkablhamnepfnaaDoorFsSpec
import Derived.Test.YtkablhamnepfnaaDoorFmDoesB
import Derived.Test.YtkablhamnepfnaaDoorSerIs
namespace Go.Proofs.YtkablhamnepfnaaDoor
open Go.RowKit
structure FWork where
  S : Ser
  k : Option Int
  has : Bool
def FAt (w : World) (B : Nat) (W : FWork) (sv : Value) : Prop := Hx w B [.string W.S.name, .int .i64 W.S.start, .int .i64 W.S.step, sv, .int .i64 W.S.cons, .bool (vB W.k), .int .i64 (vN W.k), .bool W.has] 44
theorem FAt.hx {w : World} {B : Nat} {W : FWork} {sv : Value} (h : FAt w B W sv) : Hx w B [.string W.S.name, .int .i64 W.S.start, .int .i64 W.S.step, sv, .int .i64 W.S.cons, .bool (vB W.k), .int .i64 (vN W.k), .bool W.has] 44 := h
theorem FAt.kept {w w' : World} {B : Nat} {W : FWork} {sv : Value} {row : Option Nat} (h : FAt w B W sv) (hg : w.grownBy w' row) (hr : some B ≠ row) : FAt w' B W sv := Hx.kept h hg hr
theorem opts_len (S : Ser) : S.opts.length = S.vals.length := by simp [Ser.opts]
theorem opts_at (S : Ser) (i : Nat) (hi : i < S.vals.length) : S.opts.getD i none = vK S.vals[i].1 S.vals[i].2 := by
  have h2 : i < S.opts.length := by rw [opts_len]; exact hi
  rw [List.getD_eq_getElem?_getD, List.getElem?_eq_getElem h2]
  exact List.getElem_map _
theorem opts_out (S : Ser) (i : Nat) (hi : S.vals.length ≤ i) : S.opts.getD i none = none := by
  rw [List.getD_eq_getElem?_getD, List.getElem?_eq_none (by rw [opts_len]; exact hi)]; rfl
/-- a value of a series that may be, told by what counts -/
theorem opts_pair {S : Ser} (hall : S.vals.all (fun p => isR p.1 p.2) = true) (i : Nat) (hi : i < S.vals.length) : S.vals[i].1 = vB (S.opts.getD i none) ∧ S.vals[i].2 = vN (S.opts.getD i none) := by
  have h1 := all_at hall i hi
  have h2 : S.vals[i] = vP (vK S.vals[i].1 S.vals[i].2) := vP_of h1
  rw [opts_at S i hi]
  exact ⟨congrArg Prod.fst h2, congrArg Prod.snd h2⟩
set_option maxHeartbeats 8000000 in
theorem fat_any (w : World) (B : Nat) (W : FWork) (sv : Value) (hw : FAt w B W sv) (h : ERow valE w sv W.S.vals) (hall : W.S.vals.all (fun p => isR p.1 p.2) = true) (i : Int) (hi1 : -9223372036854775808 ≤ i) (hi2 : i ≤ 9223372036854775807) : Calls Tryd.prog 40 #[.pointer (some ⟨B, 0, none⟩), .int .i64 i] w fun e w' => e = .returned (valV (atO W.S.opts i)) ∧ w.grownBy w' none := by
  have HG := G.refl w none
  have hle := h.le
  unfold maxLen at hle
  replace hw := hw.hx
  have hvv := Lib.hid (valV_form (atO W.S.opts i))
  obtain ⟨A, c, rfl, q1, q2, q3⟩ := h
  have Q3 := Lib.hid q3; clear q3
  by_cases g1 : i < 0
  · have hfin : Hid (atO W.S.opts i = none) := Lib.hid (by unfold atO; rw [if_neg (by omega)])
    clear hvv
    go_enter Tryd.func40, Tryd.ntmps40
    go_upto_region 0 with (fail)
    go_cut [4] (fun r wc => r = .pointer (some ⟨w.heap.size, 0, none⟩) ∧ w.grownBy wc none ∧ Hx wc w.heap.size [.bool false, .int .i64 0] 28 ∧ Hx wc B [.string W.S.name, .int .i64 W.S.start, .int .i64 W.S.step, .slice A W.S.vals.length c, .int .i64 W.S.cons, .bool (vB W.k), .int .i64 (vN W.k), .bool W.has] 44)
    case first =>
      go_wp2_with fail
      go_meet
      exact ⟨rfl, (by exact G.go HG), Hx.new _ _ _, Hx.alloc hw _⟩
    obtain ⟨rfl, HG, hr, hw⟩ := hcut
    have hr_0 := hr.cell 0; have hr_f0 := hr.free 0; have hr_1 := hr.cell 1; have hr_f1 := hr.free 1; have hr_l := hr.lt; have hw_0 := hw.cell 0; have hw_f0 := hw.free 0; have hw_1 := hw.cell 1; have hw_f1 := hw.free 1; have hw_2 := hw.cell 2; have hw_f2 := hw.free 2; have hw_3 := hw.cell 3; have hw_f3 := hw.free 3; have hw_4 := hw.cell 4; have hw_f4 := hw.free 4; have hw_5 := hw.cell 5; have hw_f5 := hw.free 5; have hw_6 := hw.cell 6; have hw_f6 := hw.free 6; have hw_7 := hw.cell 7; have hw_f7 := hw.free 7; have hw_l := hw.lt
    go_wp2_with fail
    refine ret_cell [.bool false, .int .i64 0] w.heap.size 28 rfl rfl (Tryd.isAgg28 _) (Tryd.sizeOf28 _) rfl ?_ ⟨by rw [hfin.out]; rfl, (by exact G.go HG)⟩
    exact (by first | exact Hx.go hr | exact Hx.go2)
  obtain ⟨j, rfl⟩ : ∃ j : Nat, i = j := ⟨i.toNat, by omega⟩
  have hat : atO W.S.opts (j : Int) = W.S.opts.getD j none := by unfold atO; rw [if_pos (by omega)]; rfl
  by_cases g2 : W.S.vals.length ≤ j
  · have hfin : Hid (atO W.S.opts (j : Int) = none) := Lib.hid (by rw [hat, opts_out _ _ g2])
    clear hvv hat
    go_enter Tryd.func40, Tryd.ntmps40
    go_upto_region 0 with (fail)
    go_cut [4] (fun r wc => r = .pointer (some ⟨w.heap.size, 0, none⟩) ∧ w.grownBy wc none ∧ Hx wc w.heap.size [.bool false, .int .i64 0] 28 ∧ Hx wc B [.string W.S.name, .int .i64 W.S.start, .int .i64 W.S.step, .slice A W.S.vals.length c, .int .i64 W.S.cons, .bool (vB W.k), .int .i64 (vN W.k), .bool W.has] 44)
    case first =>
      go_wp2_with fail
      go_meet
      exact ⟨rfl, (by exact G.go HG), Hx.new _ _ _, Hx.alloc hw _⟩
    obtain ⟨rfl, HG, hr, hw⟩ := hcut
    have hr_0 := hr.cell 0; have hr_f0 := hr.free 0; have hr_1 := hr.cell 1; have hr_f1 := hr.free 1; have hr_l := hr.lt; have hw_0 := hw.cell 0; have hw_f0 := hw.free 0; have hw_1 := hw.cell 1; have hw_f1 := hw.free 1; have hw_2 := hw.cell 2; have hw_f2 := hw.free 2; have hw_3 := hw.cell 3; have hw_f3 := hw.free 3; have hw_4 := hw.cell 4; have hw_f4 := hw.free 4; have hw_5 := hw.cell 5; have hw_f5 := hw.free 5; have hw_6 := hw.cell 6; have hw_f6 := hw.free 6; have hw_7 := hw.cell 7; have hw_f7 := hw.free 7; have hw_l := hw.lt
    go_wp2_with fail
    refine ret_cell [.bool false, .int .i64 0] w.heap.size 28 rfl rfl (Tryd.isAgg28 _) (Tryd.sizeOf28 _) rfl ?_ ⟨by rw [hfin.out]; rfl, (by exact G.go HG)⟩
    exact (by first | exact Hx.go hr | exact Hx.go2)
  have hlt : j < W.S.vals.length := by omega
  obtain ⟨b, o, rfl, hbl, hc⟩ := Q3.out (by omega)
  obtain ⟨e0, e1⟩ := opts_pair hall j hlt
  have hcc := Lib.hid (fun (wr : World) (hg : w.grownBy wr none) => valCells hc hg hbl hlt)
  rw [e0, e1] at hcc
  rw [hat] at hvv ⊢
  clear hc e0 e1 hat
  generalize W.S.opts.getD j none = v at *
  go_enter Tryd.func40, Tryd.ntmps40
  go_upto_region 0 with (fail)
  go_cut [4] (fun r wc => r = .pointer (some ⟨w.heap.size, 0, none⟩) ∧ w.grownBy wc none ∧ Hx wc w.heap.size [.bool false, .int .i64 0] 28 ∧ Hx wc B [.string W.S.name, .int .i64 W.S.start, .int .i64 W.S.step, .slice (some ⟨b, o, none⟩) W.S.vals.length c, .int .i64 W.S.cons, .bool (vB W.k), .int .i64 (vN W.k), .bool W.has] 44)
  case first =>
    go_wp2_with fail
    go_meet
    exact ⟨rfl, (by exact G.go HG), Hx.new _ _ _, Hx.alloc hw _⟩
  obtain ⟨rfl, HG, hr, hw⟩ := hcut
  have hr_0 := hr.cell 0; have hr_f0 := hr.free 0; have hr_1 := hr.cell 1; have hr_f1 := hr.free 1; have hr_l := hr.lt; have hw_0 := hw.cell 0; have hw_f0 := hw.free 0; have hw_1 := hw.cell 1; have hw_f1 := hw.free 1; have hw_2 := hw.cell 2; have hw_f2 := hw.free 2; have hw_3 := hw.cell 3; have hw_f3 := hw.free 3; have hw_4 := hw.cell 4; have hw_f4 := hw.free 4; have hw_5 := hw.cell 5; have hw_f5 := hw.free 5; have hw_6 := hw.cell 6; have hw_f6 := hw.free 6; have hw_7 := hw.cell 7; have hw_f7 := hw.free 7; have hw_l := hw.lt
  obtain ⟨x0, x1⟩ := hcc.out _ HG
  go_wp2_with fail
  refine ret_cell [.bool (vB v), .int .i64 (vN v)] w.heap.size 28 rfl rfl (Tryd.isAgg28 _) (Tryd.sizeOf28 _) rfl ?_ ⟨by rw [hvv.out], (by exact G.go HG)⟩
  exact (by first | exact Hx.go hr | exact Hx.go2)
set_option maxHeartbeats 8000000 in
theorem fahead_any (w : World) (B : Nat) (W : FWork) (sv : Value) (hw : FAt w B W sv) (h : ERow valE w sv W.S.vals) (hall : W.S.vals.all (fun p => isR p.1 p.2) = true) (i : Nat) (hi : i ≤ W.S.vals.length) (hl : W.S.vals.length ≤ 1000000) : Calls Tryd.prog 35 #[.pointer (some ⟨B, 0, none⟩), .int .i64 (i : Int)] w fun e w' => e = .returned (.int .i64 (aheadI W.S.opts i)) ∧ w.grownBy w' none := by
  have HG := G.refl w none
  replace hw := hw.hx
  obtain ⟨A, c, rfl, q1, q2, q3⟩ := h
  have Q3 := Lib.hid q3; clear q3
  obtain ⟨R, hR⟩ : ∃ R, Hid (aheadI W.S.opts i = R) := ⟨_, Lib.hid rfl⟩
  rw [hR.out]
  have hwr : IntKind.i64.wrap ((i : Int) - 1) = (i : Int) - 1 := by rw [IntKind.wrap_i64]; omega
  have hst : aheadI W.S.opts ((i : Int) - 1 + 1).toNat = R := by rw [← hR.out]; congr 1; omega
  have hz0 : -1 ≤ (i : Int) - 1 ∧ (i : Int) - 1 < W.S.vals.length := by omega
  have hw_0 := hw.cell 0; have hw_f0 := hw.free 0; have hw_1 := hw.cell 1; have hw_f1 := hw.free 1; have hw_2 := hw.cell 2; have hw_f2 := hw.free 2; have hw_3 := hw.cell 3; have hw_f3 := hw.free 3; have hw_4 := hw.cell 4; have hw_f4 := hw.free 4; have hw_5 := hw.cell 5; have hw_f5 := hw.free 5; have hw_6 := hw.cell 6; have hw_f6 := hw.free 6; have hw_7 := hw.cell 7; have hw_f7 := hw.free 7; have hw_l := hw.lt
  go_enter Tryd.func35, Tryd.ntmps35
  go_wp2_with fail
  go_loopw [1] (fun iv wr => wr = w ∧ ∃ z : Int, iv = .int .i64 z ∧ -1 ≤ z ∧ z < W.S.vals.length ∧ Hid (aheadI W.S.opts (z + 1).toNat = R)) (fun iv _ => (intOf iv + 1).toNat)
  case atStart => exact ⟨rfl, _, rfl, hz0.1, hz0.2, Lib.hid hst⟩
  case round =>
    clear hwr hst hz0
    obtain ⟨rfl, z, rfl, hz1, hz2, HZ⟩ := hrel
    by_cases hneg : z < 0
    · have hzR : Hid (z = R) := Lib.hid (by rw [← HZ.out, show (z + 1).toNat = 0 by omega]; show z = -1; omega)
      clear HZ
      go_wp2_with fail
      go_ret
      exact ⟨by rw [← hzR.out]; rfl, (by exact G.go HG)⟩
    · obtain ⟨j, rfl⟩ : ∃ j : Nat, z = j := ⟨z.toNat, by omega⟩
      have hlt : j < W.S.vals.length := by omega
      obtain ⟨b, o, rfl, hbl, hc⟩ := Q3.out (by omega)
      obtain ⟨e0, e1⟩ := opts_pair hall j hlt
      obtain ⟨x0, x1⟩ := valCells hc HG hbl hlt
      rw [e0] at x0
      clear hc e0 e1 x1
      have hwr : IntKind.i64.wrap ((j : Int) - 1) = (j : Int) - 1 := by rw [IntKind.wrap_i64]; omega
      have hj1 : ((j : Int) + 1).toNat = j + 1 := by omega
      cases hv : W.S.opts.getD j none with
      | none =>
        have HZ2 : Hid (aheadI W.S.opts ((j : Int) - 1 + 1).toNat = R) := Lib.hid (by rw [← HZ.out, hj1, aheadI_skip hv]; congr 1; omega)
        rw [hv] at x0
        have x2 : wr.cell? ⟨b, o + j * 2, none⟩ = some (.bool false) := x0
        clear x0 HZ hv hj1
        have hb2 : -1 ≤ (j : Int) - 1 ∧ (j : Int) - 1 < W.S.vals.length := by omega
        have hms : ((j : Int) - 1 + 1).toNat < ((j : Int) + 1).toNat := by omega
        go_wp2_with fail
        refine ⟨?_, by first | exact hms | (simp [intOf]; done) | (simp [intOf]; omega)⟩
        first | exact ⟨rfl, _, rfl, hb2.1, hb2.2, HZ2⟩ | exact ⟨trivial, _, rfl, hb2.1, hb2.2, HZ2⟩
      | some x =>
        have hzR : Hid ((j : Int) = R) := Lib.hid (by rw [← HZ.out, hj1, aheadI_hit hv])
        rw [hv] at x0
        have x2 : wr.cell? ⟨b, o + j * 2, none⟩ = some (.bool true) := x0
        clear x0 HZ hv hj1
        go_wp2_with fail
        go_ret
        exact ⟨by rw [← hzR.out]; rfl, (by exact G.go HG)⟩
set_option maxHeartbeats 8000000 in
theorem fbehind_any (w : World) (B : Nat) (W : FWork) (sv : Value) (hw : FAt w B W sv) (h : ERow valE w sv W.S.vals) (hall : W.S.vals.all (fun p => isR p.1 p.2) = true) (i : Nat) (hi : i < W.S.vals.length) (hl : W.S.vals.length ≤ 1000000) : Calls Tryd.prog 46 #[.pointer (some ⟨B, 0, none⟩), .int .i64 (i : Int)] w fun e w' => e = .returned (.int .i64 (behindN W.S.opts (W.S.opts.length - (i + 1)) (i + 1) : Nat)) ∧ w.grownBy w' none := by
  have HG := G.refl w none
  replace hw := hw.hx
  obtain ⟨A, c, rfl, q1, q2, q3⟩ := h
  have Q3 := Lib.hid q3; clear q3
  have hol := opts_len W.S
  obtain ⟨R, hR⟩ : ∃ R, Hid (behindN W.S.opts (W.S.opts.length - (i + 1)) (i + 1) = R) := ⟨_, Lib.hid rfl⟩
  rw [hR.out]
  have hwr : IntKind.i64.wrap ((i : Int) + 1) = ((i + 1 : Nat) : Int) := by rw [IntKind.wrap_i64]; omega
  have hw_0 := hw.cell 0; have hw_f0 := hw.free 0; have hw_1 := hw.cell 1; have hw_f1 := hw.free 1; have hw_2 := hw.cell 2; have hw_f2 := hw.free 2; have hw_3 := hw.cell 3; have hw_f3 := hw.free 3; have hw_4 := hw.cell 4; have hw_f4 := hw.free 4; have hw_5 := hw.cell 5; have hw_f5 := hw.free 5; have hw_6 := hw.cell 6; have hw_f6 := hw.free 6; have hw_7 := hw.cell 7; have hw_f7 := hw.free 7; have hw_l := hw.lt
  go_enter Tryd.func46, Tryd.ntmps46
  go_wp2_with fail
  go_loopw [1] (fun iv wr => wr = w ∧ ∃ z : Nat, iv = .int .i64 (z : Int) ∧ z ≤ W.S.vals.length ∧ Hid (behindN W.S.opts (W.S.opts.length - z) z = R)) (fun iv _ => W.S.vals.length - (intOf iv).toNat)
  case atStart => exact ⟨rfl, i + 1, by go_num, by omega, hR⟩
  case round =>
    clear hwr hR
    obtain ⟨rfl, z, rfl, hz, HZ⟩ := hrel
    by_cases hlt : z < W.S.vals.length
    · obtain ⟨b, o, rfl, hbl, hc⟩ := Q3.out (by omega)
      obtain ⟨e0, e1⟩ := opts_pair hall z hlt
      obtain ⟨x0, x1⟩ := valCells hc HG hbl hlt
      rw [e0] at x0
      clear hc e0 e1 x1
      have hlo : z < W.S.opts.length := by rw [hol]; exact hlt
      cases hv : W.S.opts.getD z none with
      | none =>
        have HZ2 : Hid (behindN W.S.opts (W.S.opts.length - (z + 1)) (z + 1) = R) := Lib.hid (by rw [← HZ.out, behindN_skip hlo hv])
        rw [hv] at x0
        have x2 : wr.cell? ⟨b, o + z * 2, none⟩ = some (.bool false) := x0
        clear x0 HZ hv hlo
        go_wp2_with fail
        refine ⟨?_, by first | (simp [intOf]; done) | (simp [intOf]; omega)⟩
        first | exact ⟨rfl, z + 1, by go_num, by omega, HZ2⟩ | exact ⟨trivial, z + 1, by go_num, by omega, HZ2⟩
      | some x =>
        have hzR : Hid (z = R) := Lib.hid (by rw [← HZ.out, behindN_hit hlo hv])
        rw [hv] at x0
        have x2 : wr.cell? ⟨b, o + z * 2, none⟩ = some (.bool true) := x0
        clear x0 HZ hv hlo
        go_wp2_with fail
        go_ret
        exact ⟨by rw [← hzR.out]; rfl, (by exact G.go HG)⟩
    · have hzR : Hid (z = R) := Lib.hid (by rw [← HZ.out, behindN_end (by omega)])
      clear HZ
      go_wp2_with fail
      go_ret
      exact ⟨by rw [← hzR.out]; rfl, (by exact G.go HG)⟩
end Go.Proofs.YtkablhamnepfnaaDoor
