/-
  The walks of pow, round, scaleToSeconds. Printed by genfmdoesd.py.
-/
import Derived.Test.YtfomknfjidbdcaaGreatDoorFmDoesC
namespace Go.Proofs.YtfomknfjidbdcaaGreatDoor
open Go.RowKit
theorem powO_fits (x : Option Int) (n : Nat) : Fits (powO x n) := by
  cases n with
  | zero => exact fits_some (by omega)
  | succ n => exact mulO_fits _ _
theorem unitN_step {i : Nat} (h : i < 6) : (unitN i).tdiv 10 = unitN (i + 1 : Nat) := by
  match i, h with
  | 0, _ | 1, _ | 2, _ | 3, _ | 4, _ | 5, _ => decide
theorem unitN_bound {i : Nat} (h : i ≤ 6) : 1 ≤ unitN i ∧ unitN i ≤ 1000000 := by
  match i, h with
  | 0, _ | 1, _ | 2, _ | 3, _ | 4, _ | 5, _ | 6, _ => decide
theorem quoR_le {N u : Nat} (h : 1 ≤ u) : quoR N u ≤ N := by
  unfold quoR
  rcases Nat.lt_or_ge 1 u with g | g
  · have h1 : N / u ≤ N / 2 := Nat.div_le_div_left g (by omega)
    have h2 : N % u ≤ N := Nat.mod_le _ _
    split
    · rename_i h3
      rcases Nat.lt_or_ge N u with g2 | g2
      · rw [Nat.div_eq_of_lt g2]; rw [Nat.mod_eq_of_lt g2] at h3; omega
      · omega
    · omega
  · obtain rfl : u = 1 := by omega
    simp [Nat.mod_one]
/-- divided by a small number it is never too much -/
theorem mulDivO_one {x u : Int} (hx : -4611686018427387904 ≤ x ∧ x ≤ 4611686018427387904) (hu : 1 ≤ u) : ∃ y, mulDivO x 1 u = some y ∧ -4611686018427387904 ≤ y ∧ y ≤ 4611686018427387904 := by
  have h1 : quoR (x.natAbs * (1 : Int).natAbs) u.natAbs ≤ x.natAbs := by
    have := @quoR_le (x.natAbs * (1 : Int).natAbs) u.natAbs (by omega)
    simpa using this
  have hf := mulDivO_fits x 1 u
  unfold mulDivO at hf ⊢
  rw [if_neg (by omega), if_neg (by omega)] at hf ⊢
  exact ⟨_, rfl, hf _ rfl⟩
/-- a product is too much just where one of the two is above what the other leaves -/
theorem mul_over {y u : Int} (hu : 1 ≤ u) : ((4611686018427387904 : Int).tdiv u < y → ¬ y * u ≤ 4611686018427387904) ∧ (y < (-4611686018427387904 : Int).tdiv u → ¬ -4611686018427387904 ≤ y * u) ∧
    (y ≤ (4611686018427387904 : Int).tdiv u → (-4611686018427387904 : Int).tdiv u ≤ y → -4611686018427387904 ≤ y * u ∧ y * u ≤ 4611686018427387904) := by
  have e1 : (-4611686018427387904 : Int).tdiv u = -((4611686018427387904 : Int).tdiv u) := Int.neg_tdiv 4611686018427387904 u
  have e2 : (4611686018427387904 : Int).tdiv u = 4611686018427387904 / u := Int.tdiv_eq_ediv_of_nonneg (by omega)
  have e3 : 4611686018427387904 / u * u ≤ 4611686018427387904 := Int.ediv_mul_le _ (by omega)
  have e4 : 4611686018427387904 < (4611686018427387904 / u + 1) * u := Int.lt_ediv_add_one_mul_self _ (by omega)
  rw [e1, e2]
  generalize (4611686018427387904 : Int) / u = q at *
  refine ⟨fun h => ?_, fun h => ?_, fun h1 h2 => ⟨?_, ?_⟩⟩
  · have := Int.mul_le_mul_of_nonneg_right (show q + 1 ≤ y by omega) (show 0 ≤ u by omega)
    omega
  · have := Int.mul_le_mul_of_nonneg_right (show q + 1 ≤ -y by omega) (show 0 ≤ u by omega)
    rw [Int.neg_mul] at this
    omega
  · have := Int.mul_le_mul_of_nonneg_right (show -y ≤ q by omega) (show 0 ≤ u by omega)
    rw [Int.neg_mul] at this
    omega
  · have := Int.mul_le_mul_of_nonneg_right (show y ≤ q by omega) (show 0 ≤ u by omega)
    omega

set_option maxHeartbeats 8000000 in
theorem does12 (w : World) (B : Nat) (W : Work) (sv : Value) (hw : WorkAt w B W sv) (x : Int) (hx : -4611686018427387904 ≤ x ∧ x ≤ 4611686018427387904) (hf : Fits W.k) (hs : 1 ≤ W.S.step ∧ W.S.step ≤ 1099511627776) : Calls Tryz.prog 62 #[.pointer (some ⟨B, 0, none⟩), .agg #[.bool true, .int .i64 x]] w fun e w' => e = .returned (valV (fm12 W.S.step W.k (some x))) ∧ w.grownBy w' none := by
  obtain ⟨V, hV⟩ : ∃ V, Hid (fm12 W.S.step W.k (some x) = V) := ⟨_, Lib.hid rfl⟩
  rw [hV.out]
  have HW := Lib.hid (fun w (hw : Hx w B [.string W.S.name, .int .i64 W.S.start, .int .i64 W.S.step, sv, .int .i64 W.S.cons, .bool (vB W.k), .int .i64 (vN W.k), .bool W.has, .bool (vB W.low), .int .i64 (vN W.low), .bool (vB W.high), .int .i64 (vN W.high)] 52) => whole19_any w B W sv hw hf)
  have hn := wholeT_le hf
  have hV2 : Hid (V = if wholeB W.k then mulDivO x (wholeT W.k) W.S.step else none) := Lib.hid (by rw [← hV.out]; unfold fm12; rw [wholeO_eq]; cases wholeB W.k <;> rfl)
  clear hV
  have HM := Lib.hid (fun w => mulDiv_any x (wholeT W.k) W.S.step w (by omega) (by omega) (by omega) (by omega) (by omega) (by omega))
  have hmf := mulDivO_fits x (wholeT W.k) W.S.step
  generalize mulDivO x (wholeT W.k) W.S.step = M at *
  rw [mulDivV_form] at HM
  have HO := Lib.hid (fun w => fixedOf_any w (vN M))
  have hob := of_back hmf
  have hvv := Lib.hid (valV_form V)
  generalize hok : wholeB W.k = ok at *
  clear hok
  cases ok
  · have hfin : Hid (V = none) := hV2
    have HG := G.refl w none
    replace hw := hw.hx
    go_enter Tryz.func62, Tryz.ntmps62
    go_upto_region 0 with (fail)
    go_cut [3, 4] (fun p r wc => p = .pointer (some ⟨w.heap.size, 0, none⟩) ∧ r = .pointer (some ⟨w.heap.size + 1, 0, none⟩) ∧ w.grownBy wc none ∧ Hx wc w.heap.size [.bool true, .int .i64 x] 28 ∧ Hx wc (w.heap.size + 1) [.bool false, .int .i64 0] 28 ∧ Hx wc B [.string W.S.name, .int .i64 W.S.start, .int .i64 W.S.step, sv, .int .i64 W.S.cons, .bool (vB W.k), .int .i64 (vN W.k), .bool W.has, .bool (vB W.low), .int .i64 (vN W.low), .bool (vB W.high), .int .i64 (vN W.high)] 52)
    case first =>
      go_wp2_with fail
      go_meet
      exact ⟨rfl, rfl, (by exact G.go HG), Hx.alloc (Hx.new _ _ _) _, Hx.new' (by simp) rfl, Hx.alloc (Hx.alloc hw _) _⟩
    obtain ⟨rfl, rfl, HG, ha, hr, hw⟩ := hcut
    have ha_0 := ha.cell 0; have ha_1 := ha.cell 1; have ha_2 := ha.free 0; have ha_3 := ha.free 1; have ha_4 := ha.lt; have hr_0 := hr.cell 0; have hr_1 := hr.cell 1; have hr_2 := hr.free 0; have hr_3 := hr.free 1; have hr_4 := hr.lt; have hw_0 := hw.cell 0; have hw_1 := hw.cell 1; have hw_2 := hw.cell 2; have hw_3 := hw.cell 3; have hw_4 := hw.cell 4; have hw_5 := hw.cell 5; have hw_6 := hw.cell 6; have hw_7 := hw.cell 7; have hw_8 := hw.cell 8; have hw_9 := hw.cell 9; have hw_10 := hw.cell 10; have hw_11 := hw.cell 11; have hw_f0 := hw.free 0; have hw_f1 := hw.free 1; have hw_f2 := hw.free 2; have hw_f3 := hw.free 3; have hw_f4 := hw.free 4; have hw_f5 := hw.free 5; have hw_f6 := hw.free 6; have hw_f7 := hw.free 7; have hw_f8 := hw.free 8; have hw_f9 := hw.free 9; have hw_f10 := hw.free 10; have hw_f11 := hw.free 11; have hw_l := hw.lt
    go_wp2_with (go_at_call 98; (with_reducible refine (HW.out _ (by first | exact Hx.go hw | exact Hx.go2)).mono ?_); rintro e wn ⟨rfl, hgn⟩; replace HG := G.trans (w := w) (by exact G.go HG) hgn; replace ha := Hx.kept (by first | exact Hx.go ha | exact Hx.go2) hgn (by simp); have ha_0 := ha.cell 0; have ha_1 := ha.cell 1; have ha_2 := ha.free 0; have ha_3 := ha.free 1; have ha_4 := ha.lt; replace hr := Hx.kept (by first | exact Hx.go hr | exact Hx.go2) hgn (by simp); have hr_0 := hr.cell 0; have hr_1 := hr.cell 1; have hr_2 := hr.free 0; have hr_3 := hr.free 1; have hr_4 := hr.lt; replace hw := Hx.kept (by first | exact Hx.go hw | exact Hx.go2) hgn (by simp); have hw_0 := hw.cell 0; have hw_1 := hw.cell 1; have hw_2 := hw.cell 2; have hw_3 := hw.cell 3; have hw_4 := hw.cell 4; have hw_5 := hw.cell 5; have hw_6 := hw.cell 6; have hw_7 := hw.cell 7; have hw_8 := hw.cell 8; have hw_9 := hw.cell 9; have hw_10 := hw.cell 10; have hw_11 := hw.cell 11; have hw_f0 := hw.free 0; have hw_f1 := hw.free 1; have hw_f2 := hw.free 2; have hw_f3 := hw.free 3; have hw_f4 := hw.free 4; have hw_f5 := hw.free 5; have hw_f6 := hw.free 6; have hw_f7 := hw.free 7; have hw_f8 := hw.free 8; have hw_f9 := hw.free 9; have hw_f10 := hw.free 10; have hw_f11 := hw.free 11; have hw_l := hw.lt; clear hgn)
    refine ret_cell [.bool false, .int .i64 0] (w.heap.size + 1) 28 rfl rfl (Tryz.isAgg28 _) (Tryz.sizeOf28 _) rfl ?_ ⟨by rw [hfin.out]; rfl, (by exact G.go HG)⟩
    exact (by first | exact Hx.go hr | exact Hx.go2)
  have hV3 : Hid (V = M) := hV2
  clear hV2
  cases M with
  | none =>
    have hfin : Hid (V = none) := hV3
    have HG := G.refl w none
    replace hw := hw.hx
    go_enter Tryz.func62, Tryz.ntmps62
    go_upto_region 0 with (fail)
    go_cut [3, 4] (fun p r wc => p = .pointer (some ⟨w.heap.size, 0, none⟩) ∧ r = .pointer (some ⟨w.heap.size + 1, 0, none⟩) ∧ w.grownBy wc none ∧ Hx wc w.heap.size [.bool true, .int .i64 x] 28 ∧ Hx wc (w.heap.size + 1) [.bool false, .int .i64 0] 28 ∧ Hx wc B [.string W.S.name, .int .i64 W.S.start, .int .i64 W.S.step, sv, .int .i64 W.S.cons, .bool (vB W.k), .int .i64 (vN W.k), .bool W.has, .bool (vB W.low), .int .i64 (vN W.low), .bool (vB W.high), .int .i64 (vN W.high)] 52)
    case first =>
      go_wp2_with fail
      go_meet
      exact ⟨rfl, rfl, (by exact G.go HG), Hx.alloc (Hx.new _ _ _) _, Hx.new' (by simp) rfl, Hx.alloc (Hx.alloc hw _) _⟩
    obtain ⟨rfl, rfl, HG, ha, hr, hw⟩ := hcut
    have ha_0 := ha.cell 0; have ha_1 := ha.cell 1; have ha_2 := ha.free 0; have ha_3 := ha.free 1; have ha_4 := ha.lt; have hr_0 := hr.cell 0; have hr_1 := hr.cell 1; have hr_2 := hr.free 0; have hr_3 := hr.free 1; have hr_4 := hr.lt; have hw_0 := hw.cell 0; have hw_1 := hw.cell 1; have hw_2 := hw.cell 2; have hw_3 := hw.cell 3; have hw_4 := hw.cell 4; have hw_5 := hw.cell 5; have hw_6 := hw.cell 6; have hw_7 := hw.cell 7; have hw_8 := hw.cell 8; have hw_9 := hw.cell 9; have hw_10 := hw.cell 10; have hw_11 := hw.cell 11; have hw_f0 := hw.free 0; have hw_f1 := hw.free 1; have hw_f2 := hw.free 2; have hw_f3 := hw.free 3; have hw_f4 := hw.free 4; have hw_f5 := hw.free 5; have hw_f6 := hw.free 6; have hw_f7 := hw.free 7; have hw_f8 := hw.free 8; have hw_f9 := hw.free 9; have hw_f10 := hw.free 10; have hw_f11 := hw.free 11; have hw_l := hw.lt
    go_upto_region 4 with ((go_at_call 98; (with_reducible refine (HW.out _ (by first | exact Hx.go hw | exact Hx.go2)).mono ?_); rintro e wn ⟨rfl, hgn⟩; replace HG := G.trans (w := w) (by exact G.go HG) hgn; replace ha := Hx.kept (by first | exact Hx.go ha | exact Hx.go2) hgn (by simp); have ha_0 := ha.cell 0; have ha_1 := ha.cell 1; have ha_2 := ha.free 0; have ha_3 := ha.free 1; have ha_4 := ha.lt; replace hr := Hx.kept (by first | exact Hx.go hr | exact Hx.go2) hgn (by simp); have hr_0 := hr.cell 0; have hr_1 := hr.cell 1; have hr_2 := hr.free 0; have hr_3 := hr.free 1; have hr_4 := hr.lt; replace hw := Hx.kept (by first | exact Hx.go hw | exact Hx.go2) hgn (by simp); have hw_0 := hw.cell 0; have hw_1 := hw.cell 1; have hw_2 := hw.cell 2; have hw_3 := hw.cell 3; have hw_4 := hw.cell 4; have hw_5 := hw.cell 5; have hw_6 := hw.cell 6; have hw_7 := hw.cell 7; have hw_8 := hw.cell 8; have hw_9 := hw.cell 9; have hw_10 := hw.cell 10; have hw_11 := hw.cell 11; have hw_f0 := hw.free 0; have hw_f1 := hw.free 1; have hw_f2 := hw.free 2; have hw_f3 := hw.free 3; have hw_f4 := hw.free 4; have hw_f5 := hw.free 5; have hw_f6 := hw.free 6; have hw_f7 := hw.free 7; have hw_f8 := hw.free 8; have hw_f9 := hw.free 9; have hw_f10 := hw.free 10; have hw_f11 := hw.free 11; have hw_l := hw.lt; clear hgn))
    have ha_q0 := fun x => (Hx.inG ha x).cell 0; have ha_q1 := fun x => (Hx.inG ha x).cell 1; have hr_q0 := fun x => (Hx.inG hr x).cell 0; have hr_q1 := fun x => (Hx.inG hr x).cell 1; have hw_q0 := fun x => (Hx.inG hw x).cell 0; have hw_q1 := fun x => (Hx.inG hw x).cell 1; have hw_q2 := fun x => (Hx.inG hw x).cell 2; have hw_q3 := fun x => (Hx.inG hw x).cell 3; have hw_q4 := fun x => (Hx.inG hw x).cell 4; have hw_q5 := fun x => (Hx.inG hw x).cell 5; have hw_q6 := fun x => (Hx.inG hw x).cell 6; have hw_q7 := fun x => (Hx.inG hw x).cell 7; have hw_q8 := fun x => (Hx.inG hw x).cell 8; have hw_q9 := fun x => (Hx.inG hw x).cell 9; have hw_q10 := fun x => (Hx.inG hw x).cell 10; have hw_q11 := fun x => (Hx.inG hw x).cell 11; have HG0 := HG
    refine wp_region_grow (G.refl _ none) (by kernel_rfl) (by kernel_rfl) ?_
    repeat (refine wpQuiet_step (fun K hK => ?_); go_simp; first | (refine hK _ ?_; clear hK K) | (apply Exists.intro; refine ⟨fun xq => ?_, hK _ ?_⟩; ((go_at_call 99; with_reducible exact grow_of (HM.out _))); clear hK K))
    refine wpQuiet_nil ?_
    intro wn hgn
    clear ha_q0 ha_q1 hr_q0 hr_q1 hw_q0 hw_q1 hw_q2 hw_q3 hw_q4 hw_q5 hw_q6 hw_q7 hw_q8 hw_q9 hw_q10 hw_q11
    replace HG := G.trans (w := w) HG0 hgn
    replace ha := Hx.kept ha hgn (by simp); have ha_0 := ha.cell 0; have ha_1 := ha.cell 1; have ha_2 := ha.free 0; have ha_3 := ha.free 1; have ha_4 := ha.lt; replace hr := Hx.kept hr hgn (by simp); have hr_0 := hr.cell 0; have hr_1 := hr.cell 1; have hr_2 := hr.free 0; have hr_3 := hr.free 1; have hr_4 := hr.lt; replace hw := Hx.kept hw hgn (by simp); have hw_0 := hw.cell 0; have hw_1 := hw.cell 1; have hw_2 := hw.cell 2; have hw_3 := hw.cell 3; have hw_4 := hw.cell 4; have hw_5 := hw.cell 5; have hw_6 := hw.cell 6; have hw_7 := hw.cell 7; have hw_8 := hw.cell 8; have hw_9 := hw.cell 9; have hw_10 := hw.cell 10; have hw_11 := hw.cell 11; have hw_f0 := hw.free 0; have hw_f1 := hw.free 1; have hw_f2 := hw.free 2; have hw_f3 := hw.free 3; have hw_f4 := hw.free 4; have hw_f5 := hw.free 5; have hw_f6 := hw.free 6; have hw_f7 := hw.free 7; have hw_f8 := hw.free 8; have hw_f9 := hw.free 9; have hw_f10 := hw.free 10; have hw_f11 := hw.free 11; have hw_l := hw.lt; clear hgn
    go_wp2_with fail
    refine ret_cell [.bool false, .int .i64 0] (w.heap.size + 1) 28 rfl rfl (Tryz.isAgg28 _) (Tryz.sizeOf28 _) rfl ?_ ⟨by rw [hfin.out]; rfl, (by exact G.go HG)⟩
    exact (by first | exact Hx.go hr | exact Hx.go2)
  | some m =>
    have hfin : Hid (V = some m) := hV3
    rw [show ofR (vN (some m)) = some m from hob] at HO
    simp only [valV, valC] at HO
    have HG := G.refl w none
    replace hw := hw.hx
    go_enter Tryz.func62, Tryz.ntmps62
    go_upto_region 0 with (fail)
    go_cut [3, 4] (fun p r wc => p = .pointer (some ⟨w.heap.size, 0, none⟩) ∧ r = .pointer (some ⟨w.heap.size + 1, 0, none⟩) ∧ w.grownBy wc none ∧ Hx wc w.heap.size [.bool true, .int .i64 x] 28 ∧ Hx wc (w.heap.size + 1) [.bool false, .int .i64 0] 28 ∧ Hx wc B [.string W.S.name, .int .i64 W.S.start, .int .i64 W.S.step, sv, .int .i64 W.S.cons, .bool (vB W.k), .int .i64 (vN W.k), .bool W.has, .bool (vB W.low), .int .i64 (vN W.low), .bool (vB W.high), .int .i64 (vN W.high)] 52)
    case first =>
      go_wp2_with fail
      go_meet
      exact ⟨rfl, rfl, (by exact G.go HG), Hx.alloc (Hx.new _ _ _) _, Hx.new' (by simp) rfl, Hx.alloc (Hx.alloc hw _) _⟩
    obtain ⟨rfl, rfl, HG, ha, hr, hw⟩ := hcut
    have ha_0 := ha.cell 0; have ha_1 := ha.cell 1; have ha_2 := ha.free 0; have ha_3 := ha.free 1; have ha_4 := ha.lt; have hr_0 := hr.cell 0; have hr_1 := hr.cell 1; have hr_2 := hr.free 0; have hr_3 := hr.free 1; have hr_4 := hr.lt; have hw_0 := hw.cell 0; have hw_1 := hw.cell 1; have hw_2 := hw.cell 2; have hw_3 := hw.cell 3; have hw_4 := hw.cell 4; have hw_5 := hw.cell 5; have hw_6 := hw.cell 6; have hw_7 := hw.cell 7; have hw_8 := hw.cell 8; have hw_9 := hw.cell 9; have hw_10 := hw.cell 10; have hw_11 := hw.cell 11; have hw_f0 := hw.free 0; have hw_f1 := hw.free 1; have hw_f2 := hw.free 2; have hw_f3 := hw.free 3; have hw_f4 := hw.free 4; have hw_f5 := hw.free 5; have hw_f6 := hw.free 6; have hw_f7 := hw.free 7; have hw_f8 := hw.free 8; have hw_f9 := hw.free 9; have hw_f10 := hw.free 10; have hw_f11 := hw.free 11; have hw_l := hw.lt
    go_upto_region 4 with ((go_at_call 98; (with_reducible refine (HW.out _ (by first | exact Hx.go hw | exact Hx.go2)).mono ?_); rintro e wn ⟨rfl, hgn⟩; replace HG := G.trans (w := w) (by exact G.go HG) hgn; replace ha := Hx.kept (by first | exact Hx.go ha | exact Hx.go2) hgn (by simp); have ha_0 := ha.cell 0; have ha_1 := ha.cell 1; have ha_2 := ha.free 0; have ha_3 := ha.free 1; have ha_4 := ha.lt; replace hr := Hx.kept (by first | exact Hx.go hr | exact Hx.go2) hgn (by simp); have hr_0 := hr.cell 0; have hr_1 := hr.cell 1; have hr_2 := hr.free 0; have hr_3 := hr.free 1; have hr_4 := hr.lt; replace hw := Hx.kept (by first | exact Hx.go hw | exact Hx.go2) hgn (by simp); have hw_0 := hw.cell 0; have hw_1 := hw.cell 1; have hw_2 := hw.cell 2; have hw_3 := hw.cell 3; have hw_4 := hw.cell 4; have hw_5 := hw.cell 5; have hw_6 := hw.cell 6; have hw_7 := hw.cell 7; have hw_8 := hw.cell 8; have hw_9 := hw.cell 9; have hw_10 := hw.cell 10; have hw_11 := hw.cell 11; have hw_f0 := hw.free 0; have hw_f1 := hw.free 1; have hw_f2 := hw.free 2; have hw_f3 := hw.free 3; have hw_f4 := hw.free 4; have hw_f5 := hw.free 5; have hw_f6 := hw.free 6; have hw_f7 := hw.free 7; have hw_f8 := hw.free 8; have hw_f9 := hw.free 9; have hw_f10 := hw.free 10; have hw_f11 := hw.free 11; have hw_l := hw.lt; clear hgn))
    have ha_q0 := fun x => (Hx.inG ha x).cell 0; have ha_q1 := fun x => (Hx.inG ha x).cell 1; have hr_q0 := fun x => (Hx.inG hr x).cell 0; have hr_q1 := fun x => (Hx.inG hr x).cell 1; have hw_q0 := fun x => (Hx.inG hw x).cell 0; have hw_q1 := fun x => (Hx.inG hw x).cell 1; have hw_q2 := fun x => (Hx.inG hw x).cell 2; have hw_q3 := fun x => (Hx.inG hw x).cell 3; have hw_q4 := fun x => (Hx.inG hw x).cell 4; have hw_q5 := fun x => (Hx.inG hw x).cell 5; have hw_q6 := fun x => (Hx.inG hw x).cell 6; have hw_q7 := fun x => (Hx.inG hw x).cell 7; have hw_q8 := fun x => (Hx.inG hw x).cell 8; have hw_q9 := fun x => (Hx.inG hw x).cell 9; have hw_q10 := fun x => (Hx.inG hw x).cell 10; have hw_q11 := fun x => (Hx.inG hw x).cell 11; have HG0 := HG
    refine wp_region_grow (G.refl _ none) (by kernel_rfl) (by kernel_rfl) ?_
    repeat (refine wpQuiet_step (fun K hK => ?_); go_simp; first | (refine hK _ ?_; clear hK K) | (apply Exists.intro; refine ⟨fun xq => ?_, hK _ ?_⟩; ((go_at_call 99; with_reducible exact grow_of (HM.out _))); clear hK K))
    refine wpQuiet_nil ?_
    intro wn hgn
    clear ha_q0 ha_q1 hr_q0 hr_q1 hw_q0 hw_q1 hw_q2 hw_q3 hw_q4 hw_q5 hw_q6 hw_q7 hw_q8 hw_q9 hw_q10 hw_q11
    replace HG := G.trans (w := w) HG0 hgn
    replace ha := Hx.kept ha hgn (by simp); have ha_0 := ha.cell 0; have ha_1 := ha.cell 1; have ha_2 := ha.free 0; have ha_3 := ha.free 1; have ha_4 := ha.lt; replace hr := Hx.kept hr hgn (by simp); have hr_0 := hr.cell 0; have hr_1 := hr.cell 1; have hr_2 := hr.free 0; have hr_3 := hr.free 1; have hr_4 := hr.lt; replace hw := Hx.kept hw hgn (by simp); have hw_0 := hw.cell 0; have hw_1 := hw.cell 1; have hw_2 := hw.cell 2; have hw_3 := hw.cell 3; have hw_4 := hw.cell 4; have hw_5 := hw.cell 5; have hw_6 := hw.cell 6; have hw_7 := hw.cell 7; have hw_8 := hw.cell 8; have hw_9 := hw.cell 9; have hw_10 := hw.cell 10; have hw_11 := hw.cell 11; have hw_f0 := hw.free 0; have hw_f1 := hw.free 1; have hw_f2 := hw.free 2; have hw_f3 := hw.free 3; have hw_f4 := hw.free 4; have hw_f5 := hw.free 5; have hw_f6 := hw.free 6; have hw_f7 := hw.free 7; have hw_f8 := hw.free 8; have hw_f9 := hw.free 9; have hw_f10 := hw.free 10; have hw_f11 := hw.free 11; have hw_l := hw.lt; clear hgn
    go_wp2_with (go_at_call 52; (with_reducible refine (HO.out _).mono ?_); rintro e wn ⟨rfl, hgn⟩; replace HG := G.trans (w := w) (by exact G.go HG) hgn; replace hr := Hx.kept (by first | exact Hx.go hr | exact Hx.go2) hgn (by simp); have hr_0 := hr.cell 0; have hr_1 := hr.cell 1; have hr_2 := hr.free 0; have hr_3 := hr.free 1; have hr_4 := hr.lt; clear hgn)
    refine ret_cell [.bool true, .int .i64 m] (w.heap.size + 1) 28 rfl rfl (Tryz.isAgg28 _) (Tryz.sizeOf28 _) rfl ?_ ⟨by rw [hfin.out]; rfl, (by exact G.go HG)⟩
    exact (by first | exact Hx.go hr | exact Hx.go2)
end Go.Proofs.YtfomknfjidbdcaaGreatDoor
