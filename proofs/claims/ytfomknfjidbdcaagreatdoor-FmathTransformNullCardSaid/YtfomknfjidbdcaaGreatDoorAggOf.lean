/-
  The walks of the program's least and greatest of a row of values.
-/
import Derived.Test.YtfomknfjidbdcaaGreatDoorAggKnownP
namespace Go.Proofs.YtfomknfjidbdcaaGreatDoor
open Go.RowKit
def bestF (lo : Bool) (a y : Int) : Int := if (if lo then decide (y < a) else decide (a < y)) then y else a
def bestL (lo : Bool) (a : Int) (K : List (Bool × Int)) : Int := K.foldl (fun a p => bestF lo a p.2) a
def aggO (lo : Bool) (X : List (Bool × Int)) : Option Int := match knownL X with
  | [] => none
  | p :: r => some (bestL lo p.2 (p :: r))
theorem bestL_step {lo : Bool} {a : Int} {K : List (Bool × Int)} {i : Nat} (h : i < K.length) : bestL lo a (K.drop i) = bestL lo (bestF lo a K[i].2) (K.drop (i + 1)) := by
  unfold bestL; rw [List.drop_eq_getElem_cons h]; rfl
theorem bestL_end {lo : Bool} {a : Int} {K : List (Bool × Int)} {i : Nat} (h : ¬ i < K.length) : bestL lo a (K.drop i) = a := by
  unfold bestL; rw [List.drop_eq_nil_of_le (by omega)]; rfl
theorem known_at {X : List (Bool × Int)} {i : Nat} (h : i < (knownL X).length) : (knownL X)[i] = (true, (knownL X)[i].2) ∧ -4611686018427387904 ≤ (knownL X)[i].2 ∧ (knownL X)[i].2 ≤ 4611686018427387904 := by
  have hm : (knownL X)[i] ∈ knownL X := List.getElem_mem h
  unfold knownL at hm
  have hk := (List.mem_filter.1 hm).2
  have hk : knownP (knownL X)[i] = true := hk
  generalize (knownL X)[i] = p at *
  obtain ⟨b, n⟩ := p
  unfold knownP at hk
  cases b
  · cases hk
  · simp [isR] at hk; exact ⟨rfl, hk⟩
set_option maxHeartbeats 8000000 in
set_option maxRecDepth 100000 in
theorem aggMin_any (X : List (Bool × Int)) (v : Value) (w : World) (h : ERow valE w v X) (hl : X.length ≤ 1000000) :
    Calls Tryz.prog 33 #[.int .i64 5, v] w fun e w' => e = .returned (valV (aggO true X)) ∧ w.grownBy w' none := by
  obtain ⟨V, hV⟩ : ∃ V, Hid (aggO true X = V) := ⟨_, Lib.hid rfl⟩
  rw [hV.out]
  have HG := G.refl w none
  have hkl : (knownL X).length ≤ X.length := List.length_filter_le _ _
  go_enter Tryz.func33, Tryz.ntmps33
  go_upto_region 0 with (fail)
  go_cut [4] (fun r wc => r = .pointer (some ⟨w.heap.size, 0, none⟩) ∧ w.grownBy wc none ∧ Hx wc w.heap.size [.bool false, .int .i64 0] 28)
  case first =>
    go_wp2_with fail
    go_meet
    exact ⟨rfl, (by exact G.go HG), Hx.new _ _ _⟩
  obtain ⟨rfl, HG, hr⟩ := hcut
  have hsz0 := hr.lt
  have HK := Lib.hid (aggKnown_any X v wc (h.kept0 HG) hl)
  go_upto_region 1 with (fail)
  go_cut [5] (fun u wd => w.grownBy wd none ∧ Hx wd w.heap.size [.bool false, .int .i64 0] 28 ∧ EOwn valE 28 wd wc.heap.size u (knownL X))
  case first =>
    go_wp2_with (go_at_call 69; refine HK.out.mono ?_; rintro e wn ⟨u, rfl, hown, hgn⟩; replace hr := Hx.kept hr hgn (by simp); replace HG := G.trans HG hgn; clear hgn)
    go_meet
    exact ⟨HG, hr, hown⟩
  obtain ⟨HG, hr, hown⟩ := hcut
  have hr_0 := hr.cell 0; have hr_1 := hr.cell 1; have hr_2 := hr.free 0; have hr_3 := hr.free 1; have hr_4 := hr.lt
  have hka := Lib.hid (fun (i : Nat) (h : i < (knownL X).length) => known_at h)
  have hVd : Hid (V = match knownL X with | [] => none | p :: r => some (bestL true p.2 (p :: r))) := Lib.hid (by rw [← hV.out]; rfl)
  clear HK h
  generalize knownL X = K at *
  obtain ⟨A, c, rfl, _, _, hq⟩ := hown.row
  rcases K with _ | ⟨p, r⟩
  · have hfin : Hid (V = none) := hVd
    go_wp2_with fail
    refine ret_cell (valC none) w.heap.size 28 rfl rfl (Tryz.isAgg28 _) (Tryz.sizeOf28 _) rfl ?_ ⟨by rw [hfin.out]; rfl, (by exact G.go HG)⟩
    exact (by first | exact Hx.go hr | exact Hx.go2)
  have hlen : 0 < (p :: r).length := by simp
  have hp0 := hka.out 0 hlen
  have hV2 : Hid (V = some (bestL true p.2 ((p :: r).drop 0))) := hVd
  obtain ⟨pb, n0⟩ := p
  obtain ⟨hpb, hn1, hn2⟩ := hp0
  have hpb : pb = true := congrArg Prod.fst hpb
  subst hpb
  have hn1 : -4611686018427387904 ≤ n0 := hn1
  have hn2 : n0 ≤ 4611686018427387904 := hn2
  obtain ⟨b, o, rfl, hbl, hc⟩ := hq hlen
  have k0 : wc.cell? ⟨b, o, none⟩ = some (.bool true) := by have := hc 0 hlen 0 _ rfl; simpa [valE] using this
  have k1 : wc.cell? ⟨b, o + 1, none⟩ = some (.int .i64 n0) := by have := hc 0 hlen 1 _ rfl; simpa [valE] using this
  have HC := Lib.hid hc
  have hV3 : Hid (V = some (bestL true n0 (((true, n0) :: r : List (Bool × Int)).drop 0))) := hV2
  have hlb : ((true, n0) :: r : List (Bool × Int)).length ≤ 1000000 := by omega
  obtain ⟨R, hR⟩ : ∃ R, Hid (bestL true n0 (((true, n0) :: r : List (Bool × Int)).drop 0) = R) := ⟨_, Lib.hid rfl⟩
  have hfin : Hid (V = some R) := Lib.hid (by rw [hV3.out, hR.out])
  clear hc hVd hV2 hV3 hown hq
  have hN : Hid (-4611686018427387904 ≤ n0 ∧ n0 ≤ 4611686018427387904) := Lib.hid ⟨hn1, hn2⟩
  clear hn1 hn2
  generalize ((true, n0) :: r : List (Bool × Int)) = K at *
  have hK0 : ((K.length : Int) == 0) = false := by simp; intro e; rw [e] at hlen; simp at hlen
  have hsz1 := hr.lt
  have HGw := HG
  go_wp2_with fail
  go_loopw [10, 59] (fun _ iv wr => ∃ (i : Nat) (acc : Int), iv = .int .i64 i ∧ i ≤ K.length ∧ Hid (-4611686018427387904 ≤ acc ∧ acc ≤ 4611686018427387904) ∧ Hid (bestL true acc (K.drop i) = R) ∧ wc.grownBy wr none ∧ Hx wr w.heap.size [.bool false, .int .i64 0] 28 ∧ Hx wr wc.heap.size [.bool true, .int .i64 acc] 28) (fun _ iv _ => K.length - (intOf iv).toNat)
  case atStart => exact ⟨0, n0, rfl, by omega, hN, hR, G.alloc (G.refl _ _) _, Hx.alloc hr _, Hx.new _ _ _⟩
  case round =>
    clear hr HG hr_0 hr_1 hr_2 hr_3 hr_4 k0 k1 hR
    obtain ⟨i, acc, rfl, hi, HB, HR, HGc, hr, hb⟩ := hrel
    have hb_0 := hb.cell 0; have hb_1 := hb.cell 1; have hb_2 := hb.free 0; have hb_3 := hb.free 1; have hb_4 := hb.lt
    by_cases hlt : i < K.length
    · obtain ⟨hp, hy1, hy2⟩ := hka.out i hlt
      have c0 := HC.out i hlt 0 _ rfl
      have c1 := HC.out i hlt 1 _ rfl
      have hst := bestL_step (lo := true) (a := acc) hlt
      rw [hp] at c0 c1 hst
      have HS := Lib.hid (hst ▸ HR.out)
      clear hp hst HR
      generalize (K[i]).2 = y at *
      have x0 : wr.cell? ⟨b, o + i * 2, none⟩ = some (.bool true) := by rw [G.cell HGc (a := ⟨b, o + i * 2, none⟩) hbl (by simp)]; simpa [valE] using c0
      have x1 : wr.cell? ⟨b, o + i * 2 + 1, none⟩ = some (.int .i64 y) := by rw [G.cell HGc (a := ⟨b, o + i * 2 + 1, none⟩) hbl (by simp)]; simpa [valE] using c1
      have HL := Lib.hid (fun w => less_any w true true y acc)
      rw [vK_of ⟨by have := HB.out; omega, by have := HB.out; omega⟩, vK_of ⟨by have := HB.out; omega, by have := HB.out; omega⟩] at HL
      have hHB := HB.out
      have HY : Hid (-4611686018427387904 ≤ y ∧ y ≤ 4611686018427387904) := Lib.hid ⟨hy1, hy2⟩
      clear c0 c1 hy1 hy2 hHB
      simp only [ltO] at HL
      cases hcmp : decide (y < acc)
      · rw [hcmp] at HL
        have hbf : bestF true acc y = acc := by unfold bestF; simp only [if_true, Bool.false_eq_true, if_false, hcmp]
        rw [hbf] at HS
        clear hbf hcmp
        go_wp2_with (go_at_call 72; refine (HL.out _).mono ?_; rintro e wn ⟨rfl, hgn⟩; have hv := Hx.kept (Hx.new wr #[.bool true, .int .i64 y] 28) hgn (by simp); have hv_0 := hv.cell 0; have hv_1 := hv.cell 1; have hv_4 := hv.lt; replace hr := Hx.via hr (by repeat (first | with_reducible exact G.refl _ _ | with_reducible refine G.drewN ?_ _ | with_reducible refine G.drew ?_ | with_reducible refine G.alloc ?_ _)) hgn; replace hb := Hx.via hb (by repeat (first | with_reducible exact G.refl _ _ | with_reducible refine G.drewN ?_ _ | with_reducible refine G.drew ?_ | with_reducible refine G.alloc ?_ _)) hgn; have hb_0 := hb.cell 0; have hb_1 := hb.cell 1; have hb_2 := hb.free 0; have hb_3 := hb.free 1; have hb_4 := hb.lt; replace HGc := G.trans (w := wc) (by exact G.go HGc) hgn; clear hgn)
        refine ⟨?_, by first | (simp [intOf]; done) | (simp [intOf]; omega)⟩
        exact ⟨i + 1, acc, by go_num, by omega, HB, HS, (by exact G.go HGc), (by first | exact Hx.go hr | exact Hx.go2), (by first | exact Hx.go hb | exact Hx.go2)⟩
      · rw [hcmp] at HL
        have hbf : bestF true acc y = y := by unfold bestF; simp only [if_true, hcmp]
        rw [hbf] at HS
        clear hbf hcmp
        go_wp2_with (go_at_call 72; refine (HL.out _).mono ?_; rintro e wn ⟨rfl, hgn⟩; have hv := Hx.kept (Hx.new wr #[.bool true, .int .i64 y] 28) hgn (by simp); have hv_0 := hv.cell 0; have hv_1 := hv.cell 1; have hv_4 := hv.lt; replace hr := Hx.via hr (by repeat (first | with_reducible exact G.refl _ _ | with_reducible refine G.drewN ?_ _ | with_reducible refine G.drew ?_ | with_reducible refine G.alloc ?_ _)) hgn; replace hb := Hx.via hb (by repeat (first | with_reducible exact G.refl _ _ | with_reducible refine G.drewN ?_ _ | with_reducible refine G.drew ?_ | with_reducible refine G.alloc ?_ _)) hgn; have hb_0 := hb.cell 0; have hb_1 := hb.cell 1; have hb_2 := hb.free 0; have hb_3 := hb.free 1; have hb_4 := hb.lt; replace HGc := G.trans (w := wc) (by exact G.go HGc) hgn; clear hgn)
        refine ⟨?_, by first | (simp [intOf]; done) | (simp [intOf]; omega)⟩
        exact ⟨i + 1, y, by go_num, by omega, HY, HS, (by exact G.go HGc), (by first | exact Hx.go hr | exact Hx.go2), (by first | exact Hx.go hb | exact Hx.go2)⟩
    · have he := bestL_end (lo := true) (a := acc) hlt
      have hacc : acc = R := by rw [← HR.out, he]
      subst hacc
      have hr_0 := hr.cell 0; have hr_1 := hr.cell 1; have hr_2 := hr.free 0; have hr_3 := hr.free 1; have hr_4 := hr.lt
      have HG := G.trans HGw HGc
      clear he HR
      go_wp2_with fail
      refine ret_cell (valC (some acc)) w.heap.size 28 rfl rfl (Tryz.isAgg28 _) (Tryz.sizeOf28 _) rfl ?_ ⟨by rw [hfin.out]; rfl, (by exact G.go HG)⟩
      exact (by first | exact Hx.go hr | exact Hx.go2)
set_option maxHeartbeats 8000000 in
set_option maxRecDepth 100000 in
theorem aggMax_any (X : List (Bool × Int)) (v : Value) (w : World) (h : ERow valE w v X) (hl : X.length ≤ 1000000) :
    Calls Tryz.prog 33 #[.int .i64 4, v] w fun e w' => e = .returned (valV (aggO false X)) ∧ w.grownBy w' none := by
  obtain ⟨V, hV⟩ : ∃ V, Hid (aggO false X = V) := ⟨_, Lib.hid rfl⟩
  rw [hV.out]
  have HG := G.refl w none
  have hkl : (knownL X).length ≤ X.length := List.length_filter_le _ _
  go_enter Tryz.func33, Tryz.ntmps33
  go_upto_region 0 with (fail)
  go_cut [4] (fun r wc => r = .pointer (some ⟨w.heap.size, 0, none⟩) ∧ w.grownBy wc none ∧ Hx wc w.heap.size [.bool false, .int .i64 0] 28)
  case first =>
    go_wp2_with fail
    go_meet
    exact ⟨rfl, (by exact G.go HG), Hx.new _ _ _⟩
  obtain ⟨rfl, HG, hr⟩ := hcut
  have hsz0 := hr.lt
  have HK := Lib.hid (aggKnown_any X v wc (h.kept0 HG) hl)
  go_upto_region 1 with (fail)
  go_cut [5] (fun u wd => w.grownBy wd none ∧ Hx wd w.heap.size [.bool false, .int .i64 0] 28 ∧ EOwn valE 28 wd wc.heap.size u (knownL X))
  case first =>
    go_wp2_with (go_at_call 69; refine HK.out.mono ?_; rintro e wn ⟨u, rfl, hown, hgn⟩; replace hr := Hx.kept hr hgn (by simp); replace HG := G.trans HG hgn; clear hgn)
    go_meet
    exact ⟨HG, hr, hown⟩
  obtain ⟨HG, hr, hown⟩ := hcut
  have hr_0 := hr.cell 0; have hr_1 := hr.cell 1; have hr_2 := hr.free 0; have hr_3 := hr.free 1; have hr_4 := hr.lt
  have hka := Lib.hid (fun (i : Nat) (h : i < (knownL X).length) => known_at h)
  have hVd : Hid (V = match knownL X with | [] => none | p :: r => some (bestL false p.2 (p :: r))) := Lib.hid (by rw [← hV.out]; rfl)
  clear HK h
  generalize knownL X = K at *
  obtain ⟨A, c, rfl, _, _, hq⟩ := hown.row
  rcases K with _ | ⟨p, r⟩
  · have hfin : Hid (V = none) := hVd
    go_wp2_with fail
    refine ret_cell (valC none) w.heap.size 28 rfl rfl (Tryz.isAgg28 _) (Tryz.sizeOf28 _) rfl ?_ ⟨by rw [hfin.out]; rfl, (by exact G.go HG)⟩
    exact (by first | exact Hx.go hr | exact Hx.go2)
  have hlen : 0 < (p :: r).length := by simp
  have hp0 := hka.out 0 hlen
  have hV2 : Hid (V = some (bestL false p.2 ((p :: r).drop 0))) := hVd
  obtain ⟨pb, n0⟩ := p
  obtain ⟨hpb, hn1, hn2⟩ := hp0
  have hpb : pb = true := congrArg Prod.fst hpb
  subst hpb
  have hn1 : -4611686018427387904 ≤ n0 := hn1
  have hn2 : n0 ≤ 4611686018427387904 := hn2
  obtain ⟨b, o, rfl, hbl, hc⟩ := hq hlen
  have k0 : wc.cell? ⟨b, o, none⟩ = some (.bool true) := by have := hc 0 hlen 0 _ rfl; simpa [valE] using this
  have k1 : wc.cell? ⟨b, o + 1, none⟩ = some (.int .i64 n0) := by have := hc 0 hlen 1 _ rfl; simpa [valE] using this
  have HC := Lib.hid hc
  have hV3 : Hid (V = some (bestL false n0 (((true, n0) :: r : List (Bool × Int)).drop 0))) := hV2
  have hlb : ((true, n0) :: r : List (Bool × Int)).length ≤ 1000000 := by omega
  obtain ⟨R, hR⟩ : ∃ R, Hid (bestL false n0 (((true, n0) :: r : List (Bool × Int)).drop 0) = R) := ⟨_, Lib.hid rfl⟩
  have hfin : Hid (V = some R) := Lib.hid (by rw [hV3.out, hR.out])
  clear hc hVd hV2 hV3 hown hq
  have hN : Hid (-4611686018427387904 ≤ n0 ∧ n0 ≤ 4611686018427387904) := Lib.hid ⟨hn1, hn2⟩
  clear hn1 hn2
  generalize ((true, n0) :: r : List (Bool × Int)) = K at *
  have hK0 : ((K.length : Int) == 0) = false := by simp; intro e; rw [e] at hlen; simp at hlen
  have hsz1 := hr.lt
  have HGw := HG
  go_wp2_with fail
  go_loopw [8, 45] (fun _ iv wr => ∃ (i : Nat) (acc : Int), iv = .int .i64 i ∧ i ≤ K.length ∧ Hid (-4611686018427387904 ≤ acc ∧ acc ≤ 4611686018427387904) ∧ Hid (bestL false acc (K.drop i) = R) ∧ wc.grownBy wr none ∧ Hx wr w.heap.size [.bool false, .int .i64 0] 28 ∧ Hx wr wc.heap.size [.bool true, .int .i64 acc] 28) (fun _ iv _ => K.length - (intOf iv).toNat)
  case atStart => exact ⟨0, n0, rfl, by omega, hN, hR, G.alloc (G.refl _ _) _, Hx.alloc hr _, Hx.new _ _ _⟩
  case round =>
    clear hr HG hr_0 hr_1 hr_2 hr_3 hr_4 k0 k1 hR
    obtain ⟨i, acc, rfl, hi, HB, HR, HGc, hr, hb⟩ := hrel
    have hb_0 := hb.cell 0; have hb_1 := hb.cell 1; have hb_2 := hb.free 0; have hb_3 := hb.free 1; have hb_4 := hb.lt
    by_cases hlt : i < K.length
    · obtain ⟨hp, hy1, hy2⟩ := hka.out i hlt
      have c0 := HC.out i hlt 0 _ rfl
      have c1 := HC.out i hlt 1 _ rfl
      have hst := bestL_step (lo := false) (a := acc) hlt
      rw [hp] at c0 c1 hst
      have HS := Lib.hid (hst ▸ HR.out)
      clear hp hst HR
      generalize (K[i]).2 = y at *
      have x0 : wr.cell? ⟨b, o + i * 2, none⟩ = some (.bool true) := by rw [G.cell HGc (a := ⟨b, o + i * 2, none⟩) hbl (by simp)]; simpa [valE] using c0
      have x1 : wr.cell? ⟨b, o + i * 2 + 1, none⟩ = some (.int .i64 y) := by rw [G.cell HGc (a := ⟨b, o + i * 2 + 1, none⟩) hbl (by simp)]; simpa [valE] using c1
      have HL := Lib.hid (fun w => less_any w true true acc y)
      rw [vK_of ⟨by have := HB.out; omega, by have := HB.out; omega⟩, vK_of ⟨by have := HB.out; omega, by have := HB.out; omega⟩] at HL
      have hHB := HB.out
      have HY : Hid (-4611686018427387904 ≤ y ∧ y ≤ 4611686018427387904) := Lib.hid ⟨hy1, hy2⟩
      clear c0 c1 hy1 hy2 hHB
      simp only [ltO] at HL
      cases hcmp : decide (acc < y)
      · rw [hcmp] at HL
        have hbf : bestF false acc y = acc := by unfold bestF; simp only [Bool.false_eq_true, if_false, hcmp]
        rw [hbf] at HS
        clear hbf hcmp
        go_wp2_with (go_at_call 72; refine (HL.out _).mono ?_; rintro e wn ⟨rfl, hgn⟩; have hv := Hx.kept (Hx.new wr #[.bool true, .int .i64 y] 28) hgn (by simp); have hv_0 := hv.cell 0; have hv_1 := hv.cell 1; have hv_4 := hv.lt; replace hr := Hx.via hr (by repeat (first | with_reducible exact G.refl _ _ | with_reducible refine G.drewN ?_ _ | with_reducible refine G.drew ?_ | with_reducible refine G.alloc ?_ _)) hgn; replace hb := Hx.via hb (by repeat (first | with_reducible exact G.refl _ _ | with_reducible refine G.drewN ?_ _ | with_reducible refine G.drew ?_ | with_reducible refine G.alloc ?_ _)) hgn; have hb_0 := hb.cell 0; have hb_1 := hb.cell 1; have hb_2 := hb.free 0; have hb_3 := hb.free 1; have hb_4 := hb.lt; replace HGc := G.trans (w := wc) (by exact G.go HGc) hgn; clear hgn)
        refine ⟨?_, by first | (simp [intOf]; done) | (simp [intOf]; omega)⟩
        exact ⟨i + 1, acc, by go_num, by omega, HB, HS, (by exact G.go HGc), (by first | exact Hx.go hr | exact Hx.go2), (by first | exact Hx.go hb | exact Hx.go2)⟩
      · rw [hcmp] at HL
        have hbf : bestF false acc y = y := by unfold bestF; simp only [if_true, Bool.false_eq_true, if_false, hcmp]
        rw [hbf] at HS
        clear hbf hcmp
        go_wp2_with (go_at_call 72; refine (HL.out _).mono ?_; rintro e wn ⟨rfl, hgn⟩; have hv := Hx.kept (Hx.new wr #[.bool true, .int .i64 y] 28) hgn (by simp); have hv_0 := hv.cell 0; have hv_1 := hv.cell 1; have hv_4 := hv.lt; replace hr := Hx.via hr (by repeat (first | with_reducible exact G.refl _ _ | with_reducible refine G.drewN ?_ _ | with_reducible refine G.drew ?_ | with_reducible refine G.alloc ?_ _)) hgn; replace hb := Hx.via hb (by repeat (first | with_reducible exact G.refl _ _ | with_reducible refine G.drewN ?_ _ | with_reducible refine G.drew ?_ | with_reducible refine G.alloc ?_ _)) hgn; have hb_0 := hb.cell 0; have hb_1 := hb.cell 1; have hb_2 := hb.free 0; have hb_3 := hb.free 1; have hb_4 := hb.lt; replace HGc := G.trans (w := wc) (by exact G.go HGc) hgn; clear hgn)
        refine ⟨?_, by first | (simp [intOf]; done) | (simp [intOf]; omega)⟩
        exact ⟨i + 1, y, by go_num, by omega, HY, HS, (by exact G.go HGc), (by first | exact Hx.go hr | exact Hx.go2), (by first | exact Hx.go hb | exact Hx.go2)⟩
    · have he := bestL_end (lo := false) (a := acc) hlt
      have hacc : acc = R := by rw [← HR.out, he]
      subst hacc
      have hr_0 := hr.cell 0; have hr_1 := hr.cell 1; have hr_2 := hr.free 0; have hr_3 := hr.free 1; have hr_4 := hr.lt
      have HG := G.trans HGw HGc
      clear he HR
      go_wp2_with fail
      refine ret_cell (valC (some acc)) w.heap.size 28 rfl rfl (Tryz.isAgg28 _) (Tryz.sizeOf28 _) rfl ?_ ⟨by rw [hfin.out]; rfl, (by exact G.go HG)⟩
      exact (by first | exact Hx.go hr | exact Hx.go2)
end Go.Proofs.YtfomknfjidbdcaaGreatDoor
