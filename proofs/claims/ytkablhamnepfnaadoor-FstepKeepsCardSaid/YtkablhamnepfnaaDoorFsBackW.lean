/-
  The walk of the law FstepBack. Printed by genfsback.py.
-/
import Derived.Test.YtkablhamnepfnaaDoorFsBackP
import Derived.Test.YtkablhamnepfnaaDoorFsLaw
import Derived.Test.YtkablhamnepfnaaDoorIntOpen
import Derived.Test.YtkablhamnepfnaaDoorRegionMix
namespace Go.Proofs.YtkablhamnepfnaaDoor
open Go.RowKit
theorem ser_got {x : Option Ser} {nm : ByteArray} {st sp cn : Int} {Y : List (Bool × Int)} {n : Nat} (hn : Y.length = n) (e1 : x = some ⟨nm, st, sp, Y, cn⟩) {w : World} {e : Ending} {w' : World} (h : SerPost x w e w') :
    ∃ A c, e = .returned (.tuple #[.agg #[.string nm, .int .i64 st, .int .i64 sp, .slice A n c, .int .i64 cn], .bool true]) ∧ ERow valE w' (.slice A n c) Y ∧ w.grownBy w' none := by
  subst e1
  obtain ⟨u, rfl, hu, hg⟩ := h
  have hu : ERow valE w' u Y := hu
  obtain ⟨A, c, rfl, _⟩ := id hu
  rw [hn] at hu
  exact ⟨A, c, by rw [← hn]; rfl, hu, hg⟩
def numsV (X : List Int) : List (Bool × Int) := X.map fun n => (true, n)
theorem nums_row (X : List Int) : numsV X = rowO X.length (numO X) := by
  refine List.ext_getElem (by simp [numsV, rowO_len]) (fun i h1 h2 => ?_)
  have h3 : i < X.length := by simpa [numsV] using h1
  rw [rowO_at]
  show (numsV X)[i] = (true, X.getD i 0)
  simp [numsV, List.getD_eq_getElem?_getD, List.getElem?_eq_getElem h3]
theorem nums_take {X : List Int} {i : Nat} (h : i < X.length) : numsV (X.take (i + 1)) = numsV (X.take i) ++ [(true, X[i])] := by
  unfold numsV
  rw [List.take_succ_eq_append_getElem h, List.map_append]; rfl
theorem small_take {X : List Int} {i : Nat} (h : i < X.length) (hs : SmallL (X.take i)) (h1 : -1125899906842624 ≤ X[i]) (h2 : X[i] ≤ 1125899906842624) : SmallL (X.take (i + 1)) := by
  intro n hn
  rw [List.take_succ_eq_append_getElem h, List.mem_append, List.mem_singleton] at hn
  rcases hn with hn | rfl
  · exact hs n hn
  · exact ⟨h1, h2⟩
set_option maxHeartbeats 16000000 in
set_option maxRecDepth 100000 in
theorem fstepBack_any (v : Value) (X : List Int) (w : World) (h : ERow intE w v X) (hX : ∀ n ∈ X, -9223372036854775808 ≤ n ∧ n ≤ 9223372036854775807) (hp : Pow10 w) : Calls Tryd.prog 3 #[v] w fun e w' => e = .returned (.bool true) ∧ w.grownBy w' none := by
  have HG := G.refl w none
  have HK := Lib.hid (fun W (hg : w.grownBy W none) => lawKnown20_any W (Pow10.kept hp hg))
  have HP := Lib.hid hp; clear hp
  have hle := h.le
  unfold maxLen at hle
  obtain ⟨A, c, rfl, q1, q2, q3⟩ := h
  have Q3 := Lib.hid q3; clear q3 q2
  by_cases g1 : X.length < 1
  · go_enter Tryd.func3, Tryd.ntmps3
    go_wp2_with (go_at_call 5; (with_reducible refine (HK.out _ (by exact G.go HG)).mono ?_); rintro e w3 ⟨rfl, hgn⟩; replace HG := G.trans (w := w) (by exact G.go HG) hgn; clear hgn)
    go_ret
    exact ⟨rfl, (by exact G.go HG)⟩
  by_cases g2 : 100 < X.length
  · go_enter Tryd.func3, Tryd.ntmps3
    go_wp2_with (go_at_call 5; (with_reducible refine (HK.out _ (by exact G.go HG)).mono ?_); rintro e w3 ⟨rfl, hgn⟩; replace HG := G.trans (w := w) (by exact G.go HG) hgn; clear hgn)
    go_ret
    exact ⟨rfl, (by exact G.go HG)⟩
  have HX := Lib.hid hX; clear hX
  obtain ⟨b, bo, rfl, hbl, hcell⟩ := Q3.out (by omega)
  have HC : Hid (∀ i (hi : i < X.length) (W : World), w.grownBy W none → W.cell? ⟨b, bo + i, none⟩ = some (.int .i64 X[i])) := Lib.hid (fun i hi W hg => by
    have := hcell i hi 0 (.int .i64 X[i]) rfl
    rw [show intE.k = 1 from rfl, Nat.mul_one, Nat.add_zero] at this
    exact (G.cell hg (a := ⟨b, bo + i, none⟩) hbl (by simp)).trans this)
  clear Q3 hcell
  go_enter Tryd.func3, Tryd.ntmps3
  go_wp2_with fail
  go_loopw [4] (fun iv wr => ∃ (i : Nat) (vv : Value), iv = .int .i64 i ∧ i ≤ X.length ∧ w.grownBy wr none ∧ Hx wr w.heap.size [.string ⟨#[97]⟩, .int .i64 0, .int .i64 5, vv, .int .i64 0] 26 ∧ EOwn valE 28 wr (w.heap.size + 1) vv (numsV (X.take i)) ∧ Hid (SmallL (X.take i))) (fun iv _ => X.length - (intOf iv).toNat)
  case atStart => exact ⟨0, .slice none 0 0, rfl, by omega, (by exact G.go HG), Hx.new _ _ _, EOwn.nil _ _ _ _, Lib.hid (fun n hn => by simp at hn)⟩
  case round =>
    clear HG
    obtain ⟨i, vv, rfl, hi, HG, hs, hv, hsm⟩ := hrel
    rename World => wo
    have hs_l := hs.lt
    have hvl : (numsV (X.take i)).length = i := by simp [numsV]; omega
    have hvm : ∃ VA VC, vv = .slice VA i VC := by
      rcases hv.form with ⟨e, e2⟩ | ⟨g, cap, e, _⟩
      · have h0 : i = 0 := by rw [← hvl, e2]; rfl
        exact ⟨none, 0, by rw [e, h0]⟩
      · exact ⟨_, _, by rw [e, hvl]⟩
    obtain ⟨VA, VC, rfl⟩ := hvm
    by_cases hlt : i < X.length
    · have x0 := HC.out i hlt wo HG
      have HC9 := Lib.hid (fun (W : World) (hg : w.grownBy W none) => HC.out i hlt W hg)
      have hxb := HX.out X[i] (List.getElem_mem hlt)
      have hnx := Lib.hid (nums_take hlt)
      have hns := Lib.hid (fun h1 h2 => small_take hlt hsm.out h1 h2)
      generalize hxi : X[i] = xi at *
      clear hxi
      have hs_0 := hs.cell 0; have hs_f0 := hs.free 0; have hs_1 := hs.cell 1; have hs_f1 := hs.free 1; have hs_2 := hs.cell 2; have hs_f2 := hs.free 2; have hs_3 := hs.cell 3; have hs_f3 := hs.free 3; have hs_4 := hs.cell 4; have hs_f4 := hs.free 4; have hs_l := hs.lt
      by_cases m1 : xi < -1125899906842624
      · go_wp2_with (go_at_call 5; (with_reducible refine (HK.out _ (by exact G.go HG)).mono ?_); rintro e w3 ⟨rfl, hgn⟩; replace HG := G.trans (w := w) (by exact G.go HG) hgn; clear hgn)
        go_ret
        exact ⟨rfl, (by exact G.go HG)⟩
      by_cases m2 : 1125899906842624 < xi
      · go_wp2_with (go_at_call 5; (with_reducible refine (HK.out _ (by exact G.go HG)).mono ?_); rintro e w3 ⟨rfl, hgn⟩; replace HG := G.trans (w := w) (by exact G.go HG) hgn; clear hgn)
        go_ret
        exact ⟨rfl, (by exact G.go HG)⟩
      have hsn := Lib.hid (hns.out (by omega) (by omega))
      have hown : ∀ g, (Value.slice VA i VC).ownBlock = some g → w.heap.size + 1 ≤ g ∧ g < wo.heap.size := fun g e => hv.lt g e
      clear hns hsm
      go_wp2_with fail
      obtain ⟨FF, hFF⟩ : ∃ FF : Nat → (Nat → Value) → World → Prop, FF = fun tt VV y => w.grownBy y none ∧ Hx y w.heap.size [.string ⟨#[97]⟩, .int .i64 0, .int .i64 5, .slice VA i VC, .int .i64 0] 26 ∧ w.heap.size + 1 ≤ y.heap.size ∧ ((tt = 0 ∧ EOwn valE 28 y (w.heap.size + 1) (.slice VA i VC) (numsV (X.take i))) ∨ (tt = 1 ∧ ∃ g, VV 7 = .slice (some ⟨g, 0, none⟩) 1 1 ∧ Hx y g [.bool true, .int .i64 xi] 28 ∧ EOwn valE 28 y (w.heap.size + 1) (.slice VA i VC) (numsV (X.take i))) ∨ (tt = 2 ∧ ∃ A4 c4, VV 8 = .slice A4 (i + 1) c4 ∧ EOwn valE 28 y (w.heap.size + 1) (.slice A4 (i + 1) c4) (numsV (X.take i) ++ [(true, xi)]))) := ⟨_, rfl⟩
      replace hFF := Lib.hid hFF
      refine wp_region_mix (n := 10) (S := [fun v => v = .pointer (some ⟨w.heap.size, 3, none⟩), fun v => v = .slice VA i VC, fun v => v = .slice (some ⟨b, bo, none⟩) X.length c, fun v => v = .int .i64 i, fun v => v = .pointer (some ⟨b, bo + i, none⟩), fun v => v = .int .i64 xi, fun v => v = .agg #[.bool true, .int .i64 xi], fun _ => True, fun _ => True, fun v => v = .pointer (some ⟨w.heap.size, 3, none⟩)]) (ch := [7, 8]) (F := FF) (by kernel_rfl) (by kernel_rfl) (by kernel_rfl) ?_ ?_ ?_ ?_
      · intro t V V' y hVV hF; rw [hFF.out] at hF ⊢; have q7 := hVV 7 (by decide); have q8 := hVV 8 (by decide); simp only [q7, q8] at hF; exact hF
      · intro V; rw [hFF.out]; exact ⟨(by exact G.go HG), Hx.go2, by simp; omega, Or.inl ⟨rfl, by first | exact hv.drew | exact hv⟩⟩
      · simp only [List.take_succ_cons, List.take_zero, mixOps]
        refine ⟨?_, ?_, ?_, ?_, ?_, ?_, ?_, ?_, ?_, ?_, trivial⟩
        · rw [if_neg (by decide)]
          intro VV y1 tt hV1 hV
          clear hV
          have hgy : w.grownBy y1 none := by rw [hFF.out] at hV1; exact hV1.1
          have hm2 : Hx y1 w.heap.size [.string ⟨#[97]⟩, .int .i64 0, .int .i64 5, .slice VA i VC, .int .i64 0] 26 := by rw [hFF.out] at hV1; exact hV1.2.1
          have hm2_3 := hm2.cell 3; have hm2_l := hm2.lt
          have x9 := HC9.out y1 hgy
          simp only [putAll]
          go_wp2_with fail
          exact ⟨rfl, rfl, rfl, rfl⟩
        · rw [if_neg (by decide)]
          intro VV y1 tt hV1 hV
          have e0 := hV 0 (by kernel_rfl) (by decide)
          clear hV
          simp only [List.getD_cons_succ, List.getD_cons_zero] at e0
          have hgy : w.grownBy y1 none := by rw [hFF.out] at hV1; exact hV1.1
          have hm2 : Hx y1 w.heap.size [.string ⟨#[97]⟩, .int .i64 0, .int .i64 5, .slice VA i VC, .int .i64 0] 26 := by rw [hFF.out] at hV1; exact hV1.2.1
          have hm2_3 := hm2.cell 3; have hm2_l := hm2.lt
          have x9 := HC9.out y1 hgy
          simp only [putAll, e0]
          go_wp2_with fail
          exact ⟨rfl, rfl, rfl, rfl⟩
        · rw [if_neg (by decide)]
          intro VV y1 tt hV1 hV
          clear hV
          have hgy : w.grownBy y1 none := by rw [hFF.out] at hV1; exact hV1.1
          have hm2 : Hx y1 w.heap.size [.string ⟨#[97]⟩, .int .i64 0, .int .i64 5, .slice VA i VC, .int .i64 0] 26 := by rw [hFF.out] at hV1; exact hV1.2.1
          have hm2_3 := hm2.cell 3; have hm2_l := hm2.lt
          have x9 := HC9.out y1 hgy
          simp only [putAll]
          go_wp2_with fail
          exact ⟨rfl, rfl, rfl, rfl⟩
        · rw [if_neg (by decide)]
          intro VV y1 tt hV1 hV
          clear hV
          have hgy : w.grownBy y1 none := by rw [hFF.out] at hV1; exact hV1.1
          have hm2 : Hx y1 w.heap.size [.string ⟨#[97]⟩, .int .i64 0, .int .i64 5, .slice VA i VC, .int .i64 0] 26 := by rw [hFF.out] at hV1; exact hV1.2.1
          have hm2_3 := hm2.cell 3; have hm2_l := hm2.lt
          have x9 := HC9.out y1 hgy
          simp only [putAll]
          go_wp2_with fail
          exact ⟨rfl, rfl, rfl, rfl⟩
        · rw [if_neg (by decide)]
          intro VV y1 tt hV1 hV
          have e2 := hV 2 (by kernel_rfl) (by decide); have e3 := hV 3 (by kernel_rfl) (by decide)
          clear hV
          simp only [List.getD_cons_succ, List.getD_cons_zero] at e2 e3
          have hgy : w.grownBy y1 none := by rw [hFF.out] at hV1; exact hV1.1
          have hm2 : Hx y1 w.heap.size [.string ⟨#[97]⟩, .int .i64 0, .int .i64 5, .slice VA i VC, .int .i64 0] 26 := by rw [hFF.out] at hV1; exact hV1.2.1
          have hm2_3 := hm2.cell 3; have hm2_l := hm2.lt
          have x9 := HC9.out y1 hgy
          simp only [putAll, e2, e3]
          go_wp2_with fail
          exact ⟨rfl, rfl, rfl, rfl⟩
        · rw [if_neg (by decide)]
          intro VV y1 tt hV1 hV
          have e4 := hV 4 (by kernel_rfl) (by decide)
          clear hV
          simp only [List.getD_cons_succ, List.getD_cons_zero] at e4
          have hgy : w.grownBy y1 none := by rw [hFF.out] at hV1; exact hV1.1
          have hm2 : Hx y1 w.heap.size [.string ⟨#[97]⟩, .int .i64 0, .int .i64 5, .slice VA i VC, .int .i64 0] 26 := by rw [hFF.out] at hV1; exact hV1.2.1
          have hm2_3 := hm2.cell 3; have hm2_l := hm2.lt
          have x9 := HC9.out y1 hgy
          simp only [putAll, e4]
          go_wp2_with fail
          exact ⟨rfl, rfl, rfl, rfl⟩
        · rw [if_neg (by decide)]
          intro VV y1 tt hV1 hV
          have e5 := hV 5 (by kernel_rfl) (by decide)
          clear hV
          simp only [List.getD_cons_succ, List.getD_cons_zero] at e5
          have hgy : w.grownBy y1 none := by rw [hFF.out] at hV1; exact hV1.1
          have hm2 : Hx y1 w.heap.size [.string ⟨#[97]⟩, .int .i64 0, .int .i64 5, .slice VA i VC, .int .i64 0] 26 := by rw [hFF.out] at hV1; exact hV1.2.1
          have hm2_3 := hm2.cell 3; have hm2_l := hm2.lt
          have x9 := HC9.out y1 hgy
          simp only [putAll, e5]
          go_wp2_with fail
          exact ⟨rfl, rfl, rfl, rfl⟩
        · rw [if_pos (by decide)]
          intro VV y1 hV1 hV
          replace hV1 : FF 0 VV y1 := hV1
          have e6 := hV 6 (by kernel_rfl) (by decide)
          clear hV
          simp only [List.getD_cons_succ, List.getD_cons_zero] at e6
          rw [hFF.out] at hV1
          obtain ⟨k1, k2, k3, ⟨-, k4⟩ | ⟨h, -⟩ | ⟨h, -⟩⟩ := hV1
          rotate_left
          · cases h
          · cases h
          simp only [putAll, e6]
          go_simp
          go_wp2_with fail
          exact ⟨rfl, rfl, by rw [hFF.out]; exact ⟨(by exact G.go k1), k2.alloc _, Nat.le_trans k3 (by simp), Or.inr (Or.inl ⟨rfl, y1.heap.size, by simp [upd, slotOf, Act.put], Hx.new' rfl rfl, k4.alloc _⟩)⟩⟩
        · rw [if_pos (by decide)]
          intro VV y1 hV1 hV
          replace hV1 : FF 1 VV y1 := hV1
          have e1 := hV 1 (by kernel_rfl) (by decide)
          clear hV
          simp only [List.getD_cons_succ, List.getD_cons_zero] at e1
          rw [hFF.out] at hV1
          obtain ⟨k1, k2, k3, ⟨h, -⟩ | ⟨-, g, e7, kx, k4⟩ | ⟨h, -⟩⟩ := hV1
          · cases h
          rotate_left
          · cases h
          simp only [putAll, e1, e7]
          go_simp
          go_wp2_with (at_builtin; refine wpList_append_el valE rfl _ _ 24 28 rfl Tryd.underlying24 info_val (w.heap.size + 1) _ (numsV (X.take i)) rfl g (true, xi) 28 rfl ?_ ⟨k4, kx, k3, by omega⟩; intro g4 c4 w4 hk4 hg4)
          exact ⟨rfl, rfl, by rw [hFF.out]; exact ⟨G.trans' k1 hg4 (fun c e => Or.inl (by have := (k4.lt c e).1; omega)), k2.kept hg4 (fun e => by have := (k4.lt _ e.symm).1; omega), Nat.le_trans k3 hg4.size, Or.inr (Or.inr ⟨rfl, some ⟨g4, 0, none⟩, c4, by simp [upd, slotOf, Act.put], by rw [hvl] at hk4; exact hk4⟩)⟩⟩
        · rw [if_neg (by decide)]
          intro VV y1 tt hV1 hV
          clear hV
          have hgy : w.grownBy y1 none := by rw [hFF.out] at hV1; exact hV1.1
          have hm2 : Hx y1 w.heap.size [.string ⟨#[97]⟩, .int .i64 0, .int .i64 5, .slice VA i VC, .int .i64 0] 26 := by rw [hFF.out] at hV1; exact hV1.2.1
          have hm2_3 := hm2.cell 3; have hm2_l := hm2.lt
          have x9 := HC9.out y1 hgy
          simp only [putAll]
          go_wp2_with fail
          exact ⟨rfl, rfl, rfl, rfl⟩
      · intro VV y1 hV1 hV
        have e0 := hV 0 (by omega) (by decide); have e1 := hV 1 (by omega) (by decide); have e2 := hV 2 (by omega) (by decide); have e3 := hV 3 (by omega) (by decide); have e4 := hV 4 (by omega) (by decide); have e5 := hV 5 (by omega) (by decide); have e6 := hV 6 (by omega) (by decide); have e9 := hV 9 (by omega) (by decide); clear hV
        simp only [List.getD_cons_succ, List.getD_cons_zero] at e0 e1 e2 e3 e4 e5 e6 e9
        rw [hFF.out] at hV1
        clear hFF
        obtain ⟨k1, k2, k3, ⟨h, -⟩ | ⟨h, -⟩ | ⟨-, A4, c4, e8, k4⟩⟩ := hV1
        · cases h
        · cases h
        simp only [List.take_succ_cons, List.take_zero, List.drop_succ_cons, List.drop_zero, putAll, e0, e1, e2, e3, e4, e5, e6, e8, e9]
        clear hs hv HG x0 e0 e1 e2 e3 e4 e5 e6 e8 e9 hs_0 hs_f0 hs_1 hs_f1 hs_2 hs_f2 hs_3 hs_f3 hs_4 hs_f4 hs_l
        have HG := k1; have hs := k2; clear k1 k2
        have hno : (Value.slice A4 (i + 1) c4).ownBlock ≠ some w.heap.size := fun e => by have := (k4.lt _ e).1; omega
        have hs_0 := hs.cell 0; have hs_f0 := hs.free 0; have hs_1 := hs.cell 1; have hs_f1 := hs.free 1; have hs_2 := hs.cell 2; have hs_f2 := hs.free 2; have hs_3 := hs.cell 3; have hs_f3 := hs.free 3; have hs_4 := hs.cell 4; have hs_f4 := hs.free 4; have hs_l := hs.lt
        go_wp2_with fail
        refine ⟨?_, by first | (simp [intOf]; done) | (simp [intOf]; omega)⟩
        exact ⟨i + 1, .slice A4 (i + 1) c4, by go_num, by omega, (by exact G.go HG), Hx.go2, (k4.set hno _ _).conv hnx.out.symm, hsn⟩
    · obtain rfl : i = X.length := by omega
      rw [List.take_length] at hv hsm
      rw [nums_row] at hv
      have hS := hsm.out
      have hl100 : X.length ≤ 100 := by omega
      obtain ⟨nm2, e2⟩ := back_int hS hl100
      have e1 := back_der hS hl100
      have HV := Lib.hid hv.row
      have HA1 : Hid (∀ w2 u, ERow valE w2 u (rowO X.length (numO X)) → Pow10 w2 → Calls Tryd.prog 6 #[.string ⟨#[100, 101, 114, 105, 118, 97, 116, 105, 118, 101]⟩, .agg #[.string ⟨#[97]⟩, .int .i64 0, .int .i64 5, u, .int .i64 0], .slice none 0 0] w2 fun e w3 => ∃ A c, e = .returned (.tuple #[.agg #[.string (labelB fs2 (labTexts ⟨#[97]⟩ [])), .int .i64 0, .int .i64 5, .slice A X.length c, .int .i64 0], .bool true]) ∧ ERow valE w3 (.slice A X.length c) (rowO X.length (derO X)) ∧ w2.grownBy w3 none) := Lib.hid (fun w2 u hu hpp => (fsApply_any fs2 (numS X) u (.slice none 0 0) [] w2 hu (ERow.nil _) (by simp) (by decide) (by show ByteArray.size ⟨#[97]⟩ ≤ 100000; decide) (by show (rowO X.length (numO X)).length ≤ _; rw [rowO_len]; omega) (by simp) hpp).mono fun e w3 hq => ser_got (rowO_len _ _) e1 hq)
      have hn1 : (labelB fs2 (labTexts ⟨#[97]⟩ [])).size ≤ 100000 := by decide +kernel
      generalize labelB fs2 (labTexts ⟨#[97]⟩ []) = nm1 at *
      have HA2 : Hid (∀ w2 u, ERow valE w2 u (rowO X.length (derO X)) → Pow10 w2 → Calls Tryd.prog 6 #[.string ⟨#[105, 110, 116, 101, 103, 114, 97, 108]⟩, .agg #[.string nm1, .int .i64 0, .int .i64 5, u, .int .i64 0], .slice none 0 0] w2 fun e w3 => ∃ A c, e = .returned (.tuple #[.agg #[.string nm2, .int .i64 0, .int .i64 5, .slice A X.length c, .int .i64 0], .bool true]) ∧ ERow valE w3 (.slice A X.length c) (rowO X.length (risO X)) ∧ w2.grownBy w3 none) := Lib.hid (fun w2 u hu hpp => (fsApply_any fs3 ⟨nm1, 0, 5, rowO X.length (derO X), 0⟩ u (.slice none 0 0) [] w2 hu (ERow.nil _) (by simp) (by decide) hn1 (by show (rowO X.length (derO X)).length ≤ _; rw [rowO_len]; omega) (by simp) hpp).mono fun e w3 hq => ser_got (rowO_len _ _) e2 hq)
      clear e1 e2 hv hsm hn1
      have hs_0 := hs.cell 0; have hs_f0 := hs.free 0; have hs_1 := hs.cell 1; have hs_f1 := hs.free 1; have hs_2 := hs.cell 2; have hs_f2 := hs.free 2; have hs_3 := hs.cell 3; have hs_f3 := hs.free 3; have hs_4 := hs.cell 4; have hs_f4 := hs.free 4; have hs_l := hs.lt
      have hgo := G.refl wo none
      go_upto_region 11 with ((go_at_call 6; (with_reducible refine (HA1.out _ _ (HV.out.kept0 (by exact G.go hgo)) (Pow10.kept (w := w) HP.out (G.trans HG (by exact G.go hgo)))).mono ?_); rintro e w4 ⟨A4, c4, rfl, hu4, hgn⟩; have HU4 := Lib.hid hu4; replace hgo := G.trans (w := wo) (by exact G.go hgo) hgn; have hg4 := G.refl w4 none; clear hu4 hgn))
      go_cut [5, 6, 7, 8] (fun p5 p6 p7 p8 wd => ∃ DB XB A4 c4 A5 c5, p5 = .pointer (some ⟨DB, 0, none⟩) ∧ p6 = .bool true ∧ p7 = .pointer (some ⟨XB, 0, none⟩) ∧ p8 = .bool true ∧ w.grownBy wd none ∧ Hx wd DB [.string nm1, .int .i64 0, .int .i64 5, .slice A4 X.length c4, .int .i64 0] 26 ∧ Hx wd XB [.string nm2, .int .i64 0, .int .i64 5, .slice A5 X.length c5, .int .i64 0] 26 ∧ ERow valE wd (.slice A4 X.length c4) (rowO X.length (derO X)) ∧ ERow valE wd (.slice A5 X.length c5) (rowO X.length (risO X)))
      case first =>
        go_wp2_with (go_at_call 6; (with_reducible refine (HA2.out _ _ (HU4.out.kept0 (by exact G.go hg4)) (Pow10.kept (w := w) HP.out (G.trans HG (by exact G.go hgo)))).mono ?_); rintro e w5 ⟨A5, c5, rfl, hu5, hgn⟩; have HU5 := Lib.hid hu5; replace hgo := G.trans (w := wo) (by exact G.go hgo) hgn; have hd5 := Hx.kept (T := 26) (cs := [.string nm1, .int .i64 0, .int .i64 5, .slice A4 X.length c4, .int .i64 0]) (b := w4.heap.size) (by have hb0 := ((Hx.new w4 #[.string nm1, .int .i64 0, .int .i64 5, .slice A4 X.length c4, .int .i64 0] 26)); apply Hx.conv; (case h => (repeat first | with_reducible exact hb0 | with_reducible apply Hx.drewN | with_reducible apply Hx.drew | with_reducible apply Hx.set | with_reducible exact Hx.new _ _ _ | (with_reducible apply Hx.new'; (case hl => rfl); (case hb => (first | omega | (simp; done) | (simp; omega)))) | with_reducible apply Hx.alloc | (with_reducible apply Hx.other; (case hne => (first | omega | (simp; done) | (simp; omega)))))); (case e => (first | rfl | (simp; done) | (simp; omega)))) hgn (by simp); replace hg4 := G.trans (w := w4) (by exact G.go hg4) hgn; have hg5 := G.refl w5 none; clear hu5 hgn; have hd5_0 := hd5.cell 0; have hd5_f0 := hd5.free 0; have hd5_1 := hd5.cell 1; have hd5_f1 := hd5.free 1; have hd5_2 := hd5.cell 2; have hd5_f2 := hd5.free 2; have hd5_3 := hd5.cell 3; have hd5_f3 := hd5.free 3; have hd5_4 := hd5.cell 4; have hd5_f4 := hd5.free 4; have hd5_l := hd5.lt; )
        go_meet
        exact ⟨_, _, _, _, _, _, rfl, rfl, rfl, rfl, G.trans HG (by exact G.go hgo), (by first | exact Hx.go hd5 | exact Hx.go2), Hx.new' rfl rfl, HU4.out.kept0 (by exact G.go hg4), HU5.out.kept0 (by exact G.go hg5)⟩
      clear hs hs_0 hs_f0 hs_1 hs_f1 hs_2 hs_f2 hs_3 hs_f3 hs_4 hs_f4 hs_l
      obtain ⟨DB, XB, A4, c4, A5, c5, rfl, rfl, rfl, rfl, HG, hd, hx, hu4, hu5⟩ := hcut
      clear HA1 HA2 HV
      rename World => wy
      obtain ⟨_, _, e4, -, -, r4⟩ := hu4
      obtain ⟨_, _, e5, -, -, r5⟩ := hu5
      rw [rowO_len] at e4 e5
      cases e4
      cases e5
      obtain ⟨b4, o4, rfl, hb4, hc4⟩ := r4 (by rw [rowO_len]; omega)
      obtain ⟨b5, o5, rfl, hb5, hc5⟩ := r5 (by rw [rowO_len]; omega)
      have R5 := Lib.hid (fun i (hi : i < X.length) (W : World) (hg : wy.grownBy W none) => valCells hc5 hg hb5 (show i < (rowO X.length (risO X)).length by rw [rowO_len]; exact hi))
      obtain ⟨d0, d1⟩ := valCells hc4 (G.refl wy none) hb4 (show 0 < (rowO X.length (derO X)).length by rw [rowO_len]; omega)
      rw [rowO_at] at d0 d1
      simp only [show vP (derO X 0) = (false, 0) from rfl, Nat.zero_mul, Nat.add_zero] at d0 d1
      clear hc4 hc5
      have hd_0 := hd.cell 0; have hd_f0 := hd.free 0; have hd_1 := hd.cell 1; have hd_f1 := hd.free 1; have hd_2 := hd.cell 2; have hd_f2 := hd.free 2; have hd_3 := hd.cell 3; have hd_f3 := hd.free 3; have hd_4 := hd.cell 4; have hd_f4 := hd.free 4; have hd_l := hd.lt; have hx_0 := hx.cell 0; have hx_f0 := hx.free 0; have hx_1 := hx.cell 1; have hx_f1 := hx.free 1; have hx_2 := hx.cell 2; have hx_f2 := hx.free 2; have hx_3 := hx.cell 3; have hx_f3 := hx.free 3; have hx_4 := hx.cell 4; have hx_f4 := hx.free 4; have hx_l := hx.lt
      go_wp2_with fail
      clear d0 d1 r4 r5
      go_loopw [9] (fun iv wr => ∃ (i : Nat), iv = .int .i64 i ∧ 1 ≤ i ∧ i ≤ X.length ∧ wy.grownBy wr none) (fun iv _ => X.length - (intOf iv).toNat)
      case atStart => exact ⟨1, rfl, by omega, by omega, (by have hb0 := (G.refl wy none); (repeat first | with_reducible exact hb0 | with_reducible refine G.drewN ?_ _ | with_reducible refine G.drew ?_ | with_reducible refine G.alloc ?_ _ | with_reducible refine G.set ?_ _ (Or.inr rfl) | (with_reducible refine G.set ?_ _ (Or.inl ?_); rotate_left; focus (first | omega | (simp; done) | (simp; omega)))))⟩
      case round =>
        obtain ⟨i, rfl, hi1, hi, hgq⟩ := hrel
        have HG2 := G.trans HG hgq
        clear hd hd_0 hd_f0 hd_1 hd_f1 hd_2 hd_f2 hd_3 hd_f3 hd_4 hd_f4 hd_l hx_0 hx_f0 hx_1 hx_f1 hx_2 hx_f2 hx_3 hx_f3 hx_4 hx_f4 hx_l
        replace hx := Hx.kept hx hgq (by simp)
        have hx_3 := hx.cell 3; have hx_l := hx.lt
        by_cases hlt : i < X.length
        · have x0 := HC.out i hlt _ HG2
          have y0 := HC.out 0 (by omega) _ HG2
          obtain ⟨z0, z1⟩ := R5.out i hlt _ hgq
          have er : (rowO X.length (risO X))[i]'(by rw [rowO_len]; exact hlt) = (true, X[i] - X[0]) := by
            rw [rowO_at]
            unfold risO
            rw [if_neg (by omega)]
            show (true, X.getD i 0 - X.getD 0 0) = _
            rw [List.getD_eq_getElem?_getD, List.getD_eq_getElem?_getD, List.getElem?_eq_getElem hlt, List.getElem?_eq_getElem (show 0 < X.length by omega)]
            rfl
          rw [er] at z0 z1
          have b0 := hS _ (List.getElem_mem hlt)
          have b1 := hS _ (List.getElem_mem (show 0 < X.length by omega))
          simp only [Nat.add_zero] at y0
          generalize X[i] = xi at *
          generalize X[0] = xz at *
          clear er
          have hsb : IntKind.i64.wrap (xi - xz) = xi - xz := by rw [IntKind.wrap_i64]; omega
          go_wp2_with fail
          go_quiet (fail)
          go_wp2_with fail
          refine ⟨?_, by first | (simp [intOf]; done) | (simp [intOf]; omega)⟩
          exact ⟨i + 1, by go_num, by omega, by omega, (by exact G.go hgq)⟩
        · clear hx_3 hx_l
          go_wp2_with (go_at_call 5; (with_reducible refine (HK.out _ (by exact G.go HG2)).mono ?_); rintro e w3 ⟨rfl, hgn⟩; replace HG2 := G.trans (w := w) (by exact G.go HG2) hgn; clear hgn)
          go_ret
          exact ⟨rfl, (by exact G.go HG2)⟩
end Go.Proofs.YtkablhamnepfnaaDoor
