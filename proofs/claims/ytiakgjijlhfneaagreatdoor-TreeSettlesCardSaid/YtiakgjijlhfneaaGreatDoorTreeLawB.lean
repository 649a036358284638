/-
  The walks of the laws that a node prints alike, and that it is read back.
-/
import Derived.Test.YtiakgjijlhfneaaGreatDoorTreeLawA
namespace Go.Proofs.YtiakgjijlhfneaaGreatDoor
open Go.RowKit
theorem hv_big {a : Nd} {r : Int} (h : hvN a 300 = r) (h0 : 0 ≤ r) : massN a ≤ 300 := by
  subst h
  have := hvN_mass a 300 h0
  omega
set_option maxHeartbeats 8000000 in
theorem treePrintsLaw (a : Nd) (A : Option Addr) (c : Nat) (b : Nd) (A2 : Option Addr) (c2 : Nat) (w : World) (hN : NdV w (fun _ => True) a (nodeC a.kind a.text a.num A a.kids.length c)) (hN2 : NdV w (fun _ => True) b (nodeC b.kind b.text b.num A2 b.kids.length c2)) (hp : Pow10 w) :
    Calls Tryz.prog 6 #[.agg #[.int .i64 a.kind, .string a.text, .int .i64 a.num, .slice A a.kids.length c], .agg #[.int .i64 b.kind, .string b.text, .int .i64 b.num, .slice A2 b.kids.length c2]] w fun e w' => e = .returned (.bool true) ∧ w.grownBy w' none := by
  have HG := G.refl w none
  have hb1 := (Hx.new w #[.int .i64 a.kind, .string a.text, .int .i64 a.num, .slice A a.kids.length c] 24).alloc (.cells #[.int .i64 b.kind, .string b.text, .int .i64 b.num, .slice A2 b.kids.length c2] 24)
  have hb2 := Hx.new (w.alloc (.cells #[.int .i64 a.kind, .string a.text, .int .i64 a.num, .slice A a.kids.length c] 24)) #[.int .i64 b.kind, .string b.text, .int .i64 b.num, .slice A2 b.kids.length c2] 24
  rw [show (w.alloc (.cells #[.int .i64 a.kind, .string a.text, .int .i64 a.num, .slice A a.kids.length c] 24)).heap.size = w.heap.size + 1 from by simp] at hb2
  have HK := Lib.hid (fun W (hg : w.grownBy W none) => known15_any W (Pow10.kept hp hg))
  have HH1 := Lib.hid (fun W (hg : w.grownBy W none) => heavy_any 301 a 300 A c w W _ (by omega) (by omega) (by omega) hN hg)
  have HH2 := Lib.hid (fun W (hg : w.grownBy W none) => heavy_any 301 b 300 A2 c2 w W _ (by omega) (by omega) (by omega) hN2 hg)
  by_cases h1 : hvN a 300 < 0
  · generalize hvN a 300 = r at *
    go_enter Tryz.func6, Tryz.ntmps6
    go_wp2_with (go_at_call 11; (with_reducible refine (HH1.out _ (by exact G.go HG)).mono ?_); rintro e wn ⟨⟨rfl, -, -⟩, hgn⟩; replace hb1 := Hx.kept (by first | exact Hx.go hb1 | exact Hx.go2) hgn (by simp); have hb1_0 := hb1.cell 0; have hb1_1 := hb1.cell 1; have hb1_2 := hb1.cell 2; have hb1_3 := hb1.cell 3; have hb1_l := hb1.lt; replace hb2 := Hx.kept (by first | exact Hx.go hb2 | exact Hx.go2) hgn (by simp); have hb2_0 := hb2.cell 0; have hb2_1 := hb2.cell 1; have hb2_2 := hb2.cell 2; have hb2_3 := hb2.cell 3; have hb2_l := hb2.lt; replace HG := G.trans (w := w) (by exact G.go HG) hgn; clear hgn)
    go_ret
    exact ⟨rfl, (by exact G.go HG)⟩
  have hm1 := hv_big rfl (by omega : 0 ≤ hvN a 300)
  by_cases h2 : hvN b 300 < 0
  · generalize hvN a 300 = r at *
    generalize hvN b 300 = r2 at *
    go_enter Tryz.func6, Tryz.ntmps6
    go_wp2_with (go_at_call 11; first | ((with_reducible refine (HH1.out _ (by exact G.go HG)).mono ?_); rintro e wn ⟨⟨rfl, -, -⟩, hgn⟩; replace hb1 := Hx.kept (by first | exact Hx.go hb1 | exact Hx.go2) hgn (by simp); have hb1_0 := hb1.cell 0; have hb1_1 := hb1.cell 1; have hb1_2 := hb1.cell 2; have hb1_3 := hb1.cell 3; have hb1_l := hb1.lt; replace hb2 := Hx.kept (by first | exact Hx.go hb2 | exact Hx.go2) hgn (by simp); have hb2_0 := hb2.cell 0; have hb2_1 := hb2.cell 1; have hb2_2 := hb2.cell 2; have hb2_3 := hb2.cell 3; have hb2_l := hb2.lt; replace HG := G.trans (w := w) (by exact G.go HG) hgn; clear hgn) | ((with_reducible refine (HH2.out _ (by exact G.go HG)).mono ?_); rintro e wn ⟨⟨rfl, -, -⟩, hgn⟩; replace hb1 := Hx.kept (by first | exact Hx.go hb1 | exact Hx.go2) hgn (by simp); have hb1_0 := hb1.cell 0; have hb1_1 := hb1.cell 1; have hb1_2 := hb1.cell 2; have hb1_3 := hb1.cell 3; have hb1_l := hb1.lt; replace hb2 := Hx.kept (by first | exact Hx.go hb2 | exact Hx.go2) hgn (by simp); have hb2_0 := hb2.cell 0; have hb2_1 := hb2.cell 1; have hb2_2 := hb2.cell 2; have hb2_3 := hb2.cell 3; have hb2_l := hb2.lt; replace HG := G.trans (w := w) (by exact G.go HG) hgn; clear hgn))
    go_ret
    exact ⟨rfl, (by exact G.go HG)⟩
  have hm2 := hv_big rfl (by omega : 0 ≤ hvN b 300)
  have HP1 := Lib.hid (fun W (hg : w.grownBy W none) => printT_any a A c w W _ (by omega) hN hg hp)
  have HP2 := Lib.hid (fun W (hg : w.grownBy W none) => printTR_any a A c w W _ (by omega) hN hg)
  have HI1 := Lib.hid (fun W (hg : w.grownBy W none) => isT_any a A c w W _ (by omega) hN hg)
  have HI2 := Lib.hid (fun W (hg : w.grownBy W none) => isTR_any a A c w W _ (by omega) hN hg)
  have HD1 := Lib.hid (fun W (hg : w.grownBy W none) => depth_any 300 a A c w W _ (by omega) (by omega) hN hg)
  have HD2 := Lib.hid (fun W (hg : w.grownBy W none) => refDepth_any 300 a A c w W _ (by omega) (by omega) hN hg)
  have HS1 := Lib.hid (fun W (hg : w.grownBy W none) => same_any 300 a b A A2 c c2 w w W _ _ (by omega) (by omega) hN hN2 hg hg)
  have HS2 := Lib.hid (fun W (hg : w.grownBy W none) => refSame_any 300 a b A A2 c c2 w w W _ _ (by omega) (by omega) hN hN2 hg hg)
  have HS3 := Lib.hid (fun W (hg : w.grownBy W none) => same_any 300 a a A A c c w w W _ _ (by omega) (by omega) hN hN hg hg)
  rw [sameN_refl] at HS3
  clear hN hN2
  generalize hvN a 300 = r at *
  generalize hvN b 300 = r2 at *
  generalize mayN a 0 = q1 at *
  generalize depthN a = q2 at *
  generalize sameN a b = q3 at *
  generalize (⟨(printN a).toArray⟩ : ByteArray) = Z at *
  have hz : (Z.toList == Z.toList) = true := by simp
  go_enter Tryz.func6, Tryz.ntmps6
  go_wp2_with (go_at_call 11; first | ((with_reducible refine (HH1.out _ (by exact G.go HG)).mono ?_); rintro e wn ⟨⟨rfl, -, -⟩, hgn⟩; replace hb1 := Hx.kept (by first | exact Hx.go hb1 | exact Hx.go2) hgn (by simp); have hb1_0 := hb1.cell 0; have hb1_1 := hb1.cell 1; have hb1_2 := hb1.cell 2; have hb1_3 := hb1.cell 3; have hb1_l := hb1.lt; replace hb2 := Hx.kept (by first | exact Hx.go hb2 | exact Hx.go2) hgn (by simp); have hb2_0 := hb2.cell 0; have hb2_1 := hb2.cell 1; have hb2_2 := hb2.cell 2; have hb2_3 := hb2.cell 3; have hb2_l := hb2.lt; replace HG := G.trans (w := w) (by exact G.go HG) hgn; clear hgn) | ((with_reducible refine (HH2.out _ (by exact G.go HG)).mono ?_); rintro e wn ⟨⟨rfl, -, -⟩, hgn⟩; replace hb1 := Hx.kept (by first | exact Hx.go hb1 | exact Hx.go2) hgn (by simp); have hb1_0 := hb1.cell 0; have hb1_1 := hb1.cell 1; have hb1_2 := hb1.cell 2; have hb1_3 := hb1.cell 3; have hb1_l := hb1.lt; replace hb2 := Hx.kept (by first | exact Hx.go hb2 | exact Hx.go2) hgn (by simp); have hb2_0 := hb2.cell 0; have hb2_1 := hb2.cell 1; have hb2_2 := hb2.cell 2; have hb2_3 := hb2.cell 3; have hb2_l := hb2.lt; replace HG := G.trans (w := w) (by exact G.go HG) hgn; clear hgn))
  have q10 := fun x => (Hx.inG hb1 x).cell 0; have q11 := fun x => (Hx.inG hb1 x).cell 1; have q12 := fun x => (Hx.inG hb1 x).cell 2; have q13 := fun x => (Hx.inG hb1 x).cell 3; have q20 := fun x => (Hx.inG hb2 x).cell 0; have q21 := fun x => (Hx.inG hb2 x).cell 1; have q22 := fun x => (Hx.inG hb2 x).cell 2; have q23 := fun x => (Hx.inG hb2 x).cell 3
  refine wp_region_grow (G.refl _ none) (by kernel_rfl) (by kernel_rfl) ?_; (repeat (refine wpQuiet_step (fun K hK => ?_); go_simp; first | (refine hK _ ?_; clear hK K) | (apply Exists.intro; refine ⟨fun xq => ?_, hK _ ?_⟩; (focus (first | (have h0 := HP1.out xq.1 (G.trans HG xq.2); go_at_call 13; with_reducible exact grow_of h0) | (have h0 := HP2.out xq.1 (G.trans HG xq.2); go_at_call 15; with_reducible exact grow_of h0) | (have h0 := HI1.out xq.1 (G.trans HG xq.2); go_at_call 14; with_reducible exact grow_of h0) | (have h0 := HI2.out xq.1 (G.trans HG xq.2); go_at_call 12; with_reducible exact grow_of h0) | (have h0 := HD1.out xq.1 (G.trans HG xq.2); go_at_call 16; with_reducible exact grow_of h0) | (have h0 := HD2.out xq.1 (G.trans HG xq.2); go_at_call 17; with_reducible exact grow_of h0) | (have h0 := HS1.out xq.1 (G.trans HG xq.2); go_at_call 18; with_reducible exact grow_of h0) | (have h0 := HS3.out xq.1 (G.trans HG xq.2); go_at_call 18; with_reducible exact grow_of h0) | (have h0 := HS2.out xq.1 (G.trans HG xq.2); go_at_call 9; with_reducible exact grow_of h0) | (have h0 := HK.out xq.1 (G.trans HG xq.2); go_at_call 10; with_reducible exact grow_of h0))); clear hK K))); refine wpQuiet_nil ?_; intro wn hgn; replace HG := G.trans (w := w) HG hgn; clear hgn
  go_wp2_with fail
  go_ret
  exact ⟨rfl, (by exact G.go HG)⟩
end Go.Proofs.YtiakgjijlhfneaaGreatDoor
