/-
  The walks of Is and Print of both packages.
-/
import Derived.Test.YtiakgjijlhfneaaGreatDoorTreeText
import Derived.Test.YtiakgjijlhfneaaGreatDoorTreeTextR
import Derived.Test.YtiakgjijlhfneaaGreatDoorTreeMayA
import Derived.Test.YtiakgjijlhfneaaGreatDoorTreeMayR
namespace Go.Proofs.YtiakgjijlhfneaaGreatDoor
open Go.RowKit
theorem printN_yes {a : Nd} (h : mayN a 0 = true) : printN a = textN a := by unfold printN; rw [if_pos h]
theorem printN_no {a : Nd} (h : mayN a 0 = false) : printN a = [] := by unfold printN; rw [if_neg (by rw [h]; simp)]
section
variable (a : Nd) (A : Option Addr) (c : Nat) (w0 w : World) (ok : Nat → Prop) (hm : massN a ≤ 950) (hN : NdV w0 ok a (nodeC a.kind a.text a.num A a.kids.length c)) (h0 : w0.grownBy w none)
include hm hN h0
set_option maxHeartbeats 2000000 in
theorem isT_any : Calls Tryz.prog 14 #[.agg #[.int .i64 a.kind, .string a.text, .int .i64 a.num, .slice A a.kids.length c]] w fun e w' => e = .returned (.bool (mayN a 0)) ∧ w.grownBy w' none := by
  have HG := G.refl w none
  have HM := Lib.hid (fun W (hg : w0.grownBy W none) => may_any 950 a 0 0 A c w0 W ok rfl hm (by omega) (by omega) hN hg)
  clear hN
  generalize mayN a 0 = r at *
  go_enter Tryz.func14, Tryz.ntmps14
  go_wp2_with (go_at_call 28; (with_reducible refine (HM.out _ (G.trans h0 (by exact G.go HG))).mono ?_); rintro e wn ⟨rfl, hgn⟩; replace HG := G.trans (w := w) (by exact G.go HG) hgn; clear hgn)
  go_ret
  exact ⟨rfl, (by exact G.go HG)⟩
set_option maxHeartbeats 2000000 in
theorem isTR_any : Calls Tryz.prog 12 #[.agg #[.int .i64 a.kind, .string a.text, .int .i64 a.num, .slice A a.kids.length c]] w fun e w' => e = .returned (.bool (mayN a 0)) ∧ w.grownBy w' none := by
  have HG := G.refl w none
  have HM := Lib.hid (fun W (hg : w0.grownBy W none) => one_any 950 a 0 1 A c w0 W ok rfl hm (by omega) (by omega) hN hg)
  clear hN
  generalize mayN a 0 = r at *
  go_enter Tryz.func12, Tryz.ntmps12
  go_wp2_with (go_at_call 25; (with_reducible refine (HM.out _ (G.trans h0 (by exact G.go HG))).mono ?_); rintro e wn ⟨rfl, hgn⟩; replace HG := G.trans (w := w) (by exact G.go HG) hgn; clear hgn)
  go_ret
  exact ⟨rfl, (by exact G.go HG)⟩
set_option maxHeartbeats 4000000 in
theorem printTR_any : Calls Tryz.prog 15 #[.agg #[.int .i64 a.kind, .string a.text, .int .i64 a.num, .slice A a.kids.length c]] w fun e w' => e = .returned (.string ⟨(printN a).toArray⟩) ∧ w.grownBy w' none := by
  have HG := G.refl w none
  have hs := Hx.new w #[.int .i64 a.kind, .string a.text, .int .i64 a.num, .slice A a.kids.length c] 24
  have HI := Lib.hid (fun W (hg : w0.grownBy W none) => isTR_any a A c w0 W ok hm hN hg)
  cases hr : mayN a 0
  · rw [hr] at HI
    rw [printN_no hr]
    clear hN hr
    go_enter Tryz.func15, Tryz.ntmps15
    go_wp2_with (go_at_call 12; (with_reducible refine (HI.out _ (G.trans h0 (by exact G.go HG))).mono ?_); rintro e wn ⟨rfl, hgn⟩; replace hs := Hx.kept (by first | exact Hx.go hs | exact Hx.go2) hgn (by simp); replace HG := G.trans (w := w) (by exact G.go HG) hgn; have hs_0 := hs.cell 0; have hs_1 := hs.cell 1; have hs_2 := hs.cell 2; have hs_3 := hs.cell 3; have hs_l := hs.lt; clear hgn)
    go_ret
    exact ⟨rfl, (by exact G.go HG)⟩
  · rw [hr] at HI
    rw [printN_yes hr]
    have HT := Lib.hid (fun W (hg : w0.grownBy W none) => refText_any 950 a A c w0 W ok hm (by omega) (well_of_may a 0 hr) hN hg)
    clear hN hr
    generalize (⟨(textN a).toArray⟩ : ByteArray) = Z at *
    go_enter Tryz.func15, Tryz.ntmps15
    go_wp2_with (first | (go_at_call 12; (with_reducible refine (HI.out _ (G.trans h0 (by exact G.go HG))).mono ?_); rintro e wn ⟨rfl, hgn⟩; replace hs := Hx.kept (by first | exact Hx.go hs | exact Hx.go2) hgn (by simp); replace HG := G.trans (w := w) (by exact G.go HG) hgn; have hs_0 := hs.cell 0; have hs_1 := hs.cell 1; have hs_2 := hs.cell 2; have hs_3 := hs.cell 3; have hs_l := hs.lt; clear hgn) | (go_at_call 29; (with_reducible refine (HT.out _ (G.trans h0 (by exact G.go HG))).mono ?_); rintro e wn ⟨rfl, hgn⟩; replace hs := Hx.kept (by first | exact Hx.go hs | exact Hx.go2) hgn (by simp); replace HG := G.trans (w := w) (by exact G.go HG) hgn; have hs_0 := hs.cell 0; have hs_1 := hs.cell 1; have hs_2 := hs.cell 2; have hs_3 := hs.cell 3; have hs_l := hs.lt; clear hgn))
    go_ret
    exact ⟨rfl, (by exact G.go HG)⟩
set_option maxHeartbeats 4000000 in
theorem printT_any (hp : Pow10 w0) : Calls Tryz.prog 13 #[.agg #[.int .i64 a.kind, .string a.text, .int .i64 a.num, .slice A a.kids.length c]] w fun e w' => e = .returned (.string ⟨(printN a).toArray⟩) ∧ w.grownBy w' none := by
  have HG := G.refl w none
  have hs := Hx.new w #[.int .i64 a.kind, .string a.text, .int .i64 a.num, .slice A a.kids.length c] 24
  have HI := Lib.hid (fun W (hg : w0.grownBy W none) => isT_any a A c w0 W ok hm hN hg)
  cases hr : mayN a 0
  · rw [hr] at HI
    rw [printN_no hr]
    clear hN hr
    go_enter Tryz.func13, Tryz.ntmps13
    go_wp2_with (go_at_call 14; (with_reducible refine (HI.out _ (G.trans h0 (by exact G.go HG))).mono ?_); rintro e wn ⟨rfl, hgn⟩; replace hs := Hx.kept (by first | exact Hx.go hs | exact Hx.go2) hgn (by simp); replace HG := G.trans (w := w) (by exact G.go HG) hgn; have hs_0 := hs.cell 0; have hs_1 := hs.cell 1; have hs_2 := hs.cell 2; have hs_3 := hs.cell 3; have hs_l := hs.lt; clear hgn)
    go_ret
    exact ⟨rfl, (by exact G.go HG)⟩
  · rw [hr] at HI
    rw [printN_yes hr]
    have HT := Lib.hid (fun W b (hg : w0.grownBy W none) (hB : w0.heap.size ≤ b) (hb : Bld W b b []) (hbw : b ≤ W.heap.size) => prints_any 950 a A c w0 W ok b b [] hm (by omega) (well_of_may a 0 hr) hN hg hB hb (by simp; omega) hbw hp)
    clear hN hr
    simp only [List.nil_append] at HT
    generalize hTT : textN a = TT at *
    clear hTT
    have hsz0 := h0.size
    go_enter Tryz.func13, Tryz.ntmps13
    go_wp2_with (first | (go_at_call 14; (with_reducible refine (HI.out _ (G.trans h0 (by exact G.go HG))).mono ?_); rintro e wn ⟨rfl, hgn⟩; replace hs := Hx.kept (by first | exact Hx.go hs | exact Hx.go2) hgn (by simp); replace HG := G.trans (w := w) (by exact G.go HG) hgn; have hs_0 := hs.cell 0; have hs_1 := hs.cell 1; have hs_2 := hs.cell 2; have hs_3 := hs.cell 3; have hs_l := hs.lt; clear hgn) | (go_at_call 26; (with_reducible refine (HT.out _ _ (G.trans h0 (by exact G.go HG)) (by have := HG.size; omega) (Bld.fresh _) (by simp)).mono ?_); rintro e wz ⟨rfl, HD, hw1⟩; have hbb := HG.size; replace hs := Hx.wr (by first | exact Hx.go hs | exact Hx.go2) hw1 (by omega) (by decide); replace HG := G.wr (by exact G.go HG) hw1 hbb; have hdl := HD.lt.2; have HS := Lib.hid (fun hB => Tryz.Builder_String_any _ _ TT _ HD hB); clear hw1) | (go_at_call 27; (with_reducible refine (HS.out (by omega)).mono ?_); rintro e wy ⟨rfl, hbz⟩; replace HG := G.of_below (Below.trans (G.below HG) (Below.mono hbz (by omega))); clear hbz))
    go_ret
    exact ⟨rfl, (by exact G.go HG)⟩
end
end Go.Proofs.YtiakgjijlhfneaaGreatDoor
