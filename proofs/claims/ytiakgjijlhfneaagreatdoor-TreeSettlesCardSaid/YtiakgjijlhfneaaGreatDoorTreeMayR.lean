/-
  The walk of whether a node may be, the reference. Printed by gentreemay.py.
-/
import Derived.Test.YtiakgjijlhfneaaGreatDoorTreeMayA
namespace Go.Proofs.YtiakgjijlhfneaaGreatDoor
open Go.RowKit
set_option maxHeartbeats 16000000 in
set_option maxRecDepth 100000 in
theorem one_any (m : Nat) : ∀ (a : Nd) (d : Nat) (x : Int) (A : Option Addr) (c : Nat) (w0 w : World) (ok : Nat → Prop), x = d + 1 → massN a ≤ m → m ≤ 950 → d ≤ 1000 → NdV w0 ok a (nodeC a.kind a.text a.num A a.kids.length c) → w0.grownBy w none →
    Calls Tryz.prog 25 #[.agg #[.int .i64 a.kind, .string a.text, .int .i64 a.num, .slice A a.kids.length c], .int .i64 x] w fun e w' => e = .returned (.bool (mayN a d)) ∧ w.grownBy w' none := by
  induction m using Nat.strongRecOn with
  | _ m IH =>
    intro a d x A c w0 w ok hx hm hm2 hd hN h0
    have HG := G.refl w none
    have hmk := mass_kids a
    have hlm := len_mass a.kids
    have hparts := Lib.hid (may_parts a d)
    have HI := Lib.hid (fun (i : Nat) (hi : i < a.kids.length) (hd2 : d + 1 ≤ 1000) A2 c2 w ok => IH (massN a.kids[i]) (by have := mass_kid a.kids i hi; omega) a.kids[i] (d + 1) (x + 1) A2 c2 w0 w ok (by omega) (Nat.le_refl _) (by have := mass_kid a.kids i hi; omega) hd2)
    have HK := Lib.hid (fun i hi => hN.kid i hi)
    have HB := Lib.hid (fun i hi h => mayL_bad a.kids (d + 1) i hi h)
    have HL := Lib.hid (mayL_good a.kids (d + 1))
    have htx : a.text.size ≤ 950 := by omega
    have hnum := hN.num
    have hxb : 0 ≤ x ∧ x ≤ 1001 := by omega
    clear IH hN
    rw [hparts.out]
    clear hparts
    by_cases hdd : 64 ≤ d
    · rw [if_pos hdd]
      have hx1 : (64 : Int) < x := by omega
      clear hx
      go_enter Tryz.func25, Tryz.ntmps25
      go_wp2_with fail
      go_ret
      exact ⟨rfl, (by exact G.go HG)⟩
    rw [if_neg hdd]
    have hx1 : ¬ ((64 : Int) < x) := by omega
    replace hx := Lib.hid hx
    by_cases hk1 : a.kind = 1
    · rw [if_pos hk1]
      have k1 : (a.kind == 1) = true := by simpa using hk1
      have k1n : (a.kind != 1) = false := by simpa using hk1
      clear hk1
      have hleaf : leafN 1 a.text a.num = ((a.num == 0) && identB a.text) := rfl
      rw [hleaf]
      clear hleaf
      have HId := Lib.hid (fun w => refIdent_any a.text w (by omega))
      have hidb : (identAt a.text 0 && decide (0 < a.text.size)) = identB a.text := rfl
      rw [hidb] at HId
      clear hidb
      generalize identB a.text = ib at *
      generalize hQ : mayL a.kids (d + 1) = Q at *
      clear hQ
      go_enter Tryz.func25, Tryz.ntmps25
      go_wp2_with fail
      go_loopw [5] (fun iv wr => ∃ (i : Nat), iv = .int .i64 i ∧ i ≤ a.kids.length ∧ Hid (∀ j (g : j < a.kids.length), j < i → mayN a.kids[j] (d + 1) = true) ∧ w.grownBy wr none ∧ Hx wr w.heap.size [.int .i64 a.kind, .string a.text, .int .i64 a.num, .slice A a.kids.length c] 24) (fun iv _ => a.kids.length - (intOf iv).toNat)
      case atStart => exact ⟨0, rfl, by omega, Lib.hid (fun j _ h => by omega), (by exact G.go HG), Hx.new _ _ _⟩
      case round =>
        clear HG
        obtain ⟨i, rfl, hi, HP, HG, hs⟩ := hrel
        have hs_0 := hs.cell 0; have hs_1 := hs.cell 1; have hs_2 := hs.cell 2; have hs_3 := hs.cell 3; have hs_l := hs.lt
        by_cases hlt : i < a.kids.length
        · obtain ⟨b, o, A2, c2, rfl, hb, -, hkn, y0, y1, y2, y3⟩ := HK.out i hlt
          have hgw := G.trans h0 HG
          have x0 := (G.cell hgw (a := ⟨b, o + i * 4, none⟩) hb (by simp)).trans y0
          have x1 := (G.cell hgw (a := ⟨b, o + i * 4 + 1, none⟩) hb (by simp)).trans y1
          have x2 := (G.cell hgw (a := ⟨b, o + i * 4 + 2, none⟩) hb (by simp)).trans y2
          have x3 := (G.cell hgw (a := ⟨b, o + i * 4 + 3, none⟩) hb (by simp)).trans y3
          have hcall := Lib.hid (fun W (hg : w.grownBy W none) => HI.out i hlt (by omega) A2 c2 W ok hkn (G.trans h0 hg))
          have hnx : Hid (mayN a.kids[i] (d + 1) = true → ∀ j (g : j < a.kids.length), j < i + 1 → mayN a.kids[j] (d + 1) = true) := Lib.hid (fun g j g1 hj => by
            rcases Nat.lt_or_ge j i with q | q
            · exact HP.out j g1 q
            · obtain rfl : j = i := by omega
              exact g)
          have hbad := Lib.hid (HB.out i hlt)
          clear y0 y1 y2 y3 hkn hgw HP
          generalize mayN a.kids[i] (d + 1) = r at *
          generalize a.kids[i] = k at *
          cases r
          · have hz := hbad.out rfl
            clear hbad hnx
            subst hz
            go_wp2_with (go_at_call 25; (with_reducible refine (hcall.out _ (by exact G.go HG)).mono ?_); rintro e wn ⟨rfl, hgn⟩; replace HG := G.trans (w := w) (by exact G.go HG) hgn; replace hs := Hx.kept (by first | exact Hx.go hs | exact Hx.go2) hgn (by simp); clear hgn)
            go_ret
            exact ⟨ret_bool (by first | rfl | (rw [hn0]; rfl) | (rw [hn0]; simp; done) | (simp; done)), HG⟩
          · have hm3 := Lib.hid (hnx.out rfl)
            clear hbad hnx
            go_wp2_with (go_at_call 25; (with_reducible refine (hcall.out _ (by exact G.go HG)).mono ?_); rintro e wn ⟨rfl, hgn⟩; replace HG := G.trans (w := w) (by exact G.go HG) hgn; replace hs := Hx.kept (by first | exact Hx.go hs | exact Hx.go2) hgn (by simp); clear hgn)
            refine ⟨?_, by first | (simp [intOf]; done) | (simp [intOf]; omega)⟩
            exact ⟨i + 1, by go_num, by omega, hm3, HG, hs⟩
        · obtain rfl : i = a.kids.length := by omega
          have hz : Q = true := HL.out (fun j g => HP.out j g g)
          subst hz
          cases hn0 : (a.num == 0)
          · go_wp2_with fail
            go_ret
            exact ⟨ret_bool (by first | rfl | (rw [hn0]; rfl) | (rw [hn0]; simp; done) | (simp; done)), HG⟩
          · go_wp2_with (go_at_call 38; (with_reducible refine (HId.out _).mono ?_); rintro e wn ⟨rfl, rfl⟩)
            go_ret
            exact ⟨ret_bool (by first | rfl | (rw [hn0]; rfl) | (rw [hn0]; simp; done) | (simp; done)), HG⟩
    rw [if_neg hk1]
    have k1 : (a.kind == 1) = false := by simpa using hk1
    have k1n : (a.kind != 1) = true := by simpa using hk1
    by_cases hl : a.kids.length = 0
    rotate_left
    · have hlp : (0 : Int) < (a.kids.length : Int) := by omega
      rw [decide_eq_false hl, Bool.false_and]
      clear hl
      go_enter Tryz.func25, Tryz.ntmps25
      go_wp2_with fail
      go_ret
      exact ⟨rfl, (by exact G.go HG)⟩
    rw [decide_eq_true hl, Bool.true_and]
    have hlp : ¬ (0 : Int) < (a.kids.length : Int) := by omega
    clear hl
    unfold leafN
    rw [if_neg hk1]
    clear hk1
    by_cases hk2 : a.kind = 2
    · rw [if_pos hk2]
      have k2 : (a.kind == 2) = true := by simpa using hk2
      clear hk2
      have HPa := Lib.hid (fun w => refPath_any a.text w (by omega))
      have HPp := Lib.hid (fun w => refParse_any a.text w (by omega))
      have c1 := text_const a.text trueB
      have c2 := text_const a.text falseB
      rw [show trueB.data.toList = [116, 114, 117, 101] from rfl] at c1
      rw [show falseB.data.toList = [102, 97, 108, 115, 101] from rfl] at c2
      unfold isPathB
      unfold parseV at HPp
      generalize pathB a.text = p at *
      generalize decide (a.text = trueB) = b1 at *
      generalize decide (a.text = falseB) = b2 at *
      generalize parseO a.text = y at *
      have hs := Hx.new w #[.int .i64 a.kind, .string a.text, .int .i64 a.num, .slice A a.kids.length c] 24
      cases hn0 : (a.num == 0) <;> cases p <;> cases y <;> cases b1 <;> cases b2 <;> simp only [valV, valC, Option.isSome_none, Option.isSome_some] at HPp <;>
      · go_enter Tryz.func25, Tryz.ntmps25
        go_wp2_with (first | (go_at_call 40; (with_reducible refine (HPp.out _).mono ?_); rintro e wn ⟨rfl, hgn⟩; replace hs := Hx.kept (by first | exact Hx.go hs | exact Hx.go2) hgn (by simp); replace HG := G.trans (w := w) (by exact G.go HG) hgn; have hs_0 := hs.cell 0; have hs_1 := hs.cell 1; have hs_2 := hs.cell 2; have hs_3 := hs.cell 3; have hs_l := hs.lt; clear hgn) | (go_at_call 41; (with_reducible refine (HPa.out _).mono ?_); rintro e wn ⟨rfl, rfl⟩))
        go_ret
        exact ⟨ret_bool (by first | rfl | (rw [hn0]; rfl) | (rw [hn0]; simp; done) | (rw [hn0, hn1]; rfl) | (simp; done) | (simp [hn0, hn1]; done)), (by exact G.go HG)⟩
    rw [if_neg hk2]
    have k2 : (a.kind == 2) = false := by simpa using hk2
    clear hk2
    by_cases hk3 : a.kind = 3
    · rw [if_pos hk3]
      have k3 : (a.kind == 3) = true := by simpa using hk3
      clear hk3
      have HOf := Lib.hid (fun w => refIs_any w true a.num)
      have hz := size_list0 a.text
      generalize isR true a.num = r at *
      generalize (a.text.size == 0) = sz at *
      cases sz
      · go_enter Tryz.func25, Tryz.ntmps25
        go_wp2_with fail
        go_ret
        exact ⟨ret_bool (by first | rfl | (rw [hn0]; rfl) | (rw [hn0]; simp; done) | (rw [hn0, hn1]; rfl) | (simp; done) | (simp [hn0, hn1]; done)), (by exact G.go HG)⟩
      · go_enter Tryz.func25, Tryz.ntmps25
        go_wp2_with (go_at_call 42; (with_reducible refine (HOf.out _).mono ?_); rintro e wn ⟨rfl, hgn⟩; replace HG := G.trans (w := w) (by exact G.go HG) hgn; clear hgn)
        go_ret
        exact ⟨ret_bool (by first | rfl | (rw [hn0]; rfl) | (rw [hn0]; simp; done) | (rw [hn0, hn1]; rfl) | (simp; done) | (simp [hn0, hn1]; done)), (by exact G.go HG)⟩
    rw [if_neg hk3]
    have k3 : (a.kind == 3) = false := by simpa using hk3
    clear hk3
    by_cases hk4 : a.kind = 4
    · rw [if_pos hk4]
      have k4 : (a.kind == 4) = true := by simpa using hk4
      clear hk4
      have HBo := Lib.hid (fun w => both_any a.text w (by omega))
      generalize hasB 34 a.text = q1 at *
      generalize hasB 39 a.text = q2 at *
      have hs := Hx.new w #[.int .i64 a.kind, .string a.text, .int .i64 a.num, .slice A a.kids.length c] 24
      cases hn0 : (a.num == 0) <;> cases q1 <;> cases q2 <;>
      · go_enter Tryz.func25, Tryz.ntmps25
        go_wp2_with (go_at_call 43; (with_reducible refine (HBo.out _).mono ?_); rintro e wn ⟨rfl, hgn⟩; replace hs := Hx.kept (by first | exact Hx.go hs | exact Hx.go2) hgn (by simp); replace HG := G.trans (w := w) (by exact G.go HG) hgn; have hs_0 := hs.cell 0; have hs_1 := hs.cell 1; have hs_2 := hs.cell 2; have hs_3 := hs.cell 3; have hs_l := hs.lt; clear hgn)
        go_ret
        exact ⟨ret_bool (by first | rfl | (rw [hn0]; rfl) | (rw [hn0]; simp; done) | (rw [hn0, hn1]; rfl) | (simp; done) | (simp [hn0, hn1]; done)), (by exact G.go HG)⟩
    rw [if_neg hk4]
    have k4 : (a.kind == 4) = false := by simpa using hk4
    clear hk4
    by_cases hk5 : a.kind = 5
    · rw [if_pos hk5]
      have k5 : (a.kind == 5) = true := by simpa using hk5
      clear hk5
      have hz := size_list0 a.text
      generalize (a.text.size == 0) = sz at *
      cases sz <;> cases hn0 : (a.num == 0) <;> cases hn1 : (a.num == 1) <;>
      · go_enter Tryz.func25, Tryz.ntmps25
        go_wp2_with fail
        go_ret
        exact ⟨ret_bool (by first | rfl | (rw [hn0]; rfl) | (rw [hn0]; simp; done) | (rw [hn0, hn1]; rfl) | (simp; done) | (simp [hn0, hn1]; done)), (by exact G.go HG)⟩
    rw [if_neg hk5]
    have k5 : (a.kind == 5) = false := by simpa using hk5
    clear hk5
    go_enter Tryz.func25, Tryz.ntmps25
    go_wp2_with fail
    go_ret
    exact ⟨rfl, (by exact G.go HG)⟩
end Go.Proofs.YtiakgjijlhfneaaGreatDoor
