/-
  The walk of the reference's text of a node.
-/
import Derived.Test.YtiakgjijlhfneaaGreatDoorTreeText
import Derived.Test.YtiakgjijlhfneaaGreatDoorTreeMayA
import Derived.Test.YtiakgjijlhfneaaGreatDoorDecB
namespace Go.Proofs.YtiakgjijlhfneaaGreatDoor
open Go.RowKit
theorem ext_txt {a b : ByteArray} (h : a.data.toList = b.data.toList) : a = b := by
  cases a; cases b; simp at h; subst h; rfl
set_option maxHeartbeats 16000000 in
set_option maxRecDepth 100000 in
theorem refText_any (m : Nat) : ∀ (a : Nd) (A : Option Addr) (c : Nat) (w0 w : World) (ok : Nat → Prop), massN a ≤ m → m ≤ 950 → wellN a = true → NdV w0 ok a (nodeC a.kind a.text a.num A a.kids.length c) → w0.grownBy w none →
    Calls Tryz.prog 29 #[.agg #[.int .i64 a.kind, .string a.text, .int .i64 a.num, .slice A a.kids.length c]] w fun e w' => e = .returned (.string ⟨(textN a).toArray⟩) ∧ w.grownBy w' none := by
  induction m using Nat.strongRecOn with
  | _ m IH =>
    intro a A c w0 w ok hm hm2 hwell hN h0
    have HG := G.refl w none
    have hmk := mass_kids a
    have hlm := len_mass a.kids
    have hparts := Lib.hid (text_parts a)
    rw [well_parts, Bool.and_eq_true] at hwell
    obtain ⟨hleaf, hkw⟩ := hwell
    have htx : a.text.size ≤ 950 := by omega
    have hts : a.text.data.toList.length = a.text.size := by simp
    rw [hparts.out]
    clear hparts
    by_cases hk1 : a.kind = 1
    · rw [if_pos hk1]
      rw [if_pos hk1] at hkw
      have k1 : (a.kind == 1) = true := by simpa using hk1
      clear hk1 hleaf
      have HI := Lib.hid (fun (i : Nat) (hi : i < a.kids.length) A2 c2 W => IH (massN a.kids[i]) (by have := mass_kid a.kids i hi; omega) a.kids[i] A2 c2 w0 W ok (Nat.le_refl _) (by have := mass_kid a.kids i hi; omega) (wellL_at a.kids i hi hkw))
      have HK := Lib.hid (fun i hi => hN.kid i hi)
      have HS := Lib.hid (fun i hi => @preT_step a.kids i hi)
      have HM := Lib.hid (fun i hi => @pre_kid a.kids i hi hkw)
      have HM2 := Lib.hid (fun i => preT_len a.kids i hkw)
      have HT := Lib.hid (fun (i : Nat) (hi : i < a.kids.length) => text_mass a.kids[i] (wellL_at a.kids i hi hkw))
      clear IH hN hkw
      go_enter Tryz.func29, Tryz.ntmps29
      go_wp2_with fail
      go_loopw [3, 4] (fun sv iv wr => ∃ (i : Nat) (X : ByteArray), iv = .int .i64 i ∧ sv = .string X ∧ i ≤ a.kids.length ∧ Hid (X.data.toList = a.text.data.toList ++ (40 :: preT a.kids i)) ∧ w.grownBy wr none ∧ Hx wr w.heap.size [.int .i64 a.kind, .string a.text, .int .i64 a.num, .slice A a.kids.length c] 24) (fun _ iv _ => a.kids.length - (intOf iv).toNat)
      case atStart => exact ⟨0, _, rfl, rfl, by omega, Lib.hid (by simp [ByteArray.data_append, preT, textL]), (by exact G.go HG), Hx.new _ _ _⟩
      case round =>
        clear HG
        obtain ⟨i, X, rfl, rfl, hi, hX, HG, hs⟩ := hrel
        have hs_0 := hs.cell 0; have hs_1 := hs.cell 1; have hs_2 := hs.cell 2; have hs_3 := hs.cell 3; have hs_l := hs.lt
        have hXz : X.size = a.text.size + ((preT a.kids i).length + 1) := by rw [← size_list, hX.out, List.length_append, List.length_cons, hts]
        by_cases hlt : i < a.kids.length
        · obtain ⟨b, o, A2, c2, rfl, hb, -, hkn, y0, y1, y2, y3⟩ := HK.out i hlt
          have hgw := G.trans h0 HG
          have x0 := (G.cell hgw (a := ⟨b, o + i * 4, none⟩) hb (by simp)).trans y0
          have x1 := (G.cell hgw (a := ⟨b, o + i * 4 + 1, none⟩) hb (by simp)).trans y1
          have x2 := (G.cell hgw (a := ⟨b, o + i * 4 + 2, none⟩) hb (by simp)).trans y2
          have x3 := (G.cell hgw (a := ⟨b, o + i * 4 + 3, none⟩) hb (by simp)).trans y3
          have hcall := Lib.hid (fun W (hg : w.grownBy W none) => HI.out i hlt A2 c2 W hkn (G.trans h0 hg))
          have hst := Lib.hid (HS.out i hlt)
          have hm1 := HM.out i hlt
          have hm2' := HT.out i hlt
          clear y0 y1 y2 y3 hkn hgw
          generalize a.kids[i] = k at *
          have hZs : (⟨(textN k).toArray⟩ : ByteArray).size = (textN k).length := by rw [Lib.size_mk]
          have hZd : Hid ((⟨(textN k).toArray⟩ : ByteArray).data.toList = textN k) := Lib.hid rfl
          generalize (⟨(textN k).toArray⟩ : ByteArray) = Z at *
          generalize textN k = TK at *
          rcases Nat.eq_zero_or_pos i with rfl | hip
          · simp only [Nat.zero_mul, Nat.add_zero] at x0 x1 x2 x3
            rw [if_pos rfl] at hst
            go_wp2_with (go_at_call 29; (with_reducible refine (hcall.out _ (by exact G.go HG)).mono ?_); rintro e wn ⟨rfl, hgn⟩; replace HG := G.trans (w := w) (by exact G.go HG) hgn; replace hs := Hx.kept hs hgn (by simp); clear hgn)
            refine ⟨?_, by first | (simp [intOf]; done) | (simp [intOf]; omega)⟩
            exact ⟨0 + 1, _, by go_num, rfl, by omega, Lib.hid (by rw [hst.out]; simp [ByteArray.data_append, hX.out, hZd.out]), HG, hs⟩
          · have hip1 : (0 : Int) < (i : Int) := by omega
            have hip2 : ¬ i = 0 := by omega
            rw [if_neg hip2] at hst
            go_wp2_with (go_at_call 29; (with_reducible refine (hcall.out _ (by exact G.go HG)).mono ?_); rintro e wn ⟨rfl, hgn⟩; replace HG := G.trans (w := w) (by exact G.go HG) hgn; replace hs := Hx.kept hs hgn (by simp); clear hgn)
            refine ⟨?_, by first | (simp [intOf]; done) | (simp [intOf]; omega)⟩
            exact ⟨i + 1, _, by go_num, rfl, by omega, Lib.hid (by rw [hst.out]; simp [ByteArray.data_append, hX.out, hZd.out]), HG, hs⟩
        · obtain rfl : i = a.kids.length := by omega
          have hm3 := HM2.out a.kids.length
          go_wp2_with fail
          go_ret
          exact ⟨ret_string (ext_txt (by simp [ByteArray.data_append, hX.out])), HG⟩
    rw [if_neg hk1]
    have k1 : (a.kind == 1) = false := by simpa using hk1
    unfold leafN at hleaf
    rw [if_neg hk1] at hleaf
    clear hkw hk1 IH
    have hs := Hx.new w #[.int .i64 a.kind, .string a.text, .int .i64 a.num, .slice A a.kids.length c] 24
    have hnum := hN.num
    by_cases hk2 : a.kind = 2
    · rw [if_neg (by omega), if_neg (by omega), if_neg (by omega)]
      have k3 : (a.kind == 3) = false := by rw [hk2]; rfl
      have k4 : (a.kind == 4) = false := by rw [hk2]; rfl
      have k5 : (a.kind == 5) = false := by rw [hk2]; rfl
      clear hk2 hleaf hN
      go_enter Tryz.func29, Tryz.ntmps29
      go_wp2_with fail
      go_ret
      exact ⟨rfl, (by exact G.go HG)⟩
    rw [if_neg hk2] at hleaf
    by_cases hk3 : a.kind = 3
    · rw [if_pos hk3]
      have k3 : (a.kind == 3) = true := by simpa using hk3
      have HPr := Lib.hid (fun w => refPrint_any true a.num w hnum.1 hnum.2)
      clear hk3 hk2 hleaf hN
      have e9 : (⟨(printV true a.num).data.toList.toArray⟩ : ByteArray) = printV true a.num := rfl
      rw [e9]
      generalize printV true a.num = Z at *
      go_enter Tryz.func29, Tryz.ntmps29
      go_wp2_with (go_at_call 49; (with_reducible refine (HPr.out _).mono ?_); rintro e wn ⟨rfl, hgn⟩; replace HG := G.trans (w := w) (by exact G.go HG) hgn; clear hgn)
      go_ret
      exact ⟨rfl, (by exact G.go HG)⟩
    rw [if_neg hk3] at hleaf
    rw [if_neg hk3]
    have k3 : (a.kind == 3) = false := by simpa using hk3
    by_cases hk4 : a.kind = 4
    · rw [if_pos hk4]
      have k4 : (a.kind == 4) = true := by simpa using hk4
      have HBo := Lib.hid (fun w => both_any a.text w (by omega))
      clear hk4 hk3 hk2 hleaf hN
      unfold signB
      cases hq : hasB 34 a.text
      · rw [hq] at HBo
        rw [if_neg (by simp)]
        generalize hasB 39 a.text = q2 at *
        go_enter Tryz.func29, Tryz.ntmps29
        go_wp2_with (go_at_call 43; (with_reducible refine (HBo.out _).mono ?_); rintro e wn ⟨rfl, hgn⟩; replace hs := Hx.kept (by first | exact Hx.go hs | exact Hx.go2) hgn (by simp); replace HG := G.trans (w := w) (by exact G.go HG) hgn; have hs_0 := hs.cell 0; have hs_1 := hs.cell 1; have hs_2 := hs.cell 2; have hs_3 := hs.cell 3; have hs_l := hs.lt; clear hgn)
        go_ret
        exact ⟨ret_string (ext_txt (by simp [ByteArray.data_append])), (by exact G.go HG)⟩
      · rw [hq] at HBo
        rw [if_pos rfl]
        generalize hasB 39 a.text = q2 at *
        go_enter Tryz.func29, Tryz.ntmps29
        go_wp2_with (go_at_call 43; (with_reducible refine (HBo.out _).mono ?_); rintro e wn ⟨rfl, hgn⟩; replace hs := Hx.kept (by first | exact Hx.go hs | exact Hx.go2) hgn (by simp); replace HG := G.trans (w := w) (by exact G.go HG) hgn; have hs_0 := hs.cell 0; have hs_1 := hs.cell 1; have hs_2 := hs.cell 2; have hs_3 := hs.cell 3; have hs_l := hs.lt; clear hgn)
        go_ret
        exact ⟨ret_string (ext_txt (by simp [ByteArray.data_append])), (by exact G.go HG)⟩
    rw [if_neg hk4] at hleaf
    rw [if_neg hk4]
    have k4 : (a.kind == 4) = false := by simpa using hk4
    by_cases hk5 : a.kind = 5
    · rw [if_pos hk5]
      have k5 : (a.kind == 5) = true := by simpa using hk5
      clear hk5 hk4 hk3 hk2 hleaf hN
      by_cases hn : a.num = 1
      · rw [if_pos hn]
        have hnb : (a.num == 1) = true := by simpa using hn
        clear hn
        go_enter Tryz.func29, Tryz.ntmps29
        go_wp2_with fail
        go_ret
        exact ⟨rfl, (by exact G.go HG)⟩
      · rw [if_neg hn]
        have hnb : (a.num == 1) = false := by simpa using hn
        clear hn
        go_enter Tryz.func29, Tryz.ntmps29
        go_wp2_with fail
        go_ret
        exact ⟨rfl, (by exact G.go HG)⟩
    rw [if_neg hk5] at hleaf
    cases hleaf
end Go.Proofs.YtiakgjijlhfneaaGreatDoor
