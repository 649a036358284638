/-
  The walk of the reference's JSON. Printed by genoutr.py.
-/
import Derived.Test.YtjfonckmfafdgaaDoorOutJSONP
import Derived.Test.YtjfonckmfafdgaaDoorOutQuoteR
import Derived.Test.YtjfonckmfafdgaaDoorDecB
namespace Go.Proofs.YtjfonckmfafdgaaDoor
open Go.RowKit
theorem dgB_size {n : Int} (h1 : -9223372036854775808 ≤ n) (h2 : n ≤ 9223372036854775807) : (dgB n).size ≤ 20 := by
  rw [← size_list', dgB_data]; exact itoa_len h1 h2
set_option maxHeartbeats 16000000 in
set_option maxRecDepth 100000 in
theorem refJSON_any (L : List SerP) (v : Value) (w : World) (h : SerRow w v L) (hF : Few (sersOf L)) :
    Calls Tryd.prog 19 #[v] w fun e w' => e = .returned (.string ⟨(jsonL (sersOf L)).toArray⟩) ∧ w.grownBy w' none := by
  have HA := Lib.hid h.2
  have HF := Lib.hid hF
  have hn := hF.n
  rw [sersOf_len] at hn
  have HG := G.refl w none
  obtain ⟨A, c, rfl, q1, q2, q3⟩ := h.1
  have Q3 := Lib.hid q3; clear q3 h hF
  obtain ⟨V, hV⟩ : ∃ V, Hid ((jsonL (sersOf L)) = V) := ⟨_, Lib.hid rfl⟩
  rw [hV.out]
  go_enter Tryd.func19, Tryd.ntmps19
  go_wp2_with fail
  go_loopw [3, 4, 5, 6] (fun sv iv _ _ wr => ∃ (i : Nat) (X : ByteArray), iv = .int .i64 i ∧ sv = .string X ∧ i ≤ L.length ∧ Hid (X.data.toList = jsonP (sersOf L) i) ∧ w.grownBy wr none) (fun _ iv _ _ _ => L.length - (intOf iv).toNat)
  case atStart => exact ⟨0, _, rfl, rfl, by omega, Lib.hid (by first | rfl | (simp [jsonP, joinP]; done)), HG⟩
  case round =>
    clear HG
    obtain ⟨i, X, rfl, rfl, hi, hX, HG⟩ := hrel
    rename World => wo
    have hXs : X.size ≤ 400000 := by rw [← size_list', hX.out]; exact HF.out.jsonP_len (by rw [sersOf_len]; exact hi)
    by_cases hlt : i < L.length
    · obtain ⟨b, o, rfl, hbl, hc⟩ := Q3.out (by omega)
      have hI := HF.out.at (k := i) (by rw [sersOf_len]; exact hlt)
      rw [sersOf_at hlt] at hI
      have hS : isSer L[i].1 = true := (HF.out.one L[i].1 (List.mem_map.2 ⟨_, List.getElem_mem hlt, rfl⟩)).2.2
      have hrow := HA.out L[i] (List.getElem_mem hlt)
      have hstep : Hid (jsonP (sersOf L) (i + 1) = jsonP (sersOf L) i ++ ((if i = 0 then [] else [44, 32]) ++ jsonS L[i].1)) := Lib.hid (jsonP_step hlt)
      have HC := Lib.hid (fun (W : World) (hg : w.grownBy W none) => serCells hc hg hbl hlt)
      have hinew : Hid (∀ m, m = i + 1 → jsonP (sersOf L) m = jsonP (sersOf L) (i + 1)) := Lib.hid (fun m h => by rw [h])
      generalize jsonP (sersOf L) i = T at *
      generalize L[i] = p at *
      obtain ⟨S, A2, c2⟩ := p
      simp only [slV] at HC hrow
      dsimp only at HC hrow hI hS hstep
      have hb0 := hI.a0; have hb1 := hI.a1; have hb2 := hI.b0; have hb3 := hI.b1; have hb4 := hI.l; have hb5 := hI.n
      have HR := Lib.hid hrow
      obtain ⟨A3, c3, e3, r1, r2, r3⟩ := hrow
      cases e3
      have R3 := Lib.hid r3
      have HI := Lib.hid hI; have HS := Lib.hid hS
      clear r3 hI hS hc HF HA
      obtain ⟨x0, x1, x2, x3, x4⟩ := HC.out wo HG
      have hRs : Hid (jsonS S = jHead ++ (quoteL S.name.data.toList ++ (jMid ++ (jPts S S.vals.length ++ [93, 125])))) := Lib.hid rfl
      have hRl := Lib.hid (fun k hk => HI.out.jPts_len (k := k) hk)
      have hQ := Lib.hid (fun w => refQuote_any S.name w (by omega))
      have hql := quoteL_len S.name.data.toList
      rw [size_list'] at hql
      have hT := Lib.hid (fun k (hk : k ≤ 120) => HI.out.time hk)
      have hPl := Lib.hid (fun k (hk : k ≤ 120) => HI.out.jPt_len hk)
      generalize quoteL S.name.data.toList = Q at *
      obtain ⟨RH, hRHs⟩ : ∃ RH, Hid (RH = (if i = 0 then [] else [44, 32]) ++ (jHead ++ (Q ++ jMid))) := ⟨_, Lib.hid rfl⟩
      have hr1 : RH.length ≤ 2000 := by rw [hRHs.out]; simp only [List.length_append, jHead, jMid, List.length_cons, List.length_nil]; split <;> simp only [List.length_cons, List.length_nil] <;> omega
      have hqs : (⟨Q.toArray⟩ : ByteArray).size ≤ 2000 := by rw [Lib.size_mk]; omega
      have hqd : Hid ((⟨Q.toArray⟩ : ByteArray).data.toList = Q) := Lib.hid rfl
      generalize (⟨Q.toArray⟩ : ByteArray) = QB at *
      rcases Nat.eq_zero_or_pos i with hi0 | hip
      · subst hi0
        have hz : True := trivial
        rw [if_pos rfl] at hRHs hstep
        simp only [Nat.zero_mul, Nat.add_zero] at HC x0 x1 x2 x3 x4
        go_wp2_with (go_at_call 16; (with_reducible refine (hQ.out _).mono ?_); rintro e wn ⟨rfl, hgn⟩; replace HG := G.trans (w := w) (by exact G.go HG) hgn; clear x0 x1 x2 x3 x4; obtain ⟨x0, x1, x2, x3, x4⟩ := HC.out _ HG; clear hgn)
        go_loopw [3, 5, 6] (fun sv kv _ ws => ∃ (k : Nat) (Y : ByteArray), kv = .int .i64 k ∧ sv = .string Y ∧ k ≤ S.vals.length ∧ Hid (Y.data.toList = T ++ (RH ++ jPts S k)) ∧ w.grownBy ws none) (fun _ kv _ _ => S.vals.length - (intOf kv).toNat)
        case atStart => exact ⟨0, _, rfl, rfl, by omega, Lib.hid (by simp [ByteArray.data_append, hX.out, hRHs.out, hqd.out, jPts, joinP, jHead, jMid, hz]), HG⟩
        case round =>
          clear HG x0 x1 x2 x3 x4
          obtain ⟨k, Y, rfl, rfl, hk, hY, HG⟩ := hrel
          rename World => wi
          obtain ⟨x0, x1, x2, x3, x4⟩ := HC.out wi HG
          have hrl := hRl.out k hk
          have hXl : T.length = X.size := by rw [← hX.out, size_list']
          have hYs : Y.size ≤ 500000 := by rw [← size_list', hY.out]; simp only [List.length_append]; omega
          by_cases hkl : k < S.vals.length
          · obtain ⟨b2, o2, rfl, hb2, hc2⟩ := R3.out (by omega)
            obtain ⟨y0, y1⟩ := valCells hc2 HG hb2 hkl
            have hst : Hid (jPts S (k + 1) = jPts S k ++ ((if k = 0 then [] else [44, 32]) ++ jPt S k)) := Lib.hid jPts_step
            have hvb := isR_bound (all_at HI.out.v k hkl)
            have HPr := Lib.hid (fun w => refPrint_any S.vals[k].1 S.vals[k].2 w hvb.1 hvb.2)
            have hzz := printV_size S.vals[k].1 S.vals[k].2
            have hT2 := hT.out k (by omega)
            have hjp : Hid (jPt S k = 91 :: (prN [110, 117, 108, 108] S.vals[k] ++ (44 :: 32 :: (Lib.itoa (timeS S k) ++ [93])))) := Lib.hid (by unfold jPt; rw [atV_lt hkl])
            have hpn : Hid (prN [110, 117, 108, 108] S.vals[k] = if (printV S.vals[k].1 S.vals[k].2).data.toList = [78, 111, 110, 101] then [110, 117, 108, 108] else (printV S.vals[k].1 S.vals[k].2).data.toList) := Lib.hid rfl
            have htm : S.start + (k : Int) * S.step = timeS S k := rfl
            clear hc2 hvb
            generalize jPt S k = JP at *
            generalize timeS S k = TM at *
            generalize hMe : (k : Int) * S.step = MM at *
            have zt := dgB_size (n := TM) (by omega) (by omega)
            have w1 : IntKind.i64.wrap MM = MM := by rw [IntKind.wrap_i64]; omega
            have w2 : IntKind.i64.wrap TM = TM := by rw [IntKind.wrap_i64]; omega
            generalize prN [110, 117, 108, 108] S.vals[k] = ZN at *
            generalize printV S.vals[k].1 S.vals[k].2 = Z at *
            generalize S.vals[k].1 = vb at *
            generalize S.vals[k].2 = vn at *
            rcases Nat.eq_zero_or_pos k with rfl | hkp
            · simp only [Nat.zero_mul, Nat.add_zero] at y0 y1
              have hMM : MM = 0 := by rw [← hMe]; simp
              clear hMe
              subst hMM
              have hTM : TM = S.start := by omega
              subst hTM
              clear htm
              by_cases hzn : Z.data.toList = [78, 111, 110, 101]
              · have hzl : (Z.toList == [78, 111, 110, 101]) = true := by rw [list_is]; simpa using hzn
                have hzn := Lib.hid hzn
                rw [if_pos hzn.out] at hpn
                have q0 := fun x : GrowW w => (HC.out x.1 x.2).1
                have q1 := fun x : GrowW w => (HC.out x.1 x.2).2.1
                have q2 := fun x : GrowW w => (HC.out x.1 x.2).2.2.1
                have q3 := fun x : GrowW w => (HC.out x.1 x.2).2.2.2.1
                have q4 := fun x : GrowW w => (HC.out x.1 x.2).2.2.2.2
                have n0 : ¬ 9223372036854775807 < Y.size + 1 := (by omega); have n1 : ¬ 9223372036854775807 < Y.size + 1 + 4 := (by omega); have n2 : ¬ 9223372036854775807 < Y.size + 1 + 4 + 2 := (by omega); have n3 : ¬ 9223372036854775807 < Y.size + 1 + 4 + 2 + (dgB S.start).size := (by omega); have n4 : ¬ 9223372036854775807 < Y.size + 1 + 4 + 2 + (dgB S.start).size + 1 := (by omega)
                go_wp2_with (go_at_call 30; (with_reducible refine (HPr.out _).mono ?_); rintro e wn ⟨rfl, hgn⟩; replace HG := G.trans (w := w) (by exact G.go HG) hgn; clear x0 x1 x2 x3 x4; obtain ⟨x0, x1, x2, x3, x4⟩ := HC.out _ HG; clear hgn)
                (refine wp_region_grow (w0 := w) (by exact G.go HG) (by kernel_rfl) (by kernel_rfl) ?_; (repeat (refine wpQuiet_step (fun K hK => ?_); go_simp; first | (refine hK _ ?_; clear hK K) | (apply Exists.intro; refine ⟨fun xq => ?_, hK _ ?_⟩; (focus ((go_at_call 28; exact grow_of (dgR_any _ _ (by omega) (by omega))))); clear hK K))); refine wpQuiet_nil ?_; clear HG; intro wn HG)
                clear q0 q1 q2 q3 q4
                go_wp2_with fail
                refine ⟨?_, by first | (simp [intOf]; done) | (simp [intOf]; omega)⟩
                exact ⟨0 + 1, _, by go_num, rfl, by omega, Lib.hid (by rw [hst.out, hjp.out, hpn.out]; simp [ByteArray.data_append, hY.out, hz, dgB]), HG⟩
              · have hzl : (Z.toList == [78, 111, 110, 101]) = false := by rw [list_is]; simpa using hzn
                have hzn := Lib.hid hzn
                rw [if_neg hzn.out] at hpn
                have q0 := fun x : GrowW w => (HC.out x.1 x.2).1
                have q1 := fun x : GrowW w => (HC.out x.1 x.2).2.1
                have q2 := fun x : GrowW w => (HC.out x.1 x.2).2.2.1
                have q3 := fun x : GrowW w => (HC.out x.1 x.2).2.2.2.1
                have q4 := fun x : GrowW w => (HC.out x.1 x.2).2.2.2.2
                have n0 : ¬ 9223372036854775807 < Y.size + 1 := (by omega); have n1 : ¬ 9223372036854775807 < Y.size + 1 + Z.size := (by omega); have n2 : ¬ 9223372036854775807 < Y.size + 1 + Z.size + 2 := (by omega); have n3 : ¬ 9223372036854775807 < Y.size + 1 + Z.size + 2 + (dgB S.start).size := (by omega); have n4 : ¬ 9223372036854775807 < Y.size + 1 + Z.size + 2 + (dgB S.start).size + 1 := (by omega)
                go_wp2_with (go_at_call 30; (with_reducible refine (HPr.out _).mono ?_); rintro e wn ⟨rfl, hgn⟩; replace HG := G.trans (w := w) (by exact G.go HG) hgn; clear x0 x1 x2 x3 x4; obtain ⟨x0, x1, x2, x3, x4⟩ := HC.out _ HG; clear hgn)
                (refine wp_region_grow (w0 := w) (by exact G.go HG) (by kernel_rfl) (by kernel_rfl) ?_; (repeat (refine wpQuiet_step (fun K hK => ?_); go_simp; first | (refine hK _ ?_; clear hK K) | (apply Exists.intro; refine ⟨fun xq => ?_, hK _ ?_⟩; (focus ((go_at_call 28; exact grow_of (dgR_any _ _ (by omega) (by omega))))); clear hK K))); refine wpQuiet_nil ?_; clear HG; intro wn HG)
                clear q0 q1 q2 q3 q4
                go_wp2_with fail
                refine ⟨?_, by first | (simp [intOf]; done) | (simp [intOf]; omega)⟩
                exact ⟨0 + 1, _, by go_num, rfl, by omega, Lib.hid (by rw [hst.out, hjp.out, hpn.out]; simp [ByteArray.data_append, hY.out, hz, dgB]), HG⟩
            · have hk1 : (0 : Int) < (k : Int) := by omega
              have hk2 : ¬ k = 0 := by omega
              rw [if_neg hk2] at hst
              by_cases hzn : Z.data.toList = [78, 111, 110, 101]
              · have hzl : (Z.toList == [78, 111, 110, 101]) = true := by rw [list_is]; simpa using hzn
                have hzn := Lib.hid hzn
                rw [if_pos hzn.out] at hpn
                have q0 := fun x : GrowW w => (HC.out x.1 x.2).1
                have q1 := fun x : GrowW w => (HC.out x.1 x.2).2.1
                have q2 := fun x : GrowW w => (HC.out x.1 x.2).2.2.1
                have q3 := fun x : GrowW w => (HC.out x.1 x.2).2.2.2.1
                have q4 := fun x : GrowW w => (HC.out x.1 x.2).2.2.2.2
                have n0 : ¬ 9223372036854775807 < Y.size + 2 + 1 := (by omega); have n1 : ¬ 9223372036854775807 < Y.size + 2 + 1 + 4 := (by omega); have n2 : ¬ 9223372036854775807 < Y.size + 2 + 1 + 4 + 2 := (by omega); have n3 : ¬ 9223372036854775807 < Y.size + 2 + 1 + 4 + 2 + (dgB TM).size := (by omega); have n4 : ¬ 9223372036854775807 < Y.size + 2 + 1 + 4 + 2 + (dgB TM).size + 1 := (by omega)
                have nx : ¬ 9223372036854775807 < Y.size + 2 := by omega
                go_wp2_with (go_at_call 30; (with_reducible refine (HPr.out _).mono ?_); rintro e wn ⟨rfl, hgn⟩; replace HG := G.trans (w := w) (by exact G.go HG) hgn; clear x0 x1 x2 x3 x4; obtain ⟨x0, x1, x2, x3, x4⟩ := HC.out _ HG; clear hgn)
                (refine wp_region_grow (w0 := w) (by exact G.go HG) (by kernel_rfl) (by kernel_rfl) ?_; (repeat (refine wpQuiet_step (fun K hK => ?_); go_simp; first | (refine hK _ ?_; clear hK K) | (apply Exists.intro; refine ⟨fun xq => ?_, hK _ ?_⟩; (focus ((go_at_call 28; exact grow_of (dgR_any _ _ (by omega) (by omega))))); clear hK K))); refine wpQuiet_nil ?_; clear HG; intro wn HG)
                clear q0 q1 q2 q3 q4
                go_wp2_with fail
                refine ⟨?_, by first | (simp [intOf]; done) | (simp [intOf]; omega)⟩
                exact ⟨k + 1, _, by go_num, rfl, by omega, Lib.hid (by rw [hst.out, hjp.out, hpn.out]; simp [ByteArray.data_append, hY.out, hz, dgB]), HG⟩
              · have hzl : (Z.toList == [78, 111, 110, 101]) = false := by rw [list_is]; simpa using hzn
                have hzn := Lib.hid hzn
                rw [if_neg hzn.out] at hpn
                have q0 := fun x : GrowW w => (HC.out x.1 x.2).1
                have q1 := fun x : GrowW w => (HC.out x.1 x.2).2.1
                have q2 := fun x : GrowW w => (HC.out x.1 x.2).2.2.1
                have q3 := fun x : GrowW w => (HC.out x.1 x.2).2.2.2.1
                have q4 := fun x : GrowW w => (HC.out x.1 x.2).2.2.2.2
                have n0 : ¬ 9223372036854775807 < Y.size + 2 + 1 := (by omega); have n1 : ¬ 9223372036854775807 < Y.size + 2 + 1 + Z.size := (by omega); have n2 : ¬ 9223372036854775807 < Y.size + 2 + 1 + Z.size + 2 := (by omega); have n3 : ¬ 9223372036854775807 < Y.size + 2 + 1 + Z.size + 2 + (dgB TM).size := (by omega); have n4 : ¬ 9223372036854775807 < Y.size + 2 + 1 + Z.size + 2 + (dgB TM).size + 1 := (by omega)
                have nx : ¬ 9223372036854775807 < Y.size + 2 := by omega
                go_wp2_with (go_at_call 30; (with_reducible refine (HPr.out _).mono ?_); rintro e wn ⟨rfl, hgn⟩; replace HG := G.trans (w := w) (by exact G.go HG) hgn; clear x0 x1 x2 x3 x4; obtain ⟨x0, x1, x2, x3, x4⟩ := HC.out _ HG; clear hgn)
                (refine wp_region_grow (w0 := w) (by exact G.go HG) (by kernel_rfl) (by kernel_rfl) ?_; (repeat (refine wpQuiet_step (fun K hK => ?_); go_simp; first | (refine hK _ ?_; clear hK K) | (apply Exists.intro; refine ⟨fun xq => ?_, hK _ ?_⟩; (focus ((go_at_call 28; exact grow_of (dgR_any _ _ (by omega) (by omega))))); clear hK K))); refine wpQuiet_nil ?_; clear HG; intro wn HG)
                clear q0 q1 q2 q3 q4
                go_wp2_with fail
                refine ⟨?_, by first | (simp [intOf]; done) | (simp [intOf]; omega)⟩
                exact ⟨k + 1, _, by go_num, rfl, by omega, Lib.hid (by rw [hst.out, hjp.out, hpn.out]; simp [ByteArray.data_append, hY.out, hz, dgB]), HG⟩
          · obtain rfl : k = S.vals.length := by omega
            go_wp2_with fail
            refine ⟨?_, by first | (simp [intOf]; done) | (simp [intOf]; omega)⟩
            exact ⟨0 + 1, _, by go_num, rfl, by omega, Lib.hid (by rw [hstep.out, hRs.out]; simp [ByteArray.data_append, hY.out, hRHs.out, hz]), HG⟩
      · have hz0 : (0 : Int) < (i : Int) := by omega
        have hz : ¬ i = 0 := by omega
        rw [if_neg hz] at hRHs hstep
        go_wp2_with (go_at_call 16; (with_reducible refine (hQ.out _).mono ?_); rintro e wn ⟨rfl, hgn⟩; replace HG := G.trans (w := w) (by exact G.go HG) hgn; clear x0 x1 x2 x3 x4; obtain ⟨x0, x1, x2, x3, x4⟩ := HC.out _ HG; clear hgn)
        go_loopw [3, 5, 6] (fun sv kv _ ws => ∃ (k : Nat) (Y : ByteArray), kv = .int .i64 k ∧ sv = .string Y ∧ k ≤ S.vals.length ∧ Hid (Y.data.toList = T ++ (RH ++ jPts S k)) ∧ w.grownBy ws none) (fun _ kv _ _ => S.vals.length - (intOf kv).toNat)
        case atStart => exact ⟨0, _, rfl, rfl, by omega, Lib.hid (by simp [ByteArray.data_append, hX.out, hRHs.out, hqd.out, jPts, joinP, jHead, jMid, hz]), HG⟩
        case round =>
          clear HG x0 x1 x2 x3 x4
          obtain ⟨k, Y, rfl, rfl, hk, hY, HG⟩ := hrel
          rename World => wi
          obtain ⟨x0, x1, x2, x3, x4⟩ := HC.out wi HG
          have hrl := hRl.out k hk
          have hXl : T.length = X.size := by rw [← hX.out, size_list']
          have hYs : Y.size ≤ 500000 := by rw [← size_list', hY.out]; simp only [List.length_append]; omega
          by_cases hkl : k < S.vals.length
          · obtain ⟨b2, o2, rfl, hb2, hc2⟩ := R3.out (by omega)
            obtain ⟨y0, y1⟩ := valCells hc2 HG hb2 hkl
            have hst : Hid (jPts S (k + 1) = jPts S k ++ ((if k = 0 then [] else [44, 32]) ++ jPt S k)) := Lib.hid jPts_step
            have hvb := isR_bound (all_at HI.out.v k hkl)
            have HPr := Lib.hid (fun w => refPrint_any S.vals[k].1 S.vals[k].2 w hvb.1 hvb.2)
            have hzz := printV_size S.vals[k].1 S.vals[k].2
            have hT2 := hT.out k (by omega)
            have hjp : Hid (jPt S k = 91 :: (prN [110, 117, 108, 108] S.vals[k] ++ (44 :: 32 :: (Lib.itoa (timeS S k) ++ [93])))) := Lib.hid (by unfold jPt; rw [atV_lt hkl])
            have hpn : Hid (prN [110, 117, 108, 108] S.vals[k] = if (printV S.vals[k].1 S.vals[k].2).data.toList = [78, 111, 110, 101] then [110, 117, 108, 108] else (printV S.vals[k].1 S.vals[k].2).data.toList) := Lib.hid rfl
            have htm : S.start + (k : Int) * S.step = timeS S k := rfl
            clear hc2 hvb
            generalize jPt S k = JP at *
            generalize timeS S k = TM at *
            generalize hMe : (k : Int) * S.step = MM at *
            have zt := dgB_size (n := TM) (by omega) (by omega)
            have w1 : IntKind.i64.wrap MM = MM := by rw [IntKind.wrap_i64]; omega
            have w2 : IntKind.i64.wrap TM = TM := by rw [IntKind.wrap_i64]; omega
            generalize prN [110, 117, 108, 108] S.vals[k] = ZN at *
            generalize printV S.vals[k].1 S.vals[k].2 = Z at *
            generalize S.vals[k].1 = vb at *
            generalize S.vals[k].2 = vn at *
            rcases Nat.eq_zero_or_pos k with rfl | hkp
            · simp only [Nat.zero_mul, Nat.add_zero] at y0 y1
              have hMM : MM = 0 := by rw [← hMe]; simp
              clear hMe
              subst hMM
              have hTM : TM = S.start := by omega
              subst hTM
              clear htm
              by_cases hzn : Z.data.toList = [78, 111, 110, 101]
              · have hzl : (Z.toList == [78, 111, 110, 101]) = true := by rw [list_is]; simpa using hzn
                have hzn := Lib.hid hzn
                rw [if_pos hzn.out] at hpn
                have q0 := fun x : GrowW w => (HC.out x.1 x.2).1
                have q1 := fun x : GrowW w => (HC.out x.1 x.2).2.1
                have q2 := fun x : GrowW w => (HC.out x.1 x.2).2.2.1
                have q3 := fun x : GrowW w => (HC.out x.1 x.2).2.2.2.1
                have q4 := fun x : GrowW w => (HC.out x.1 x.2).2.2.2.2
                have n0 : ¬ 9223372036854775807 < Y.size + 1 := (by omega); have n1 : ¬ 9223372036854775807 < Y.size + 1 + 4 := (by omega); have n2 : ¬ 9223372036854775807 < Y.size + 1 + 4 + 2 := (by omega); have n3 : ¬ 9223372036854775807 < Y.size + 1 + 4 + 2 + (dgB S.start).size := (by omega); have n4 : ¬ 9223372036854775807 < Y.size + 1 + 4 + 2 + (dgB S.start).size + 1 := (by omega)
                go_wp2_with (go_at_call 30; (with_reducible refine (HPr.out _).mono ?_); rintro e wn ⟨rfl, hgn⟩; replace HG := G.trans (w := w) (by exact G.go HG) hgn; clear x0 x1 x2 x3 x4; obtain ⟨x0, x1, x2, x3, x4⟩ := HC.out _ HG; clear hgn)
                (refine wp_region_grow (w0 := w) (by exact G.go HG) (by kernel_rfl) (by kernel_rfl) ?_; (repeat (refine wpQuiet_step (fun K hK => ?_); go_simp; first | (refine hK _ ?_; clear hK K) | (apply Exists.intro; refine ⟨fun xq => ?_, hK _ ?_⟩; (focus ((go_at_call 28; exact grow_of (dgR_any _ _ (by omega) (by omega))))); clear hK K))); refine wpQuiet_nil ?_; clear HG; intro wn HG)
                clear q0 q1 q2 q3 q4
                go_wp2_with fail
                refine ⟨?_, by first | (simp [intOf]; done) | (simp [intOf]; omega)⟩
                exact ⟨0 + 1, _, by go_num, rfl, by omega, Lib.hid (by rw [hst.out, hjp.out, hpn.out]; simp [ByteArray.data_append, hY.out, hz, dgB]), HG⟩
              · have hzl : (Z.toList == [78, 111, 110, 101]) = false := by rw [list_is]; simpa using hzn
                have hzn := Lib.hid hzn
                rw [if_neg hzn.out] at hpn
                have q0 := fun x : GrowW w => (HC.out x.1 x.2).1
                have q1 := fun x : GrowW w => (HC.out x.1 x.2).2.1
                have q2 := fun x : GrowW w => (HC.out x.1 x.2).2.2.1
                have q3 := fun x : GrowW w => (HC.out x.1 x.2).2.2.2.1
                have q4 := fun x : GrowW w => (HC.out x.1 x.2).2.2.2.2
                have n0 : ¬ 9223372036854775807 < Y.size + 1 := (by omega); have n1 : ¬ 9223372036854775807 < Y.size + 1 + Z.size := (by omega); have n2 : ¬ 9223372036854775807 < Y.size + 1 + Z.size + 2 := (by omega); have n3 : ¬ 9223372036854775807 < Y.size + 1 + Z.size + 2 + (dgB S.start).size := (by omega); have n4 : ¬ 9223372036854775807 < Y.size + 1 + Z.size + 2 + (dgB S.start).size + 1 := (by omega)
                go_wp2_with (go_at_call 30; (with_reducible refine (HPr.out _).mono ?_); rintro e wn ⟨rfl, hgn⟩; replace HG := G.trans (w := w) (by exact G.go HG) hgn; clear x0 x1 x2 x3 x4; obtain ⟨x0, x1, x2, x3, x4⟩ := HC.out _ HG; clear hgn)
                (refine wp_region_grow (w0 := w) (by exact G.go HG) (by kernel_rfl) (by kernel_rfl) ?_; (repeat (refine wpQuiet_step (fun K hK => ?_); go_simp; first | (refine hK _ ?_; clear hK K) | (apply Exists.intro; refine ⟨fun xq => ?_, hK _ ?_⟩; (focus ((go_at_call 28; exact grow_of (dgR_any _ _ (by omega) (by omega))))); clear hK K))); refine wpQuiet_nil ?_; clear HG; intro wn HG)
                clear q0 q1 q2 q3 q4
                go_wp2_with fail
                refine ⟨?_, by first | (simp [intOf]; done) | (simp [intOf]; omega)⟩
                exact ⟨0 + 1, _, by go_num, rfl, by omega, Lib.hid (by rw [hst.out, hjp.out, hpn.out]; simp [ByteArray.data_append, hY.out, hz, dgB]), HG⟩
            · have hk1 : (0 : Int) < (k : Int) := by omega
              have hk2 : ¬ k = 0 := by omega
              rw [if_neg hk2] at hst
              by_cases hzn : Z.data.toList = [78, 111, 110, 101]
              · have hzl : (Z.toList == [78, 111, 110, 101]) = true := by rw [list_is]; simpa using hzn
                have hzn := Lib.hid hzn
                rw [if_pos hzn.out] at hpn
                have q0 := fun x : GrowW w => (HC.out x.1 x.2).1
                have q1 := fun x : GrowW w => (HC.out x.1 x.2).2.1
                have q2 := fun x : GrowW w => (HC.out x.1 x.2).2.2.1
                have q3 := fun x : GrowW w => (HC.out x.1 x.2).2.2.2.1
                have q4 := fun x : GrowW w => (HC.out x.1 x.2).2.2.2.2
                have n0 : ¬ 9223372036854775807 < Y.size + 2 + 1 := (by omega); have n1 : ¬ 9223372036854775807 < Y.size + 2 + 1 + 4 := (by omega); have n2 : ¬ 9223372036854775807 < Y.size + 2 + 1 + 4 + 2 := (by omega); have n3 : ¬ 9223372036854775807 < Y.size + 2 + 1 + 4 + 2 + (dgB TM).size := (by omega); have n4 : ¬ 9223372036854775807 < Y.size + 2 + 1 + 4 + 2 + (dgB TM).size + 1 := (by omega)
                have nx : ¬ 9223372036854775807 < Y.size + 2 := by omega
                go_wp2_with (go_at_call 30; (with_reducible refine (HPr.out _).mono ?_); rintro e wn ⟨rfl, hgn⟩; replace HG := G.trans (w := w) (by exact G.go HG) hgn; clear x0 x1 x2 x3 x4; obtain ⟨x0, x1, x2, x3, x4⟩ := HC.out _ HG; clear hgn)
                (refine wp_region_grow (w0 := w) (by exact G.go HG) (by kernel_rfl) (by kernel_rfl) ?_; (repeat (refine wpQuiet_step (fun K hK => ?_); go_simp; first | (refine hK _ ?_; clear hK K) | (apply Exists.intro; refine ⟨fun xq => ?_, hK _ ?_⟩; (focus ((go_at_call 28; exact grow_of (dgR_any _ _ (by omega) (by omega))))); clear hK K))); refine wpQuiet_nil ?_; clear HG; intro wn HG)
                clear q0 q1 q2 q3 q4
                go_wp2_with fail
                refine ⟨?_, by first | (simp [intOf]; done) | (simp [intOf]; omega)⟩
                exact ⟨k + 1, _, by go_num, rfl, by omega, Lib.hid (by rw [hst.out, hjp.out, hpn.out]; simp [ByteArray.data_append, hY.out, hz, dgB]), HG⟩
              · have hzl : (Z.toList == [78, 111, 110, 101]) = false := by rw [list_is]; simpa using hzn
                have hzn := Lib.hid hzn
                rw [if_neg hzn.out] at hpn
                have q0 := fun x : GrowW w => (HC.out x.1 x.2).1
                have q1 := fun x : GrowW w => (HC.out x.1 x.2).2.1
                have q2 := fun x : GrowW w => (HC.out x.1 x.2).2.2.1
                have q3 := fun x : GrowW w => (HC.out x.1 x.2).2.2.2.1
                have q4 := fun x : GrowW w => (HC.out x.1 x.2).2.2.2.2
                have n0 : ¬ 9223372036854775807 < Y.size + 2 + 1 := (by omega); have n1 : ¬ 9223372036854775807 < Y.size + 2 + 1 + Z.size := (by omega); have n2 : ¬ 9223372036854775807 < Y.size + 2 + 1 + Z.size + 2 := (by omega); have n3 : ¬ 9223372036854775807 < Y.size + 2 + 1 + Z.size + 2 + (dgB TM).size := (by omega); have n4 : ¬ 9223372036854775807 < Y.size + 2 + 1 + Z.size + 2 + (dgB TM).size + 1 := (by omega)
                have nx : ¬ 9223372036854775807 < Y.size + 2 := by omega
                go_wp2_with (go_at_call 30; (with_reducible refine (HPr.out _).mono ?_); rintro e wn ⟨rfl, hgn⟩; replace HG := G.trans (w := w) (by exact G.go HG) hgn; clear x0 x1 x2 x3 x4; obtain ⟨x0, x1, x2, x3, x4⟩ := HC.out _ HG; clear hgn)
                (refine wp_region_grow (w0 := w) (by exact G.go HG) (by kernel_rfl) (by kernel_rfl) ?_; (repeat (refine wpQuiet_step (fun K hK => ?_); go_simp; first | (refine hK _ ?_; clear hK K) | (apply Exists.intro; refine ⟨fun xq => ?_, hK _ ?_⟩; (focus ((go_at_call 28; exact grow_of (dgR_any _ _ (by omega) (by omega))))); clear hK K))); refine wpQuiet_nil ?_; clear HG; intro wn HG)
                clear q0 q1 q2 q3 q4
                go_wp2_with fail
                refine ⟨?_, by first | (simp [intOf]; done) | (simp [intOf]; omega)⟩
                exact ⟨k + 1, _, by go_num, rfl, by omega, Lib.hid (by rw [hst.out, hjp.out, hpn.out]; simp [ByteArray.data_append, hY.out, hz, dgB]), HG⟩
          · obtain rfl : k = S.vals.length := by omega
            go_wp2_with fail
            refine ⟨?_, by first | (simp [intOf]; done) | (simp [intOf]; omega)⟩
            exact ⟨i + 1, _, by go_num, rfl, by omega, Lib.hid (by rw [hstep.out, hRs.out]; simp [ByteArray.data_append, hY.out, hRHs.out, hz]), HG⟩
    · obtain rfl : i = L.length := by omega
      have hVs : Hid (jsonP (sersOf L) L.length ++ [93] = V) := Lib.hid (by rw [← hV.out]; unfold jsonL; rw [sersOf_len])
      go_wp2_with fail
      go_ret
      exact ⟨ret_string (ext_data (by rw [← hVs.out]; simp [ByteArray.data_append, hX.out])), HG⟩
end Go.Proofs.YtjfonckmfafdgaaDoor
