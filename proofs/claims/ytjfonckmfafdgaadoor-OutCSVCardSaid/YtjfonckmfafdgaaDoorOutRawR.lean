/-
  The walk of the reference's Raw. Printed by genoutr.py.
-/
import Derived.Test.YtjfonckmfafdgaaDoorOutRawP
import Derived.Test.YtjfonckmfafdgaaDoorDecB
namespace Go.Proofs.YtjfonckmfafdgaaDoor
open Go.RowKit
theorem dgB_size {n : Int} (h1 : -9223372036854775808 ≤ n) (h2 : n ≤ 9223372036854775807) : (dgB n).size ≤ 20 := by
  rw [← size_list', dgB_data]; exact itoa_len h1 h2
set_option maxHeartbeats 16000000 in
set_option maxRecDepth 100000 in
theorem refRaw_any (L : List SerP) (v : Value) (w : World) (h : SerRow w v L) (hF : Few (sersOf L)) :
    Calls Tryd.prog 10 #[v] w fun e w' => e = .returned (.string ⟨(rawP (sersOf L) L.length).toArray⟩) ∧ w.grownBy w' none := by
  have HA := Lib.hid h.2
  have HF := Lib.hid hF
  have hn := hF.n
  rw [sersOf_len] at hn
  have HG := G.refl w none
  obtain ⟨A, c, rfl, q1, q2, q3⟩ := h.1
  have Q3 := Lib.hid q3; clear q3 h hF
  obtain ⟨V, hV⟩ : ∃ V, Hid ((rawP (sersOf L) L.length) = V) := ⟨_, Lib.hid rfl⟩
  rw [hV.out]
  go_enter Tryd.func10, Tryd.ntmps10
  go_wp2_with fail
  go_loopw [3, 4, 5] (fun sv iv _ wr => ∃ (i : Nat) (X : ByteArray), iv = .int .i64 i ∧ sv = .string X ∧ i ≤ L.length ∧ Hid (X.data.toList = rawP (sersOf L) i) ∧ w.grownBy wr none) (fun _ iv _ _ => L.length - (intOf iv).toNat)
  case atStart => exact ⟨0, _, rfl, rfl, by omega, Lib.hid (by first | rfl | (simp [rawP, joinP]; done)), HG⟩
  case round =>
    clear HG
    obtain ⟨i, X, rfl, rfl, hi, hX, HG⟩ := hrel
    rename World => wo
    have hXs : X.size ≤ 400000 := by rw [← size_list', hX.out]; exact HF.out.rawP_len (by rw [sersOf_len]; exact hi)
    by_cases hlt : i < L.length
    · obtain ⟨b, o, rfl, hbl, hc⟩ := Q3.out (by omega)
      have hI := HF.out.at (k := i) (by rw [sersOf_len]; exact hlt)
      rw [sersOf_at hlt] at hI
      have hS : isSer L[i].1 = true := (HF.out.one L[i].1 (List.mem_map.2 ⟨_, List.getElem_mem hlt, rfl⟩)).2.2
      have hrow := HA.out L[i] (List.getElem_mem hlt)
      have hstep : Hid (rawP (sersOf L) (i + 1) = rawP (sersOf L) i ++ rawS L[i].1) := Lib.hid (rawP_step hlt)
      have HC := Lib.hid (fun (W : World) (hg : w.grownBy W none) => serCells hc hg hbl hlt)
      have hinew : Hid (∀ m, m = i + 1 → rawP (sersOf L) m = rawP (sersOf L) (i + 1)) := Lib.hid (fun m h => by rw [h])
      generalize rawP (sersOf L) i = T at *
      generalize L[i] = p at *
      obtain ⟨S, A2, c2⟩ := p
      simp only [slV] at HC hrow
      dsimp only at HC hrow hI hS hstep
      have hb0 := hI.a0; have hb1 := hI.a1; have hb2 := hI.b0; have hb3 := hI.b1; have hb4 := hI.l; have hb5 := hI.n
      have HR := Lib.hid hrow
      obtain ⟨A3, c3, e3, r1, r2, r3⟩ := hrow
      cases e3
      have R3 := Lib.hid r3
      have HI := Lib.hid hI; have HS := Lib.hid hS
      clear r3 hI hS hc HF HA
      obtain ⟨x0, x1, x2, x3, x4⟩ := HC.out wo HG
      have hE1 : endS S = S.start + S.vals.length * S.step := rfl
      have hRHs : Hid (rawH S = S.name.data.toList ++ (44 :: (Lib.itoa S.start ++ (44 :: (Lib.itoa (endS S) ++ (44 :: (Lib.itoa S.step ++ [124]))))))) := Lib.hid rfl
      have hr1 := HI.out.rawH_len
      have hRs : Hid (rawS S = rawH S ++ (rawV S S.vals.length ++ [10])) := Lib.hid rfl
      have hRl := Lib.hid (fun k hk => HI.out.rawV_len (k := k) hk)
      have hEl : -9223372036854775808 ≤ endS S ∧ endS S ≤ 9223372036854775807 := by have := HI.out.endB; omega
      have HE := Lib.hid (fun w h => endR_any S A2 c2 w h HS.out HI.out)
      clear hE1
      generalize endS S = E at *
      generalize rawH S = RH at *
      have z1 := dgB_size (n := S.start) (by omega) (by omega)
      have z2 := dgB_size (n := E) (by omega) (by omega)
      have z3 := dgB_size (n := S.step) (by omega) (by omega)
      have q0 := fun x : GrowW w => (HC.out x.1 x.2).1
      have q1 := fun x : GrowW w => (HC.out x.1 x.2).2.1
      have q2 := fun x : GrowW w => (HC.out x.1 x.2).2.2.1
      have q3 := fun x : GrowW w => (HC.out x.1 x.2).2.2.2.1
      have q4 := fun x : GrowW w => (HC.out x.1 x.2).2.2.2.2
      have n0 : ¬ 9223372036854775807 < X.size + S.name.size := (by omega); have n1 : ¬ 9223372036854775807 < X.size + S.name.size + 1 := (by omega); have n2 : ¬ 9223372036854775807 < X.size + S.name.size + 1 + (dgB S.start).size := (by omega); have n3 : ¬ 9223372036854775807 < X.size + S.name.size + 1 + (dgB S.start).size + 1 := (by omega); have n4 : ¬ 9223372036854775807 < X.size + S.name.size + 1 + (dgB S.start).size + 1 + (dgB E).size := (by omega); have n5 : ¬ 9223372036854775807 < X.size + S.name.size + 1 + (dgB S.start).size + 1 + (dgB E).size + 1 := (by omega); have n6 : ¬ 9223372036854775807 < X.size + S.name.size + 1 + (dgB S.start).size + 1 + (dgB E).size + 1 + (dgB S.step).size := (by omega); have n7 : ¬ 9223372036854775807 < X.size + S.name.size + 1 + (dgB S.start).size + 1 + (dgB E).size + 1 + (dgB S.step).size + 1 := (by omega)
      go_wp2_with fail
      (refine wp_region_grow (w0 := w) (by exact G.go HG) (by kernel_rfl) (by kernel_rfl) ?_; (repeat (refine wpQuiet_step (fun K hK => ?_); go_simp; first | (refine hK _ ?_; clear hK K) | (apply Exists.intro; refine ⟨fun xq => ?_, hK _ ?_⟩; (focus (first | (go_at_call 28; exact grow_of (dgR_any _ _ (by omega) (by omega))) | (go_at_call 29; exact grow_of (HE.out _ (HR.out.kept0 xq.2))))); clear hK K))); refine wpQuiet_nil ?_; clear HG; intro wn HG)
      clear q0 q1 q2 q3 q4
      clear x0 x1 x2 x3 x4
      obtain ⟨x0, x1, x2, x3, x4⟩ := HC.out _ HG
      go_wp2_with fail
      go_loopw [3, 5] (fun sv kv ws => ∃ (k : Nat) (Y : ByteArray), kv = .int .i64 k ∧ sv = .string Y ∧ k ≤ S.vals.length ∧ Hid (Y.data.toList = T ++ (RH ++ rawV S k)) ∧ w.grownBy ws none) (fun _ kv _ => S.vals.length - (intOf kv).toNat)
      case atStart => exact ⟨0, _, rfl, rfl, by omega, Lib.hid (by simp [ByteArray.data_append, hX.out, hRHs.out, dgB, rawV, joinP]), HG⟩
      case round =>
        clear HG x0 x1 x2 x3 x4
        obtain ⟨k, Y, rfl, rfl, hk, hY, HG⟩ := hrel
        rename World => wi
        obtain ⟨x0, x1, x2, x3, x4⟩ := HC.out wi HG
        have hrl := hRl.out k hk
        have hXl : T.length = X.size := by rw [← hX.out, size_list']
        have hYs : Y.size ≤ 500000 := by rw [← size_list', hY.out]; simp only [List.length_append]; omega
        by_cases hkl : k < S.vals.length
        · obtain ⟨b2, o2, rfl, hb2, hc2⟩ := R3.out (by omega)
          obtain ⟨y0, y1⟩ := valCells hc2 HG hb2 hkl
          have hst : Hid (rawV S (k + 1) = rawV S k ++ ((if k = 0 then [] else [44]) ++ prL S.vals[k])) := Lib.hid (by rw [rawV_step, atW_lt hkl])
          have hvb := isR_bound (all_at HI.out.v k hkl)
          have HPr := Lib.hid (fun w => refPrint_any S.vals[k].1 S.vals[k].2 w hvb.1 hvb.2)
          have hz := printV_size S.vals[k].1 S.vals[k].2
          have hpl : Hid (prL S.vals[k] = (printV S.vals[k].1 S.vals[k].2).data.toList) := Lib.hid rfl
          clear hc2 hvb
          generalize prL S.vals[k] = ZL at *
          generalize printV S.vals[k].1 S.vals[k].2 = Z at *
          generalize S.vals[k].1 = vb at *
          generalize S.vals[k].2 = vn at *
          rcases Nat.eq_zero_or_pos k with rfl | hk0
          · simp only [Nat.zero_mul, Nat.add_zero] at y0 y1
            go_wp2_with (go_at_call 30; (with_reducible refine (HPr.out _).mono ?_); rintro e wn ⟨rfl, hgn⟩; replace HG := G.trans (w := w) (by exact G.go HG) hgn; clear hgn)
            refine ⟨?_, by first | (simp [intOf]; done) | (simp [intOf]; omega)⟩
            exact ⟨0 + 1, _, by go_num, rfl, by omega, Lib.hid (by rw [hst.out, hpl.out]; simp [ByteArray.data_append, hY.out]), HG⟩
          · have hk1 : (0 : Int) < (k : Int) := by omega
            have hk2 : ¬ k = 0 := by omega
            rw [if_neg hk2] at hst
            go_wp2_with (go_at_call 30; (with_reducible refine (HPr.out _).mono ?_); rintro e wn ⟨rfl, hgn⟩; replace HG := G.trans (w := w) (by exact G.go HG) hgn; clear hgn)
            refine ⟨?_, by first | (simp [intOf]; done) | (simp [intOf]; omega)⟩
            exact ⟨k + 1, _, by go_num, rfl, by omega, Lib.hid (by rw [hst.out, hpl.out]; simp [ByteArray.data_append, hY.out]), HG⟩
        · obtain rfl : k = S.vals.length := by omega
          go_wp2_with fail
          refine ⟨?_, by first | (simp [intOf]; done) | (simp [intOf]; omega)⟩
          exact ⟨i + 1, _, by go_num, rfl, by omega, Lib.hid (by rw [hstep.out, hRs.out]; simp [ByteArray.data_append, hY.out]), HG⟩
    · obtain rfl : i = L.length := by omega
      go_wp2_with fail
      go_ret
      exact ⟨ret_string (ext_data (by rw [hX.out, ← hV.out])), HG⟩
end Go.Proofs.YtjfonckmfafdgaaDoor
