/-
  The walk of the law on the values of a plain line.
-/
import Derived.Test.YtjfonckmfafdgaaDoorOutParsesP
import Derived.Test.YtjfonckmfafdgaaDoorOutLaw
import Derived.Test.YtjfonckmfafdgaaDoorOutOpen
import Derived.Laws.StructEq
import Derived.Deep.QuietTactic
namespace Go.Proofs.YtjfonckmfafdgaaDoor
open Go.RowKit
theorem row_one {y : World} {b : Nat} (S : Ser) (A : Option Addr) (c : Nat) (hb : Hx y b [.string S.name, .int .i64 S.start, .int .i64 S.step, .slice A S.vals.length c, .int .i64 S.cons] 29) (hv : ERow valE y (.slice A S.vals.length c) S.vals) :
    SerRow y (.slice (some ⟨b, 0, none⟩) 1 1) [(S, A, c)] := by
  refine ⟨ERow.of_hx (ts := [(S, A, c)]) (Nat.le_refl 1) (by decide) (hb.conv rfl), fun p hp => ?_⟩
  obtain rfl : p = (S, A, c) := by simpa using hp
  exact hv
/-- a series under the name a -/
def named (S : Ser) : Ser := ⟨⟨#[97]⟩, S.start, S.step, S.vals, S.cons⟩
def headA (S : Ser) : List UInt8 := 97 :: 44 :: (Lib.itoa S.start ++ (44 :: (Lib.itoa (endS S) ++ (44 :: Lib.itoa S.step))))
theorem raw_named (p : SerP) (S : Ser) (hp : p.1 = named S) : (⟨(rawP (sersOf [p]) [p].length).toArray⟩ : ByteArray).data.toList = headA S ++ (124 :: (valsL S.vals ++ [10])) := by
  have hl : rawP (sersOf [p]) 1 = rawS (named S) := by
    rw [rawP_step (L := [p]) (i := 0) (by simp)]
    simp [rawP, joinP, hp]
  show rawP (sersOf [p]) 1 = _
  rw [hl]
  unfold rawS rawH headA
  rw [rawV_vals (named S)]
  show [97] ++ _ ++ _ = _
  simp [named, endS]
theorem headA_no {S : Ser} (h0 : 0 ≤ S.start) (h1 : 0 ≤ endS S) (h2 : 0 ≤ S.step) : ∀ c ∈ headA S, c ≠ 124 := by
  intro c hc
  unfold headA at hc
  simp only [List.mem_cons, List.mem_append] at hc
  rcases hc with rfl | rfl | hc | rfl | hc | rfl | hc
  · decide
  · decide
  · exact (itoa_no h0 c hc).2
  · decide
  · exact (itoa_no h1 c hc).2
  · decide
  · exact (itoa_no h2 c hc).2
theorem few_named {S : Ser} {A : Option Addr} {c : Nat} (h1 : S.vals.length ≤ 120) (h2 : isSer S = true) : Few (sersOf [(named S, A, c)]) := by
  refine ⟨by simp [sersOf], fun T hT => ?_⟩
  simp [sersOf] at hT
  subst hT
  refine ⟨show (1 : Nat) ≤ 300 by omega, h1, ?_⟩
  unfold isSer isHead at h2 ⊢
  simp only [Bool.and_eq_true, decide_eq_true_eq] at h2 ⊢
  exact ⟨⟨show (1 : Nat) ≤ 4096 by omega, h2.1.2⟩, h2.2⟩
theorem at_drop2 {q : ByteArray} {i : Nat} {l r : List UInt8} (h : q.data.toList.drop i = l ++ r) (j : Nat) (hj : j < l.length) : ∃ hk : i + j < q.size, q[i + j] = l[j] := by
  have e : q.data.toList[i + j]? = some l[j] := by
    have h1 : (q.data.toList.drop i)[j]? = some l[j] := by rw [h, List.getElem?_append_left hj, List.getElem?_eq_getElem hj]
    rwa [List.getElem?_drop] at h1
  obtain ⟨hk, he⟩ := List.getElem?_eq_some_iff.1 e
  have hk' : i + j < q.size := by simpa using hk
  exact ⟨hk', by rw [← he]; rfl⟩
set_option maxHeartbeats 16000000 in
set_option maxRecDepth 100000 in
theorem outParsesLaw (S : Ser) (u : Value) (w : World) (h : ERow valE w u S.vals) (hp : Pow10 w) :
    Calls Tryd.prog 4 #[serV S u] w fun e w' => e = .returned (.bool true) ∧ w.grownBy w' none := by
  have HP := Lib.hid hp; clear hp
  have HA := Lib.hid h
  have HG := G.refl w none
  have hle := h.le
  obtain ⟨A, c, rfl, q1, q2, q3⟩ := h
  have Q3 := Lib.hid q3; clear q3
  unfold maxLen at hle
  show Calls Tryd.prog 4 #[.agg #[.string S.name, .int .i64 S.start, .int .i64 S.step, .slice A S.vals.length c, .int .i64 S.cons]] w _
  have HI := Lib.hid (fun W (hg : w.grownBy W none) => refIs18_any S (.slice A S.vals.length c) W (HA.out.kept0 hg))
  have HW := Lib.hid (fun W b (hb : Hx W b [.string S.name, .int .i64 S.start, .int .i64 S.step, .slice A S.vals.length c, .int .i64 S.cons] 29) (hg : w.grownBy W none) => heavy28_any [(S, A, c)] _ W (row_one S A c hb (HA.out.kept0 hg)))
  go_enter Tryd.func4, Tryd.ntmps4
  go_wp2_with fail
  refine (HW.out _ (w.heap.size + 1) (Hx.new' (by simp) rfl) (by exact (by exact G.go HG))).mono ?_
  rintro e wn ⟨r, rfl, hb, hgn⟩
  have hs := Hx.kept (Hx.alloc (Hx.new w #[.string S.name, .int .i64 S.start, .int .i64 S.step, .slice A S.vals.length c, .int .i64 S.cons] 29) _) hgn (by simp)
  replace HG := G.trans (w := w) (by exact G.go HG) hgn
  have HB := Lib.hid hb
  clear hb hgn HW
  have hs_0 := hs.cell 0; have hs_1 := hs.cell 1; have hs_2 := hs.cell 2; have hs_3 := hs.cell 3; have hs_4 := hs.cell 4; have hs_f0 := hs.free 0; have hs_f1 := hs.free 1; have hs_f2 := hs.free 2; have hs_f3 := hs.free 3; have hs_f4 := hs.free 4; have hs_l := hs.lt
  cases r
  rotate_left
  · go_wp2_with fail
    go_ret
    exact ⟨rfl, HG⟩
  obtain ⟨-, hb⟩ := HB.out rfl
  obtain ⟨b1, b2⟩ := hb (S, A, c) (by simp)
  dsimp only at b1 b2
  clear hb HB
  cases hS : isSer S
  · rw [hS] at HI
    clear hS
    go_wp2_with (go_at_call 13; (with_reducible refine (HI.out _ (by exact G.go HG)).mono ?_); rintro e wn ⟨rfl, hgn⟩; replace HG := G.trans (w := w) (by exact G.go HG) hgn; clear hgn)
    go_ret
    exact ⟨rfl, (by exact G.go HG)⟩
  rw [hS] at HI
  have hFew : Few (sersOf [(named S, A, c)]) := few_named b2 hS
  have hIn := hFew.at (k := 0) (by simp [sersOf])
  have hIn : InS (named S) := hIn
  have a0 : 0 ≤ S.start := hIn.a0
  have a1 : S.start ≤ 4294967295 := hIn.a1
  have a2 : 1 ≤ S.step := hIn.b0
  have a3 : 0 ≤ endS S := by have := hIn.endB; have e : endS S = S.start + (S.vals.length : Int) * S.step := rfl; have e2 : 0 ≤ (S.vals.length : Int) * S.step := this.1; omega
  have hall : S.vals.all (fun p => isR p.1 p.2) = true := hIn.v
  have HR := Lib.hid (fun W b (hb : Hx W b [.string ⟨#[97]⟩, .int .i64 S.start, .int .i64 S.step, .slice A S.vals.length c, .int .i64 S.cons] 29) (hg : w.grownBy W none) => outRaw_any [(named S, A, c)] _ W (row_one (named S) A c hb (HA.out.kept0 hg)) hFew (Pow10.kept (w := w) HP.out hg))
  have hZ := Lib.hid (raw_named (named S, A, c) S rfl)
  have hno := Lib.hid (headA_no a0 a3 (by omega))
  have hzl := hFew.rawP_len (k := 1) (by simp [sersOf])
  have hZs : (⟨(rawP (sersOf [(named S, A, c)]) [(named S, A, c)].length).toArray⟩ : ByteArray).size ≤ 400000 := by rw [Lib.size_mk]; exact hzl
  have hall' := Lib.hid hall
  clear hS hFew hIn hall hzl
  generalize (⟨(rawP (sersOf [(named S, A, c)]) [(named S, A, c)].length).toArray⟩ : ByteArray) = Z at *
  go_wp2_with (first | (go_at_call 13; (with_reducible refine (HI.out _ (by exact G.go HG)).mono ?_); rintro e wn ⟨rfl, hgn⟩; replace HG := G.trans (w := w) (by exact G.go HG) hgn; replace hs := Hx.kept (by first | exact Hx.go hs | exact Hx.go2) hgn (by simp); have hs_0 := hs.cell 0; have hs_1 := hs.cell 1; have hs_2 := hs.cell 2; have hs_3 := hs.cell 3; have hs_4 := hs.cell 4; have hs_f0 := hs.free 0; have hs_f1 := hs.free 1; have hs_f2 := hs.free 2; have hs_f3 := hs.free 3; have hs_f4 := hs.free 4; have hs_l := hs.lt; clear hgn) | (go_at_call 9; (refine (HR.out _ _ (Hx.new' (by simp) rfl) (by exact (by exact G.go HG))).mono ?_); rintro e wn ⟨rfl, hgn⟩; have hs := (show Hx wn w.heap.size [.string ⟨#[97]⟩, .int .i64 S.start, .int .i64 S.step, .slice A S.vals.length c, .int .i64 S.cons] 29 from Hx.kept (by exact Hx.go hs) hgn (by simp)); replace HG := G.trans (w := w) (by exact G.go HG) hgn; clear hgn))
  clear hs_0 hs_1 hs_2 hs_3 hs_4 hs_f0 hs_f1 hs_f2 hs_f3 hs_f4 hs_l
  obtain ⟨HD, hHD⟩ : ∃ HD, HD = headA S := ⟨_, rfl⟩
  rw [← hHD] at hZ hno
  clear hHD
  obtain ⟨VL, hVL⟩ : ∃ VL, Hid (VL = valsL S.vals) := ⟨_, Lib.hid rfl⟩
  have hZ : Hid (Z.data.toList.drop 0 = HD ++ (124 :: (VL ++ [10]))) := Lib.hid (by rw [List.drop_zero, hZ.out, hVL.out])
  have hzl : Hid (Z.size = HD.length + 1 + (VL.length + 1)) := Lib.hid (by have e := congrArg List.length hZ.out; rw [List.drop_zero] at e; simp only [List.length_append, List.length_cons, List.length_nil] at e; rw [← size_list' Z]; omega)
  have g1 := Lib.hid (fun j (hj : j < HD.length) => at_drop2 (q := Z) (i := 0) (l := HD ++ [124]) (r := VL ++ [10]) (by rw [hZ.out]; simp) j (by simp; omega))
  have g2 := at_drop2 (q := Z) (i := 0) (l := HD ++ [124]) (r := VL ++ [10]) (by rw [hZ.out]; simp) HD.length (by simp)
  have g3 := at_drop2 (q := Z) (i := 0) (l := HD ++ 124 :: (VL ++ [10])) (r := []) (by rw [hZ.out]; simp) (Z.size - 1) (by simp; have := hzl.out; omega)
  obtain ⟨m2, g2⟩ := g2
  obtain ⟨m3, g3⟩ := g3
  have g2 : Z[HD.length]'(by simpa using m2) = 124 := by
    have e : (0 + HD.length) = HD.length := by omega
    simp only [e] at g2
    rw [g2]; simp
  have g3 : Z[Z.size - 1]'(by simpa using m3) = 10 := by
    have e : (0 + (Z.size - 1)) = Z.size - 1 := by omega
    simp only [e] at g3
    have e2 : Z.size - 1 = (HD ++ 124 :: VL).length := by have := hzl.out; simp only [List.length_append, List.length_cons]; omega
    rw [g3]
    have e3 : (HD ++ 124 :: (VL ++ [10])) = (HD ++ 124 :: VL) ++ [10] := by simp
    simp only [e3, e2]
    simp
  have zb : HD.length + 2 ≤ Z.size := by have := hzl.out; omega
  go_loop [4] (fun iv => ∃ (i : Nat), iv = .int .i64 i ∧ i ≤ HD.length) (fun iv => HD.length + 1 - (intOf iv).toNat)
  case atStart => exact ⟨0, rfl, by omega⟩
  case round =>
    obtain ⟨i, rfl, hi⟩ := hrel
    by_cases hlt : i < HD.length
    · obtain ⟨m1, h1⟩ := g1.out i hlt
      have h2 : ((Z[i]'(by omega)).toNat : Int) ≠ 124 := by
        have e : (0 + i) = i := by omega
        simp only [e] at h1
        rw [h1, List.getElem_append_left hlt]
        intro hh
        exact hno.out _ (List.getElem_mem hlt) (UInt8.toNat_inj.1 (by have e3 : (124 : UInt8).toNat = 124 := rfl; omega))
      clear h1
      have h3 : (((Z[i]'(by omega)).toNat : Int) != 124) = true := by simpa using h2
      clear h2
      go_wp2_with fail
      refine ⟨?_, by first | (simp [intOf]; done) | (simp [intOf]; omega)⟩
      exact ⟨i + 1, by go_num, by omega⟩
    · obtain rfl : i = HD.length := by omega
      go_wp2_with fail
      clear g1 g2 g3 hno
      have hT0 : Hid ((Z.extract (HD.length + 1) (Z.size - 1)).data.toList = valsL (S.vals.drop 0)) := Lib.hid (by
        rw [List.drop_zero, ← hVL.out, ByteArray.data_extract, Array.toList_extract, List.extract_eq_take_drop]
        have e : Z.data.toList.drop (HD.length + 1) = VL ++ [10] := by
          have e1 := hZ.out
          rw [List.drop_zero] at e1
          rw [e1, ← List.drop_drop, List.drop_left]; rfl
        rw [e, show Z.size - 1 - (HD.length + 1) = VL.length from by have := hzl.out; omega, List.take_left])
      have hTs : (Z.extract (HD.length + 1) (Z.size - 1)).size ≤ 400000 := by rw [ByteArray.size_extract]; omega
      generalize Z.extract (HD.length + 1) (Z.size - 1) = T0 at *
      go_loopw [3, 5, 6, 7, 8] (fun tv iv _ _ _ wr => ∃ (i : Nat) (T : ByteArray), iv = .int .i64 i ∧ tv = .string T ∧ i ≤ S.vals.length ∧ Hid (T.data.toList = valsL (S.vals.drop i)) ∧ T.size ≤ 400000 ∧ w.grownBy wr none ∧ Hx wr w.heap.size [.string ⟨#[97]⟩, .int .i64 S.start, .int .i64 S.step, .slice A S.vals.length c, .int .i64 S.cons] 29) (fun _ iv _ _ _ _ => S.vals.length - (intOf iv).toNat)
      case atStart => exact ⟨0, T0, rfl, rfl, by omega, hT0, hTs, HG, hs⟩
      case round =>
        clear HG hs hT0 hTs
        obtain ⟨i, T, rfl, rfl, hi2, hT, hTs, HG, hs⟩ := hrel
        rename World => wo
        have hs_0 := hs.cell 0; have hs_1 := hs.cell 1; have hs_2 := hs.cell 2; have hs_3 := hs.cell 3; have hs_4 := hs.cell 4; have hs_f0 := hs.free 0; have hs_f1 := hs.free 1; have hs_f2 := hs.free 2; have hs_f3 := hs.free 3; have hs_f4 := hs.free 4; have hs_l := hs.lt
        by_cases hlt2 : i < S.vals.length
        · obtain ⟨b2, o2, rfl, hb2, hc2⟩ := Q3.out (by omega)
          obtain ⟨z0, z1⟩ := valCells hc2 (G.refl w none) hb2 hlt2
          obtain ⟨j1, j2, j3, j4, j5, j6, j7⟩ := vals_comma hT.out hlt2
          have hr := all_at hall'.out i hlt2
          have hps := printV_size S.vals[i].1 S.vals[i].2
          rw [← j4] at hps
          have HPa := Lib.hid (fun w => refParse_any (T.extract 0 (prL S.vals[i]).length) w (by omega))
          unfold parseV at HPa
          rw [j4, parse_val hr, ← j4] at HPa
          have hpn := @print_none S.vals[i].1 S.vals[i].2
          rw [← j4] at hpn
          clear hc2 j4 j5 j6
          obtain ⟨M, hM⟩ : ∃ M, M = min ((prL S.vals[i]).length + 1) T.size := ⟨_, rfl⟩
          have j8 := Lib.hid (j7 M hM)
          clear j7
          have hmin : min (((prL S.vals[i]).length : Int) + 1) (T.size : Int) = (M : Int) := by omega
          have hMl : M ≤ T.size := by omega
          have hMs : (T.extract M T.size).size ≤ 400000 := by rw [ByteArray.size_extract]; omega
          clear hM
          generalize (prL S.vals[i]).length = K at *
          generalize S.vals[i].1 = vb at *
          generalize S.vals[i].2 = vn at *
          cases vb
          · have hn0 : vn = 0 := by simpa [isR] using hr
            subst hn0
            have hz9 : ((T.extract 0 K).toList == [78, 111, 110, 101]) = true := by rw [hpn rfl, list_is]; decide
            simp only [Bool.false_eq_true, if_false, valV, valC, Option.isSome_none] at HPa
            clear hr hpn
            go_wp2_with fail
            go_loop [6] (fun kv => ∃ (k : Nat), kv = .int .i64 k ∧ k ≤ K) (fun kv => K + 1 - (intOf kv).toNat)
            case atStart => exact ⟨0, rfl, by omega⟩
            case round =>
              obtain ⟨k, rfl, hk⟩ := hrel
              by_cases hkl : k < K
              · have h2 := j2 k (by omega) hkl
                have h3 : (((T[k]'(by omega)).toNat : Int) != 44) = true := by simp; intro hh; exact h2 (UInt8.toNat_inj.1 (by have e3 : (44 : UInt8).toNat = 44 := rfl; omega))
                clear h2
                go_wp2_with fail
                refine ⟨?_, by first | (simp [intOf]; done) | (simp [intOf]; omega)⟩
                exact ⟨k + 1, by go_num, by omega⟩
              · obtain rfl : k = K := by omega
                rcases Nat.lt_or_ge k T.size with hkt | hkt
                · have h4 := j3 hkt
                  go_wp2_with (go_at_call 14; (with_reducible refine (HPa.out _).mono ?_); rintro e wn ⟨rfl, hgn⟩; replace HG := G.trans (w := w) (by exact G.go HG) hgn; replace hs := Hx.kept (by first | exact Hx.go hs | exact Hx.go2) hgn (by simp); have hb2n := Nat.lt_of_lt_of_le hb2 HG.size; have x0 := (G.cell HG (a := ⟨b2, o2 + i * 2, none⟩) hb2 (by simp)).trans z0; have x1 := (G.cell HG (a := ⟨b2, o2 + i * 2 + 1, none⟩) hb2 (by simp)).trans z1; have hs_0 := hs.cell 0; have hs_1 := hs.cell 1; have hs_2 := hs.cell 2; have hs_3 := hs.cell 3; have hs_4 := hs.cell 4; have hs_f0 := hs.free 0; have hs_f1 := hs.free 1; have hs_f2 := hs.free 2; have hs_f3 := hs.free 3; have hs_f4 := hs.free 4; have hs_l := hs.lt; clear hgn)
                  go_quiet (fail)
                  go_wp2_with fail
                  refine ⟨?_, by first | (simp [intOf]; done) | (simp [intOf]; omega)⟩
                  exact ⟨i + 1, _, by go_num, rfl, by omega, j8, by omega, (by exact G.go HG), (by first | exact Hx.go hs | exact Hx.go2)⟩
                · have h4 : True := trivial
                  go_wp2_with (go_at_call 14; (with_reducible refine (HPa.out _).mono ?_); rintro e wn ⟨rfl, hgn⟩; replace HG := G.trans (w := w) (by exact G.go HG) hgn; replace hs := Hx.kept (by first | exact Hx.go hs | exact Hx.go2) hgn (by simp); have hb2n := Nat.lt_of_lt_of_le hb2 HG.size; have x0 := (G.cell HG (a := ⟨b2, o2 + i * 2, none⟩) hb2 (by simp)).trans z0; have x1 := (G.cell HG (a := ⟨b2, o2 + i * 2 + 1, none⟩) hb2 (by simp)).trans z1; have hs_0 := hs.cell 0; have hs_1 := hs.cell 1; have hs_2 := hs.cell 2; have hs_3 := hs.cell 3; have hs_4 := hs.cell 4; have hs_f0 := hs.free 0; have hs_f1 := hs.free 1; have hs_f2 := hs.free 2; have hs_f3 := hs.free 3; have hs_f4 := hs.free 4; have hs_l := hs.lt; clear hgn)
                  go_quiet (fail)
                  go_wp2_with fail
                  refine ⟨?_, by first | (simp [intOf]; done) | (simp [intOf]; omega)⟩
                  exact ⟨i + 1, _, by go_num, rfl, by omega, j8, by omega, (by exact G.go HG), (by first | exact Hx.go hs | exact Hx.go2)⟩
          · simp only [if_true, valV, valC, Option.isSome_some] at HPa
            clear hr hpn
            go_wp2_with fail
            go_loop [6] (fun kv => ∃ (k : Nat), kv = .int .i64 k ∧ k ≤ K) (fun kv => K + 1 - (intOf kv).toNat)
            case atStart => exact ⟨0, rfl, by omega⟩
            case round =>
              obtain ⟨k, rfl, hk⟩ := hrel
              by_cases hkl : k < K
              · have h2 := j2 k (by omega) hkl
                have h3 : (((T[k]'(by omega)).toNat : Int) != 44) = true := by simp; intro hh; exact h2 (UInt8.toNat_inj.1 (by have e3 : (44 : UInt8).toNat = 44 := rfl; omega))
                clear h2
                go_wp2_with fail
                refine ⟨?_, by first | (simp [intOf]; done) | (simp [intOf]; omega)⟩
                exact ⟨k + 1, by go_num, by omega⟩
              · obtain rfl : k = K := by omega
                rcases Nat.lt_or_ge k T.size with hkt | hkt
                · have h4 := j3 hkt
                  go_wp2_with (go_at_call 14; (with_reducible refine (HPa.out _).mono ?_); rintro e wn ⟨rfl, hgn⟩; replace HG := G.trans (w := w) (by exact G.go HG) hgn; replace hs := Hx.kept (by first | exact Hx.go hs | exact Hx.go2) hgn (by simp); have hb2n := Nat.lt_of_lt_of_le hb2 HG.size; have x0 := (G.cell HG (a := ⟨b2, o2 + i * 2, none⟩) hb2 (by simp)).trans z0; have x1 := (G.cell HG (a := ⟨b2, o2 + i * 2 + 1, none⟩) hb2 (by simp)).trans z1; have hs_0 := hs.cell 0; have hs_1 := hs.cell 1; have hs_2 := hs.cell 2; have hs_3 := hs.cell 3; have hs_4 := hs.cell 4; have hs_f0 := hs.free 0; have hs_f1 := hs.free 1; have hs_f2 := hs.free 2; have hs_f3 := hs.free 3; have hs_f4 := hs.free 4; have hs_l := hs.lt; clear hgn)
                  go_quiet (fail)
                  go_wp2_with fail
                  refine ⟨?_, by first | (simp [intOf]; done) | (simp [intOf]; omega)⟩
                  exact ⟨i + 1, _, by go_num, rfl, by omega, j8, by omega, (by exact G.go HG), (by first | exact Hx.go hs | exact Hx.go2)⟩
                · have h4 : True := trivial
                  go_wp2_with (go_at_call 14; (with_reducible refine (HPa.out _).mono ?_); rintro e wn ⟨rfl, hgn⟩; replace HG := G.trans (w := w) (by exact G.go HG) hgn; replace hs := Hx.kept (by first | exact Hx.go hs | exact Hx.go2) hgn (by simp); have hb2n := Nat.lt_of_lt_of_le hb2 HG.size; have x0 := (G.cell HG (a := ⟨b2, o2 + i * 2, none⟩) hb2 (by simp)).trans z0; have x1 := (G.cell HG (a := ⟨b2, o2 + i * 2 + 1, none⟩) hb2 (by simp)).trans z1; have hs_0 := hs.cell 0; have hs_1 := hs.cell 1; have hs_2 := hs.cell 2; have hs_3 := hs.cell 3; have hs_4 := hs.cell 4; have hs_f0 := hs.free 0; have hs_f1 := hs.free 1; have hs_f2 := hs.free 2; have hs_f3 := hs.free 3; have hs_f4 := hs.free 4; have hs_l := hs.lt; clear hgn)
                  go_quiet (fail)
                  go_wp2_with fail
                  refine ⟨?_, by first | (simp [intOf]; done) | (simp [intOf]; omega)⟩
                  exact ⟨i + 1, _, by go_num, rfl, by omega, j8, by omega, (by exact G.go HG), (by first | exact Hx.go hs | exact Hx.go2)⟩
        · obtain rfl : i = S.vals.length := by omega
          have hTe : T.data.toList = [] := by rw [hT.out, List.drop_of_length_le (Nat.le_refl _)]; rfl
          have hte : (T.toList == []) = true := by rw [Lib.toList_data, hTe]; rfl
          clear hTe
          have HK := Lib.hid (fun W (hg : w.grownBy W none) => known28_any W (Pow10.kept (w := w) HP.out hg))
          go_wp2_with (go_at_call 11; (with_reducible refine (HK.out _ (by exact G.go HG)).mono ?_); rintro e wn ⟨rfl, hgn⟩; replace HG := G.trans (w := w) (by exact G.go HG) hgn; clear hgn)
          go_ret
          exact ⟨rfl, HG⟩
end Go.Proofs.YtjfonckmfafdgaaDoor
