/-
  The walk of the law on texts between quotes. Printed by genoutquotes.py.
-/
import Derived.Test.YtjfonckmfafdgaaDoorOutQuoteR
import Derived.Test.YtjfonckmfafdgaaDoorOutLaw
namespace Go.Proofs.YtjfonckmfafdgaaDoor
open Go.RowKit
set_option maxHeartbeats 4000000 in
theorem half_any (n : Nat) (w : World) (h : n < 16) : Calls Tryd.prog 17 #[.int .u8 (hexD n).toNat] w fun e w' => e = .returned (.int .u8 n) ∧ w = w' := by
  have hd : ((hexD n).toNat : Int) = if n < 10 then 48 + (n : Int) else 87 + (n : Int) := by
    have : ∀ k : Fin 16, ((hexD k.val).toNat : Int) = if k.val < 10 then 48 + (k.val : Int) else 87 + (k.val : Int) := by decide +kernel
    exact this ⟨n, h⟩
  generalize ((hexD n).toNat : Int) = x at *
  by_cases h10 : n < 10
  · rw [if_pos h10] at hd
    subst hd
    go_enter Tryd.func17, Tryd.ntmps17
    go_wp2_with fail
    go_ret
    exact ⟨ret_int (by first | rfl | omega), rfl⟩
  · rw [if_neg h10] at hd
    subst hd
    go_enter Tryd.func17, Tryd.ntmps17
    go_wp2_with fail
    go_ret
    exact ⟨ret_int (by first | rfl | omega), rfl⟩
/-- what stands in a text behind a place -/
theorem at_drop {q : ByteArray} {i : Nat} {l r : List UInt8} (h : q.data.toList.drop i = l ++ r) (j : Nat) (hj : j < l.length) : ∃ hk : i + j < q.size, q[i + j] = l[j] := by
  have e : q.data.toList[i + j]? = some l[j] := by
    have h1 : (q.data.toList.drop i)[j]? = some l[j] := by rw [h, List.getElem?_append_left hj, List.getElem?_eq_getElem hj]
    rwa [List.getElem?_drop] at h1
  obtain ⟨hk, he⟩ := List.getElem?_eq_some_iff.1 e
  have hk' : i + j < q.size := by simpa using hk
  exact ⟨hk', by rw [← he]; rfl⟩
theorem quote_drop (s : ByteArray) (k : Nat) (hk : k ≤ s.size) : (quoteL s.data.toList).drop (1 + ((s.data.toList.take k).flatMap qc).length) = (s.data.toList.drop k).flatMap qc ++ [34] := by
  unfold quoteL
  rw [Nat.add_comm, List.drop_succ_cons]
  have e : s.data.toList.flatMap qc = (s.data.toList.take k).flatMap qc ++ (s.data.toList.drop k).flatMap qc := by rw [← List.flatMap_append, List.take_append_drop]
  rw [e, List.append_assoc, List.drop_left]
theorem quote_len (s : ByteArray) (k : Nat) (hk : k ≤ s.size) : (quoteL s.data.toList).length = 1 + ((s.data.toList.take k).flatMap qc).length + (((s.data.toList.drop k).flatMap qc).length + 1) := by
  have h := congrArg List.length (quote_drop s k hk)
  rw [List.length_drop, List.length_append] at h
  have h2 : 1 + ((s.data.toList.take k).flatMap qc).length ≤ (quoteL s.data.toList).length := by
    unfold quoteL
    have e : s.data.toList.flatMap qc = (s.data.toList.take k).flatMap qc ++ (s.data.toList.drop k).flatMap qc := by rw [← List.flatMap_append, List.take_append_drop]
    rw [List.length_cons, e, List.length_append, List.length_append]; omega
  simp only [List.length_cons, List.length_nil] at h
  omega
theorem hexD_sum (n : Nat) (h : n < 32) : 16 * (n / 16) + n % 16 = n := by omega
set_option maxHeartbeats 16000000 in
set_option maxRecDepth 100000 in
theorem outQuotesLaw (s : ByteArray) (w : World) (hs : s.size ≤ maxLen) (hp : Pow10 w) :
    Calls Tryd.prog 5 #[.string s] w fun e w' => e = .returned (.bool true) ∧ w.grownBy w' none := by
  unfold maxLen at hs
  have HP := Lib.hid hp; clear hp
  have HG := G.refl w none
  by_cases h300 : s.size ≤ 300
  rotate_left
  · go_enter Tryd.func5, Tryd.ntmps5
    go_wp2_with fail
    go_ret
    exact ⟨rfl, HG⟩
  have H1 := Lib.hid (fun w => quote_any s w (by omega))
  have H2 := Lib.hid (fun w => refQuote_any s w (by omega))
  have HK := Lib.hid (fun W (hg : w.grownBy W none) => known28_any W (Pow10.kept (w := w) HP.out hg))
  have hD := Lib.hid (fun k hk => quote_drop s k hk)
  have hql : ((⟨(quoteL s.data.toList).toArray⟩ : ByteArray).size : Nat) = (quoteL s.data.toList).length := Lib.size_mk _
  have hN := Lib.hid (fun k hk => hql.trans (quote_len s k hk))
  have hqd : Hid ((⟨(quoteL s.data.toList).toArray⟩ : ByteArray).data.toList = quoteL s.data.toList) := Lib.hid rfl
  have hl0 := hN.out 0 (by omega)
  have hmax := quoteL_len s.data.toList
  rw [size_list', ← hql] at hmax
  generalize (⟨(quoteL s.data.toList).toArray⟩ : ByteArray) = q at *
  have hq0 : ∃ h : 0 < q.size, q[0] = 34 := by
    have := at_drop (q := q) (i := 0) (l := [34]) (r := s.data.toList.flatMap qc ++ [34]) (by rw [hqd.out]; rfl) 0 (by simp)
    simpa using this
  have hqz : ∃ h : q.size - 1 < q.size, q[q.size - 1] = 34 := by
    have e := hD.out s.size (Nat.le_refl _)
    have e2 := hN.out s.size (Nat.le_refl _)
    have hd0 : s.data.toList.drop s.size = [] := List.drop_of_length_le (by simp)
    rw [hd0] at e e2
    simp only [List.flatMap_nil, List.nil_append, List.length_nil] at e e2
    have := at_drop (q := q) (i := q.size - 1) (l := [34]) (r := []) (by rw [hqd.out, e2]; exact e) 0 (by simp)
    simpa using this
  obtain ⟨z0, z1⟩ := hq0
  obtain ⟨z2, z3⟩ := hqz
  simp only [List.take_zero, List.flatMap_nil, List.length_nil] at hl0
  have hq2 : 2 ≤ q.size := by omega
  have hcast : ((q.size : Int) - 1) = ((q.size - 1 : Nat) : Int) := by omega
  have hql' := Lib.hid hql
  clear hl0 hql
  go_enter Tryd.func5, Tryd.ntmps5
  go_wp2_with (first | (go_at_call 15; (with_reducible refine (H1.out _).mono ?_); rintro e wn ⟨rfl, hgn⟩; replace HG := G.trans (w := w) (by exact G.go HG) hgn; clear hgn) | (go_at_call 16; (with_reducible refine (H2.out _).mono ?_); rintro e wn ⟨rfl, hgn⟩; replace HG := G.trans (w := w) (by exact G.go HG) hgn; clear hgn))
  go_loopw [4, 5] (fun bv iv wr => ∃ (k i : Nat), iv = .int .i64 i ∧ k ≤ s.size ∧ Hid (i = 1 + ((s.data.toList.take k).flatMap qc).length) ∧ EOwn byteE 5 wr w.heap.size bv (s.data.toList.take k) ∧ w.grownBy wr none) (fun _ iv _ => q.size - (intOf iv).toNat)
  case atStart => exact ⟨0, 1, rfl, by omega, Lib.hid rfl, EOwn.nil _ _ _ _, HG⟩
  case round =>
    clear HG
    obtain ⟨k, i, rfl, hk, hi, HO, HG⟩ := hrel
    have hsz := HG.size
    have hnl := hN.out k hk
    rw [← hi.out] at hnl
    replace hnl := Lib.hid hnl
    by_cases hlt : k < s.size
    · have htk : Hid (s.data.toList.take (k + 1) = s.data.toList.take k ++ [s[k]]) := Lib.hid (by rw [List.take_succ_eq_append_getElem (by simpa using hlt)]; rfl)
      have hq := Lib.hid (take_qc hlt)
      have hdk : Hid (q.data.toList.drop i = qc s[k] ++ ((s.data.toList.drop (k + 1)).flatMap qc ++ [34])) := Lib.hid (by rw [hqd.out, hi.out, hD.out k hk, drop_cons s k hlt, List.flatMap_cons, List.append_assoc])
      have hrest : ((s.data.toList.drop k).flatMap qc).length = (qc s[k]).length + ((s.data.toList.drop (k + 1)).flatMap qc).length := by rw [drop_cons s k hlt, List.flatMap_cons, List.length_append]
      have c256 : s[k].toNat < 256 := s[k].toNat_lt
      have a34 := u8_34 s[k]
      have a92 := u8_92 s[k]
      generalize s[k] = c at *
      generalize (s.data.toList.drop (k + 1)).flatMap qc = R at *
      have hlu : (s.data.toList.take k).length = k := by rw [List.length_take, size_list']; omega
      have hl : Hid ((s.data.toList.take k).length ≤ 300) := Lib.hid (by omega)
      by_cases h1 : c = 34 ∨ c = 92
      · have hqc := Lib.hid (qc_a h1)
        have g0 := at_drop hdk.out 0 (by rw [hqc.out]; simp)
        have g1 := at_drop hdk.out 1 (by rw [hqc.out]; simp)
        simp only [hqc.out] at g0 g1 hrest
        obtain ⟨m0, g0⟩ := g0
        obtain ⟨m1, g1⟩ := g1
        simp only [List.getElem_cons_zero, List.getElem_cons_succ, Nat.add_zero, List.length_cons, List.length_nil] at g0 g1 hrest
        have hb9 : i + 3 ≤ q.size := by have := hnl.out; omega
        have hn117 : ((c.toNat : Int) == 117) = false := by rcases h1 with rfl | rfl <;> rfl
        have hnext : Hid (i + 2 = 1 + ((s.data.toList.take (k + 1)).flatMap qc).length) := Lib.hid (by rw [hq.out, hqc.out, List.length_append, hi.out]; simp only [List.length_cons, List.length_nil]; omega)
        clear a34 a92 h1 hrest
        go_wp2_with (at_builtin; refine wpList_append_row byteE rfl _ _ 37 5 rfl Tryd.underlying37 info_byte w.heap.size u4 (s.data.toList.take k) rfl (.slice (some ⟨wr.heap.size, 0, none⟩) 1 1) [c] rfl ?_ ?_; rotate_left; exact ⟨(by have hb0 := (HO); (repeat first | with_reducible exact hb0 | with_reducible apply EOwn.drewN | with_reducible apply EOwn.drew | with_reducible apply EOwn.alloc | (with_reducible apply EOwn.set; (case hne => (first | assumption | omega | (simp; done) | (simp; omega)))))), ERow.of_hx (L := byteE) (ts := [c]) (Nat.le_refl 1) (by decide) ((Hx.new _ #[.int .u8 (c.toNat : Int)] 5).conv (by rfl)), by simp; omega, by have := hl.out; simp only [List.length_cons, List.length_nil] at this ⊢; omega⟩; intro v3 w3 hown hgrow; have HG3 := EOwn.grow (w0 := w) (by have hb0 := (HO); (repeat first | with_reducible exact hb0 | with_reducible apply EOwn.drewN | with_reducible apply EOwn.drew | with_reducible apply EOwn.alloc | (with_reducible apply EOwn.set; (case hne => (first | assumption | omega | (simp; done) | (simp; omega)))))) (by exact G.go HG) hgrow)
        refine ⟨?_, by first | (simp [intOf]; done) | (simp [intOf]; omega)⟩
        exact ⟨k + 1, i + 2, by go_num, by omega, hnext, hown.conv (by rw [htk.out]), HG3⟩
      · by_cases h2 : c.toNat < 32
        · have hqc := Lib.hid (qc_b h1 h2)
          have g0 := at_drop hdk.out 0 (by rw [hqc.out]; simp)
          have g1 := at_drop hdk.out 1 (by rw [hqc.out]; simp)
          have g4 := at_drop hdk.out 4 (by rw [hqc.out]; simp)
          have g5 := at_drop hdk.out 5 (by rw [hqc.out]; simp)
          simp only [hqc.out] at g0 g1 g4 g5 hrest
          obtain ⟨m0, g0⟩ := g0
          obtain ⟨m1, g1⟩ := g1
          obtain ⟨m4, g4⟩ := g4
          obtain ⟨m5, g5⟩ := g5
          simp only [List.getElem_cons_zero, List.getElem_cons_succ, Nat.add_zero, List.length_cons, List.length_nil] at g0 g1 g4 g5 hrest
          have hb9 : i + 7 ≤ q.size := by have := hnl.out; omega
          have hnext : Hid (i + 6 = 1 + ((s.data.toList.take (k + 1)).flatMap qc).length) := Lib.hid (by rw [hq.out, hqc.out, List.length_append, hi.out]; simp only [List.length_cons, List.length_nil]; omega)
          have F1 := Lib.hid (fun w => half_any (c.toNat / 16) w (by omega))
          have F2 := Lib.hid (fun w => half_any (c.toNat % 16) w (by omega))
          have hsum : (16 : Int) * ((c.toNat / 16 : Nat) : Int) + ((c.toNat % 16 : Nat) : Int) = (c.toNat : Int) := by omega
          clear a34 a92 h1 hrest
          have hX : c.toNat / 16 < 2 := by omega
          have hY : c.toNat % 16 < 16 := by omega
          generalize c.toNat / 16 = X at *
          generalize c.toNat % 16 = Y at *
          generalize hexD X = hx at *
          generalize hexD Y = hy at *
          go_wp2_with fail
          refine wp_region_rel (n := 14) (S := [fun v _ => v = u4, fun v _ => v = .string q, fun v _ => v = .int .i64 i, fun v _ => v = .int .i64 (i + 4), fun v _ => v = .int .u8 (hx.toNat : Int), fun v _ => v = .int .u8 X, fun v _ => v = .int .u8 (16 * (X : Int)), fun v _ => v = .string q, fun v _ => v = .int .i64 i, fun v _ => v = .int .i64 (i + 5), fun v _ => v = .int .u8 (hy.toNat : Int), fun v _ => v = .int .u8 Y, fun v _ => v = .int .u8 (c.toNat : Int), LaidB wr [c]]) (G.refl _ none) (by kernel_rfl) (by kernel_rfl) ?_ ?_ ?_
          · intro i v y1 y2 hg12 hS
            match i, hS with
            | 0, h => exact h
            | 1, h => exact h
            | 2, h => exact h
            | 3, h => exact h
            | 4, h => exact h
            | 5, h => exact h
            | 6, h => exact h
            | 7, h => exact h
            | 8, h => exact h
            | 9, h => exact h
            | 10, h => exact h
            | 11, h => exact h
            | 12, h => exact h
            | 13, h => exact LaidB.grown h hg12
            | k + 14, h => exact trivial
          · simp only [List.take_succ_cons, List.take_zero, relOps]
            refine ⟨fun VV y1 hg1 hV => ?_, fun VV y1 hg1 hV => ?_, fun VV y1 hg1 hV => ?_, fun VV y1 hg1 hV => ?_, fun VV y1 hg1 hV => ?_, fun VV y1 hg1 hV => ?_, fun VV y1 hg1 hV => ?_, fun VV y1 hg1 hV => ?_, fun VV y1 hg1 hV => ?_, fun VV y1 hg1 hV => ?_, fun VV y1 hg1 hV => ?_, fun VV y1 hg1 hV => ?_, fun VV y1 hg1 hV => ?_, fun VV y1 hg1 hV => ?_, trivial⟩
            · clear hV
              
              simp only [putAll]
              go_wp2_with fail
              exact ⟨rfl, rfl, G.refl _ none, rfl⟩
            · clear hV
              
              simp only [putAll]
              go_wp2_with fail
              exact ⟨rfl, rfl, G.refl _ none, rfl⟩
            · clear hV
              
              simp only [putAll]
              go_wp2_with fail
              exact ⟨rfl, rfl, G.refl _ none, rfl⟩
            · have e2 := hV 2 (by kernel_rfl); clear hV
              
              simp only [atS, List.getD_cons_succ, List.getD_cons_zero] at e2
              simp only [putAll, e2]
              go_wp2_with fail
              exact ⟨rfl, rfl, G.refl _ none, (by first | rfl | (rw [hsum]; done) | (simp; done) | (simp [hsum]; done))⟩
            · have e1 := hV 1 (by kernel_rfl); have e3 := hV 3 (by kernel_rfl); clear hV
              
              simp only [atS, List.getD_cons_succ, List.getD_cons_zero] at e1 e3
              simp only [putAll, e1, e3]
              go_wp2_with fail
              exact ⟨rfl, rfl, G.refl _ none, (by first | rfl | (rw [hsum]; done) | (simp; done) | (simp [hsum]; done))⟩
            · have e4 := hV 4 (by kernel_rfl); clear hV
              
              simp only [atS, List.getD_cons_succ, List.getD_cons_zero] at e4
              simp only [putAll, e4]
              go_wp2_with (go_at_call 17; (with_reducible refine (F1.out _).mono ?_); rintro e wn ⟨rfl, rfl⟩)
              exact ⟨rfl, rfl, G.refl _ none, rfl⟩
            · have e5 := hV 5 (by kernel_rfl); clear hV
              
              simp only [atS, List.getD_cons_succ, List.getD_cons_zero] at e5
              simp only [putAll, e5]
              go_wp2_with fail
              exact ⟨rfl, rfl, G.refl _ none, (by first | rfl | (rw [hsum]; done) | (simp; done) | (simp [hsum]; done))⟩
            · clear hV
              
              simp only [putAll]
              go_wp2_with fail
              exact ⟨rfl, rfl, G.refl _ none, rfl⟩
            · clear hV
              
              simp only [putAll]
              go_wp2_with fail
              exact ⟨rfl, rfl, G.refl _ none, rfl⟩
            · have e8 := hV 8 (by kernel_rfl); clear hV
              
              simp only [atS, List.getD_cons_succ, List.getD_cons_zero] at e8
              simp only [putAll, e8]
              go_wp2_with fail
              exact ⟨rfl, rfl, G.refl _ none, (by first | rfl | (rw [hsum]; done) | (simp; done) | (simp [hsum]; done))⟩
            · have e7 := hV 7 (by kernel_rfl); have e9 := hV 9 (by kernel_rfl); clear hV
              
              simp only [atS, List.getD_cons_succ, List.getD_cons_zero] at e7 e9
              simp only [putAll, e7, e9]
              go_wp2_with fail
              exact ⟨rfl, rfl, G.refl _ none, (by first | rfl | (rw [hsum]; done) | (simp; done) | (simp [hsum]; done))⟩
            · have e10 := hV 10 (by kernel_rfl); clear hV
              
              simp only [atS, List.getD_cons_succ, List.getD_cons_zero] at e10
              simp only [putAll, e10]
              go_wp2_with (go_at_call 17; (with_reducible refine (F2.out _).mono ?_); rintro e wn ⟨rfl, rfl⟩)
              exact ⟨rfl, rfl, G.refl _ none, rfl⟩
            · have e6 := hV 6 (by kernel_rfl); have e11 := hV 11 (by kernel_rfl); clear hV
              
              simp only [atS, List.getD_cons_succ, List.getD_cons_zero] at e6 e11
              simp only [putAll, e6, e11]
              go_wp2_with fail
              exact ⟨rfl, rfl, G.refl _ none, (by first | rfl | (rw [hsum]; done) | (simp; done) | (simp [hsum]; done))⟩
            · have e12 := hV 12 (by kernel_rfl); clear hV
              
              simp only [atS, List.getD_cons_succ, List.getD_cons_zero] at e12
              simp only [putAll, e12]
              go_wp2_with fail
              exact ⟨rfl, rfl, World.grownBy_alloc _ _ none, LaidB.new hg1 (by rfl) (by rfl)⟩
          · intro VV y1 hg1 hV
            have e0 := hV 0 (by omega); have e1 := hV 1 (by omega); have e2 := hV 2 (by omega); have e3 := hV 3 (by omega); have e4 := hV 4 (by omega); have e5 := hV 5 (by omega); have e6 := hV 6 (by omega); have e7 := hV 7 (by omega); have e8 := hV 8 (by omega); have e9 := hV 9 (by omega); have e10 := hV 10 (by omega); have e11 := hV 11 (by omega); have e12 := hV 12 (by omega); have e13 := hV 13 (by omega); clear hV
            simp only [atS, List.getD_cons_succ, List.getD_cons_zero] at e0 e1 e2 e3 e4 e5 e6 e7 e8 e9 e10 e11 e12 e13
            simp only [List.take_succ_cons, List.take_zero, List.drop_succ_cons, List.drop_zero, putAll, e0, e1, e2, e3, e4, e5, e6, e7, e8, e9, e10, e11, e12]
            
            have hg2 := hg1
            replace HG := G.trans (w := w) HG hg1; clear hg1
            obtain ⟨lb, lv, lg, lx⟩ := e13
            have lrow : ERow byteE y1 (.slice (some ⟨lb, 0, none⟩) 1 1) [c] := ERow.of_hx (ts := [c]) (Nat.le_refl 1) (by decide) lx
            simp only [lv, List.length_cons, List.length_nil, Nat.zero_add, Nat.reduceAdd]
            go_simp
            go_wp2_with (at_builtin; refine wpList_append_row byteE rfl _ _ 37 5 rfl Tryd.underlying37 info_byte w.heap.size u4 (s.data.toList.take k) rfl (.slice (some ⟨lb, 0, none⟩) 1 1) [c] rfl ?_ ?_; rotate_left; exact ⟨HO.kept0 hg2, lrow, by have := hg2.size; omega, by have := hl.out; simp only [List.length_cons, List.length_nil] at this ⊢; omega⟩; intro v3 w3 hown hgrow; have HG3 := EOwn.grow (w0 := w) (HO.kept0 hg2) HG hgrow)
            refine ⟨?_, by first | (simp [intOf]; done) | (simp [intOf]; omega)⟩
            exact ⟨k + 1, i + 6, by go_num, by omega, hnext, hown.conv (by rw [htk.out]), HG3⟩
        · have hqc := Lib.hid (qc_c h1 h2)
          have g0 := at_drop hdk.out 0 (by rw [hqc.out]; simp)
          simp only [hqc.out] at g0 hrest
          obtain ⟨m0, g0⟩ := g0
          simp only [List.getElem_cons_zero, Nat.add_zero, List.length_cons, List.length_nil] at g0 hrest
          have hb9 : i + 2 ≤ q.size := by have := hnl.out; omega
          have a1 : ((c.toNat : Int) == 34) = false := by rw [a34]; simp; exact fun h => h1 (Or.inl h)
          have a2 : ((c.toNat : Int) == 92) = false := by rw [a92]; simp; exact fun h => h1 (Or.inr h)
          have h2' : ¬ (c.toNat : Int) < 32 := by omega
          have hnext : Hid (i + 1 = 1 + ((s.data.toList.take (k + 1)).flatMap qc).length) := Lib.hid (by rw [hq.out, hqc.out, List.length_append, hi.out]; simp only [List.length_cons, List.length_nil]; omega)
          clear a34 a92 h1 hrest
          go_wp2_with (at_builtin; refine wpList_append_row byteE rfl _ _ 37 5 rfl Tryd.underlying37 info_byte w.heap.size u4 (s.data.toList.take k) rfl (.slice (some ⟨wr.heap.size, 0, none⟩) 1 1) [c] rfl ?_ ?_; rotate_left; exact ⟨(by have hb0 := (HO); (repeat first | with_reducible exact hb0 | with_reducible apply EOwn.drewN | with_reducible apply EOwn.drew | with_reducible apply EOwn.alloc | (with_reducible apply EOwn.set; (case hne => (first | assumption | omega | (simp; done) | (simp; omega)))))), ERow.of_hx (L := byteE) (ts := [c]) (Nat.le_refl 1) (by decide) ((Hx.new _ #[.int .u8 (c.toNat : Int)] 5).conv (by rfl)), by simp; omega, by have := hl.out; simp only [List.length_cons, List.length_nil] at this ⊢; omega⟩; intro v3 w3 hown hgrow; have HG3 := EOwn.grow (w0 := w) (by have hb0 := (HO); (repeat first | with_reducible exact hb0 | with_reducible apply EOwn.drewN | with_reducible apply EOwn.drew | with_reducible apply EOwn.alloc | (with_reducible apply EOwn.set; (case hne => (first | assumption | omega | (simp; done) | (simp; omega)))))) (by exact G.go HG) hgrow)
          refine ⟨?_, by first | (simp [intOf]; done) | (simp [intOf]; omega)⟩
          exact ⟨k + 1, i + 1, by go_num, by omega, hnext, hown.conv (by rw [htk.out]), HG3⟩
    · obtain rfl : k = s.size := by omega
      have hfin : (⟨(s.data.toList.take s.size).toArray⟩ : ByteArray) = s := by rw [List.take_of_length_le (by simp)]
      have hd0 : s.data.toList.drop s.size = [] := List.drop_of_length_le (by simp)
      have hb9 : q.size ≤ i + 1 := by have := hnl.out; rw [hd0] at this; simp only [List.flatMap_nil, List.length_nil] at this; omega
      clear hd0
      have hrow := HO.row
      go_wp2_with fail
      rw [conv_row 37 5 9 rfl rfl rfl hrow, hfin]
      go_wp2_with (go_at_call 11; (with_reducible refine (HK.out _ (by exact G.go HG)).mono ?_); rintro e wn ⟨rfl, hgn⟩; replace HG := G.trans (w := w) (by exact G.go HG) hgn; clear hgn)
      go_ret
      exact ⟨rfl, HG⟩
end Go.Proofs.YtjfonckmfafdgaaDoor
