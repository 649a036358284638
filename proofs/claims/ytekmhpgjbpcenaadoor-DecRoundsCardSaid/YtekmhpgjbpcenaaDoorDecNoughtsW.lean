/-
  The walk of the law on noughts ahead and behind.
-/
import Derived.Test.YtekmhpgjbpcenaaDoorDecBack
import Derived.Test.YtekmhpgjbpcenaaDoorDecKnown
namespace Go.Proofs.YtekmhpgjbpcenaaDoor
open Go.RowKit
theorem valF_zeros : ∀ (a : Nat) (l : List UInt8), valF 0 (List.replicate a 48 ++ l) = valF 0 l := by
  intro a
  induction a with
  | zero => intro l; rw [List.replicate_zero, List.nil_append]
  | succ a ih => intro l; rw [List.replicate_succ, List.cons_append, valF_cons]; exact ih l
theorem dAt_zeros (b : List UInt8) (k i : Nat) : dAt (b ++ List.replicate k 48) i = dAt b i := by
  unfold dAt
  by_cases h : i < b.length
  · rw [dif_pos h, dif_pos (by rw [List.length_append]; omega), List.getElem_append_left h]
  · rw [dif_neg h]
    by_cases h2 : i < (b ++ List.replicate k (48 : UInt8)).length
    · rw [dif_pos h2, List.getElem_append_right (by omega), List.getElem_replicate]; rfl
    · rw [dif_neg h2]
theorem fracV_zeros (b : List UInt8) (k : Nat) : ∀ i, fracV (b ++ List.replicate k 48) i = fracV b i := by
  intro i
  induction i with
  | zero => rfl
  | succ i ih => show fracV _ i * 10 + dAt _ i = fracV b i * 10 + dAt b i; rw [ih, dAt_zeros]
theorem fracR_zeros {b : List UInt8} (k : Nat) (h : b.length ≤ 6) : fracR (b ++ List.replicate k 48) = fracR b := by
  unfold fracR
  rw [fracV_zeros]
  have e1 : upV b = 0 := by unfold upV; rw [dif_neg (by omega)]
  have e2 : upV (b ++ List.replicate k 48) = 0 := by
    unfold upV
    by_cases h2 : 6 < (b ++ List.replicate k (48 : UInt8)).length
    · rw [dif_pos h2, List.getElem_append_right h, List.getElem_replicate]; rfl
    · rw [dif_neg h2]
  rw [e1, e2]
def partD (m : Nat) : List UInt8 := if m % 1000000 = 0 then [] else fracD (m % 1000000)
theorem partD_isD (m : Nat) : (partD m).all isD = true := by
  unfold partD
  split
  · rfl
  · exact fracD_isD (by omega)
theorem partD_len (m : Nat) : (partD m).length ≤ 6 := by
  unfold partD
  split
  · simp
  · exact fracD_len (by omega)
theorem partD_val (m : Nat) : fracR (partD m) = m % 1000000 := by
  unfold partD
  split
  · rename_i h; rw [h]; exact fracR_nil
  · exact fracR_D (by omega)
theorem zeros_isD (k : Nat) : (List.replicate k (48 : UInt8)).all isD = true := List.all_eq_true.2 (fun x hx => by rw [List.eq_of_mem_replicate hx]; rfl)
theorem readS_noughts {t : ByteArray} {m a k : Nat} (ht : t.data.toList = List.replicate a 48 ++ Lib.decDigits (m / 1000000) ++ 46 :: (partD m ++ List.replicate k 48)) (hk : 1 ≤ k) (hm : m ≤ topN) : readS t = some m := by
  have e : valF 0 (List.replicate a 48 ++ Lib.decDigits (m / 1000000)) * 1000000 + fracR (partD m ++ List.replicate k 48) = m := by
    rw [valF_zeros, decDigits_val, fracR_zeros k (partD_len m), partD_val]; omega
  rw [readS_dot ht (by rw [List.all_append, zeros_isD, decDigits_isD]; rfl) (by have := decDigits_ne (m / 1000000); simp [this]) (by rw [List.all_append, zeros_isD, partD_isD]; rfl) (by cases k with | zero => omega | succ k => simp [List.replicate_succ]) (by rw [e]; exact hm), e]
def hasDot (t : ByteArray) (j : Nat) : Bool := (t.data.toList.drop j).any (· == 46)
theorem hasDot_step {s : ByteArray} {k : Nat} (hk : k < s.size) : hasDot s k = ((s[k] == 46) || hasDot s (k + 1)) := by
  unfold hasDot; rw [drop_cons s k hk, List.any_cons]
theorem hasDot_end {s : ByteArray} {k : Nat} (hk : ¬ k < s.size) : hasDot s k = false := by
  unfold hasDot; rw [drop_end s k hk]; rfl
theorem noDot {l : List UInt8} (h : l.all isD = true) : l.any (· == 46) = false := by
  rw [List.any_eq_false]
  intro x hx e
  exact isD_dot (List.all_eq_true.1 h x hx) (by simpa using e)
theorem printA_part (m : Nat) : printA m = Lib.decDigits (m / 1000000) ++ (if m % 1000000 = 0 then [] else 46 :: partD m) := by
  unfold printA partD
  split <;> rfl
theorem printA_dot (m : Nat) : (printA m).any (· == 46) = !decide (m % 1000000 = 0) := by
  rw [printA_part, List.any_append, noDot (decDigits_isD _)]
  split
  · rename_i h; rw [decide_eq_true h]; rfl
  · rename_i h; rw [decide_eq_false h]; rfl
theorem printA_len {m : Nat} (h : m ≤ 4611686018427387904) : (printA m).length ≤ 40 := by
  rw [printA_part]
  have h1 := decDigits_len (u := m / 1000000) (k := 18) (by omega)
  have h2 := partD_len m
  rw [List.length_append]
  split <;> simp <;> omega
theorem sign_parse {G t : ByteArray} {n : Int} {a k : Nat} (hb : -4611686018427387904 ≤ n ∧ n ≤ 4611686018427387904) (hG : G.data.toList = if n < 0 then [45] else []) (ht : t.data.toList = List.replicate a 48 ++ Lib.decDigits (n.natAbs / 1000000) ++ 46 :: (partD n.natAbs ++ List.replicate k 48)) (hk : 1 ≤ k) : parseO (G ++ t) = some n := by
  have hm : n.natAbs ≤ topN := by unfold topN; omega
  have hd : (G ++ t).data.toList = G.data.toList ++ t.data.toList := by rw [ByteArray.data_append, Array.toList_append]
  by_cases hn : n < 0
  · rw [if_pos hn] at hG
    rw [hG] at hd
    rw [parse_neg (m := n.natAbs) (r := t.data.toList) hd (fun q hq => readS_noughts (hq.trans ht) hk hm)]
    congr 1; omega
  · rw [if_neg hn] at hG
    rw [hG, List.nil_append] at hd
    have hh : ∃ c r, (G ++ t).data.toList = c :: r ∧ isD c = true := by
      rw [hd, ht]
      cases a with
      | zero =>
        have hdd := decDigits_isD (n.natAbs / 1000000)
        rcases h : Lib.decDigits (n.natAbs / 1000000) with _ | ⟨c, r⟩
        · exact absurd h (decDigits_ne _)
        · rw [h, List.all_cons, Bool.and_eq_true] at hdd
          exact ⟨c, _, rfl, hdd.1⟩
      | succ a => exact ⟨48, _, rfl, by decide⟩
    obtain ⟨c, r, h1, h2⟩ := hh
    rw [parse_pos h1 h2 (readS_noughts (hd.trans ht) hk hm)]
    congr 1; omega
set_option maxHeartbeats 16000000 in
set_option maxRecDepth 100000 in
theorem decNoughts_walk (b : Bool) (n a k : Int) (w : World) (h1 : -9223372036854775808 ≤ n) (h2 : n ≤ 9223372036854775807) (a1 : -9223372036854775808 ≤ a) (a2 : a ≤ 9223372036854775807) (k1 : -9223372036854775808 ≤ k) (k2 : k ≤ 9223372036854775807) (hp : Pow10 w) :
    Calls Tryd.prog 5 #[.agg #[.bool b, .int .i64 n], .int .i64 a, .int .i64 k] w fun e w' => e = .returned (.bool true) ∧ w.grownBy w' none := by
  have HP := Lib.hid hp; clear hp
  have HG := G.refl w none
  have HI := Lib.hid (fun w => known1_any w b n)
  have HK := Lib.hid known2_any
  cases hk : (b && isR b n)
  · rw [hk] at HI
    clear hk
    go_enter Tryd.func5, Tryd.ntmps5
    go_wp2_with (first | (go_at_call 13; refine (HI.out _).mono ?_; rintro e w1 ⟨rfl, hgn⟩; have hx := Hx.kept (Hx.new w #[.bool b, .int .i64 n] 23) hgn (by simp); replace HG := G.trans (w := w) (by have hb0 := (HG); (repeat first | with_reducible exact hb0 | with_reducible refine G.drewN ?_ _ | with_reducible refine G.drew ?_ | with_reducible refine G.alloc ?_ _ | with_reducible refine G.set ?_ _ (Or.inr rfl) | (with_reducible refine G.set ?_ _ (Or.inl ?_); rotate_left; focus (first | omega | (simp; done) | (simp; omega))))) hgn; clear hgn; have x0 := hx.cell 0; have x1 := hx.cell 1; have x2 := hx.lt) | (go_at_call 10; refine (HK.out _ (Pow10.kept (w := w) HP.out (by have hb0 := (HG); (repeat first | with_reducible exact hb0 | with_reducible refine G.drewN ?_ _ | with_reducible refine G.drew ?_ | with_reducible refine G.alloc ?_ _ | with_reducible refine G.set ?_ _ (Or.inr rfl) | (with_reducible refine G.set ?_ _ (Or.inl ?_); rotate_left; focus (first | omega | (simp; done) | (simp; omega))))))).mono ?_; rintro e wn ⟨rfl, hgn⟩; replace HG := G.trans (w := w) (by have hb0 := (HG); (repeat first | with_reducible exact hb0 | with_reducible refine G.drewN ?_ _ | with_reducible refine G.drew ?_ | with_reducible refine G.alloc ?_ _ | with_reducible refine G.set ?_ _ (Or.inr rfl) | (with_reducible refine G.set ?_ _ (Or.inl ?_); rotate_left; focus (first | omega | (simp; done) | (simp; omega))))) hgn; clear hgn))
    go_ret
    exact ⟨ret_bool rfl, (by have hb0 := (HG); (repeat first | with_reducible exact hb0 | with_reducible refine G.drewN ?_ _ | with_reducible refine G.drew ?_ | with_reducible refine G.alloc ?_ _ | with_reducible refine G.set ?_ _ (Or.inr rfl) | (with_reducible refine G.set ?_ _ (Or.inl ?_); rotate_left; focus (first | omega | (simp; done) | (simp; omega)))))⟩
  rw [hk] at HI
  by_cases g1 : 0 ≤ a
  rotate_left
  · go_enter Tryd.func5, Tryd.ntmps5
    go_wp2_with (first | (go_at_call 13; refine (HI.out _).mono ?_; rintro e w1 ⟨rfl, hgn⟩; have hx := Hx.kept (Hx.new w #[.bool b, .int .i64 n] 23) hgn (by simp); replace HG := G.trans (w := w) (by have hb0 := (HG); (repeat first | with_reducible exact hb0 | with_reducible refine G.drewN ?_ _ | with_reducible refine G.drew ?_ | with_reducible refine G.alloc ?_ _ | with_reducible refine G.set ?_ _ (Or.inr rfl) | (with_reducible refine G.set ?_ _ (Or.inl ?_); rotate_left; focus (first | omega | (simp; done) | (simp; omega))))) hgn; clear hgn; have x0 := hx.cell 0; have x1 := hx.cell 1; have x2 := hx.lt) | (go_at_call 10; refine (HK.out _ (Pow10.kept (w := w) HP.out (by have hb0 := (HG); (repeat first | with_reducible exact hb0 | with_reducible refine G.drewN ?_ _ | with_reducible refine G.drew ?_ | with_reducible refine G.alloc ?_ _ | with_reducible refine G.set ?_ _ (Or.inr rfl) | (with_reducible refine G.set ?_ _ (Or.inl ?_); rotate_left; focus (first | omega | (simp; done) | (simp; omega))))))).mono ?_; rintro e wn ⟨rfl, hgn⟩; replace HG := G.trans (w := w) (by have hb0 := (HG); (repeat first | with_reducible exact hb0 | with_reducible refine G.drewN ?_ _ | with_reducible refine G.drew ?_ | with_reducible refine G.alloc ?_ _ | with_reducible refine G.set ?_ _ (Or.inr rfl) | (with_reducible refine G.set ?_ _ (Or.inl ?_); rotate_left; focus (first | omega | (simp; done) | (simp; omega))))) hgn; clear hgn))
    go_ret
    exact ⟨ret_bool rfl, (by have hb0 := (HG); (repeat first | with_reducible exact hb0 | with_reducible refine G.drewN ?_ _ | with_reducible refine G.drew ?_ | with_reducible refine G.alloc ?_ _ | with_reducible refine G.set ?_ _ (Or.inr rfl) | (with_reducible refine G.set ?_ _ (Or.inl ?_); rotate_left; focus (first | omega | (simp; done) | (simp; omega)))))⟩
  by_cases g2 : a ≤ 50
  rotate_left
  · go_enter Tryd.func5, Tryd.ntmps5
    go_wp2_with (first | (go_at_call 13; refine (HI.out _).mono ?_; rintro e w1 ⟨rfl, hgn⟩; have hx := Hx.kept (Hx.new w #[.bool b, .int .i64 n] 23) hgn (by simp); replace HG := G.trans (w := w) (by have hb0 := (HG); (repeat first | with_reducible exact hb0 | with_reducible refine G.drewN ?_ _ | with_reducible refine G.drew ?_ | with_reducible refine G.alloc ?_ _ | with_reducible refine G.set ?_ _ (Or.inr rfl) | (with_reducible refine G.set ?_ _ (Or.inl ?_); rotate_left; focus (first | omega | (simp; done) | (simp; omega))))) hgn; clear hgn; have x0 := hx.cell 0; have x1 := hx.cell 1; have x2 := hx.lt) | (go_at_call 10; refine (HK.out _ (Pow10.kept (w := w) HP.out (by have hb0 := (HG); (repeat first | with_reducible exact hb0 | with_reducible refine G.drewN ?_ _ | with_reducible refine G.drew ?_ | with_reducible refine G.alloc ?_ _ | with_reducible refine G.set ?_ _ (Or.inr rfl) | (with_reducible refine G.set ?_ _ (Or.inl ?_); rotate_left; focus (first | omega | (simp; done) | (simp; omega))))))).mono ?_; rintro e wn ⟨rfl, hgn⟩; replace HG := G.trans (w := w) (by have hb0 := (HG); (repeat first | with_reducible exact hb0 | with_reducible refine G.drewN ?_ _ | with_reducible refine G.drew ?_ | with_reducible refine G.alloc ?_ _ | with_reducible refine G.set ?_ _ (Or.inr rfl) | (with_reducible refine G.set ?_ _ (Or.inl ?_); rotate_left; focus (first | omega | (simp; done) | (simp; omega))))) hgn; clear hgn))
    go_ret
    exact ⟨ret_bool rfl, (by have hb0 := (HG); (repeat first | with_reducible exact hb0 | with_reducible refine G.drewN ?_ _ | with_reducible refine G.drew ?_ | with_reducible refine G.alloc ?_ _ | with_reducible refine G.set ?_ _ (Or.inr rfl) | (with_reducible refine G.set ?_ _ (Or.inl ?_); rotate_left; focus (first | omega | (simp; done) | (simp; omega)))))⟩
  by_cases g3 : 1 ≤ k
  rotate_left
  · go_enter Tryd.func5, Tryd.ntmps5
    go_wp2_with (first | (go_at_call 13; refine (HI.out _).mono ?_; rintro e w1 ⟨rfl, hgn⟩; have hx := Hx.kept (Hx.new w #[.bool b, .int .i64 n] 23) hgn (by simp); replace HG := G.trans (w := w) (by have hb0 := (HG); (repeat first | with_reducible exact hb0 | with_reducible refine G.drewN ?_ _ | with_reducible refine G.drew ?_ | with_reducible refine G.alloc ?_ _ | with_reducible refine G.set ?_ _ (Or.inr rfl) | (with_reducible refine G.set ?_ _ (Or.inl ?_); rotate_left; focus (first | omega | (simp; done) | (simp; omega))))) hgn; clear hgn; have x0 := hx.cell 0; have x1 := hx.cell 1; have x2 := hx.lt) | (go_at_call 10; refine (HK.out _ (Pow10.kept (w := w) HP.out (by have hb0 := (HG); (repeat first | with_reducible exact hb0 | with_reducible refine G.drewN ?_ _ | with_reducible refine G.drew ?_ | with_reducible refine G.alloc ?_ _ | with_reducible refine G.set ?_ _ (Or.inr rfl) | (with_reducible refine G.set ?_ _ (Or.inl ?_); rotate_left; focus (first | omega | (simp; done) | (simp; omega))))))).mono ?_; rintro e wn ⟨rfl, hgn⟩; replace HG := G.trans (w := w) (by have hb0 := (HG); (repeat first | with_reducible exact hb0 | with_reducible refine G.drewN ?_ _ | with_reducible refine G.drew ?_ | with_reducible refine G.alloc ?_ _ | with_reducible refine G.set ?_ _ (Or.inr rfl) | (with_reducible refine G.set ?_ _ (Or.inl ?_); rotate_left; focus (first | omega | (simp; done) | (simp; omega))))) hgn; clear hgn))
    go_ret
    exact ⟨ret_bool rfl, (by have hb0 := (HG); (repeat first | with_reducible exact hb0 | with_reducible refine G.drewN ?_ _ | with_reducible refine G.drew ?_ | with_reducible refine G.alloc ?_ _ | with_reducible refine G.set ?_ _ (Or.inr rfl) | (with_reducible refine G.set ?_ _ (Or.inl ?_); rotate_left; focus (first | omega | (simp; done) | (simp; omega)))))⟩
  by_cases g4 : k ≤ 50
  rotate_left
  · go_enter Tryd.func5, Tryd.ntmps5
    go_wp2_with (first | (go_at_call 13; refine (HI.out _).mono ?_; rintro e w1 ⟨rfl, hgn⟩; have hx := Hx.kept (Hx.new w #[.bool b, .int .i64 n] 23) hgn (by simp); replace HG := G.trans (w := w) (by have hb0 := (HG); (repeat first | with_reducible exact hb0 | with_reducible refine G.drewN ?_ _ | with_reducible refine G.drew ?_ | with_reducible refine G.alloc ?_ _ | with_reducible refine G.set ?_ _ (Or.inr rfl) | (with_reducible refine G.set ?_ _ (Or.inl ?_); rotate_left; focus (first | omega | (simp; done) | (simp; omega))))) hgn; clear hgn; have x0 := hx.cell 0; have x1 := hx.cell 1; have x2 := hx.lt) | (go_at_call 10; refine (HK.out _ (Pow10.kept (w := w) HP.out (by have hb0 := (HG); (repeat first | with_reducible exact hb0 | with_reducible refine G.drewN ?_ _ | with_reducible refine G.drew ?_ | with_reducible refine G.alloc ?_ _ | with_reducible refine G.set ?_ _ (Or.inr rfl) | (with_reducible refine G.set ?_ _ (Or.inl ?_); rotate_left; focus (first | omega | (simp; done) | (simp; omega))))))).mono ?_; rintro e wn ⟨rfl, hgn⟩; replace HG := G.trans (w := w) (by have hb0 := (HG); (repeat first | with_reducible exact hb0 | with_reducible refine G.drewN ?_ _ | with_reducible refine G.drew ?_ | with_reducible refine G.alloc ?_ _ | with_reducible refine G.set ?_ _ (Or.inr rfl) | (with_reducible refine G.set ?_ _ (Or.inl ?_); rotate_left; focus (first | omega | (simp; done) | (simp; omega))))) hgn; clear hgn))
    go_ret
    exact ⟨ret_bool rfl, (by have hb0 := (HG); (repeat first | with_reducible exact hb0 | with_reducible refine G.drewN ?_ _ | with_reducible refine G.drew ?_ | with_reducible refine G.alloc ?_ _ | with_reducible refine G.set ?_ _ (Or.inr rfl) | (with_reducible refine G.set ?_ _ (Or.inl ?_); rotate_left; focus (first | omega | (simp; done) | (simp; omega)))))⟩
  cases b
  · cases hk
  have hr : isR true n = true := by simpa using hk
  have hbd : -4611686018427387904 ≤ n ∧ n ≤ 4611686018427387904 := by simpa [isR] using hr
  have hv := printV_some (b := true) (n := n) hk
  clear hk
  have HB := Lib.hid (fun w => refPrint_any true n w h1 h2)
  obtain ⟨S, hS⟩ : ∃ S : ByteArray, printV true n = S := ⟨_, rfl⟩
  have hSd : S.data.toList = printL n := by rw [← hS, hv]
  rw [hS] at HB
  clear hv hS
  obtain ⟨an, rfl⟩ := Int.eq_ofNat_of_zero_le g1
  obtain ⟨kn, rfl⟩ := Int.eq_ofNat_of_zero_le (show 0 ≤ k by omega)
  have hm : n.natAbs ≤ 4611686018427387904 := by omega
  have hlen := printA_len hm
  obtain ⟨ng, hng⟩ : ∃ ng, decide (n < 0) = ng := ⟨_, rfl⟩
  have hSl : S.data.toList.length = S.size := by simp
  have hz : 0 < S.size ∧ S.size ≤ 41 := by
    obtain ⟨c, r, q1, q2⟩ := printA_head n.natAbs
    rw [← hSl, hSd]
    unfold printL
    rw [q1] at hlen ⊢
    split <;> simp at hlen ⊢ <;> omega
  obtain ⟨z1, z2⟩ := hz
  have hb0 : ((S[0].toNat : Int) == 45) = ng := by
    rw [← hng]
    unfold printL at hSd
    by_cases hn : n < 0
    · rw [if_pos hn] at hSd
      obtain ⟨_, e, _⟩ := first_data (c := 45) (r := printA n.natAbs) hSd
      rw [e z1, decide_eq_true hn]; rfl
    · rw [if_neg hn, List.nil_append] at hSd
      obtain ⟨c, r, q1, q2⟩ := printA_head n.natAbs
      obtain ⟨_, e, _⟩ := first_data (hSd.trans q1)
      have := isD_lo q2
      rw [e z1, decide_eq_false hn]; simp; omega
  have hT : Hid (ng = true → (S.extract 1 S.size).data.toList = printA n.natAbs) := Lib.hid (fun h => by
    rw [← hng] at h
    unfold printL at hSd
    rw [if_pos (by simpa using h)] at hSd
    exact (first_data (c := 45) (r := printA n.natAbs) hSd).2.2)
  have hU : Hid (ng = false → S.data.toList = printA n.natAbs) := Lib.hid (fun h => by
    rw [← hng] at h
    unfold printL at hSd
    rw [if_neg (by simpa using h)] at hSd
    exact hSd)
  have hsg : Hid ((if n < 0 then [(45 : UInt8)] else []) = if ng then [45] else []) := Lib.hid (by rw [← hng]; by_cases hn : n < 0 <;> simp [hn])
  have hbd' := Lib.hid hbd
  clear hlen hSl hSd hng hr hbd
  have hm' := Lib.hid hm; clear hm
  go_enter Tryd.func5, Tryd.ntmps5
  go_upto_if 39 with (first | (go_at_call 13; refine (HI.out _).mono ?_; rintro e w1 ⟨rfl, hgn⟩; have hx := Hx.kept (Hx.new w #[.bool true, .int .i64 n] 23) hgn (by simp); replace HG := G.trans (w := w) (by have hb0 := (HG); (repeat first | with_reducible exact hb0 | with_reducible refine G.drewN ?_ _ | with_reducible refine G.drew ?_ | with_reducible refine G.alloc ?_ _ | with_reducible refine G.set ?_ _ (Or.inr rfl) | (with_reducible refine G.set ?_ _ (Or.inl ?_); rotate_left; focus (first | omega | (simp; done) | (simp; omega))))) hgn; clear hgn; have x0 := hx.cell 0; have x1 := hx.cell 1; have x2 := hx.lt) | (go_at_call 12; refine (HB.out _).mono ?_; rintro e w2 ⟨rfl, hgn⟩; replace hx := Hx.kept hx hgn (by simp); replace HG := G.trans (w := w) (by have hb0 := (HG); (repeat first | with_reducible exact hb0 | with_reducible refine G.drewN ?_ _ | with_reducible refine G.drew ?_ | with_reducible refine G.alloc ?_ _ | with_reducible refine G.set ?_ _ (Or.inr rfl) | (with_reducible refine G.set ?_ _ (Or.inl ?_); rotate_left; focus (first | omega | (simp; done) | (simp; omega))))) hgn; clear hgn x0 x1 x2) | (go_at_call 10; refine (HK.out _ (Pow10.kept (w := w) HP.out (by have hb0 := (HG); (repeat first | with_reducible exact hb0 | with_reducible refine G.drewN ?_ _ | with_reducible refine G.drew ?_ | with_reducible refine G.alloc ?_ _ | with_reducible refine G.set ?_ _ (Or.inr rfl) | (with_reducible refine G.set ?_ _ (Or.inl ?_); rotate_left; focus (first | omega | (simp; done) | (simp; omega))))))).mono ?_; rintro e wn ⟨rfl, hgn⟩; replace HG := G.trans (w := w) (by have hb0 := (HG); (repeat first | with_reducible exact hb0 | with_reducible refine G.drewN ?_ _ | with_reducible refine G.drew ?_ | with_reducible refine G.alloc ?_ _ | with_reducible refine G.set ?_ _ (Or.inr rfl) | (with_reducible refine G.set ?_ _ (Or.inl ?_); rotate_left; focus (first | omega | (simp; done) | (simp; omega))))) hgn; clear hgn))
  go_cut [7, 8] (fun sv gv wc => ∃ (T Gs : ByteArray), sv = .string T ∧ gv = .string Gs ∧ Hid (T.data.toList = printA n.natAbs) ∧ Hid (Gs.data.toList = if n < 0 then [45] else []) ∧ T.size ≤ 41 ∧ Gs.size ≤ 1 ∧ w.grownBy wc none ∧ Hx wc w.heap.size [.bool true, .int .i64 n] 23)
  case first =>
    cases ng
    · go_wp2_with fail
      go_meet
      exact ⟨S, ⟨#[]⟩, rfl, rfl, Lib.hid (hU.out (by first | rfl | trivial)), Lib.hid (by rw [hsg.out]; rfl), z2, by decide, (by have hb0 := (HG); (repeat first | with_reducible exact hb0 | with_reducible refine G.drewN ?_ _ | with_reducible refine G.drew ?_ | with_reducible refine G.alloc ?_ _ | with_reducible refine G.set ?_ _ (Or.inr rfl) | (with_reducible refine G.set ?_ _ (Or.inl ?_); rotate_left; focus (first | omega | (simp; done) | (simp; omega))))), (by have hb0 := (hx); apply Hx.conv; (case h => (repeat first | with_reducible exact hb0 | with_reducible apply Hx.drewN | with_reducible apply Hx.drew | with_reducible apply Hx.set | with_reducible exact Hx.new _ _ _ | (with_reducible apply Hx.new'; (case hl => rfl); (case hb => (first | omega | (simp; done) | (simp; omega)))) | with_reducible apply Hx.alloc | (with_reducible apply Hx.other; (case hne => (first | omega | (simp; done) | (simp; omega)))))); (case e => (first | rfl | (simp; done) | (simp; omega))))⟩
    · have i0 : (0 : Int) ≤ 1 := by omega
      have i1 : (1 : Int) ≤ (S.size : Int) := by omega
      go_wp2_with fail
      go_quiet (fail)
      go_wp2_with fail
      go_meet
      exact ⟨S.extract 1 S.size, ⟨#[45]⟩, rfl, rfl, Lib.hid (hT.out (by first | rfl | trivial)), Lib.hid (by rw [hsg.out]; rfl), by rw [ByteArray.size_extract]; omega, by decide, (by have hb0 := (HG); (repeat first | with_reducible exact hb0 | with_reducible refine G.drewN ?_ _ | with_reducible refine G.drew ?_ | with_reducible refine G.alloc ?_ _ | with_reducible refine G.set ?_ _ (Or.inr rfl) | (with_reducible refine G.set ?_ _ (Or.inl ?_); rotate_left; focus (first | omega | (simp; done) | (simp; omega))))), (by have hb0 := (hx); apply Hx.conv; (case h => (repeat first | with_reducible exact hb0 | with_reducible apply Hx.drewN | with_reducible apply Hx.drew | with_reducible apply Hx.set | with_reducible exact Hx.new _ _ _ | (with_reducible apply Hx.new'; (case hl => rfl); (case hb => (first | omega | (simp; done) | (simp; omega)))) | with_reducible apply Hx.alloc | (with_reducible apply Hx.other; (case hne => (first | omega | (simp; done) | (simp; omega)))))); (case e => (first | rfl | (simp; done) | (simp; omega))))⟩
  case rest =>
    obtain ⟨T, Gs, rfl, rfl, HT, HGs, tz, gz, HG, hx⟩ := hcut
    clear hT hU hsg hb0
    obtain ⟨R, HR⟩ : ∃ R, Hid (hasDot T 0 = R) := ⟨_, Lib.hid rfl⟩
    go_wp2_with fail
    go_loop [9, 10] (fun dv iv => ∃ (d : Bool) (i : Nat), dv = .bool d ∧ iv = .int .i64 i ∧ i ≤ T.size ∧ Hid ((d || hasDot T i) = R)) (fun _ iv => T.size - (intOf iv).toNat)
    case atStart => exact ⟨false, 0, rfl, rfl, by omega, Lib.hid (by rw [HR.out]; rfl)⟩
    case round =>
      obtain ⟨d, i, rfl, rfl, hi, H⟩ := hrel
      by_cases hlt : i < T.size
      · have HS := Lib.hid (hasDot_step hlt)
        by_cases hok : T[i] = 46
        · have hb1 : ((T[i].toNat : Int) == 46) = true := by rw [hok]; rfl
          have hk := Lib.hid hok; clear hok
          cases d
          all_goals
            go_wp2_with fail
            exact ⟨⟨_, i + 1, rfl, by go_num, by omega, Lib.hid (by rw [← H.out, HS.out, hk.out]; rfl)⟩, by simp [intOf]; omega⟩
        · have hb1 : ((T[i].toNat : Int) == 46) = false := by rw [beq_eq_false_iff_ne]; intro h; exact hok (UInt8.toNat_inj.mp (by show T[i].toNat = 46; omega))
          have hk := Lib.hid (show (T[i] == 46) = false by simpa using hok); clear hok
          cases d
          all_goals
            go_wp2_with fail
            exact ⟨⟨_, i + 1, rfl, by go_num, by omega, Lib.hid (by rw [← H.out, HS.out, hk.out]; rfl)⟩, by simp [intOf]; omega⟩
      · have HE := Lib.hid (hasDot_end hlt)
        have hd : d = !decide (n.natAbs % 1000000 = 0) := by
          have e := H.out
          rw [HE.out, Bool.or_false] at e
          rw [e, ← HR.out]
          unfold hasDot
          rw [List.drop_zero, HT.out, printA_dot]
        have Hd := Lib.hid hd; clear hd
        go_upto_if 56 with (fail)
        go_cut [7] (fun sv wc => ∃ T2 : ByteArray, sv = .string T2 ∧ Hid (T2.data.toList = Lib.decDigits (n.natAbs / 1000000) ++ 46 :: partD n.natAbs) ∧ T2.size ≤ 42 ∧ w.grownBy wc none ∧ Hx wc w.heap.size [.bool true, .int .i64 n] 23)
        case first =>
          cases d
          · have hz0 : Hid (n.natAbs % 1000000 = 0) := Lib.hid (by have := Hd.out; simpa using this.symm)
            go_wp2_with fail
            go_meet
            refine ⟨_, rfl, Lib.hid ?_, by rw [ByteArray.size_append]; show T.size + 1 ≤ 42; omega, HG, hx⟩
            rw [ByteArray.data_append, Array.toList_append, HT.out, printA_part, if_pos hz0.out]
            unfold partD
            rw [if_pos hz0.out]; simp
          · have hz0 : Hid (¬ n.natAbs % 1000000 = 0) := Lib.hid (by have := Hd.out; simpa using this.symm)
            go_wp2_with fail
            go_meet
            refine ⟨T, rfl, Lib.hid ?_, by omega, HG, hx⟩
            rw [HT.out, printA_part, if_neg hz0.out]
        case rest =>
          obtain ⟨T2, rfl, HT2, tz2, HG, hx⟩ := hcut
          go_wp2_with fail
          go_loop [7, 11] (fun sv iv => ∃ (t : ByteArray) (i : Nat), sv = .string t ∧ iv = .int .i64 i ∧ i ≤ an ∧ t.size ≤ 42 + i ∧ Hid (t.data.toList = List.replicate i 48 ++ Lib.decDigits (n.natAbs / 1000000) ++ 46 :: partD n.natAbs)) (fun _ iv => an - (intOf iv).toNat)
          case atStart => exact ⟨T2, 0, rfl, rfl, by omega, by omega, Lib.hid (by rw [HT2.out]; rfl)⟩
          case round =>
            obtain ⟨t, i, rfl, rfl, hi, hts, H3⟩ := hrel
            by_cases hlt : i < an
            · go_wp2_with fail
              refine ⟨⟨_, i + 1, rfl, by go_num, by omega, by rw [ByteArray.size_append]; show 1 + t.size ≤ _; omega, Lib.hid ?_⟩, by simp [intOf]; omega⟩
              rw [ByteArray.data_append, Array.toList_append, H3.out, List.replicate_succ]; rfl
            · obtain rfl : i = an := by omega
              go_wp2_with fail
              go_loop [7, 12] (fun sv iv => ∃ (t : ByteArray) (j : Nat), sv = .string t ∧ iv = .int .i64 j ∧ j ≤ kn ∧ t.size ≤ 92 + j ∧ Hid (t.data.toList = List.replicate i 48 ++ Lib.decDigits (n.natAbs / 1000000) ++ 46 :: (partD n.natAbs ++ List.replicate j 48))) (fun _ iv => kn - (intOf iv).toNat)
              case atStart => exact ⟨t, 0, rfl, rfl, by omega, by omega, Lib.hid (by rw [H3.out]; simp)⟩
              case round =>
                obtain ⟨t, j, rfl, rfl, hj, hts, H4⟩ := hrel
                by_cases hlt : j < kn
                · go_wp2_with fail
                  refine ⟨⟨_, j + 1, rfl, by go_num, by omega, by rw [ByteArray.size_append]; show t.size + 1 ≤ _; omega, Lib.hid ?_⟩, by simp [intOf]; omega⟩
                  rw [ByteArray.data_append, Array.toList_append, H4.out, List.replicate_succ']; simp
                · obtain rfl : j = kn := by omega
                  have hpo := sign_parse (G := Gs) (t := t) hbd'.out HGs.out H4.out (by omega)
                  have hgs : (Gs ++ t).size ≤ 1000 := by rw [ByteArray.size_append]; omega
                  have HC := Lib.hid (fun w => parse_any (Gs ++ t) w hgs)
                  unfold parseV at HC
                  rw [hpo] at HC
                  simp only [valV, valC, Option.isSome_some] at HC
                  clear hpo hgs
                  have x0 := hx.cell 0; have x1 := hx.cell 1; have x2 := hx.lt
                  go_wp2_with (first | (go_at_call 8; refine (HC.out _).mono ?_; rintro e w3 ⟨rfl, hgn⟩; replace hx := Hx.kept hx hgn (by simp); replace HG := G.trans (w := w) (by have hb0 := (HG); (repeat first | with_reducible exact hb0 | with_reducible refine G.drewN ?_ _ | with_reducible refine G.drew ?_ | with_reducible refine G.alloc ?_ _ | with_reducible refine G.set ?_ _ (Or.inr rfl) | (with_reducible refine G.set ?_ _ (Or.inl ?_); rotate_left; focus (first | omega | (simp; done) | (simp; omega))))) hgn; clear hgn x0 x1 x2; have x0 := hx.cell 0; have x1 := hx.cell 1; have x2 := hx.lt) | (go_at_call 10; refine (HK.out _ (Pow10.kept (w := w) HP.out (by have hb0 := (HG); (repeat first | with_reducible exact hb0 | with_reducible refine G.drewN ?_ _ | with_reducible refine G.drew ?_ | with_reducible refine G.alloc ?_ _ | with_reducible refine G.set ?_ _ (Or.inr rfl) | (with_reducible refine G.set ?_ _ (Or.inl ?_); rotate_left; focus (first | omega | (simp; done) | (simp; omega))))))).mono ?_; rintro e wn ⟨rfl, hgn⟩; replace HG := G.trans (w := w) (by have hb0 := (HG); (repeat first | with_reducible exact hb0 | with_reducible refine G.drewN ?_ _ | with_reducible refine G.drew ?_ | with_reducible refine G.alloc ?_ _ | with_reducible refine G.set ?_ _ (Or.inr rfl) | (with_reducible refine G.set ?_ _ (Or.inl ?_); rotate_left; focus (first | omega | (simp; done) | (simp; omega))))) hgn; clear hgn))
                  go_ret
                  exact ⟨ret_bool rfl, (by have hb0 := (HG); (repeat first | with_reducible exact hb0 | with_reducible refine G.drewN ?_ _ | with_reducible refine G.drew ?_ | with_reducible refine G.alloc ?_ _ | with_reducible refine G.set ?_ _ (Or.inr rfl) | (with_reducible refine G.set ?_ _ (Or.inl ?_); rotate_left; focus (first | omega | (simp; done) | (simp; omega)))))⟩
end Go.Proofs.YtekmhpgjbpcenaaDoor
