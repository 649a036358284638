/-
  The walk of the law on the seventh digit behind the dot.
-/
import Derived.Test.YtekmhpgjbpcenaaDoorDecNoughtsW
import Derived.Test.YtekmhpgjbpcenaaDoorConvOne
namespace Go.Proofs.YtekmhpgjbpcenaaDoor
open Go.RowKit
theorem dAt_snoc {P : List UInt8} (c : UInt8) {i : Nat} (h : i < P.length) : dAt (P ++ [c]) i = dAt P i := by
  unfold dAt
  rw [dif_pos h, dif_pos (by rw [List.length_append]; omega), List.getElem_append_left h]
theorem fracV_snoc {P : List UInt8} (c : UInt8) : ∀ i, i ≤ P.length → fracV (P ++ [c]) i = fracV P i := by
  intro i
  induction i with
  | zero => intro _; rfl
  | succ i ih => intro h; show fracV _ i * 10 + dAt _ i = fracV P i * 10 + dAt P i; rw [ih (by omega), dAt_snoc c (by omega)]
theorem seven {m k dn : Nat} (hl : (partD m ++ List.replicate k 48).length = 6) (hd : dn ≤ 9) : fracR (partD m ++ List.replicate k 48 ++ [UInt8.ofNat (48 + dn)]) = m % 1000000 + if 5 ≤ dn then 1 else 0 := by
  unfold fracR
  rw [fracV_snoc _ 6 (by omega), fracV_zeros]
  have e1 : fracV (partD m) 6 = m % 1000000 := by
    have := partD_val m
    unfold fracR at this
    have e : upV (partD m) = 0 := by unfold upV; rw [dif_neg (by have := partD_len m; omega)]
    omega
  rw [e1]
  unfold upV
  rw [dif_pos (by rw [List.length_append, hl]; simp), List.getElem_append_right (by omega)]
  simp only [hl, Nat.sub_self, List.getElem_cons_zero]
  have e2 : (UInt8.ofNat (48 + dn)).toNat = 48 + dn := by
    show (48 + dn) % 256 = 48 + dn
    omega
  rw [e2]
  by_cases h5 : 5 ≤ dn
  · rw [if_pos h5, if_pos (by omega)]
  · rw [if_neg h5, if_neg (by omega)]
theorem readS_seven {u : ByteArray} {m k dn : Nat} (hu : u.data.toList = Lib.decDigits (m / 1000000) ++ 46 :: (partD m ++ List.replicate k 48 ++ [UInt8.ofNat (48 + dn)])) (hl : (partD m ++ List.replicate k 48).length = 6) (hd : dn ≤ 9) (hm : m ≤ 1099511627776) :
    readS u = some (m + if 5 ≤ dn then 1 else 0) := by
  have e := seven hl hd
  have hb : (partD m ++ List.replicate k 48 ++ [UInt8.ofNat (48 + dn)]).all isD = true := by
    rw [List.all_append, List.all_append, partD_isD, zeros_isD, List.all_cons, isD_ofNat (by omega)]; rfl
  have e2 : valF 0 (Lib.decDigits (m / 1000000)) * 1000000 + fracR (partD m ++ List.replicate k 48 ++ [UInt8.ofNat (48 + dn)]) = m + if 5 ≤ dn then 1 else 0 := by
    rw [decDigits_val, e]; omega
  rw [readS_dot hu (decDigits_isD _) (decDigits_ne _) hb (by simp) (by rw [e2]; unfold topN; split <;> omega), e2]
theorem parse_seven {u : ByteArray} {m k dn : Nat} (hu : u.data.toList = Lib.decDigits (m / 1000000) ++ 46 :: (partD m ++ List.replicate k 48 ++ [UInt8.ofNat (48 + dn)])) (hl : (partD m ++ List.replicate k 48).length = 6) (hd : dn ≤ 9) (hm : m ≤ 1099511627776) :
    parseO u = some ((m : Int) + if 5 ≤ dn then 1 else 0) := by
  have hdd := decDigits_isD (m / 1000000)
  have hr := readS_seven hu hl hd hm
  rcases h : Lib.decDigits (m / 1000000) with _ | ⟨c, r⟩
  · exact absurd h (decDigits_ne _)
  · rw [h, List.all_cons, Bool.and_eq_true] at hdd
    rw [h, List.cons_append] at hu
    rw [parse_pos hu hdd.1 hr]
    congr 1
    split <;> omega
theorem parse_seven_neg {u : ByteArray} {m k dn : Nat} (hu : u.data.toList = 45 :: (Lib.decDigits (m / 1000000) ++ 46 :: (partD m ++ List.replicate k 48 ++ [UInt8.ofNat (48 + dn)]))) (hl : (partD m ++ List.replicate k 48).length = 6) (hd : dn ≤ 9) (hm : m ≤ 1099511627776) :
    parseO u = some (-((m : Int) + if 5 ≤ dn then 1 else 0)) := by
  rw [parse_neg hu (fun t ht => readS_seven ht hl hd hm)]
  congr 1
  split <;> omega
theorem cons_at {l : List UInt8} (hl : l.all isD = true) : ∀ (k : Nat) (h : k < (46 :: l).length), ((46 :: l)[k] = 46 ↔ k = 0)
  | 0, _ => by simp
  | k + 1, h => by
    simp only [List.getElem_cons_succ]
    constructor
    · intro e; exact absurd e (isD_dot (List.all_eq_true.1 hl _ (List.getElem_mem _)))
    · intro e; omega
/-- where the dot stands -/
theorem dot_at {S : ByteArray} {m : Nat} (hS : S.data.toList = printA m) (i : Nat) (h : i < S.size) : (S[i] = 46) ↔ (¬ m % 1000000 = 0 ∧ i = (Lib.decDigits (m / 1000000)).length) := by
  have hg : ∀ (l : List UInt8) (hi : i < l.length), S.data.toList = l → S[i] = l[i] := by
    intro l hi he
    subst he
    rfl
  have hl : S.data.toList.length = S.size := by simp
  rw [printA_part] at hS
  have hlen : i < (Lib.decDigits (m / 1000000) ++ (if m % 1000000 = 0 then [] else 46 :: partD m)).length := by rw [← hS]; omega
  rw [hg _ hlen hS]
  by_cases hi : i < (Lib.decDigits (m / 1000000)).length
  · rw [List.getElem_append_left hi]
    constructor
    · intro e; exact absurd e (isD_dot (List.all_eq_true.1 (decDigits_isD _) _ (List.getElem_mem _)))
    · rintro ⟨_, e⟩; omega
  · rw [List.getElem_append_right (by omega)]
    by_cases hf : m % 1000000 = 0
    · exfalso
      rw [if_pos hf, List.append_nil] at hlen
      omega
    · simp only [if_neg hf]
      rw [cons_at (partD_isD m)]
      constructor
      · intro e; exact ⟨hf, by omega⟩
      · rintro ⟨_, e⟩; omega
/-- the place of the dot as far as it was looked for -/
def dotV (m i : Nat) : Int := if ¬ m % 1000000 = 0 ∧ (Lib.decDigits (m / 1000000)).length < i then ((Lib.decDigits (m / 1000000)).length : Int) else -1
theorem dotV_zero (m : Nat) : dotV m 0 = -1 := by unfold dotV; rw [if_neg (by omega)]
theorem dotV_hit {m i : Nat} (h : ¬ m % 1000000 = 0 ∧ i = (Lib.decDigits (m / 1000000)).length) : dotV m (i + 1) = i := by
  unfold dotV; rw [if_pos ⟨h.1, by omega⟩, h.2]
theorem dotV_miss {m i : Nat} (h : ¬ (¬ m % 1000000 = 0 ∧ i = (Lib.decDigits (m / 1000000)).length)) : dotV m (i + 1) = dotV m i := by
  unfold dotV
  by_cases h1 : ¬ m % 1000000 = 0 ∧ (Lib.decDigits (m / 1000000)).length < i
  · rw [if_pos h1, if_pos ⟨h1.1, by omega⟩]
  · rw [if_neg h1, if_neg (fun h2 => h1 ⟨h2.1, by
      have : i ≠ (Lib.decDigits (m / 1000000)).length := fun e => h ⟨h2.1, e⟩
      omega⟩)]
set_option maxHeartbeats 16000000 in
set_option maxRecDepth 100000 in
theorem decRounds_walk (n d : Int) (w : World) (h1 : -9223372036854775808 ≤ n) (h2 : n ≤ 9223372036854775807) (d1 : -9223372036854775808 ≤ d) (d2 : d ≤ 9223372036854775807) (hp : Pow10 w) :
    Calls Tryd.prog 6 #[.int .i64 n, .int .i64 d] w fun e w' => e = .returned (.bool true) ∧ w.grownBy w' none := by
  have HP := Lib.hid hp; clear hp
  have HG := G.refl w none
  have HK := Lib.hid known2_any
  by_cases g1 : 0 ≤ n
  rotate_left
  · go_enter Tryd.func6, Tryd.ntmps6
    go_wp2_with (go_at_call 10; refine (HK.out _ (Pow10.kept (w := w) HP.out (by have hb0 := (HG); (repeat first | with_reducible exact hb0 | with_reducible refine G.drewN ?_ _ | with_reducible refine G.drew ?_ | with_reducible refine G.alloc ?_ _ | with_reducible refine G.set ?_ _ (Or.inr rfl) | (with_reducible refine G.set ?_ _ (Or.inl ?_); rotate_left; focus (first | omega | (simp; done) | (simp; omega))))))).mono ?_; rintro e wn ⟨rfl, hgn⟩; replace HG := G.trans (w := w) (by have hb0 := (HG); (repeat first | with_reducible exact hb0 | with_reducible refine G.drewN ?_ _ | with_reducible refine G.drew ?_ | with_reducible refine G.alloc ?_ _ | with_reducible refine G.set ?_ _ (Or.inr rfl) | (with_reducible refine G.set ?_ _ (Or.inl ?_); rotate_left; focus (first | omega | (simp; done) | (simp; omega))))) hgn; clear hgn)
    go_ret
    exact ⟨ret_bool rfl, (by have hb0 := (HG); (repeat first | with_reducible exact hb0 | with_reducible refine G.drewN ?_ _ | with_reducible refine G.drew ?_ | with_reducible refine G.alloc ?_ _ | with_reducible refine G.set ?_ _ (Or.inr rfl) | (with_reducible refine G.set ?_ _ (Or.inl ?_); rotate_left; focus (first | omega | (simp; done) | (simp; omega)))))⟩
  by_cases g2 : n ≤ 1099511627776
  rotate_left
  · go_enter Tryd.func6, Tryd.ntmps6
    go_wp2_with (go_at_call 10; refine (HK.out _ (Pow10.kept (w := w) HP.out (by have hb0 := (HG); (repeat first | with_reducible exact hb0 | with_reducible refine G.drewN ?_ _ | with_reducible refine G.drew ?_ | with_reducible refine G.alloc ?_ _ | with_reducible refine G.set ?_ _ (Or.inr rfl) | (with_reducible refine G.set ?_ _ (Or.inl ?_); rotate_left; focus (first | omega | (simp; done) | (simp; omega))))))).mono ?_; rintro e wn ⟨rfl, hgn⟩; replace HG := G.trans (w := w) (by have hb0 := (HG); (repeat first | with_reducible exact hb0 | with_reducible refine G.drewN ?_ _ | with_reducible refine G.drew ?_ | with_reducible refine G.alloc ?_ _ | with_reducible refine G.set ?_ _ (Or.inr rfl) | (with_reducible refine G.set ?_ _ (Or.inl ?_); rotate_left; focus (first | omega | (simp; done) | (simp; omega))))) hgn; clear hgn)
    go_ret
    exact ⟨ret_bool rfl, (by have hb0 := (HG); (repeat first | with_reducible exact hb0 | with_reducible refine G.drewN ?_ _ | with_reducible refine G.drew ?_ | with_reducible refine G.alloc ?_ _ | with_reducible refine G.set ?_ _ (Or.inr rfl) | (with_reducible refine G.set ?_ _ (Or.inl ?_); rotate_left; focus (first | omega | (simp; done) | (simp; omega)))))⟩
  by_cases g3 : 0 ≤ d
  rotate_left
  · go_enter Tryd.func6, Tryd.ntmps6
    go_wp2_with (go_at_call 10; refine (HK.out _ (Pow10.kept (w := w) HP.out (by have hb0 := (HG); (repeat first | with_reducible exact hb0 | with_reducible refine G.drewN ?_ _ | with_reducible refine G.drew ?_ | with_reducible refine G.alloc ?_ _ | with_reducible refine G.set ?_ _ (Or.inr rfl) | (with_reducible refine G.set ?_ _ (Or.inl ?_); rotate_left; focus (first | omega | (simp; done) | (simp; omega))))))).mono ?_; rintro e wn ⟨rfl, hgn⟩; replace HG := G.trans (w := w) (by have hb0 := (HG); (repeat first | with_reducible exact hb0 | with_reducible refine G.drewN ?_ _ | with_reducible refine G.drew ?_ | with_reducible refine G.alloc ?_ _ | with_reducible refine G.set ?_ _ (Or.inr rfl) | (with_reducible refine G.set ?_ _ (Or.inl ?_); rotate_left; focus (first | omega | (simp; done) | (simp; omega))))) hgn; clear hgn)
    go_ret
    exact ⟨ret_bool rfl, (by have hb0 := (HG); (repeat first | with_reducible exact hb0 | with_reducible refine G.drewN ?_ _ | with_reducible refine G.drew ?_ | with_reducible refine G.alloc ?_ _ | with_reducible refine G.set ?_ _ (Or.inr rfl) | (with_reducible refine G.set ?_ _ (Or.inl ?_); rotate_left; focus (first | omega | (simp; done) | (simp; omega)))))⟩
  by_cases g4 : d ≤ 9
  rotate_left
  · go_enter Tryd.func6, Tryd.ntmps6
    go_wp2_with (go_at_call 10; refine (HK.out _ (Pow10.kept (w := w) HP.out (by have hb0 := (HG); (repeat first | with_reducible exact hb0 | with_reducible refine G.drewN ?_ _ | with_reducible refine G.drew ?_ | with_reducible refine G.alloc ?_ _ | with_reducible refine G.set ?_ _ (Or.inr rfl) | (with_reducible refine G.set ?_ _ (Or.inl ?_); rotate_left; focus (first | omega | (simp; done) | (simp; omega))))))).mono ?_; rintro e wn ⟨rfl, hgn⟩; replace HG := G.trans (w := w) (by have hb0 := (HG); (repeat first | with_reducible exact hb0 | with_reducible refine G.drewN ?_ _ | with_reducible refine G.drew ?_ | with_reducible refine G.alloc ?_ _ | with_reducible refine G.set ?_ _ (Or.inr rfl) | (with_reducible refine G.set ?_ _ (Or.inl ?_); rotate_left; focus (first | omega | (simp; done) | (simp; omega))))) hgn; clear hgn)
    go_ret
    exact ⟨ret_bool rfl, (by have hb0 := (HG); (repeat first | with_reducible exact hb0 | with_reducible refine G.drewN ?_ _ | with_reducible refine G.drew ?_ | with_reducible refine G.alloc ?_ _ | with_reducible refine G.set ?_ _ (Or.inr rfl) | (with_reducible refine G.set ?_ _ (Or.inl ?_); rotate_left; focus (first | omega | (simp; done) | (simp; omega)))))⟩
  obtain ⟨m, rfl⟩ := Int.eq_ofNat_of_zero_le g1
  obtain ⟨dn, rfl⟩ := Int.eq_ofNat_of_zero_le g3
  have hr : isR true (m : Int) = true := by unfold isR; simp; omega
  have HB := Lib.hid (fun w => refPrint_any true (m : Int) w h1 h2)
  obtain ⟨S, hS⟩ : ∃ S : ByteArray, printV true (m : Int) = S := ⟨_, rfl⟩
  have hSd : S.data.toList = printA m := by
    rw [← hS, printV_some (by rw [hr]; rfl)]
    show printL (m : Int) = _
    unfold printL
    rw [if_neg (by omega), List.nil_append, Int.natAbs_natCast]
  rw [hS] at HB
  have hSl : S.data.toList.length = S.size := by simp
  have hz : S.size ≤ 40 := by rw [← hSl, hSd]; exact printA_len (by omega)
  have hdot := Lib.hid (dot_at hSd)
  have hal : (Lib.decDigits (m / 1000000)).length ≤ 19 := decDigits_len (by omega)
  have hsz : Hid (S.size = (Lib.decDigits (m / 1000000)).length + (if m % 1000000 = 0 then 0 else 1 + (partD m).length)) := Lib.hid (by
    rw [← hSl, hSd, printA_part, List.length_append]
    split <;> simp; omega)
  have HSd := Lib.hid hSd
  have hpl := partD_len m
  clear hS hSl hSd hr h1 h2 d1 d2
  have hcv : ∀ W b, Hx W b [.int .u8 (48 + (dn : Int))] 5 → (convert 31 9 (.slice (some ⟨b, 0, none⟩) 1 1)).run Tryd.prog W = .ok (.string ⟨#[UInt8.ofNat (48 + dn)]⟩) W := by
    intro W b h
    rw [conv_one 31 5 9 Tryd.underlying31 Tryd.underlying5 Tryd.underlying9 h]
    rw [show (48 + (dn : Int)).toNat = 48 + dn from by omega]
  obtain ⟨c, hcE⟩ : ∃ c, UInt8.ofNat (48 + dn) = c := ⟨_, rfl⟩
  rw [hcE] at hcv
  have hcE' := Lib.hid hcE; clear hcE
  have hcv' := Lib.hid hcv; clear hcv
  have hV0 := Lib.hid (dotV_zero m)
  obtain ⟨al, ha⟩ : ∃ al, Hid ((Lib.decDigits (m / 1000000)).length = al) := ⟨_, Lib.hid rfl⟩
  rw [ha.out] at hal
  go_enter Tryd.func6, Tryd.ntmps6
  go_wp2_with (first | (go_at_call 12; refine (HB.out _).mono ?_; rintro e wn ⟨rfl, hgn⟩; replace HG := G.trans (w := w) (by have hb0 := (HG); (repeat first | with_reducible exact hb0 | with_reducible refine G.drewN ?_ _ | with_reducible refine G.drew ?_ | with_reducible refine G.alloc ?_ _ | with_reducible refine G.set ?_ _ (Or.inr rfl) | (with_reducible refine G.set ?_ _ (Or.inl ?_); rotate_left; focus (first | omega | (simp; done) | (simp; omega))))) hgn; clear hgn) | fail)
  go_loop [6, 7] (fun dv iv => ∃ (q : Int) (i : Nat), dv = .int .i64 q ∧ iv = .int .i64 i ∧ i ≤ S.size ∧ -1 ≤ q ∧ q ≤ 100 ∧ Hid (q = dotV m i)) (fun _ iv => S.size - (intOf iv).toNat)
  case atStart => exact ⟨-1, 0, rfl, rfl, by omega, by omega, by omega, Lib.hid hV0.out.symm⟩
  case round =>
    obtain ⟨q, i, rfl, rfl, hi, q1, q2, H⟩ := hrel
    by_cases hlt : i < S.size
    · have hd := hdot.out i hlt
      by_cases hc : S[i] = 46
      · have hb1 : ((S[i].toNat : Int) == 46) = true := by rw [hc]; rfl
        have HS := Lib.hid (dotV_hit (hd.1 hc))
        clear hd hc
        go_wp2_with fail
        exact ⟨⟨i, i + 1, rfl, by go_num, by omega, by omega, by omega, Lib.hid HS.out.symm⟩, by simp [intOf]; omega⟩
      · have hb1 : ((S[i].toNat : Int) == 46) = false := by rw [beq_eq_false_iff_ne]; intro h; exact hc (UInt8.toNat_inj.mp (by show S[i].toNat = 46; omega))
        have HS := Lib.hid (dotV_miss (fun h => hc (hd.2 h)))
        clear hd hc
        go_wp2_with fail
        exact ⟨⟨q, i + 1, rfl, by go_num, by omega, by omega, by omega, Lib.hid (by rw [HS.out]; exact H.out)⟩, by simp [intOf]; omega⟩
    · have hie : i = S.size := by omega
      have hq : (m % 1000000 = 0 ∧ q = -1 ∧ S.size = al) ∨ (¬ m % 1000000 = 0 ∧ q = al ∧ S.size = al + 1 + (partD m).length) := by
        have e := H.out
        have e2 := hsz.out
        rw [ha.out] at e2
        unfold dotV at e
        rw [ha.out] at e
        by_cases hf : m % 1000000 = 0
        · rw [if_neg (fun h => h.1 hf)] at e
          rw [if_pos hf] at e2
          exact Or.inl ⟨hf, e, by omega⟩
        · rw [if_neg hf] at e2
          rw [if_pos ⟨hf, by omega⟩] at e
          exact Or.inr ⟨hf, e, by omega⟩
      have HQ := Lib.hid hq; clear hq hie H
      go_upto_if 43 with (fail)
      go_cut [5, 6] (fun sv dv wc => ∃ t : ByteArray, sv = .string t ∧ dv = .int .i64 al ∧ Hid (t.data.toList = Lib.decDigits (m / 1000000) ++ 46 :: partD m) ∧ t.size = al + 1 + (partD m).length ∧ w.grownBy wc none)
      case first =>
        rcases HQ.out with ⟨hf, rfl, hs⟩ | ⟨hf, rfl, hs⟩
        · have hs' := Lib.hid hs; clear hs
          have hf' := Lib.hid hf; clear hf
          go_wp2_with fail
          go_meet
          refine ⟨_, rfl, by rw [hs'.out], Lib.hid ?_, ?_, HG⟩
          · rw [ByteArray.data_append, Array.toList_append, HSd.out, printA_part, if_pos hf'.out]
            unfold partD
            rw [if_pos hf'.out]; simp
          · rw [ByteArray.size_append, hs'.out]
            unfold partD
            rw [if_pos hf'.out]; rfl
        · have hs' := Lib.hid hs; clear hs
          have hf' := Lib.hid hf; clear hf
          go_wp2_with fail
          go_meet
          exact ⟨S, rfl, rfl, Lib.hid (by rw [HSd.out, printA_part, if_neg hf'.out]), hs'.out, HG⟩
      case rest =>
        obtain ⟨t, rfl, rfl, HT, tz, HG⟩ := hcut
        go_wp2_with fail
        go_loop [5] (fun sv => ∃ (t : ByteArray) (k : Nat), sv = .string t ∧ t.size ≤ al + 7 ∧ Hid (t.size = al + 1 + (partD m).length + k) ∧ Hid (t.data.toList = Lib.decDigits (m / 1000000) ++ 46 :: (partD m ++ List.replicate k 48))) (fun sv => match sv with | .string t => al + 7 - t.size | _ => 0)
        case atStart => exact ⟨t, 0, rfl, by omega, Lib.hid (by omega), Lib.hid (by rw [HT.out]; simp)⟩
        case round =>
          obtain ⟨u, k, rfl, uz, hk, HU⟩ := hrel
          by_cases hlt : u.size < al + 7
          · go_wp2_with fail
            refine ⟨⟨_, k + 1, rfl, by rw [ByteArray.size_append]; show u.size + 1 ≤ _; omega, Lib.hid (by rw [ByteArray.size_append]; show u.size + 1 = _; have := hk.out; omega), Lib.hid ?_⟩, ?_⟩
            · rw [ByteArray.data_append, Array.toList_append, HU.out, List.replicate_succ']; simp
            · show al + 7 - (u ++ ⟨#[48]⟩ : ByteArray).size < al + 7 - u.size
              rw [ByteArray.size_append]
              show al + 7 - (u.size + 1) < _
              omega
          · have h6 : Hid ((partD m ++ List.replicate k 48).length = 6) := Lib.hid (by have := hk.out; rw [List.length_append, List.length_replicate]; omega)
            have hu1 : (u ++ ⟨#[UInt8.ofNat (48 + dn)]⟩ : ByteArray).data.toList = Lib.decDigits (m / 1000000) ++ 46 :: (partD m ++ List.replicate k 48 ++ [UInt8.ofNat (48 + dn)]) := by
              rw [ByteArray.data_append, Array.toList_append, HU.out]; simp
            have hu2 : ((⟨#[45]⟩ : ByteArray) ++ u ++ ⟨#[UInt8.ofNat (48 + dn)]⟩ : ByteArray).data.toList = 45 :: (Lib.decDigits (m / 1000000) ++ 46 :: (partD m ++ List.replicate k 48 ++ [UInt8.ofNat (48 + dn)])) := by
              rw [ByteArray.data_append, Array.toList_append, ByteArray.data_append, Array.toList_append, HU.out]; simp
            have p1 := parse_seven hu1 h6.out (by omega) (by omega)
            have p2 := parse_seven_neg hu2 h6.out (by omega) (by omega)
            have HC1 := Lib.hid (fun w => parse_any (u ++ ⟨#[UInt8.ofNat (48 + dn)]⟩) w (by rw [ByteArray.size_append]; show u.size + 1 ≤ 1000; omega))
            have HC2 := Lib.hid (fun w => parse_any ((⟨#[45]⟩ : ByteArray) ++ u ++ ⟨#[UInt8.ofNat (48 + dn)]⟩) w (by rw [ByteArray.size_append, ByteArray.size_append]; show 1 + u.size + 1 ≤ 1000; omega))
            unfold parseV at HC1 HC2
            rw [p1, hcE'.out] at HC1
            rw [p2, hcE'.out] at HC2
            clear p1 p2 hu1 hu2
            by_cases h5 : 5 ≤ dn
            · rw [if_pos h5] at HC1 HC2
              simp only [valV, valC, Option.isSome_some] at HC1 HC2
              go_wp2_with fail
              rw [hcv'.out _ _ (Hx.new _ _ _)]
              go_wp2_with (first | (go_at_call 8; (with_reducible refine (HC1.out _).mono ?_); rintro e w3 ⟨rfl, hgn⟩; replace HG := G.trans (w := w) (by have hb0 := (HG); (repeat first | with_reducible exact hb0 | with_reducible refine G.drewN ?_ _ | with_reducible refine G.drew ?_ | with_reducible refine G.alloc ?_ _ | with_reducible refine G.set ?_ _ (Or.inr rfl) | (with_reducible refine G.set ?_ _ (Or.inl ?_); rotate_left; focus (first | omega | (simp; done) | (simp; omega))))) hgn; clear hgn) | fail)
              rw [hcv'.out ((w3.alloc (.cells #[.bool true, .int .i64 ((m : Int) + 1)] 23)).alloc (.cells #[.int .u8 (48 + (dn : Int))] 5)) (w3.heap.size + 1) (Hx.new' (by simp) rfl)]
              go_wp2_with (first | (go_at_call 8; (with_reducible refine (HC2.out _).mono ?_); rintro e w4 ⟨rfl, hgn⟩; have hv := Hx.kept (Hx.alloc (Hx.new w3 #[.bool true, .int .i64 ((m : Int) + 1)] 23) (.cells #[.int .u8 (48 + (dn : Int))] 5)) hgn (by simp); replace HG := G.trans (w := w) (by have hb0 := (HG); (repeat first | with_reducible exact hb0 | with_reducible refine G.drewN ?_ _ | with_reducible refine G.drew ?_ | with_reducible refine G.alloc ?_ _ | with_reducible refine G.set ?_ _ (Or.inr rfl) | (with_reducible refine G.set ?_ _ (Or.inl ?_); rotate_left; focus (first | omega | (simp; done) | (simp; omega))))) hgn; clear hgn; have x0 := hv.cell 0; have x1 := hv.cell 1; have x2 := hv.lt) | (go_at_call 10; refine (HK.out _ (Pow10.kept (w := w) HP.out (by have hb0 := (HG); (repeat first | with_reducible exact hb0 | with_reducible refine G.drewN ?_ _ | with_reducible refine G.drew ?_ | with_reducible refine G.alloc ?_ _ | with_reducible refine G.set ?_ _ (Or.inr rfl) | (with_reducible refine G.set ?_ _ (Or.inl ?_); rotate_left; focus (first | omega | (simp; done) | (simp; omega))))))).mono ?_; rintro e wn ⟨rfl, hgn⟩; replace HG := G.trans (w := w) (by have hb0 := (HG); (repeat first | with_reducible exact hb0 | with_reducible refine G.drewN ?_ _ | with_reducible refine G.drew ?_ | with_reducible refine G.alloc ?_ _ | with_reducible refine G.set ?_ _ (Or.inr rfl) | (with_reducible refine G.set ?_ _ (Or.inl ?_); rotate_left; focus (first | omega | (simp; done) | (simp; omega))))) hgn; clear hgn))
              go_ret
              exact ⟨ret_bool rfl, (by have hb0 := (HG); (repeat first | with_reducible exact hb0 | with_reducible refine G.drewN ?_ _ | with_reducible refine G.drew ?_ | with_reducible refine G.alloc ?_ _ | with_reducible refine G.set ?_ _ (Or.inr rfl) | (with_reducible refine G.set ?_ _ (Or.inl ?_); rotate_left; focus (first | omega | (simp; done) | (simp; omega)))))⟩
            · rw [if_neg h5] at HC1 HC2
              simp only [valV, valC, Option.isSome_some, Int.add_zero] at HC1 HC2
              go_wp2_with fail
              rw [hcv'.out _ _ (Hx.new _ _ _)]
              go_wp2_with (first | (go_at_call 8; (with_reducible refine (HC1.out _).mono ?_); rintro e w3 ⟨rfl, hgn⟩; replace HG := G.trans (w := w) (by have hb0 := (HG); (repeat first | with_reducible exact hb0 | with_reducible refine G.drewN ?_ _ | with_reducible refine G.drew ?_ | with_reducible refine G.alloc ?_ _ | with_reducible refine G.set ?_ _ (Or.inr rfl) | (with_reducible refine G.set ?_ _ (Or.inl ?_); rotate_left; focus (first | omega | (simp; done) | (simp; omega))))) hgn; clear hgn) | fail)
              rw [hcv'.out ((w3.alloc (.cells #[.bool true, .int .i64 (m : Int)] 23)).alloc (.cells #[.int .u8 (48 + (dn : Int))] 5)) (w3.heap.size + 1) (Hx.new' (by simp) rfl)]
              go_wp2_with (first | (go_at_call 8; (with_reducible refine (HC2.out _).mono ?_); rintro e w4 ⟨rfl, hgn⟩; have hv := Hx.kept (Hx.alloc (Hx.new w3 #[.bool true, .int .i64 (m : Int)] 23) (.cells #[.int .u8 (48 + (dn : Int))] 5)) hgn (by simp); replace HG := G.trans (w := w) (by have hb0 := (HG); (repeat first | with_reducible exact hb0 | with_reducible refine G.drewN ?_ _ | with_reducible refine G.drew ?_ | with_reducible refine G.alloc ?_ _ | with_reducible refine G.set ?_ _ (Or.inr rfl) | (with_reducible refine G.set ?_ _ (Or.inl ?_); rotate_left; focus (first | omega | (simp; done) | (simp; omega))))) hgn; clear hgn; have x0 := hv.cell 0; have x1 := hv.cell 1; have x2 := hv.lt) | (go_at_call 10; refine (HK.out _ (Pow10.kept (w := w) HP.out (by have hb0 := (HG); (repeat first | with_reducible exact hb0 | with_reducible refine G.drewN ?_ _ | with_reducible refine G.drew ?_ | with_reducible refine G.alloc ?_ _ | with_reducible refine G.set ?_ _ (Or.inr rfl) | (with_reducible refine G.set ?_ _ (Or.inl ?_); rotate_left; focus (first | omega | (simp; done) | (simp; omega))))))).mono ?_; rintro e wn ⟨rfl, hgn⟩; replace HG := G.trans (w := w) (by have hb0 := (HG); (repeat first | with_reducible exact hb0 | with_reducible refine G.drewN ?_ _ | with_reducible refine G.drew ?_ | with_reducible refine G.alloc ?_ _ | with_reducible refine G.set ?_ _ (Or.inr rfl) | (with_reducible refine G.set ?_ _ (Or.inl ?_); rotate_left; focus (first | omega | (simp; done) | (simp; omega))))) hgn; clear hgn))
              go_ret
              exact ⟨ret_bool rfl, (by have hb0 := (HG); (repeat first | with_reducible exact hb0 | with_reducible refine G.drewN ?_ _ | with_reducible refine G.drew ?_ | with_reducible refine G.alloc ?_ _ | with_reducible refine G.set ?_ _ (Or.inr rfl) | (with_reducible refine G.set ?_ _ (Or.inl ?_); rotate_left; focus (first | omega | (simp; done) | (simp; omega)))))⟩
end Go.Proofs.YtekmhpgjbpcenaaDoor
