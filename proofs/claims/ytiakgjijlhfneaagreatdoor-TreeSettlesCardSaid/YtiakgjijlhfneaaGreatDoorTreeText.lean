/-
  The walk of what lays a node's text.
  What the kids ahead weigh, in plain words.
  The walk of what lays a node's text. Printed by gentreeprints.py.
-/
import Derived.Test.YtiakgjijlhfneaaGreatDoorTreeBld
import Derived.Test.YtiakgjijlhfneaaGreatDoorTreeMayA
import Derived.Test.YtiakgjijlhfneaaGreatDoorTreePlain
namespace Go.Proofs.YtiakgjijlhfneaaGreatDoor
open Go.RowKit
mutual
theorem text_mass : ∀ a : Nd, wellN a = true → (textN a).length + 1 ≤ 5 * massN a
  | .mk k t n ks, h => by
    rw [wellN, Bool.and_eq_true] at h
    obtain ⟨h1, h2⟩ := h
    rw [textN, massN]
    have hs : t.data.toList.length = t.size := by simp
    by_cases k1 : k = 1
    · rw [if_pos k1] at h2 ⊢
      have := textL_mass ks h2 true
      simp only [List.length_append, List.length_cons, List.length_nil]
      omega
    · rw [if_neg k1]
      by_cases k3 : k = 3
      · subst k3
        unfold leafN at h1
        rw [if_neg (by omega), if_neg (by omega), if_pos rfl, Bool.and_eq_true] at h1
        have := print_len h1.2
        rw [if_pos rfl]
        omega
      · rw [if_neg k3]
        by_cases k4 : k = 4
        · rw [if_pos k4]; simp only [List.length_append, List.length_cons, List.length_nil]; omega
        · rw [if_neg k4]
          by_cases k5 : k = 5
          · rw [if_pos k5]; split <;> simp [trueB, falseB] <;> omega
          · rw [if_neg k5]; omega
theorem textL_mass : ∀ l : List Nd, wellL l = true → ∀ first : Bool, (textL first l).length ≤ 5 * massL l
  | [], _, _ => by rw [textL]; simp
  | a :: l, h, first => by
    rw [wellL, Bool.and_eq_true] at h
    rw [textL, massL]
    have h1 := text_mass a h.1
    have h2 := textL_mass l h.2 false
    simp only [List.length_append]
    split <;> simp only [List.length_cons, List.length_nil] <;> omega
end
/-- the texts of the first kids -/
def preT (l : List Nd) (i : Nat) : List UInt8 := textL true (l.take i)
theorem textL_snoc : ∀ (l : List Nd) (b : Nd) (first : Bool), textL first (l ++ [b]) = textL first l ++ ((if first = true ∧ l = [] then [] else [44]) ++ textN b) := by
  intro l
  induction l with
  | nil => intro b first; cases first <;> simp [textL]
  | cons a l ih =>
    intro b first
    rw [List.cons_append, textL, textL, ih b false]
    simp
theorem preT_step {l : List Nd} {i : Nat} (h : i < l.length) : preT l (i + 1) = preT l i ++ ((if i = 0 then [] else [44]) ++ textN l[i]) := by
  unfold preT
  rw [List.take_succ_eq_append_getElem h, textL_snoc]
  congr 2
  by_cases h0 : i = 0
  · subst h0; rw [if_pos rfl, if_pos ⟨rfl, by simp⟩]
  · rw [if_neg h0, if_neg]
    rintro ⟨_, h2⟩
    have := congrArg List.length h2
    rw [List.length_take, List.length_nil] at this
    omega
theorem wellL_at : ∀ (l : List Nd) (i : Nat) (h : i < l.length), wellL l = true → wellN l[i] = true := by
  intro l
  induction l with
  | nil => intro i h; simp at h
  | cons a l ih =>
    intro i h hw
    rw [wellL, Bool.and_eq_true] at hw
    cases i with
    | zero => exact hw.1
    | succ i => exact ih i (by simpa using h) hw.2
theorem well_parts (a : Nd) : wellN a = (leafN a.kind a.text a.num && (if a.kind = 1 then wellL a.kids else a.kids.isEmpty)) := by cases a with | mk k t n ks => rw [wellN]; rfl
theorem text_parts (a : Nd) : textN a = (if a.kind = 1 then a.text.data.toList ++ (40 :: (preT a.kids a.kids.length ++ [41]))
    else if a.kind = 3 then (printV true a.num).data.toList
    else if a.kind = 4 then signB a.text :: (a.text.data.toList ++ [signB a.text])
    else if a.kind = 5 then (if a.num = 1 then trueB.data.toList else falseB.data.toList)
    else a.text.data.toList) := by
  cases a with
  | mk k t n ks =>
    rw [textN]
    show _ = (if k = 1 then t.data.toList ++ (40 :: (preT ks ks.length ++ [41])) else _)
    unfold preT
    rw [List.take_length]
    rfl
theorem preT_len (l : List Nd) (i : Nat) (h : wellL l = true) : (preT l i).length ≤ 5 * massL l := by
  have key : ∀ (x y : List Nd), wellL (x ++ y) = true → wellL x = true ∧ massL x ≤ massL (x ++ y) := by
    intro x y
    induction x with
    | nil => intro _; exact ⟨by rw [wellL], by rw [massL]; omega⟩
    | cons a x ih =>
      intro hh
      rw [List.cons_append, wellL, Bool.and_eq_true] at hh
      obtain ⟨i1, i2⟩ := ih hh.2
      rw [List.cons_append, wellL, massL, massL, hh.1, i1]
      exact ⟨rfl, by omega⟩
  have e : l = l.take i ++ l.drop i := (List.take_append_drop i l).symm
  obtain ⟨h1, h2⟩ := key (l.take i) (l.drop i) (by rw [← e]; exact h)
  rw [← e] at h2
  have := textL_mass (l.take i) h1 true
  unfold preT
  omega
end Go.Proofs.YtiakgjijlhfneaaGreatDoor
namespace Go.Proofs.YtiakgjijlhfneaaGreatDoor
open Go.RowKit
theorem mass_pre : ∀ (l : List Nd) (i : Nat) (h : i < l.length), massL (l.take i) + massN l[i] ≤ massL l := by
  intro l
  induction l with
  | nil => intro i h; simp at h
  | cons a l ih =>
    intro i h
    cases i with
    | zero => simp only [List.take_zero, List.getElem_cons_zero]; rw [massL, massL]; omega
    | succ i =>
      have := ih i (by simpa using h)
      rw [List.take_succ_cons, massL, massL]
      simp only [List.getElem_cons_succ]
      omega
theorem wellL_take : ∀ (l : List Nd) (i : Nat), wellL l = true → wellL (l.take i) = true := by
  intro l
  induction l with
  | nil => intro i _; rw [List.take_nil, wellL]
  | cons a l ih =>
    intro i h
    rw [wellL, Bool.and_eq_true] at h
    cases i with
    | zero => rw [List.take_zero, wellL]
    | succ i => rw [List.take_succ_cons, wellL, h.1, ih i h.2]; rfl
theorem pre_kid {l : List Nd} {i : Nat} (h : i < l.length) (hw : wellL l = true) : (preT l i).length + 5 * massN l[i] ≤ 5 * massL l := by
  have h1 := textL_mass (l.take i) (wellL_take l i hw) true
  have h2 := mass_pre l i h
  unfold preT
  omega
end Go.Proofs.YtiakgjijlhfneaaGreatDoor
namespace Go.Proofs.YtiakgjijlhfneaaGreatDoor
open Go.RowKit
set_option maxHeartbeats 16000000 in
set_option maxRecDepth 100000 in
theorem prints_any (m : Nat) : ∀ (a : Nd) (A : Option Addr) (c : Nat) (w0 w : World) (ok : Nat → Prop) (B b : Nat) (l : List UInt8), massN a ≤ m → m ≤ 950 → wellN a = true → NdV w0 ok a (nodeC a.kind a.text a.num A a.kids.length c) → w0.grownBy w none → w0.heap.size ≤ B → Bld w B b l → l.length + 5 * massN a ≤ 100000 → B ≤ w.heap.size → Pow10 w0 →
    Calls Tryz.prog 26 #[.pointer (some ⟨b, 0, none⟩), .agg #[.int .i64 a.kind, .string a.text, .int .i64 a.num, .slice A a.kids.length c]] w fun e w' => e = .returned (.tuple #[]) ∧ Bld w' B b (l ++ textN a) ∧ Wr B b w w' := by
  induction m using Nat.strongRecOn with
  | _ m IH =>
    intro a A c w0 w ok B b l hm hm2 hwell hN h0 hB0 hBd hlen hBw hp
    have HP := Lib.hid hp
    have hmk := mass_kids a
    have hlm := len_mass a.kids
    have hbl := hBd.lt
    have hparts := Lib.hid (text_parts a)
    rw [well_parts, Bool.and_eq_true] at hwell
    obtain ⟨hleaf, hkw⟩ := hwell
    have HD0 := Lib.hid hBd; clear hBd hp
    have htx : a.text.size ≤ 950 := by omega
    have hts : a.text.data.toList.length = a.text.size := by simp
    rw [hparts.out]
    clear hparts
    have WR : ∀ (l : List UInt8) (s : ByteArray) (y : World), w.grownBy y none → Bld w B b l → l.length + s.size ≤ 140737488355328 → Calls Tryz.prog 44 #[.pointer (some ⟨b, 0, none⟩), .string s] y fun e w' => e = .returned (.tuple #[.int .i64 s.size, .nilIface]) ∧ Bld w' B b (l ++ s.data.toList) ∧ Wr B b w w' := fun l s y hg h hl =>
      (write_any l s y (h.of_grown hg) hl (by have := hg.size; omega)).mono fun _ _ ⟨e1, e2, e3⟩ => ⟨e1, e2, (Wr.of_grown hg hBw).trans e3⟩
    have HW := Lib.hid WR; clear WR
    by_cases hk1 : a.kind = 1
    · skip
      rw [if_pos hk1]
      rw [if_pos hk1] at hkw
      have k1 : (a.kind == 1) = true := by simpa using hk1
      clear hk1 hleaf
      have HY := Lib.hid (fun (l : List UInt8) (s : ByteArray) (y : World) (h : Bld y B b l) (hl : l.length + s.size ≤ 140737488355328) (hy : B ≤ y.heap.size) => write_any l s y h hl hy)
      have HI := Lib.hid (fun (i : Nat) (hi : i < a.kids.length) A2 c2 W l => IH (massN a.kids[i]) (by have := mass_kid a.kids i hi; omega) a.kids[i] A2 c2 w0 W ok B b l (Nat.le_refl _) (by have := mass_kid a.kids i hi; omega) (wellL_at a.kids i hi hkw))
      have HK := Lib.hid (fun i hi => hN.kid i hi)
      have HS := Lib.hid (fun i hi => @preT_step a.kids i hi)
      have HM := Lib.hid (fun i hi => @pre_kid a.kids i hi hkw)
      have HM2 := Lib.hid (fun i => preT_len a.kids i hkw)
      clear IH hN hkw
      go_enter Tryz.func26, Tryz.ntmps26
      go_wp2_with (go_at_call 44; (with_reducible refine (HY.out l (a.text ++ (⟨#[40]⟩ : ByteArray)) _ (HD0.out.alloc _) (by have e1 : ByteArray.size ⟨#[40]⟩ = 1 := rfl; rw [ByteArray.size_append, e1]; omega) (by simp; omega)).mono ?_); rintro e wn ⟨rfl, HD, hw1⟩; have hs := Hx.wr (Hx.new w #[.int .i64 a.kind, .string a.text, .int .i64 a.num, .slice A a.kids.length c] 24) hw1 (by omega) (by decide); have HWr := (Wr.of_grown (World.grownBy_alloc w _ none) hBw).trans hw1; have hs_0 := hs.cell 0; have hs_1 := hs.cell 1; have hs_2 := hs.cell 2; have hs_3 := hs.cell 3; have hs_l := hs.lt)
      clear HD0 hs hs_0 hs_1 hs_2 hs_3 hs_l hw1
      go_loopw [4, 5, 23] (fun _ _ iv wr => ∃ (i : Nat), iv = .int .i64 i ∧ i ≤ a.kids.length ∧ Bld wr B b (l ++ (a.text.data.toList ++ (40 :: preT a.kids i))) ∧ Wr B b w wr) (fun _ _ iv _ => a.kids.length - (intOf iv).toNat)
      case atStart => exact ⟨0, rfl, by omega, HD.conv (by simp [ByteArray.data_append, preT, textL]), HWr⟩
      case round =>
        clear HD HWr
        obtain ⟨i, rfl, hi, HD, HWr⟩ := hrel
        rename World => wo
        have HG0 := G.wr h0 HWr hB0
        have hzo := HWr.below.size
        have hbo := HD.lt.2
        by_cases hlt : i < a.kids.length
        · obtain ⟨b2, o2, A2, c2, rfl, hb2, -, hkn, y0, y1, y2, y3⟩ := HK.out i hlt
          have x0 := (G.cell HG0 (a := ⟨b2, o2 + i * 4, none⟩) hb2 (by simp)).trans y0
          have x1 := (G.cell HG0 (a := ⟨b2, o2 + i * 4 + 1, none⟩) hb2 (by simp)).trans y1
          have x2 := (G.cell HG0 (a := ⟨b2, o2 + i * 4 + 2, none⟩) hb2 (by simp)).trans y2
          have x3 := (G.cell HG0 (a := ⟨b2, o2 + i * 4 + 3, none⟩) hb2 (by simp)).trans y3
          have hcall := Lib.hid (fun W l' (hg : w0.grownBy W none) hbd hll hbw => HI.out i hlt A2 c2 W l' hkn hg hB0 hbd hll hbw HP.out)
          have hst := Lib.hid (HS.out i hlt)
          have hmm := HM.out i hlt
          have hul : (l ++ (a.text.data.toList ++ (40 :: preT a.kids i))).length = l.length + (a.text.size + ((preT a.kids i).length + 1)) := by simp only [List.length_append, List.length_cons, hts]
          have HD0 := Lib.hid HD; clear HD
          clear y0 y1 y2 y3 hkn
          generalize hkk : a.kids[i] = k at *
          clear hkk
          generalize hU : l ++ (a.text.data.toList ++ (40 :: preT a.kids i)) = U at *
          replace hU := Lib.hid hU
          rcases Nat.eq_zero_or_pos i with rfl | hip
          · simp only [Nat.zero_mul, Nat.add_zero] at x0 x1 x2 x3
            rw [if_pos rfl] at hst
            go_wp2_with (go_at_call 26; (with_reducible refine (hcall.out _ _ (G.alloc HG0 _) (HD0.out.alloc _) (by omega) (by simp; omega)).mono ?_); rintro e wz ⟨rfl, HD, hw9⟩)
            refine ⟨?_, by first | (simp [intOf]; done) | (simp [intOf]; omega)⟩
            exact ⟨0 + 1, by go_num, by omega, HD.conv (by rw [hst.out, ← hU.out]; simp), HWr.trans ((Wr.of_grown (World.grownBy_alloc wo _ none) (by omega)).trans hw9)⟩
          · have hip1 : (0 : Int) < (i : Int) := by omega
            have hip2 : ¬ i = 0 := by omega
            rw [if_neg hip2] at hst
            go_wp2_with (first | (go_at_call 44; (with_reducible refine (HY.out U ⟨#[44]⟩ _ (HD0.out.alloc _) (by have e1 : ByteArray.size ⟨#[44]⟩ = 1 := rfl; omega) (by simp; omega)).mono ?_); rintro e wn ⟨rfl, HD1, hw1⟩; have hs := Hx.wr (Hx.new wo #[.int .i64 k.kind, .string k.text, .int .i64 k.num, .slice A2 k.kids.length c2] 24) hw1 (by omega) (by decide); have HG1 := G.wr (w0 := w0) (G.alloc HG0 _) hw1 hB0; have hz1 := hw1.below.size; have hz2 := HD1.lt; have hs_0 := hs.cell 0; have hs_1 := hs.cell 1; have hs_2 := hs.cell 2; have hs_3 := hs.cell 3; have hs_l := hs.lt) | (go_at_call 26; (with_reducible refine (hcall.out _ _ HG1 HD1 (by simp; omega) (by simp at hz1; omega)).mono ?_); rintro e wz ⟨rfl, HD, hw9⟩))
            refine ⟨?_, by first | (simp [intOf]; done) | (simp [intOf]; omega)⟩
            exact ⟨i + 1, by go_num, by omega, HD.conv (by rw [hst.out, ← hU.out]; simp), HWr.trans ((Wr.of_grown (World.grownBy_alloc wo _ none) (by omega)).trans (hw1.trans hw9))⟩
        · obtain rfl : i = a.kids.length := by omega
          have hml := HM2.out a.kids.length
          have hul : (l ++ (a.text.data.toList ++ (40 :: preT a.kids a.kids.length))).length = l.length + (a.text.size + ((preT a.kids a.kids.length).length + 1)) := by simp only [List.length_append, List.length_cons, hts]
          have HD0 := Lib.hid HD; clear HD
          go_wp2_with (go_at_call 44; (with_reducible refine (HY.out _ ⟨#[41]⟩ _ HD0.out (by have e1 : ByteArray.size ⟨#[41]⟩ = 1 := rfl; omega) (by omega)).mono ?_); rintro e wn ⟨rfl, HD, hw1⟩)
          go_end0
          exact ⟨rfl, HD.conv (by simp), HWr.trans hw1⟩
    rw [if_neg hk1]
    have k1 : (a.kind == 1) = false := by simpa using hk1
    unfold leafN at hleaf
    rw [if_neg hk1] at hleaf
    clear hkw hk1
    by_cases hk2 : a.kind = 2
    · rw [if_neg (by omega), if_neg (by omega), if_neg (by omega)]
      have k3 : (a.kind == 3) = false := by rw [hk2]; rfl
      have k4 : (a.kind == 4) = false := by rw [hk2]; rfl
      have k5 : (a.kind == 5) = false := by rw [hk2]; rfl
      clear hk2 hleaf
      have HG := G.refl w none
      go_enter Tryz.func26, Tryz.ntmps26
      go_wp2_with (go_at_call 44; (with_reducible refine (HW.out l a.text _ (by exact G.go HG) HD0.out (by omega)).mono ?_); rintro e wn ⟨rfl, HD, hw1⟩)
      go_end0
      exact ⟨rfl, HD, hw1⟩
    rw [if_neg hk2] at hleaf
    by_cases hk3 : a.kind = 3
    · rw [if_pos hk3]
      rw [if_pos hk3] at hleaf
      have k3 : (a.kind == 3) = true := by simpa using hk3
      clear hk3
      rw [Bool.and_eq_true] at hleaf
      have hr := hleaf.2
      have hof : ofR a.num = some a.num := by
        unfold ofR; rw [if_pos (by simpa [isR] using hr)]
      have HOf := Lib.hid (fun w => fixedOf_any w a.num)
      rw [hof] at HOf
      simp only [valV, valC] at HOf
      have hnb : -9223372036854775808 ≤ a.num ∧ a.num ≤ 9223372036854775807 := hN.num
      have HPr := Lib.hid (fun w hp => print_any true a.num w hnb.1 hnb.2 hp)
      have hps := printV_size true a.num
      clear hof hleaf hr
      generalize printV true a.num = Z at *
      have HG := G.refl w none
      go_enter Tryz.func26, Tryz.ntmps26
      go_wp2_with (first | (go_at_call 46; (with_reducible refine (HOf.out _).mono ?_); rintro e wn ⟨rfl, hgn⟩; replace HG := G.trans (w := w) (by exact G.go HG) hgn; clear hgn) | (go_at_call 45; (with_reducible refine (HPr.out _ (Pow10.kept HP.out (G.trans h0 HG))).mono ?_); rintro e wn ⟨rfl, hgn⟩; replace HG := G.trans (w := w) (by exact G.go HG) hgn; clear hgn) | (go_at_call 44; (with_reducible refine (HW.out l Z _ (by exact G.go HG) HD0.out (by omega)).mono ?_); rintro e wn ⟨rfl, HD, hw1⟩))
      go_end0
      exact ⟨rfl, HD, hw1⟩
    rw [if_neg hk3] at hleaf
    rw [if_neg hk3]
    have k3 : (a.kind == 3) = false := by simpa using hk3
    by_cases hk4 : a.kind = 4
    · rw [if_pos hk4]
      rw [if_pos hk4] at hleaf
      have k4 : (a.kind == 4) = true := by simpa using hk4
      clear hk4
      have H34 := Lib.hid (fun w => Tryz.strings_Contains_one a.text 34 w)
      simp only [has_index] at H34
      clear hleaf
      have HG := G.refl w none
      cases hq : hasB 34 a.text
      · rw [hq] at H34
        have hsg : signB a.text = 34 := by unfold signB; rw [hq]; rfl
        rw [hsg]
        clear hsg
        go_enter Tryz.func26, Tryz.ntmps26
        go_wp2_with (first | (go_at_call 47; (with_reducible refine (H34.out _).mono ?_); rintro e wn ⟨rfl, hw⟩; obtain rfl := hw.symm) | (go_at_call 44; (with_reducible refine (HW.out l ((⟨#[34]⟩ : ByteArray) ++ a.text ++ (⟨#[34]⟩ : ByteArray)) _ (by exact G.go HG) HD0.out (by have e1 : ByteArray.size ⟨#[34]⟩ = 1 := rfl; rw [ByteArray.size_append, ByteArray.size_append, e1]; omega)).mono ?_); rintro e wn ⟨rfl, HD, hw1⟩))
        go_end0
        exact ⟨rfl, HD.conv (by simp [ByteArray.data_append]), hw1⟩
      · rw [hq] at H34
        have hsg : signB a.text = 39 := by unfold signB; rw [hq]; rfl
        rw [hsg]
        clear hsg
        go_enter Tryz.func26, Tryz.ntmps26
        go_wp2_with (first | (go_at_call 47; (with_reducible refine (H34.out _).mono ?_); rintro e wn ⟨rfl, hw⟩; obtain rfl := hw.symm) | (go_at_call 44; (with_reducible refine (HW.out l ((⟨#[39]⟩ : ByteArray) ++ a.text ++ (⟨#[39]⟩ : ByteArray)) _ (by exact G.go HG) HD0.out (by have e1 : ByteArray.size ⟨#[39]⟩ = 1 := rfl; rw [ByteArray.size_append, ByteArray.size_append, e1]; omega)).mono ?_); rintro e wn ⟨rfl, HD, hw1⟩))
        go_end0
        exact ⟨rfl, HD.conv (by simp [ByteArray.data_append]), hw1⟩
    rw [if_neg hk4] at hleaf
    rw [if_neg hk4]
    have k4 : (a.kind == 4) = false := by simpa using hk4
    by_cases hk5 : a.kind = 5
    · rw [if_pos hk5]
      rw [if_pos hk5] at hleaf
      have k5 : (a.kind == 5) = true := by simpa using hk5
      clear hk5
      clear hleaf
      have HG := G.refl w none
      by_cases hn : a.num = 1
      · rw [if_pos hn]
        have hnb : (a.num == 1) = true := by simpa using hn
        clear hn
        go_enter Tryz.func26, Tryz.ntmps26
        go_wp2_with (go_at_call 44; (with_reducible refine (HW.out l ⟨#[116, 114, 117, 101]⟩ _ (by exact G.go HG) HD0.out (by have e1 : ByteArray.size ⟨#[116, 114, 117, 101]⟩ = 4 := rfl; omega)).mono ?_); rintro e wn ⟨rfl, HD, hw1⟩)
        go_end0
        exact ⟨rfl, HD, hw1⟩
      · rw [if_neg hn]
        have hnb : (a.num == 1) = false := by simpa using hn
        clear hn
        go_enter Tryz.func26, Tryz.ntmps26
        go_wp2_with (go_at_call 44; (with_reducible refine (HW.out l ⟨#[102, 97, 108, 115, 101]⟩ _ (by exact G.go HG) HD0.out (by have e1 : ByteArray.size ⟨#[102, 97, 108, 115, 101]⟩ = 5 := rfl; omega)).mono ?_); rintro e wn ⟨rfl, HD, hw1⟩)
        go_end0
        exact ⟨rfl, HD, hw1⟩
    rw [if_neg hk5] at hleaf
    rw [if_neg hk5]
    have k5 : (a.kind == 5) = false := by simpa using hk5
    cases hleaf
end Go.Proofs.YtiakgjijlhfneaaGreatDoor
