/-
  The walks of whether a node may be, of both packages. Printed by gentreemay.py.
  The walk of whether a node may be. Printed by gentreemay.py.
-/
import Derived.Test.YtiakgjijlhfneaaGreatDoorTreeNode
import Derived.Test.YtiakgjijlhfneaaGreatDoorDecParse
import Derived.Test.YtiakgjijlhfneaaGreatDoorLexPath
namespace Go.Proofs.YtiakgjijlhfneaaGreatDoor
open Go.RowKit
theorem mayL_bad : ∀ (l : List Nd) (d i : Nat) (h1 : i < l.length), mayN l[i] d = false → mayL l d = false := by
  intro l
  induction l with
  | nil => intro d i h1; simp at h1
  | cons a l ih =>
    intro d i h1 h
    rw [mayL]
    cases i with
    | zero => simp only [List.getElem_cons_zero] at h; rw [h, Bool.false_and]
    | succ i => rw [ih d i (by simpa using h1) (by simpa using h), Bool.and_false]
theorem mayL_good : ∀ (l : List Nd) (d : Nat), (∀ i (h1 : i < l.length), mayN l[i] d = true) → mayL l d = true := by
  intro l
  induction l with
  | nil => intro d _; rw [mayL]
  | cons a l ih =>
    intro d hs
    rw [mayL]
    have h0 := hs 0 (by simp)
    simp only [List.getElem_cons_zero] at h0
    rw [h0, Bool.true_and]
    exact ih d (fun i h1 => by have := hs (i + 1) (by simpa using h1); simpa using this)
theorem may_parts (a : Nd) (d : Nat) : mayN a d = if 64 ≤ d then false else if a.kind = 1 then mayL a.kids (d + 1) && leafN 1 a.text a.num else (decide (a.kids.length = 0) && leafN a.kind a.text a.num) := by
  cases a with
  | mk k t n ks =>
    rw [mayN]
    show _ = if 64 ≤ d then false else if k = 1 then mayL ks (d + 1) && leafN 1 t n else (decide (ks.length = 0) && leafN k t n)
    by_cases hk : k = 1
    · subst hk; rfl
    · rw [if_neg hk, if_neg hk]
      congr 2
      rw [Bool.eq_iff_iff, List.isEmpty_iff, decide_eq_true_eq, List.length_eq_zero_iff]
theorem has_index (c : UInt8) (t : ByteArray) : decide (0 ≤ Lib.indexByte t.data.toList c) = hasB c t := by
  unfold hasB
  rw [Bool.eq_iff_iff, decide_eq_true_eq, List.contains_iff_mem]
  constructor
  · intro h
    obtain ⟨k, hk⟩ : ∃ k : Nat, Lib.indexByte t.data.toList c = k := ⟨(Lib.indexByte t.data.toList c).toNat, by omega⟩
    exact List.mem_of_getElem? (Lib.indexByte_some hk).1
  · intro h
    have hge := Lib.indexByte_ge t.data.toList c
    rcases Nat.lt_or_ge 0 1 with _ | g
    · by_cases hn : Lib.indexByte t.data.toList c = -1
      · obtain ⟨i, hi, e⟩ := List.getElem_of_mem h
        exact absurd (by rw [List.getElem?_eq_getElem hi, e]) (Lib.indexByte_none hn i)
      · omega
    · omega
theorem size_list0 (t : ByteArray) : (t.toList == []) = (t.size == 0) := by
  rw [Lib.toList_data, Bool.eq_iff_iff]
  simp only [beq_iff_eq]
  have e : t.data.toList.length = t.size := by simp
  rw [← e, List.length_eq_zero_iff]
theorem text_const (t u : ByteArray) : (t.toList == u.data.toList) = decide (t = u) := by
  rw [Lib.toList_data]
  rw [Bool.eq_iff_iff]
  simp only [beq_iff_eq, decide_eq_true_eq]
  exact ⟨fun h => ByteArray.ext (Array.toList_inj.1 h), fun h => by rw [h]⟩
theorem ofR_some (n : Int) : (ofR n).isSome = isR true n := by
  unfold ofR isR
  simp only [if_true]
  by_cases h : -4611686018427387904 ≤ n ∧ n ≤ 4611686018427387904
  · rw [if_pos h]; simp [h.1, h.2]
  · rw [if_neg h]
    by_cases h1 : -4611686018427387904 ≤ n
    · have h2 : ¬ n ≤ 4611686018427387904 := fun g => h ⟨h1, g⟩
      simp [h1, h2]
    · simp [h1]
theorem field_val (b : Bool) (n : Int) (w : World) : (Instr.field 76 (.agg #[.bool b, .int .i64 n]) 0).run Tryz.prog w = .ok (.bool b) w := by kernel_rfl
set_option maxHeartbeats 8000000 in
set_option maxRecDepth 100000 in
theorem isPath_any (t : ByteArray) (w : World) (hs : t.size ≤ 1000) :
    Calls Tryz.prog 48 #[.string t] w fun e w' => e = .returned (.bool (isPathB t)) ∧ w.grownBy w' none := by
  have HG := G.refl w none
  have HP := Lib.hid (fun w => parse_any t w hs)
  have HQ := Lib.hid (fun w => path_any t w (by omega))
  have hV : isPathB t = (pathB t && ((parseO t).isNone && (!decide (t = trueB) && !decide (t = falseB)))) := rfl
  have c1 := text_const t trueB
  have c2 := text_const t falseB
  rw [show trueB.data.toList = [116, 114, 117, 101] from rfl] at c1
  rw [show falseB.data.toList = [102, 97, 108, 115, 101] from rfl] at c2
  rw [hV]
  clear hV
  unfold parseV at HP
  generalize pathB t = p at *
  generalize decide (t = trueB) = b1 at *
  generalize decide (t = falseB) = b2 at *
  generalize parseO t = x at *
  cases p <;> cases x <;> cases b1 <;> cases b2 <;> simp only [valV, valC, Option.isSome_none, Option.isSome_some] at HP <;>
  · go_enter Tryz.func48, Tryz.ntmps48
    go_wp2_with (first | (go_at_call 54; (with_reducible refine (HP.out _).mono ?_); rintro e wn ⟨rfl, hgn⟩; replace HG := G.trans (w := w) (by exact G.go HG) hgn; clear hgn) | (go_at_call 55; (with_reducible refine (HQ.out _).mono ?_); rintro e wn ⟨rfl, hbn⟩; replace HG := G.trans (w := w) (by exact G.go HG) (G.of_below hbn); clear hbn))
    go_ret
    exact ⟨rfl, (by exact G.go HG)⟩
def hasT (c : UInt8) (t : ByteArray) (i : Nat) : Bool := (t.data.toList.take i).contains c
theorem hasT_step {t : ByteArray} {i : Nat} (h : i < t.size) (c : UInt8) : hasT c t (i + 1) = (hasT c t i || (t[i] == c)) := by
  unfold hasT
  rw [List.take_succ_eq_append_getElem (by simpa using h), Bool.eq_iff_iff]
  simp only [List.contains_iff_mem, List.mem_append, List.mem_singleton, Bool.or_eq_true, beq_iff_eq]
  constructor
  · rintro (h1 | h1)
    · exact Or.inl h1
    · exact Or.inr h1.symm
  · rintro (h1 | h1)
    · exact Or.inl h1
    · exact Or.inr h1.symm
theorem hasT_end (t : ByteArray) (c : UInt8) : hasT c t t.size = hasB c t := by unfold hasT hasB; rw [List.take_of_length_le (by simp)]
theorem u8_c34 (c : UInt8) : ((c.toNat : Int) == 34) = (c == 34) := by rw [Bool.eq_iff_iff]; simp [← UInt8.toNat_inj]; omega
theorem u8_c39 (c : UInt8) : ((c.toNat : Int) == 39) = (c == 39) := by rw [Bool.eq_iff_iff]; simp [← UInt8.toNat_inj]; omega
set_option maxHeartbeats 8000000 in
set_option maxRecDepth 100000 in
theorem both_any (t : ByteArray) (w : World) (hs : t.size ≤ 1000) :
    Calls Tryz.prog 43 #[.string t] w fun e w' => e = .returned (.tuple #[.bool (hasB 34 t), .bool (hasB 39 t)]) ∧ w.grownBy w' none := by
  have HG := G.refl w none
  have HS := Lib.hid (fun c i h => @hasT_step t i h c)
  have HE := Lib.hid (hasT_end t)
  go_enter Tryz.func43, Tryz.ntmps43
  go_wp2_with fail
  go_loopw [4, 5, 6] (fun av bv iv wr => ∃ (i : Nat), iv = .int .i64 i ∧ av = .bool (hasT 34 t i) ∧ bv = .bool (hasT 39 t i) ∧ i ≤ t.size ∧ w.grownBy wr none) (fun _ _ iv _ => t.size - (intOf iv).toNat)
  case atStart => exact ⟨0, rfl, rfl, rfl, by omega, HG⟩
  case round =>
    clear HG
    obtain ⟨i, rfl, rfl, rfl, hi, HG⟩ := hrel
    by_cases hlt : i < t.size
    · have s1 := Lib.hid (HS.out 34 i hlt)
      have s2 := Lib.hid (HS.out 39 i hlt)
      have e1 := u8_c34 t[i]
      have e2 := u8_c39 t[i]
      obtain ⟨c, hc⟩ : ∃ c, t[i] = c := ⟨_, rfl⟩
      have s1 : Hid (hasT 34 t (i + 1) = (hasT 34 t i || (c == 34))) := Lib.hid (by rw [s1.out, hc])
      have s2 : Hid (hasT 39 t (i + 1) = (hasT 39 t i || (c == 39))) := Lib.hid (by rw [s2.out, hc])
      rw [hc] at e1 e2
      generalize hasT 34 t i = p1 at *
      generalize hasT 39 t i = p2 at *
      generalize (c == 34) = d1 at *
      generalize (c == 39) = d2 at *
      cases p1 <;> cases p2 <;>
      · go_wp2_with fail
        refine ⟨?_, by first | (simp [intOf]; done) | (simp [intOf]; omega)⟩
        exact ⟨i + 1, by go_num, by rw [s1.out]; rfl, by rw [s2.out]; rfl, by omega, HG⟩
    · obtain rfl : i = t.size := by omega
      rw [HE.out, HE.out]
      go_wp2_with fail
      go_ret2
      exact ⟨rfl, HG⟩
end Go.Proofs.YtiakgjijlhfneaaGreatDoor
namespace Go.Proofs.YtiakgjijlhfneaaGreatDoor
open Go.RowKit
set_option maxHeartbeats 16000000 in
set_option maxRecDepth 100000 in
theorem may_any (m : Nat) : ∀ (a : Nd) (d : Nat) (x : Int) (A : Option Addr) (c : Nat) (w0 w : World) (ok : Nat → Prop), x = d → massN a ≤ m → m ≤ 950 → d ≤ 1000 → NdV w0 ok a (nodeC a.kind a.text a.num A a.kids.length c) → w0.grownBy w none →
    Calls Tryz.prog 28 #[.agg #[.int .i64 a.kind, .string a.text, .int .i64 a.num, .slice A a.kids.length c], .int .i64 x] w fun e w' => e = .returned (.bool (mayN a d)) ∧ w.grownBy w' none := by
  induction m using Nat.strongRecOn with
  | _ m IH =>
    intro a d x A c w0 w ok hx hm hm2 hd hN h0
    have HG := G.refl w none
    have hmk := mass_kids a
    have hlm := len_mass a.kids
    have hparts := Lib.hid (may_parts a d)
    have HI := Lib.hid (fun (i : Nat) (hi : i < a.kids.length) (hd2 : d + 1 ≤ 1000) A2 c2 w ok => IH (massN a.kids[i]) (by have := mass_kid a.kids i hi; omega) a.kids[i] (d + 1) (x + 1) A2 c2 w0 w ok (by omega) (Nat.le_refl _) (by have := mass_kid a.kids i hi; omega) hd2)
    have HK := Lib.hid (fun i hi => hN.kid i hi)
    have HB := Lib.hid (fun i hi h => mayL_bad a.kids (d + 1) i hi h)
    have HL := Lib.hid (mayL_good a.kids (d + 1))
    have htx : a.text.size ≤ 950 := by omega
    have hnum := hN.num
    have hxb : 0 ≤ x ∧ x ≤ 1001 := by omega
    clear IH hN
    rw [hparts.out]
    clear hparts
    by_cases hdd : 64 ≤ d
    · rw [if_pos hdd]
      have hx1 : (64 : Int) ≤ x := by omega
      clear hx
      go_enter Tryz.func28, Tryz.ntmps28
      go_wp2_with fail
      go_ret
      exact ⟨rfl, (by exact G.go HG)⟩
    rw [if_neg hdd]
    have hx1 : ¬ ((64 : Int) ≤ x) := by omega
    replace hx := Lib.hid hx
    by_cases hk1 : a.kind = 1
    · rw [if_pos hk1]
      have k1 : (a.kind == 1) = true := by simpa using hk1
      have k1n : (a.kind != 1) = false := by simpa using hk1
      clear hk1
      have hleaf : leafN 1 a.text a.num = ((a.num == 0) && identB a.text) := rfl
      rw [hleaf]
      clear hleaf
      have HId := Lib.hid (fun w => ident_any a.text w (by omega))
      have hidb : (identAt a.text 0 && decide (0 < a.text.size)) = identB a.text := rfl
      rw [hidb] at HId
      clear hidb
      generalize identB a.text = ib at *
      generalize hQ : mayL a.kids (d + 1) = Q at *
      clear hQ
      go_enter Tryz.func28, Tryz.ntmps28
      go_wp2_with fail
      go_loopw [6, 27] (fun _ iv wr => ∃ (i : Nat), iv = .int .i64 i ∧ i ≤ a.kids.length ∧ Hid (∀ j (g : j < a.kids.length), j < i → mayN a.kids[j] (d + 1) = true) ∧ w.grownBy wr none ∧ Hx wr w.heap.size [.int .i64 a.kind, .string a.text, .int .i64 a.num, .slice A a.kids.length c] 24) (fun _ iv _ => a.kids.length - (intOf iv).toNat)
      case atStart => exact ⟨0, rfl, by omega, Lib.hid (fun j _ h => by omega), (by exact G.go HG), Hx.new _ _ _⟩
      case round =>
        clear HG
        obtain ⟨i, rfl, hi, HP, HG, hs⟩ := hrel
        have hs_0 := hs.cell 0; have hs_1 := hs.cell 1; have hs_2 := hs.cell 2; have hs_3 := hs.cell 3; have hs_l := hs.lt
        by_cases hlt : i < a.kids.length
        · obtain ⟨b, o, A2, c2, rfl, hb, -, hkn, y0, y1, y2, y3⟩ := HK.out i hlt
          have hgw := G.trans h0 HG
          have x0 := (G.cell hgw (a := ⟨b, o + i * 4, none⟩) hb (by simp)).trans y0
          have x1 := (G.cell hgw (a := ⟨b, o + i * 4 + 1, none⟩) hb (by simp)).trans y1
          have x2 := (G.cell hgw (a := ⟨b, o + i * 4 + 2, none⟩) hb (by simp)).trans y2
          have x3 := (G.cell hgw (a := ⟨b, o + i * 4 + 3, none⟩) hb (by simp)).trans y3
          have hcall := Lib.hid (fun W (hg : w.grownBy W none) => HI.out i hlt (by omega) A2 c2 W ok hkn (G.trans h0 hg))
          have hnx : Hid (mayN a.kids[i] (d + 1) = true → ∀ j (g : j < a.kids.length), j < i + 1 → mayN a.kids[j] (d + 1) = true) := Lib.hid (fun g j g1 hj => by
            rcases Nat.lt_or_ge j i with q | q
            · exact HP.out j g1 q
            · obtain rfl : j = i := by omega
              exact g)
          have hbad := Lib.hid (HB.out i hlt)
          clear y0 y1 y2 y3 hkn hgw HP
          generalize mayN a.kids[i] (d + 1) = r at *
          generalize a.kids[i] = k at *
          cases r
          · have hz := hbad.out rfl
            clear hbad hnx
            subst hz
            go_wp2_with (go_at_call 28; (with_reducible refine (hcall.out _ (by exact G.go HG)).mono ?_); rintro e wn ⟨rfl, hgn⟩; replace HG := G.trans (w := w) (by exact G.go HG) hgn; replace hs := Hx.kept (by first | exact Hx.go hs | exact Hx.go2) hgn (by simp); clear hgn)
            go_ret
            exact ⟨ret_bool (by first | rfl | (rw [hn0]; rfl) | (rw [hn0]; simp; done) | (simp; done)), HG⟩
          · have hm3 := Lib.hid (hnx.out rfl)
            clear hbad hnx
            go_wp2_with (go_at_call 28; (with_reducible refine (hcall.out _ (by exact G.go HG)).mono ?_); rintro e wn ⟨rfl, hgn⟩; replace HG := G.trans (w := w) (by exact G.go HG) hgn; replace hs := Hx.kept (by first | exact Hx.go hs | exact Hx.go2) hgn (by simp); clear hgn)
            refine ⟨?_, by first | (simp [intOf]; done) | (simp [intOf]; omega)⟩
            exact ⟨i + 1, by go_num, by omega, hm3, HG, hs⟩
        · obtain rfl : i = a.kids.length := by omega
          have hz : Q = true := HL.out (fun j g => HP.out j g g)
          subst hz
          cases hn0 : (a.num == 0)
          · go_wp2_with fail
            go_ret
            exact ⟨ret_bool (by first | rfl | (rw [hn0]; rfl) | (rw [hn0]; simp; done) | (simp; done)), HG⟩
          · go_wp2_with (go_at_call 32; (with_reducible refine (HId.out _).mono ?_); rintro e wn ⟨rfl, rfl⟩)
            go_ret
            exact ⟨ret_bool (by first | rfl | (rw [hn0]; rfl) | (rw [hn0]; simp; done) | (simp; done)), HG⟩
    rw [if_neg hk1]
    have k1 : (a.kind == 1) = false := by simpa using hk1
    have k1n : (a.kind != 1) = true := by simpa using hk1
    by_cases hl : a.kids.length = 0
    rotate_left
    · have hlp : (0 : Int) < (a.kids.length : Int) := by omega
      rw [decide_eq_false hl, Bool.false_and]
      clear hl
      go_enter Tryz.func28, Tryz.ntmps28
      go_wp2_with fail
      go_ret
      exact ⟨rfl, (by exact G.go HG)⟩
    rw [decide_eq_true hl, Bool.true_and]
    have hlp : ¬ (0 : Int) < (a.kids.length : Int) := by omega
    clear hl
    unfold leafN
    rw [if_neg hk1]
    clear hk1
    by_cases hk2 : a.kind = 2
    · rw [if_pos hk2]
      have k2 : (a.kind == 2) = true := by simpa using hk2
      clear hk2
      have HPa := Lib.hid (fun w => isPath_any a.text w (by omega))
      generalize isPathB a.text = pb at *
      cases hn0 : (a.num == 0)
      · go_enter Tryz.func28, Tryz.ntmps28
        go_wp2_with fail
        go_ret
        exact ⟨ret_bool (by first | rfl | (rw [hn0]; rfl) | (rw [hn0]; simp; done) | (rw [hn0, hn1]; rfl) | (simp; done) | (simp [hn0, hn1]; done)), (by exact G.go HG)⟩
      · go_enter Tryz.func28, Tryz.ntmps28
        go_wp2_with (go_at_call 48; (with_reducible refine (HPa.out _).mono ?_); rintro e wn ⟨rfl, hgn⟩; replace HG := G.trans (w := w) (by exact G.go HG) hgn; clear hgn)
        go_ret
        exact ⟨ret_bool (by first | rfl | (rw [hn0]; rfl) | (rw [hn0]; simp; done) | (rw [hn0, hn1]; rfl) | (simp; done) | (simp [hn0, hn1]; done)), (by exact G.go HG)⟩
    rw [if_neg hk2]
    have k2 : (a.kind == 2) = false := by simpa using hk2
    clear hk2
    by_cases hk3 : a.kind = 3
    · rw [if_pos hk3]
      have k3 : (a.kind == 3) = true := by simpa using hk3
      clear hk3
      have hfv := field_val
      have HOf := Lib.hid (fun w => fixedOf_any w a.num)
      have hz := size_list0 a.text
      rw [← ofR_some]
      generalize (a.text.size == 0) = sz at *
      cases sz
      · go_enter Tryz.func28, Tryz.ntmps28
        go_wp2_with fail
        go_ret
        exact ⟨ret_bool (by first | rfl | (rw [hn0]; rfl) | (rw [hn0]; simp; done) | (rw [hn0, hn1]; rfl) | (simp; done) | (simp [hn0, hn1]; done)), (by exact G.go HG)⟩
      · generalize ofR a.num = r at *
        cases r <;> simp only [valV, valC] at HOf <;>
        · go_enter Tryz.func28, Tryz.ntmps28
          go_wp2_with (go_at_call 46; (with_reducible refine (HOf.out _).mono ?_); rintro e wn ⟨rfl, hgn⟩; replace HG := G.trans (w := w) (by exact G.go HG) hgn; clear hgn)
          go_ret
          exact ⟨ret_bool (by first | rfl | (rw [hn0]; rfl) | (rw [hn0]; simp; done) | (rw [hn0, hn1]; rfl) | (simp; done) | (simp [hn0, hn1]; done)), (by exact G.go HG)⟩
    rw [if_neg hk3]
    have k3 : (a.kind == 3) = false := by simpa using hk3
    clear hk3
    by_cases hk4 : a.kind = 4
    · rw [if_pos hk4]
      have k4 : (a.kind == 4) = true := by simpa using hk4
      clear hk4
      have H34 := Lib.hid (fun w => Tryz.strings_Contains_one a.text 34 w)
      have H39 := Lib.hid (fun w => Tryz.strings_Contains_one a.text 39 w)
      simp only [has_index] at H34 H39
      generalize hasB 34 a.text = q1 at *
      generalize hasB 39 a.text = q2 at *
      cases hn0 : (a.num == 0)
      · go_enter Tryz.func28, Tryz.ntmps28
        go_wp2_with fail
        go_ret
        exact ⟨ret_bool (by first | rfl | (rw [hn0]; rfl) | (rw [hn0]; simp; done) | (rw [hn0, hn1]; rfl) | (simp; done) | (simp [hn0, hn1]; done)), (by exact G.go HG)⟩
      · cases q1 <;> cases q2 <;>
        · go_enter Tryz.func28, Tryz.ntmps28
          go_wp2_with (first | (go_at_call 47; (with_reducible refine (H34.out _).mono ?_); rintro e wn ⟨rfl, hw⟩; obtain rfl := hw.symm) | (go_at_call 47; (with_reducible refine (H39.out _).mono ?_); rintro e wn ⟨rfl, hw⟩; obtain rfl := hw.symm))
          go_ret
          exact ⟨ret_bool (by first | rfl | (rw [hn0]; rfl) | (rw [hn0]; simp; done) | (rw [hn0, hn1]; rfl) | (simp; done) | (simp [hn0, hn1]; done)), (by exact G.go HG)⟩
    rw [if_neg hk4]
    have k4 : (a.kind == 4) = false := by simpa using hk4
    clear hk4
    by_cases hk5 : a.kind = 5
    · rw [if_pos hk5]
      have k5 : (a.kind == 5) = true := by simpa using hk5
      clear hk5
      have hz := size_list0 a.text
      generalize (a.text.size == 0) = sz at *
      cases sz <;> cases hn0 : (a.num == 0) <;> cases hn1 : (a.num == 1) <;>
      · go_enter Tryz.func28, Tryz.ntmps28
        go_wp2_with fail
        go_ret
        exact ⟨ret_bool (by first | rfl | (rw [hn0]; rfl) | (rw [hn0]; simp; done) | (rw [hn0, hn1]; rfl) | (simp; done) | (simp [hn0, hn1]; done)), (by exact G.go HG)⟩
    rw [if_neg hk5]
    have k5 : (a.kind == 5) = false := by simpa using hk5
    clear hk5
    go_enter Tryz.func28, Tryz.ntmps28
    go_wp2_with fail
    go_ret
    exact ⟨rfl, (by exact G.go HG)⟩
end Go.Proofs.YtiakgjijlhfneaaGreatDoor
