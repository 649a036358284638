/-
  The walk of the reference's Parse.
-/
import Derived.Test.YtjfonckmfafdgaaDoorDecParseAid
import Derived.Test.YtjfonckmfafdgaaDoorDecFrac
import Derived.Deep.DeepCutAuto
import Derived.RegionTactic
import Derived.ChangeAlike
namespace Go.Proofs.YtjfonckmfafdgaaDoor
open Go.RowKit
theorem indexByte_none {l : List UInt8} {c : UInt8} (h : ∀ x ∈ l, x ≠ c) : Lib.indexByte l c = -1 := by
  induction l with
  | nil => rfl
  | cons b l ih =>
    have hb : (b == c) = false := by simpa using h b (by simp)
    rw [Lib.indexByte, hb, ih (fun x hx => h x (by simp [hx]))]
    rfl
theorem indexByte_some {l : List UInt8} {c : UInt8} : ∀ {i : Nat}, (hi : i < l.length) → l[i] = c → (∀ j (h : j < i), l[j]'(by omega) ≠ c) → Lib.indexByte l c = i := by
  induction l with
  | nil => intro i hi; simp at hi
  | cons b l ih =>
    intro i hi h1 h2
    rw [Lib.indexByte]
    cases i with
    | zero =>
      have hb : (b == c) = true := by simpa using h1
      rw [hb]; rfl
    | succ i =>
      have hb : (b == c) = false := by simpa using h2 0 (by omega)
      have := ih (i := i) (by simpa using hi) (by simpa using h1) (fun j hj => by have := h2 (j + 1) (by omega); simpa using this)
      rw [hb, this]
      simp
theorem cut_found {t : ByteArray} {i : Nat} (hi : i < t.size) (h1 : t[i] = 46) (h2 : ∀ j (h : j < i), t[j]'(by omega) ≠ 46) : cutA t 46 = t.extract 0 i ∧ cutB t 46 = t.extract (i + 1) t.size ∧ cutD t 46 = true := by
  have e : Lib.indexByte t.data.toList 46 = i := indexByte_some (by simpa using hi) h1 h2
  unfold cutA cutB cutD
  rw [e]
  rw [if_neg (by omega), if_neg (by omega)]
  refine ⟨rfl, rfl, ?_⟩
  rw [decide_eq_false (by omega)]; rfl
theorem cut_missed {t : ByteArray} (h : ∀ j (h : j < t.size), t[j] ≠ 46) : cutA t 46 = t ∧ cutB t 46 = ⟨#[]⟩ ∧ cutD t 46 = false := by
  have e : Lib.indexByte t.data.toList 46 = -1 := indexByte_none (fun x hx => by
    obtain ⟨j, hj, rfl⟩ := List.getElem_of_mem hx
    exact h j (by simpa using hj))
  unfold cutA cutB cutD
  rw [e]
  simp
/-- has a text a sign ahead; is it a minus; the text without it -/
def signedS (s : ByteArray) : Bool := if h : 0 < s.size then ((s[0].toNat : Int) == 45) || ((s[0].toNat : Int) == 43) else false
def minusS (s : ByteArray) : Bool := if h : 0 < s.size then ((s[0].toNat : Int) == 45) else false
def bareS (s : ByteArray) : ByteArray := if signedS s then s.extract 1 s.size else s
def readS (t : ByteArray) : Option Nat := readR (cutA t 46).data.toList (cutB t 46).data.toList (cutD t 46)
/-- what a text says -/
def parseO (s : ByteArray) : Option Int := Option.map (fun (m : Nat) => if minusS s then -(m : Int) else (m : Int)) (readS (bareS s))
def parseV (s : ByteArray) : Value := .tuple #[valV (parseO s), .bool (parseO s).isSome]
theorem bareS_size (s : ByteArray) : (bareS s).size ≤ s.size := by
  unfold bareS
  split
  · rw [ByteArray.size_extract]; omega
  · exact Nat.le_refl _
theorem signed_pos {s : ByteArray} (h : signedS s = true) : 0 < s.size := by
  unfold signedS at h
  split at h
  · assumption
  · cases h
theorem toList_empty {s : ByteArray} (h : ¬ 0 < s.size) : s.toList.isEmpty = true := by
  rw [ByteArray.toList_eq]
  have e : s.data.toList.length = s.size := by simp
  have : s.data.toList = [] := List.eq_nil_of_length_eq_zero (by omega)
  rw [this]; rfl
theorem toList_full {s : ByteArray} (h : 0 < s.size) : s.toList.isEmpty = false := by
  rw [ByteArray.toList_eq]
  have e : s.data.toList.length = s.size := by simp
  cases hl : s.data.toList with
  | nil => rw [hl, List.length_nil] at e; omega
  | cons c r => rfl
/-- what the numbers of the two ways come to -/
theorem read_some {a b : List UInt8} {D : Bool} (hA : (a.all isD && !a.isEmpty) = true) (hB : (!D || (b.all isD && !b.isEmpty)) = true) : readR a b D = if valF 0 a * 1000000 + fracR b ≤ topN then some (valF 0 a * 1000000 + fracR b) else none := by
  unfold readR; rw [hA, hB]; rfl
theorem read_bad {a b : List UInt8} {D : Bool} (h : ((a.all isD && !a.isEmpty) && (!D || (b.all isD && !b.isEmpty))) = false) : readR a b D = none := by
  unfold readR; rw [if_neg (by rw [h]; simp)]
theorem refStrip_whole {A : ByteArray} (_hd : A.data.toList.all isD = true) (hne : 0 < A.size) (hs : A.size ≤ 1000) (w : World) :
    Calls Tryd.prog 33 #[.string ⟨(stripL A.data.toList).toArray⟩] w fun e w' => e = .returned (match wholeR 0 (stripL A.data.toList) with | some n => .tuple #[.int .i64 n, .bool true] | none => .tuple #[.int .i64 0, .bool false]) ∧ w = w' := by
  have hl : (stripL A.data.toList).length ≤ A.data.toList.length := by
    have : ∀ l : List UInt8, (stripL l).length ≤ l.length := by
      intro l
      induction l with
      | nil => exact Nat.le_refl _
      | cons c r ih =>
        cases r with
        | nil => exact Nat.le_refl _
        | cons d r => unfold stripL; split; exact Nat.le_trans ih (by simp); exact Nat.le_refl _
    exact this _
  have hz : (⟨(stripL A.data.toList).toArray⟩ : ByteArray).size = (stripL A.data.toList).length := by show (stripL A.data.toList).toArray.size = _; simp
  have e1 : A.data.toList.length = A.size := by simp
  have hw := whole_any ⟨(stripL A.data.toList).toArray⟩ w (by omega)
  have hne2 : 0 < (stripL A.data.toList).length := List.length_pos_iff.2 ((stripL_val _).2.2 (by intro h; rw [h] at e1; simp at e1; omega))
  unfold wholeAt wholeV at hw
  rw [List.drop_zero, hz, decide_eq_true hne2] at hw
  exact hw

theorem refOf_some (X : Int) (w : World) (h1 : -4611686018427387904 ≤ X) (h2 : X ≤ 4611686018427387904) : Calls Tryd.prog 35 #[.int .i64 X] w fun e w' => e = .returned (.agg #[.bool true, .int .i64 X]) ∧ w.grownBy w' none := by
  have h := refOf_any w X
  rw [show ofR X = some X from if_pos ⟨h1, h2⟩] at h
  exact h
theorem refOf_none (X : Int) (w : World) (h : ¬ (-4611686018427387904 ≤ X ∧ X ≤ 4611686018427387904)) : Calls Tryd.prog 35 #[.int .i64 X] w fun e w' => e = .returned (.agg #[.bool false, .int .i64 0]) ∧ w.grownBy w' none := by
  have h2 := refOf_any w X
  rw [show ofR X = none from if_neg h] at h2
  exact h2
set_option maxHeartbeats 16000000 in
set_option maxRecDepth 100000 in
theorem refParse_any (s : ByteArray) (w : World) (hs : s.size ≤ 1000) :
    Calls Tryd.prog 14 #[.string s] w fun e w' => e = .returned (parseV s) ∧ w.grownBy w' none := by
  obtain ⟨V, hV⟩ : ∃ V, Hid (parseV s = V) := ⟨_, Lib.hid rfl⟩
  rw [hV.out]
  have hsg : Hid (signedS s = if h : 0 < s.size then ((s[0].toNat : Int) == 45) || ((s[0].toNat : Int) == 43) else false) := Lib.hid rfl
  have hmi : Hid (minusS s = if h : 0 < s.size then ((s[0].toNat : Int) == 45) else false) := Lib.hid rfl
  have hba : Hid (bareS s = if signedS s then s.extract 1 s.size else s) := Lib.hid rfl
  have hpos := Lib.hid (@signed_pos s)
  have hbz := bareS_size s
  have hO : Hid (parseO s = Option.map (fun (m : Nat) => if minusS s then -(m : Int) else (m : Int)) (readS (bareS s))) := Lib.hid rfl
  generalize minusS s = mi at *
  generalize bareS s = t at *
  generalize signedS s = sg at *
  have hc1 : Hid (∀ (i : Nat) (hi : i < t.size), t[i] = 46 → (∀ j (h : j < i), t[j]'(by omega) ≠ 46) → cutA t 46 = t.extract 0 i ∧ cutB t 46 = t.extract (i + 1) t.size ∧ cutD t 46 = true) := Lib.hid (fun i => cut_found (t := t) (i := i))
  have hc2 := Lib.hid (@cut_missed t)
  obtain ⟨lA, lB, lD⟩ := cut_sizes t 46
  have hrd : Hid (readS t = readR (cutA t 46).data.toList (cutB t 46).data.toList (cutD t 46)) := Lib.hid rfl
  generalize cutA t 46 = A at *
  generalize cutB t 46 = B at *
  generalize cutD t 46 = D at *
  go_enter Tryd.func14, Tryd.ntmps14
  go_upto_region 2 with (fail)
  go_cut [23] (fun v wc => v = .bool sg ∧ w.grownBy wc none ∧ Hx wc w.heap.size [.bool false, .int .i64 0] 33)
  case first =>
    have HG : w.grownBy (w.alloc (.cells #[.bool false, .int .i64 0] 33)) none := (by have hb0 := (G.refl w none); (repeat first | with_reducible exact hb0 | with_reducible refine G.drewN ?_ _ | with_reducible refine G.drew ?_ | with_reducible refine G.alloc ?_ _ | with_reducible refine G.set ?_ _ (Or.inr rfl) | (with_reducible refine G.set ?_ _ (Or.inl ?_); rotate_left; focus (first | omega | (simp; done) | (simp; omega)))))
    have hx := Hx.new w #[.bool false, .int .i64 0] 33
    by_cases h0 : 0 < s.size
    · have he := toList_full h0
      have hq : Hid (sg = (((s[0].toNat : Int) == 45) || ((s[0].toNat : Int) == 43))) := Lib.hid (by rw [hsg.out, dif_pos h0])
      cases h1 : ((s[0].toNat : Int) == 45)
      · cases h2 : ((s[0].toNat : Int) == 43)
        · go_wp2_with fail
          go_meet
          exact ⟨by rw [hq.out, h1, h2]; rfl, HG, hx⟩
        · go_wp2_with fail
          go_meet
          exact ⟨by rw [hq.out, h1, h2]; rfl, HG, hx⟩
      · go_wp2_with fail
        go_meet
        exact ⟨by rw [hq.out, h1]; rfl, HG, hx⟩
    · have he := toList_empty h0
      have hq : Hid (sg = false) := Lib.hid (by rw [hsg.out, dif_neg h0])
      go_wp2_with fail
      go_meet
      exact ⟨by rw [hq.out], HG, hx⟩
  case rest =>
    obtain ⟨rfl, HG, hx⟩ := hcut
    go_upto_if 23 with (fail)
    go_cut [0, 4] (fun sv mv wc => sv = .string t ∧ mv = .bool mi ∧ w.grownBy wc none ∧ Hx wc w.heap.size [.bool false, .int .i64 0] 33)
    case first =>
      cases sg
      · have hq : Hid (t = s) := Lib.hid (by rw [hba.out]; rfl)
        have hm : Hid (mi = false) := Lib.hid (by
          rw [hmi.out]
          split
          · rename_i h0
            have := hsg.out
            rw [dif_pos h0] at this
            cases h1 : ((s[0].toNat : Int) == 45)
            · rfl
            · rw [h1] at this; cases this
          · rfl)
        go_wp2_with fail
        go_meet
        exact ⟨by rw [hq.out], by rw [hm.out], HG, hx⟩
      · have h0 := hpos.out rfl
        have hq : Hid (t = s.extract 1 s.size) := Lib.hid (by rw [hba.out]; rfl)
        have hm : Hid (mi = ((s[0].toNat : Int) == 45)) := Lib.hid (by rw [hmi.out, dif_pos h0])
        go_wp2_with fail
        go_meet
        exact ⟨by rw [hq.out], by rw [hm.out], HG, hx⟩
    case rest =>
      obtain ⟨rfl, rfl, HG, hx⟩ := hcut
      have hts : t.size ≤ 1000 := by omega
      go_upto_block 0 with (fail)
      go_cut [5, 6, 7] (fun av bv dv wc => av = .string A ∧ bv = .string B ∧ dv = .bool D ∧ w.grownBy wc none ∧ Hx wc w.heap.size [.bool false, .int .i64 0] 33)
      case first =>
        go_wp2_with fail
        go_loopw [5, 6, 7, 8] (fun av bv dv iv wr => ∃ i : Nat, av = .string t ∧ bv = .string ⟨#[]⟩ ∧ dv = .bool false ∧ iv = .int .i64 i ∧ i ≤ t.size ∧ w.grownBy wr none ∧ Hx wr w.heap.size [.bool false, .int .i64 0] 33 ∧ Hid (∀ j (h : j < i) (h2 : j < t.size), t[j] ≠ 46)) (fun _ _ _ iv _ => t.size - (intOf iv).toNat)
        case atStart => exact ⟨0, rfl, rfl, rfl, rfl, by omega, HG, hx, Lib.hid (fun j h => by omega)⟩
        case round =>
          obtain ⟨i, rfl, rfl, rfl, rfl, hi, HG, hx, HN⟩ := hrel
          by_cases hlt : i < t.size
          · by_cases hc : t[i] = 46
            · have hb : ((t[i].toNat : Int) == 46) = true := by rw [hc]; rfl
              have hcc := Lib.hid (hc1.out i hlt hc (fun j h => HN.out j h (by omega)))
              clear hc
              have i0 : (0 : Int) ≤ (i : Int) := by omega
              have i1 : (i : Int) < (t.size : Int) := by omega
              go_wp2_with fail
              go_quiet (fail)
              go_wp2_with fail
              go_meet
              obtain ⟨e1, e2, e3⟩ := hcc.out
              exact ⟨by rw [e1], by rw [e2], by rw [e3], (by exact G.go HG), (by first | exact Hx.go hx | exact Hx.go2)⟩
            · have hb : ((t[i].toNat : Int) == 46) = false := by
                rw [beq_eq_false_iff_ne]; intro h; exact hc (UInt8.toNat_inj.mp (by show t[i].toNat = 46; omega))
              have HC := Lib.hid hc; clear hc
              go_wp2_with fail
              refine ⟨⟨i + 1, rfl, rfl, rfl, by go_num, by omega, HG, hx, Lib.hid (fun j h h2 => ?_)⟩, by simp [intOf]; omega⟩
              by_cases hj : j < i
              · exact HN.out j hj h2
              · obtain rfl : j = i := by omega
                exact HC.out
          · have hcc := Lib.hid (hc2.out (fun j h => HN.out j (by omega) h))
            go_wp2_with fail
            go_meet
            obtain ⟨e1, e2, e3⟩ := hcc.out
            exact ⟨by rw [e1], by rw [e2], by rw [e3], (by exact G.go HG), (by first | exact Hx.go hx | exact Hx.go2)⟩
      case rest =>
        obtain ⟨rfl, rfl, rfl, HG, hx⟩ := hcut
        clear hc1 hc2
        have HA := Lib.hid (fun w => all_any A w (by omega))
        have HB := Lib.hid (fun w => all_any B w (by omega))
        rw [allAt_zero, pos_list] at HA HB
        obtain ⟨okA, hA⟩ : ∃ okA, (A.data.toList.all isD && !A.data.toList.isEmpty) = okA := ⟨_, rfl⟩
        obtain ⟨okB, hB⟩ : ∃ okB, (B.data.toList.all isD && !B.data.toList.isEmpty) = okB := ⟨_, rfl⟩
        have hbad := @read_bad A.data.toList B.data.toList D
        have hgood := @read_some A.data.toList B.data.toList D
        rw [hA, hB] at hbad hgood
        rw [hA] at HA
        rw [hB] at HB
        have hbad' := Lib.hid hbad; clear hbad
        have hgood' := Lib.hid hgood; clear hgood
        have hA' := Lib.hid hA; clear hA
        have hB' := Lib.hid hB; clear hB
        have lD' := Lib.hid lD; clear lD
        have x0 := hx.cell 0; have x1 := hx.cell 1; have x2 := hx.free 0; have x3 := hx.free 1; have x4 := hx.lt
        have hOn : Hid (readS t = none → parseO s = none) := Lib.hid (fun h => by rw [hO.out, h]; rfl)
        have hVn : Hid (parseO s = none → V = .tuple #[.agg #[.bool false, .int .i64 0], .bool false]) := Lib.hid (fun h => by rw [← hV.out, parseV, h]; rfl)
        cases okA
        · have hfin : Hid (V = .tuple #[.agg #[.bool false, .int .i64 0], .bool false]) := Lib.hid (hVn.out (hOn.out (by rw [hrd.out]; exact hbad'.out rfl)))
          go_wp2_with (first | (go_at_call 32; refine (HA.out _).mono ?_; rintro e wn ⟨rfl, rfl⟩))
          refine ret_cell_tmp (valC none) w.heap.size 33 rfl rfl (Tryd.isAgg33 _) (Tryd.sizeOf33 _) rfl ?_ ?_
          · exact (by first | exact Hx.go hx | exact Hx.go2)
          · exact ⟨by rw [hfin.out]; rfl, (by exact G.go HG)⟩
        have hA2 := hA'.out
        simp only [Bool.and_eq_true] at hA2
        have dA : A.data.toList.all isD = true := hA2.1
        have neA : 0 < A.size := by
          have h2 := hA2.2
          have e : A.data.toList.length = A.size := by simp
          cases hl : A.data.toList with
          | nil => rw [hl] at h2; simp at h2
          | cons c r => rw [hl, List.length_cons] at e; omega
        clear hA2
        have HS := Lib.hid (fun w => strip_any A w (by omega))
        have HW := Lib.hid (fun w => refStrip_whole dA neA (by omega) w)
        cases D
        · have hE := Lib.hid (lD'.out rfl)
          have dB : B.data.toList.all isD = true := by rw [hE.out]; rfl
          have hrdT : Hid (readS t = if valF 0 A.data.toList * 1000000 + fracR B.data.toList ≤ topN then some (valF 0 A.data.toList * 1000000 + fracR B.data.toList) else none) := Lib.hid (by rw [hrd.out]; exact hgood'.out rfl rfl)
          have hF1 : fracR B.data.toList ≤ 1000000 := by have := fracV_lt B.data.toList dB 6; have := upV_le B.data.toList; unfold fracR; omega
          have HF := Lib.hid (fun w => fraction_any B w (by omega) (digits_at dB))
          have hsp := wholeR_spec (stripL A.data.toList) 0 ((stripL_val A.data.toList).2.1 dA)
          rw [(stripL_val A.data.toList).1] at hsp
          generalize valF 0 A.data.toList = N at *
          generalize fracR B.data.toList = F at *
          rcases hsp with hsp | ⟨hsp, hbig⟩
          · rw [hsp] at HW
            have hsp' := Lib.hid hsp; clear hsp
            by_cases hN : (N : Int) ≤ 4611686018427
            · by_cases hT : (N : Int) * 1000000 + (F : Int) ≤ 4611686018427387904
              · have hTn : Hid (readS t = some (N * 1000000 + F)) := Lib.hid (by rw [hrdT.out, if_pos (by unfold topN; omega)])
                cases mi
                · skip
                  have hfin : Hid (V = .tuple #[.agg #[.bool true, .int .i64 ((N : Int) * 1000000 + (F : Int))], .bool true]) := Lib.hid (by rw [← hV.out, parseV, hO.out, hTn.out]; rfl)
                  have HO := Lib.hid (fun w => refOf_some ((N : Int) * 1000000 + (F : Int)) w (by omega) (by omega))
                  clear dA dB
                  go_wp2_with (first | (go_at_call 32; (with_reducible refine (HA.out _).mono ?_); rintro e wn ⟨rfl, rfl⟩) | (go_at_call 34; refine (HS.out _).mono ?_; rintro e wn ⟨rfl, rfl⟩) | (go_at_call 33; refine (HW.out _).mono ?_; rintro e wn ⟨rfl, rfl⟩) | (go_at_call 36; refine (HF.out _).mono ?_; rintro e wn ⟨rfl, rfl⟩) | (go_at_call 35; (with_reducible refine (HO.out _).mono ?_); rintro e wo ⟨rfl, hgn⟩; have hx2 := Hx.kept hx hgn (by simp); replace HG := G.trans (w := w) (by exact G.go HG) hgn; clear hgn; have y0 := hx2.cell 0; have y1 := hx2.cell 1; have y2 := hx2.free 0; have y3 := hx2.free 1; have y4 := hx2.lt))
                  go_region
                  all_goals
                    go_wp2_with fail
                    refine ret_cell_tmp [.bool true, .int .i64 ((N : Int) * 1000000 + (F : Int))] w.heap.size 33 rfl rfl (Tryd.isAgg33 _) (Tryd.sizeOf33 _) rfl ?_ ?_
                    · exact (by first | exact Hx.go hx2 | exact Hx.go2)
                    · exact ⟨by rw [hfin.out]; rfl, (by exact G.go HG)⟩
                · skip
                  have hfin : Hid (V = .tuple #[.agg #[.bool true, .int .i64 (-((N : Int) * 1000000 + (F : Int)))], .bool true]) := Lib.hid (by rw [← hV.out, parseV, hO.out, hTn.out]; rfl)
                  have HO := Lib.hid (fun w => refOf_some ((N : Int) * 1000000 + (F : Int)) w (by omega) (by omega))
                  have HO2 := Lib.hid (fun w => refOf_some (-((N : Int) * 1000000 + (F : Int))) w (by omega) (by omega))
                  clear dA dB
                  go_wp2_with (first | (go_at_call 32; (with_reducible refine (HA.out _).mono ?_); rintro e wn ⟨rfl, rfl⟩) | (go_at_call 34; refine (HS.out _).mono ?_; rintro e wn ⟨rfl, rfl⟩) | (go_at_call 33; refine (HW.out _).mono ?_; rintro e wn ⟨rfl, rfl⟩) | (go_at_call 36; refine (HF.out _).mono ?_; rintro e wn ⟨rfl, rfl⟩) | (go_at_call 35; (with_reducible refine (HO.out _).mono ?_); rintro e wo ⟨rfl, hgn⟩; have hx2 := Hx.kept hx hgn (by simp); replace HG := G.trans (w := w) (by exact G.go HG) hgn; clear hgn; have y0 := hx2.cell 0; have y1 := hx2.cell 1; have y2 := hx2.free 0; have y3 := hx2.free 1; have y4 := hx2.lt) | (go_at_call 35; (with_reducible refine (HO2.out _).mono ?_); rintro e wq ⟨rfl, hgn⟩; have hx3 := Hx.kept (Hx.alloc hx2 (.cells #[.bool true, .int .i64 ((N : Int) * 1000000 + (F : Int))] 33)) hgn (by simp); have hz3 := Hx.kept (Hx.new wo #[.bool true, .int .i64 ((N : Int) * 1000000 + (F : Int))] 33) hgn (by simp); replace HG := G.trans (w := w) (by exact G.go HG) hgn; clear hgn; have z0 := hx3.cell 0; have z1 := hx3.cell 1; have z2 := hx3.free 0; have z3 := hx3.free 1; have z4 := hx3.lt; have v0 := hz3.cell 0; have v1 := hz3.cell 1; have v2 := hz3.free 0; have v3 := hz3.free 1; have v4 := hz3.lt))
                  go_region
                  all_goals
                    go_wp2_with fail
                    refine ret_cell_tmp [.bool true, .int .i64 (-((N : Int) * 1000000 + (F : Int)))] w.heap.size 33 rfl rfl (Tryd.isAgg33 _) (Tryd.sizeOf33 _) rfl ?_ ?_
                    · exact (by first | exact Hx.go hx3 | exact Hx.go2)
                    · exact ⟨by rw [hfin.out]; rfl, (by exact G.go HG)⟩
              · have hTn : Hid (readS t = none) := Lib.hid (by rw [hrdT.out, if_neg (by unfold topN; omega)])
                cases mi
                · skip
                  have hfin : Hid (V = .tuple #[.agg #[.bool false, .int .i64 0], .bool false]) := Lib.hid (hVn.out (hOn.out hTn.out))
                  have HO := Lib.hid (fun w => refOf_none ((N : Int) * 1000000 + (F : Int)) w (by omega))
                  clear dA dB
                  go_wp2_with (first | (go_at_call 32; (with_reducible refine (HA.out _).mono ?_); rintro e wn ⟨rfl, rfl⟩) | (go_at_call 34; refine (HS.out _).mono ?_; rintro e wn ⟨rfl, rfl⟩) | (go_at_call 33; refine (HW.out _).mono ?_; rintro e wn ⟨rfl, rfl⟩) | (go_at_call 36; refine (HF.out _).mono ?_; rintro e wn ⟨rfl, rfl⟩) | (go_at_call 35; (with_reducible refine (HO.out _).mono ?_); rintro e wo ⟨rfl, hgn⟩; have hx2 := Hx.kept hx hgn (by simp); replace HG := G.trans (w := w) (by exact G.go HG) hgn; clear hgn; have y0 := hx2.cell 0; have y1 := hx2.cell 1; have y2 := hx2.free 0; have y3 := hx2.free 1; have y4 := hx2.lt))
                  go_region
                  all_goals
                    go_wp2_with fail
                    refine ret_cell_tmp [.bool false, .int .i64 0] w.heap.size 33 rfl rfl (Tryd.isAgg33 _) (Tryd.sizeOf33 _) rfl ?_ ?_
                    · exact (by first | exact Hx.go hx2 | exact Hx.go2)
                    · exact ⟨by rw [hfin.out]; rfl, (by exact G.go HG)⟩
                · skip
                  have hfin : Hid (V = .tuple #[.agg #[.bool false, .int .i64 0], .bool false]) := Lib.hid (hVn.out (hOn.out hTn.out))
                  have HO := Lib.hid (fun w => refOf_none ((N : Int) * 1000000 + (F : Int)) w (by omega))
                  have HO2 := Lib.hid (fun w => refOf_none (-((N : Int) * 1000000 + (F : Int))) w (by omega))
                  clear dA dB
                  go_wp2_with (first | (go_at_call 32; (with_reducible refine (HA.out _).mono ?_); rintro e wn ⟨rfl, rfl⟩) | (go_at_call 34; refine (HS.out _).mono ?_; rintro e wn ⟨rfl, rfl⟩) | (go_at_call 33; refine (HW.out _).mono ?_; rintro e wn ⟨rfl, rfl⟩) | (go_at_call 36; refine (HF.out _).mono ?_; rintro e wn ⟨rfl, rfl⟩) | (go_at_call 35; (with_reducible refine (HO.out _).mono ?_); rintro e wo ⟨rfl, hgn⟩; have hx2 := Hx.kept hx hgn (by simp); replace HG := G.trans (w := w) (by exact G.go HG) hgn; clear hgn; have y0 := hx2.cell 0; have y1 := hx2.cell 1; have y2 := hx2.free 0; have y3 := hx2.free 1; have y4 := hx2.lt) | (go_at_call 35; (with_reducible refine (HO2.out _).mono ?_); rintro e wq ⟨rfl, hgn⟩; have hx3 := Hx.kept (Hx.alloc hx2 (.cells #[.bool false, .int .i64 0] 33)) hgn (by simp); have hz3 := Hx.kept (Hx.new wo #[.bool false, .int .i64 0] 33) hgn (by simp); replace HG := G.trans (w := w) (by exact G.go HG) hgn; clear hgn; have z0 := hx3.cell 0; have z1 := hx3.cell 1; have z2 := hx3.free 0; have z3 := hx3.free 1; have z4 := hx3.lt; have v0 := hz3.cell 0; have v1 := hz3.cell 1; have v2 := hz3.free 0; have v3 := hz3.free 1; have v4 := hz3.lt))
                  go_region
                  all_goals
                    go_wp2_with fail
                    refine ret_cell_tmp [.bool false, .int .i64 0] w.heap.size 33 rfl rfl (Tryd.isAgg33 _) (Tryd.sizeOf33 _) rfl ?_ ?_
                    · exact (by first | exact Hx.go hx3 | exact Hx.go2)
                    · exact ⟨by rw [hfin.out]; rfl, (by exact G.go HG)⟩
            · have hfin : Hid (V = .tuple #[.agg #[.bool false, .int .i64 0], .bool false]) := Lib.hid (hVn.out (hOn.out (by rw [hrdT.out, if_neg (by unfold topN; omega)])))
              clear dA dB
              go_wp2_with (first | (go_at_call 32; (with_reducible refine (HA.out _).mono ?_); rintro e wn ⟨rfl, rfl⟩) | (go_at_call 34; refine (HS.out _).mono ?_; rintro e wn ⟨rfl, rfl⟩) | (go_at_call 33; refine (HW.out _).mono ?_; rintro e wn ⟨rfl, rfl⟩))
              refine ret_cell_tmp (valC none) w.heap.size 33 rfl rfl (Tryd.isAgg33 _) (Tryd.sizeOf33 _) rfl ?_ ?_
              · exact (by first | exact Hx.go hx | exact Hx.go2)
              · exact ⟨by rw [hfin.out]; rfl, (by exact G.go HG)⟩
          · have hfin : Hid (V = .tuple #[.agg #[.bool false, .int .i64 0], .bool false]) := Lib.hid (hVn.out (hOn.out (by rw [hrdT.out, if_neg (by unfold topN; omega)])))
            rw [hsp] at HW
            clear dA dB hbig hsp
            go_wp2_with (first | (go_at_call 32; (with_reducible refine (HA.out _).mono ?_); rintro e wn ⟨rfl, rfl⟩) | (go_at_call 34; refine (HS.out _).mono ?_; rintro e wn ⟨rfl, rfl⟩) | (go_at_call 33; refine (HW.out _).mono ?_; rintro e wn ⟨rfl, rfl⟩))
            refine ret_cell_tmp (valC none) w.heap.size 33 rfl rfl (Tryd.isAgg33 _) (Tryd.sizeOf33 _) rfl ?_ ?_
            · exact (by first | exact Hx.go hx | exact Hx.go2)
            · exact ⟨by rw [hfin.out]; rfl, (by exact G.go HG)⟩
        · cases okB
          · have hfin : Hid (V = .tuple #[.agg #[.bool false, .int .i64 0], .bool false]) := Lib.hid (hVn.out (hOn.out (by rw [hrd.out]; exact hbad'.out rfl)))
            clear dA
            go_wp2_with (first | (go_at_call 32; (with_reducible refine (HA.out _).mono ?_); rintro e wn ⟨rfl, rfl⟩) | (go_at_call 32; (with_reducible refine (HB.out _).mono ?_); rintro e wn ⟨rfl, rfl⟩))
            refine ret_cell_tmp (valC none) w.heap.size 33 rfl rfl (Tryd.isAgg33 _) (Tryd.sizeOf33 _) rfl ?_ ?_
            · exact (by first | exact Hx.go hx | exact Hx.go2)
            · exact ⟨by rw [hfin.out]; rfl, (by exact G.go HG)⟩
          · have hB2 := hB'.out
            simp only [Bool.and_eq_true] at hB2
            have dB : B.data.toList.all isD = true := hB2.1
            have hrdT : Hid (readS t = if valF 0 A.data.toList * 1000000 + fracR B.data.toList ≤ topN then some (valF 0 A.data.toList * 1000000 + fracR B.data.toList) else none) := Lib.hid (by rw [hrd.out]; exact hgood'.out rfl rfl)
            have hF1 : fracR B.data.toList ≤ 1000000 := by have := fracV_lt B.data.toList dB 6; have := upV_le B.data.toList; unfold fracR; omega
            have HF := Lib.hid (fun w => fraction_any B w (by omega) (digits_at dB))
            have hsp := wholeR_spec (stripL A.data.toList) 0 ((stripL_val A.data.toList).2.1 dA)
            rw [(stripL_val A.data.toList).1] at hsp
            generalize valF 0 A.data.toList = N at *
            generalize fracR B.data.toList = F at *
            rcases hsp with hsp | ⟨hsp, hbig⟩
            · rw [hsp] at HW
              have hsp' := Lib.hid hsp; clear hsp
              by_cases hN : (N : Int) ≤ 4611686018427
              · by_cases hT : (N : Int) * 1000000 + (F : Int) ≤ 4611686018427387904
                · have hTn : Hid (readS t = some (N * 1000000 + F)) := Lib.hid (by rw [hrdT.out, if_pos (by unfold topN; omega)])
                  cases mi
                  · skip
                    have hfin : Hid (V = .tuple #[.agg #[.bool true, .int .i64 ((N : Int) * 1000000 + (F : Int))], .bool true]) := Lib.hid (by rw [← hV.out, parseV, hO.out, hTn.out]; rfl)
                    have HO := Lib.hid (fun w => refOf_some ((N : Int) * 1000000 + (F : Int)) w (by omega) (by omega))
                    clear dA dB
                    go_wp2_with (first | (go_at_call 32; (with_reducible refine (HA.out _).mono ?_); rintro e wn ⟨rfl, rfl⟩) | (go_at_call 32; (with_reducible refine (HB.out _).mono ?_); rintro e wn ⟨rfl, rfl⟩) | (go_at_call 34; refine (HS.out _).mono ?_; rintro e wn ⟨rfl, rfl⟩) | (go_at_call 33; refine (HW.out _).mono ?_; rintro e wn ⟨rfl, rfl⟩) | (go_at_call 36; refine (HF.out _).mono ?_; rintro e wn ⟨rfl, rfl⟩) | (go_at_call 35; (with_reducible refine (HO.out _).mono ?_); rintro e wo ⟨rfl, hgn⟩; have hx2 := Hx.kept hx hgn (by simp); replace HG := G.trans (w := w) (by exact G.go HG) hgn; clear hgn; have y0 := hx2.cell 0; have y1 := hx2.cell 1; have y2 := hx2.free 0; have y3 := hx2.free 1; have y4 := hx2.lt))
                    go_region
                    all_goals
                      go_wp2_with fail
                      refine ret_cell_tmp [.bool true, .int .i64 ((N : Int) * 1000000 + (F : Int))] w.heap.size 33 rfl rfl (Tryd.isAgg33 _) (Tryd.sizeOf33 _) rfl ?_ ?_
                      · exact (by first | exact Hx.go hx2 | exact Hx.go2)
                      · exact ⟨by rw [hfin.out]; rfl, (by exact G.go HG)⟩
                  · skip
                    have hfin : Hid (V = .tuple #[.agg #[.bool true, .int .i64 (-((N : Int) * 1000000 + (F : Int)))], .bool true]) := Lib.hid (by rw [← hV.out, parseV, hO.out, hTn.out]; rfl)
                    have HO := Lib.hid (fun w => refOf_some ((N : Int) * 1000000 + (F : Int)) w (by omega) (by omega))
                    have HO2 := Lib.hid (fun w => refOf_some (-((N : Int) * 1000000 + (F : Int))) w (by omega) (by omega))
                    clear dA dB
                    go_wp2_with (first | (go_at_call 32; (with_reducible refine (HA.out _).mono ?_); rintro e wn ⟨rfl, rfl⟩) | (go_at_call 32; (with_reducible refine (HB.out _).mono ?_); rintro e wn ⟨rfl, rfl⟩) | (go_at_call 34; refine (HS.out _).mono ?_; rintro e wn ⟨rfl, rfl⟩) | (go_at_call 33; refine (HW.out _).mono ?_; rintro e wn ⟨rfl, rfl⟩) | (go_at_call 36; refine (HF.out _).mono ?_; rintro e wn ⟨rfl, rfl⟩) | (go_at_call 35; (with_reducible refine (HO.out _).mono ?_); rintro e wo ⟨rfl, hgn⟩; have hx2 := Hx.kept hx hgn (by simp); replace HG := G.trans (w := w) (by exact G.go HG) hgn; clear hgn; have y0 := hx2.cell 0; have y1 := hx2.cell 1; have y2 := hx2.free 0; have y3 := hx2.free 1; have y4 := hx2.lt) | (go_at_call 35; (with_reducible refine (HO2.out _).mono ?_); rintro e wq ⟨rfl, hgn⟩; have hx3 := Hx.kept (Hx.alloc hx2 (.cells #[.bool true, .int .i64 ((N : Int) * 1000000 + (F : Int))] 33)) hgn (by simp); have hz3 := Hx.kept (Hx.new wo #[.bool true, .int .i64 ((N : Int) * 1000000 + (F : Int))] 33) hgn (by simp); replace HG := G.trans (w := w) (by exact G.go HG) hgn; clear hgn; have z0 := hx3.cell 0; have z1 := hx3.cell 1; have z2 := hx3.free 0; have z3 := hx3.free 1; have z4 := hx3.lt; have v0 := hz3.cell 0; have v1 := hz3.cell 1; have v2 := hz3.free 0; have v3 := hz3.free 1; have v4 := hz3.lt))
                    go_region
                    all_goals
                      go_wp2_with fail
                      refine ret_cell_tmp [.bool true, .int .i64 (-((N : Int) * 1000000 + (F : Int)))] w.heap.size 33 rfl rfl (Tryd.isAgg33 _) (Tryd.sizeOf33 _) rfl ?_ ?_
                      · exact (by first | exact Hx.go hx3 | exact Hx.go2)
                      · exact ⟨by rw [hfin.out]; rfl, (by exact G.go HG)⟩
                · have hTn : Hid (readS t = none) := Lib.hid (by rw [hrdT.out, if_neg (by unfold topN; omega)])
                  cases mi
                  · skip
                    have hfin : Hid (V = .tuple #[.agg #[.bool false, .int .i64 0], .bool false]) := Lib.hid (hVn.out (hOn.out hTn.out))
                    have HO := Lib.hid (fun w => refOf_none ((N : Int) * 1000000 + (F : Int)) w (by omega))
                    clear dA dB
                    go_wp2_with (first | (go_at_call 32; (with_reducible refine (HA.out _).mono ?_); rintro e wn ⟨rfl, rfl⟩) | (go_at_call 32; (with_reducible refine (HB.out _).mono ?_); rintro e wn ⟨rfl, rfl⟩) | (go_at_call 34; refine (HS.out _).mono ?_; rintro e wn ⟨rfl, rfl⟩) | (go_at_call 33; refine (HW.out _).mono ?_; rintro e wn ⟨rfl, rfl⟩) | (go_at_call 36; refine (HF.out _).mono ?_; rintro e wn ⟨rfl, rfl⟩) | (go_at_call 35; (with_reducible refine (HO.out _).mono ?_); rintro e wo ⟨rfl, hgn⟩; have hx2 := Hx.kept hx hgn (by simp); replace HG := G.trans (w := w) (by exact G.go HG) hgn; clear hgn; have y0 := hx2.cell 0; have y1 := hx2.cell 1; have y2 := hx2.free 0; have y3 := hx2.free 1; have y4 := hx2.lt))
                    go_region
                    all_goals
                      go_wp2_with fail
                      refine ret_cell_tmp [.bool false, .int .i64 0] w.heap.size 33 rfl rfl (Tryd.isAgg33 _) (Tryd.sizeOf33 _) rfl ?_ ?_
                      · exact (by first | exact Hx.go hx2 | exact Hx.go2)
                      · exact ⟨by rw [hfin.out]; rfl, (by exact G.go HG)⟩
                  · skip
                    have hfin : Hid (V = .tuple #[.agg #[.bool false, .int .i64 0], .bool false]) := Lib.hid (hVn.out (hOn.out hTn.out))
                    have HO := Lib.hid (fun w => refOf_none ((N : Int) * 1000000 + (F : Int)) w (by omega))
                    have HO2 := Lib.hid (fun w => refOf_none (-((N : Int) * 1000000 + (F : Int))) w (by omega))
                    clear dA dB
                    go_wp2_with (first | (go_at_call 32; (with_reducible refine (HA.out _).mono ?_); rintro e wn ⟨rfl, rfl⟩) | (go_at_call 32; (with_reducible refine (HB.out _).mono ?_); rintro e wn ⟨rfl, rfl⟩) | (go_at_call 34; refine (HS.out _).mono ?_; rintro e wn ⟨rfl, rfl⟩) | (go_at_call 33; refine (HW.out _).mono ?_; rintro e wn ⟨rfl, rfl⟩) | (go_at_call 36; refine (HF.out _).mono ?_; rintro e wn ⟨rfl, rfl⟩) | (go_at_call 35; (with_reducible refine (HO.out _).mono ?_); rintro e wo ⟨rfl, hgn⟩; have hx2 := Hx.kept hx hgn (by simp); replace HG := G.trans (w := w) (by exact G.go HG) hgn; clear hgn; have y0 := hx2.cell 0; have y1 := hx2.cell 1; have y2 := hx2.free 0; have y3 := hx2.free 1; have y4 := hx2.lt) | (go_at_call 35; (with_reducible refine (HO2.out _).mono ?_); rintro e wq ⟨rfl, hgn⟩; have hx3 := Hx.kept (Hx.alloc hx2 (.cells #[.bool false, .int .i64 0] 33)) hgn (by simp); have hz3 := Hx.kept (Hx.new wo #[.bool false, .int .i64 0] 33) hgn (by simp); replace HG := G.trans (w := w) (by exact G.go HG) hgn; clear hgn; have z0 := hx3.cell 0; have z1 := hx3.cell 1; have z2 := hx3.free 0; have z3 := hx3.free 1; have z4 := hx3.lt; have v0 := hz3.cell 0; have v1 := hz3.cell 1; have v2 := hz3.free 0; have v3 := hz3.free 1; have v4 := hz3.lt))
                    go_region
                    all_goals
                      go_wp2_with fail
                      refine ret_cell_tmp [.bool false, .int .i64 0] w.heap.size 33 rfl rfl (Tryd.isAgg33 _) (Tryd.sizeOf33 _) rfl ?_ ?_
                      · exact (by first | exact Hx.go hx3 | exact Hx.go2)
                      · exact ⟨by rw [hfin.out]; rfl, (by exact G.go HG)⟩
              · have hfin : Hid (V = .tuple #[.agg #[.bool false, .int .i64 0], .bool false]) := Lib.hid (hVn.out (hOn.out (by rw [hrdT.out, if_neg (by unfold topN; omega)])))
                clear dA dB
                go_wp2_with (first | (go_at_call 32; (with_reducible refine (HA.out _).mono ?_); rintro e wn ⟨rfl, rfl⟩) | (go_at_call 32; (with_reducible refine (HB.out _).mono ?_); rintro e wn ⟨rfl, rfl⟩) | (go_at_call 34; refine (HS.out _).mono ?_; rintro e wn ⟨rfl, rfl⟩) | (go_at_call 33; refine (HW.out _).mono ?_; rintro e wn ⟨rfl, rfl⟩))
                refine ret_cell_tmp (valC none) w.heap.size 33 rfl rfl (Tryd.isAgg33 _) (Tryd.sizeOf33 _) rfl ?_ ?_
                · exact (by first | exact Hx.go hx | exact Hx.go2)
                · exact ⟨by rw [hfin.out]; rfl, (by exact G.go HG)⟩
            · have hfin : Hid (V = .tuple #[.agg #[.bool false, .int .i64 0], .bool false]) := Lib.hid (hVn.out (hOn.out (by rw [hrdT.out, if_neg (by unfold topN; omega)])))
              rw [hsp] at HW
              clear dA dB hbig hsp
              go_wp2_with (first | (go_at_call 32; (with_reducible refine (HA.out _).mono ?_); rintro e wn ⟨rfl, rfl⟩) | (go_at_call 32; (with_reducible refine (HB.out _).mono ?_); rintro e wn ⟨rfl, rfl⟩) | (go_at_call 34; refine (HS.out _).mono ?_; rintro e wn ⟨rfl, rfl⟩) | (go_at_call 33; refine (HW.out _).mono ?_; rintro e wn ⟨rfl, rfl⟩))
              refine ret_cell_tmp (valC none) w.heap.size 33 rfl rfl (Tryd.isAgg33 _) (Tryd.sizeOf33 _) rfl ?_ ?_
              · exact (by first | exact Hx.go hx | exact Hx.go2)
              · exact ⟨by rw [hfin.out]; rfl, (by exact G.go HG)⟩
end Go.Proofs.YtjfonckmfafdgaaDoor
