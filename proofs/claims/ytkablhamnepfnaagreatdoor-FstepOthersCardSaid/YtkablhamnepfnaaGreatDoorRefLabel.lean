/-
  The walk of the reference's Label of a function, a series and args.
-/
import Derived.Test.YtkablhamnepfnaaGreatDoorSerLabel
import Derived.Test.YtkablhamnepfnaaGreatDoorSerIs
import Derived.Test.YtkablhamnepfnaaGreatDoorDecB
namespace Go.Proofs.YtkablhamnepfnaaGreatDoor
open Go.RowKit
theorem info_strL : (Tryz.prog.info? 9).map (fun i => (i.zero, i.size, i.bytes)) = some (some strE.zero, strE.k, strE.bytes) := by kernel_rfl
/-- a row that was laid whole -/
theorem EOwn.of_hx {α : Type} {L : Elt α} {E : TypeId} {w : World} {base b : Nat} {ts : List α} {n : Nat} (h : Hx w b (ts.flatMap L.cells) E) (hb : base ≤ b) (hn : ts.length = n) (hm : n ≤ maxLen) : EOwn L E w base (.slice (some ⟨b, 0, none⟩) n n) ts := by
  subst hn
  refine ⟨L.flat_len ts, Or.inr ⟨b, ts.length, _, rfl, hb, h, Nat.le_refl _, hm, ?_, ?_⟩⟩
  · show ((ts.flatMap L.cells).toArray).size = _
    rw [List.size_toArray, L.flat_len]
  · show (ts.flatMap L.cells).take _ = _
    rw [List.take_of_length_le (by rw [L.flat_len]; exact Nat.le_refl _)]
/-- the texts of a label: the series' name, and the args in words -/
def labTexts (nm : ByteArray) (L : List (Bool × Int)) : List ByteArray := nm :: L.map fun p => printV p.1 p.2
theorem labTexts_take {nm : ByteArray} {L : List (Bool × Int)} {i : Nat} (h : i < L.length) : (labTexts nm L).take (i + 2) = (labTexts nm L).take (i + 1) ++ [printV L[i].1 L[i].2] := by
  unfold labTexts
  rw [List.take_succ_cons, List.take_succ_cons, List.take_add_one, List.cons_append]
  congr 1
  simp [h]
theorem labTexts_all {nm : ByteArray} {L : List (Bool × Int)} {i : Nat} (h : L.length ≤ i) : (labTexts nm L).take (i + 1) = labTexts nm L := by
  rw [List.take_of_length_le]
  unfold labTexts
  simp; omega
theorem labTexts_len (nm : ByteArray) (L : List (Bool × Int)) (i : Nat) (h : i ≤ L.length) : ((labTexts nm L).take (i + 1)).length = i + 1 := by
  unfold labTexts
  simp; omega
theorem printV_le (b : Bool) (n : Int) : (printV b n).size ≤ 100 := by
  cases hk : (b && isR b n)
  · rw [printV_none hk]; decide
  · rw [printV_some hk]
    cases b
    · cases hk
    have hb : -4611686018427387904 ≤ n ∧ n ≤ 4611686018427387904 := by simpa [isR] using hk
    rw [Lib.size_mk]
    unfold printL printA
    have h1 := decDigits_len (u := n.natAbs / 1000000) (k := 18) (by omega)
    have h2 := fracD_len (f := n.natAbs % 1000000) (by omega)
    simp only [List.length_append]
    split <;> split <;> simp <;> omega
theorem joinTail_len (X : List (List UInt8)) (c : Nat) (h : ∀ x ∈ X, x.length ≤ c) : (Lib.joinTail [44] X).length ≤ X.length * (c + 1) := by
  induction X with
  | nil => simp [Lib.joinTail]
  | cons x X ih =>
    have h1 := h x (by simp)
    have h2 := ih (fun y hy => h y (by simp [hy]))
    simp [Lib.joinTail, Nat.succ_mul] at h2 ⊢
    omega
theorem joinC_labTexts (nm : ByteArray) (L : List (Bool × Int)) : (joinC (labTexts nm L)).length ≤ nm.size + L.length * 101 := by
  unfold joinC labTexts
  rw [List.map_cons, Lib.join_cons, List.length_append]
  have := joinTail_len ((L.map fun p => printV p.1 p.2).map (·.data.toList)) 100 (fun x hx => by
    obtain ⟨y, hy, rfl⟩ := List.mem_map.1 hx
    obtain ⟨p, _, rfl⟩ := List.mem_map.1 hy
    have := printV_le p.1 p.2
    have e : (printV p.1 p.2).data.size = (printV p.1 p.2).size := rfl
    simp
    omega)
  have e : nm.data.size = nm.size := rfl
  simp at this ⊢
  omega
set_option maxHeartbeats 8000000 in
set_option maxRecDepth 100000 in
theorem refLabel_any (nm : ByteArray) (S : Ser) (sv lv : Value) (L : List (Bool × Int)) (w : World) (h : ERow valE w lv L) (hF : ∀ p ∈ L, -9223372036854775808 ≤ p.2 ∧ p.2 ≤ 9223372036854775807) (h1 : nm.size ≤ 100000) (h2 : S.name.size ≤ 100000) (h3 : L.length ≤ 100) (hsv : sv.oneCell' = true) :
    Calls Tryz.prog 30 #[.string nm, .agg #[.string S.name, .int .i64 S.start, .int .i64 S.step, sv, .int .i64 S.cons], lv] w fun e w' => e = .returned (.string (labelB nm (labTexts S.name L))) ∧ w.grownBy w' none := by
  have HG := G.refl w none
  obtain ⟨A, c, rfl, q1, q2, q3⟩ := h
  have Q3 := Lib.hid q3; clear q3
  have hF2 := Lib.hid hF; clear hF
  have hsc : sv.cells = #[sv] := by cases sv <;> first | rfl | cases hsv
  go_enter Tryz.func30, Tryz.ntmps30
  go_upto_region 1 with (fail)
  go_cut [7] (fun tv wd => w.grownBy wd none ∧ EOwn strE 9 wd w.heap.size tv [S.name])
  case first =>
    go_wp2_with fail
    go_meet
    exact ⟨(by exact G.go HG), by refine EOwn.of_hx (L := strE) (ts := [S.name]) ?_ (by simp) rfl (by decide); exact Hx.new' (by simp) rfl⟩
  obtain ⟨HG, HO⟩ := hcut
  go_wp2_with fail
  go_loopw [7, 8] (fun tv iv wr => ∃ (i : Nat) (ts : List ByteArray), iv = .int .i64 i ∧ i ≤ L.length ∧ Hid (ts = (labTexts S.name L).take (i + 1)) ∧ ts.length ≤ 101 ∧ w.grownBy wr none ∧ EOwn strE 9 wr w.heap.size tv ts) (fun _ iv _ => L.length - (intOf iv).toNat)
  case atStart => exact ⟨0, _, rfl, by omega, Lib.hid rfl, by rw [labTexts_len _ _ _ (by omega)]; omega, HG, HO⟩
  case round =>
    clear HG HO
    obtain ⟨i, ts, rfl, hi, HT, hts, HG, HO⟩ := hrel
    have hsz := HG.size
    by_cases hlt : i < L.length
    · obtain ⟨b, o, rfl, hbl, hc⟩ := Q3.out (by omega)
      obtain ⟨x0, x1⟩ := valCells hc HG hbl hlt
      have hfn := hF2.out L[i] (List.getElem_mem hlt)
      have HP := Lib.hid (fun w => refPrint_any L[i].1 L[i].2 w hfn.1 hfn.2)
      have hst := labTexts_take (nm := S.name) hlt
      have hlen := labTexts_len S.name L i hi
      have HT2 : Hid (ts ++ [printV L[i].1 L[i].2] = (labTexts S.name L).take (i + 1 + 1)) := Lib.hid (by rw [HT.out]; exact hst.symm)
      have htl : ts.length = i + 1 := by rw [HT.out, hlen]
      have hts3 : ts.length ≤ 100 := by omega
      clear hc hst hlen HT hfn htl hts
      generalize printV L[i].1 L[i].2 = pr at *
      generalize L[i].1 = vb at *
      generalize L[i].2 = vn at *
      go_wp2_with (first | (go_at_call 47; (with_reducible refine (HP.out _).mono ?_); rintro e wn ⟨rfl, hgn⟩; replace HO := HO.kept0 hgn; replace HG := G.trans HG hgn; have hsz2 := HG.size; clear hgn) | (at_builtin; refine wpList_append_el strE rfl _ _ 30 9 rfl Tryz.underlying30 info_strL w.heap.size u7 ts rfl _ pr 9 rfl ?_ ?_; rotate_left; exact ⟨(by have hb0 := (HO); (repeat first | with_reducible exact hb0 | with_reducible apply EOwn.drewN | with_reducible apply EOwn.drew | with_reducible apply EOwn.alloc | (with_reducible apply EOwn.set; (case hne => (first | assumption | omega | (simp; done) | (simp; omega)))))), (by have hb0 := (Hx.new wn #[.string pr] 9); apply Hx.conv; (case h => (repeat first | with_reducible exact hb0 | with_reducible apply Hx.drewN | with_reducible apply Hx.drew | with_reducible apply Hx.set | with_reducible exact Hx.new _ _ _ | (with_reducible apply Hx.new'; (case hl => rfl); (case hb => (first | omega | (simp; done) | (simp; omega)))) | with_reducible apply Hx.alloc | (with_reducible apply Hx.other; (case hne => (first | omega | (simp; done) | (simp; omega)))))); (case e => (first | rfl | (simp; done) | (simp; omega)))), by simp; omega, by omega⟩; intro g' cap' w1 hown' hgrow; have HG1 := EOwn.grow (by have hb0 := (HO); (repeat first | with_reducible exact hb0 | with_reducible apply EOwn.drewN | with_reducible apply EOwn.drew | with_reducible apply EOwn.alloc | (with_reducible apply EOwn.set; (case hne => (first | assumption | omega | (simp; done) | (simp; omega)))))) (by exact G.go HG) hgrow))
      refine ⟨?_, by first | (simp [intOf]; done) | (simp [intOf]; omega)⟩
      exact ⟨i + 1, ts ++ [pr], by go_num, by omega, HT2, by simp; omega, HG1, hown'⟩
    · have hts2 : ts = labTexts S.name L := by rw [HT.out, labTexts_all (by omega)]
      have hj := joinC_labTexts S.name L
      have HL := Lib.hid (fun w v h => refLabel18_any nm v ts w h (by rw [hts2]; omega))
      have hfin := Lib.hid hts2
      clear hts2 hj HT
      go_wp2_with (go_at_call 48; (with_reducible refine (HL.out _ _ HO.row).mono ?_); rintro e wn ⟨rfl, rfl⟩)
      go_ret
      exact ⟨ret_string (by rw [hfin.out]), HG⟩
end Go.Proofs.YtkablhamnepfnaaGreatDoor
