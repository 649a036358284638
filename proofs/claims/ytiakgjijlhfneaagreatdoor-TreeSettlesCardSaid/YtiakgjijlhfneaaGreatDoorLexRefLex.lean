/-
  The walk of the reference's Lex: all words of a text.
-/
import Derived.Test.YtiakgjijlhfneaaGreatDoorLexLex
import Derived.Test.YtiakgjijlhfneaaGreatDoorLexIdx
import Derived.Test.YtiakgjijlhfneaaGreatDoorLexRefWord
namespace Go.Proofs.YtiakgjijlhfneaaGreatDoor
open Go.RowKit

theorem info_rtok : (Tryz.prog.info? 71).map (fun i => (i.zero, i.size, i.bytes)) = some (some (.agg #[.int .i64 0, .string ⟨#[]⟩]), 2, 24) := by kernel_rfl

def RRel (s : ByteArray) (w : World) (R : Option (List Tok)) (k : Nat) (lv : Value) (acc : List Tok) (wr : World) : Prop :=
  Below w.heap.size w wr ∧ TokRow 71 wr w.heap.size lv acc ∧ k ≤ s.size ∧ acc.length ≤ k ∧ (lexL s k).map (acc ++ ·) = R
theorem RRel.step {s : ByteArray} {w : World} {R : Option (List Tok)} {k : Nat} {lv : Value} {acc : List Tok} {wr : World} (H : RRel s w R k lv acc wr) (hk : k < s.size) {k' : Nat} {us : List Tok} (hst : lexStep s k s[k] = some (k', us))
    {lv' : Value} {w' : World} (HB : Below w.heap.size w w') (hr : TokRow 71 w' w.heap.size lv' (acc ++ us)) : RRel s w R k' lv' (acc ++ us) w' := by
  have hgt := lexStep_gt hst hk
  have hlen := lexStep_len hst
  have h5 := H.2.2.2.1
  refine ⟨HB, hr, hgt.2, by simp; omega, ?_⟩
  rw [← H.2.2.2.2, lexL_some hk hst, Option.map_map]
  congr 1
  funext l
  simp
theorem RRel.none {s : ByteArray} {w : World} {R : Option (List Tok)} {k : Nat} {lv : Value} {acc : List Tok} {wr : World} (H : RRel s w R k lv acc wr) (hk : k < s.size) (hst : lexStep s k s[k] = Option.none) : R = Option.none := by
  rw [← H.2.2.2.2, lexL_none hk hst]; rfl

set_option maxRecDepth 100000 in
set_option maxHeartbeats 4000000 in
theorem refLex_any (s : ByteArray) (w : World) (hs : s.size ≤ 4096) :
    Calls Tryz.prog 22 #[.string s] w (LexPost 71 w (lexL s 0)) := by
  obtain ⟨R, HR⟩ : ∃ R, Hid (lexL s 0 = R) := ⟨_, Lib.hid rfl⟩
  rw [HR.out]
  go_enter Tryz.func22, Tryz.ntmps22
  go_wp2_with fail
  go_loopw [4, 5] (fun lv iv wr => ∃ (k : Nat) (acc : List Tok), iv = .int .i64 k ∧ RRel s w R k lv acc wr) (fun _ iv _ => s.size - (intOf iv).toNat)
  case atStart =>
    refine ⟨0, [], rfl, Below.refl _ _, TokRow.nil _ _ _, by omega, by simp, ?_⟩
    rw [HR.out]; cases R <;> simp
  case round =>
    obtain ⟨k, acc, rfl, H⟩ := hrel
    clear HR
    have H4 := H.2.2.1
    have H5 := H.2.2.2.1
    have hsz := H.1.size
    have hlow : ∀ c, u4.ownBlock = some c → w.heap.size ≤ c := fun c e => (H.2.1.lt c e).1
    by_cases hk : k < s.size
    · skip
      by_cases n1 : s[k] = 40
      · have hst : Hid (lexStep s k s[k] = some (k + 1, [(3, noText)])) := by show _ = _; simp [lexStep, n1]
        have hcc : (s[k].toNat : Int) = 40 := by rw [n1]; rfl
        go_wp2_with (first | (at_builtin; refine wpList_append_tok rfl _ _ 47 71 rfl Tryz.underlying47 info_rtok w.heap.size u4 acc rfl _ (3, noText) rfl ?_ ?_; rotate_left; exact ⟨(by have hb0 := (H.2.1); (repeat first | with_reducible exact hb0 | with_reducible apply TokRow.drewN | with_reducible apply TokRow.drew | with_reducible apply TokRow.alloc | (with_reducible apply TokRow.set; (case hne => (first | assumption | omega | (simp; done) | (simp; omega)))))), (by have hb0 := (Hx.new wr #[.int .i64 3, .string ⟨#[]⟩] 71); apply Hx.conv; (case h => (repeat first | with_reducible exact hb0 | with_reducible apply Hx.drewN | with_reducible apply Hx.drew | with_reducible apply Hx.set | with_reducible exact Hx.new _ _ _ | (with_reducible apply Hx.new'; (case hl => rfl); (case hb => (first | omega | (simp; done) | (simp; omega)))) | with_reducible apply Hx.alloc | (with_reducible apply Hx.other; (case hne => (first | omega | (simp; done) | (simp; omega)))))); (case e => (first | rfl | (simp; done) | (simp; omega)))), by simp; omega, by omega⟩; intro g' cap' w1 hown' hgrow; have HB1 : Below w.heap.size w w1 := Below.grown (by have hb0 := (H.1); (repeat first | with_reducible exact hb0 | with_reducible refine BelowN ?_ _ | with_reducible refine Below.drew ?_ | (with_reducible refine Below.alloc ?_ ?_ _; rotate_left; focus (first | omega | (simp; done) | (simp; omega))) | (with_reducible refine Below.setCell ?_ ?_ _; rotate_left; focus (first | omega | (simp; done) | (simp; omega))))) hgrow (by simp; omega) hlow))
        go_roundw
        case rel => exact ⟨k + 1, _, by go_num, RRel.step H hk hst.out HB1 hown'⟩
        case measure => simp [intOf]; omega
      by_cases n2 : s[k] = 41
      · have hst : Hid (lexStep s k s[k] = some (k + 1, [(4, noText)])) := by show _ = _; simp [lexStep, n2]
        have hcc : (s[k].toNat : Int) = 41 := by rw [n2]; rfl
        go_wp2_with (first | (at_builtin; refine wpList_append_tok rfl _ _ 47 71 rfl Tryz.underlying47 info_rtok w.heap.size u4 acc rfl _ (4, noText) rfl ?_ ?_; rotate_left; exact ⟨(by have hb0 := (H.2.1); (repeat first | with_reducible exact hb0 | with_reducible apply TokRow.drewN | with_reducible apply TokRow.drew | with_reducible apply TokRow.alloc | (with_reducible apply TokRow.set; (case hne => (first | assumption | omega | (simp; done) | (simp; omega)))))), (by have hb0 := (Hx.new wr #[.int .i64 4, .string ⟨#[]⟩] 71); apply Hx.conv; (case h => (repeat first | with_reducible exact hb0 | with_reducible apply Hx.drewN | with_reducible apply Hx.drew | with_reducible apply Hx.set | with_reducible exact Hx.new _ _ _ | (with_reducible apply Hx.new'; (case hl => rfl); (case hb => (first | omega | (simp; done) | (simp; omega)))) | with_reducible apply Hx.alloc | (with_reducible apply Hx.other; (case hne => (first | omega | (simp; done) | (simp; omega)))))); (case e => (first | rfl | (simp; done) | (simp; omega)))), by simp; omega, by omega⟩; intro g' cap' w1 hown' hgrow; have HB1 : Below w.heap.size w w1 := Below.grown (by have hb0 := (H.1); (repeat first | with_reducible exact hb0 | with_reducible refine BelowN ?_ _ | with_reducible refine Below.drew ?_ | (with_reducible refine Below.alloc ?_ ?_ _; rotate_left; focus (first | omega | (simp; done) | (simp; omega))) | (with_reducible refine Below.setCell ?_ ?_ _; rotate_left; focus (first | omega | (simp; done) | (simp; omega))))) hgrow (by simp; omega) hlow))
        go_roundw
        case rel => exact ⟨k + 1, _, by go_num, RRel.step H hk hst.out HB1 hown'⟩
        case measure => simp [intOf]; omega
      by_cases n3 : s[k] = 44
      · have hst : Hid (lexStep s k s[k] = some (k + 1, [(5, noText)])) := by show _ = _; simp [lexStep, n3]
        have hcc : (s[k].toNat : Int) = 44 := by rw [n3]; rfl
        go_wp2_with (first | (at_builtin; refine wpList_append_tok rfl _ _ 47 71 rfl Tryz.underlying47 info_rtok w.heap.size u4 acc rfl _ (5, noText) rfl ?_ ?_; rotate_left; exact ⟨(by have hb0 := (H.2.1); (repeat first | with_reducible exact hb0 | with_reducible apply TokRow.drewN | with_reducible apply TokRow.drew | with_reducible apply TokRow.alloc | (with_reducible apply TokRow.set; (case hne => (first | assumption | omega | (simp; done) | (simp; omega)))))), (by have hb0 := (Hx.new wr #[.int .i64 5, .string ⟨#[]⟩] 71); apply Hx.conv; (case h => (repeat first | with_reducible exact hb0 | with_reducible apply Hx.drewN | with_reducible apply Hx.drew | with_reducible apply Hx.set | with_reducible exact Hx.new _ _ _ | (with_reducible apply Hx.new'; (case hl => rfl); (case hb => (first | omega | (simp; done) | (simp; omega)))) | with_reducible apply Hx.alloc | (with_reducible apply Hx.other; (case hne => (first | omega | (simp; done) | (simp; omega)))))); (case e => (first | rfl | (simp; done) | (simp; omega)))), by simp; omega, by omega⟩; intro g' cap' w1 hown' hgrow; have HB1 : Below w.heap.size w w1 := Below.grown (by have hb0 := (H.1); (repeat first | with_reducible exact hb0 | with_reducible refine BelowN ?_ _ | with_reducible refine Below.drew ?_ | (with_reducible refine Below.alloc ?_ ?_ _; rotate_left; focus (first | omega | (simp; done) | (simp; omega))) | (with_reducible refine Below.setCell ?_ ?_ _; rotate_left; focus (first | omega | (simp; done) | (simp; omega))))) hgrow (by simp; omega) hlow))
        go_roundw
        case rel => exact ⟨k + 1, _, by go_num, RRel.step H hk hst.out HB1 hown'⟩
        case measure => simp [intOf]; omega
      by_cases n4 : s[k] = 32
      · have hst : Hid (lexStep s k s[k] = some (k + 1, [])) := by show _ = _; simp [lexStep, n4]
        have hcc : (s[k].toNat : Int) = 32 := by rw [n4]; rfl
        go_wp2_with fail
        go_roundw
        case rel => exact ⟨k + 1, _, by go_num, RRel.step H hk hst.out H.1 (by rw [List.append_nil]; exact H.2.1)⟩
        case measure => simp [intOf]; omega
      by_cases n5 : s[k] = 9
      · have hst : Hid (lexStep s k s[k] = some (k + 1, [])) := by show _ = _; simp [lexStep, n5]
        have hcc : (s[k].toNat : Int) = 9 := by rw [n5]; rfl
        go_wp2_with fail
        go_roundw
        case rel => exact ⟨k + 1, _, by go_num, RRel.step H hk hst.out H.1 (by rw [List.append_nil]; exact H.2.1)⟩
        case measure => simp [intOf]; omega
      by_cases n6 : s[k] = 34
      · have hcc : (s[k].toNat : Int) = 34 := by rw [n6]; rfl
        have hst := Lib.hid (lexStep_quote (s := s) (k := k) (c := s[k]) (Or.inl n6))
        obtain ⟨n, HN⟩ : ∃ n, Hid (Lib.indexByte (s.data.toList.drop (k + 1)) s[k] = n) := ⟨_, Lib.hid rfl⟩
        have HN0 : Hid (idxFrom s s[k] (k + 1) (k + 1) = n) := Lib.hid ((idxFrom_start _ _ _).trans HN.out)
        go_wp2_with fail
        go_loop [8] (fun jv => ∃ j : Nat, jv = .int .i64 j ∧ k + 1 ≤ j ∧ j ≤ s.size ∧ Hid (idxFrom s s[k] j (k + 1) = n)) (fun jv => s.size - (intOf jv).toNat)
        case atStart => exact ⟨k + 1, by go_num, by omega, by omega, HN0⟩
        case round =>
          obtain ⟨j, rfl, hj1, hj2, HJ⟩ := hrel
          clear HN0
          by_cases hj : j < s.size
          · by_cases hjc : s[j] = s[k]
            · have hjb : ((s[j].toNat : Int) != 34) = false := by rw [hjc]; simp [hcc]
              have hjs : ((j : Int) == (s.size : Int)) = false := by simp; omega
              have hn0 : n = (j : Int) - ((k + 1 : Nat) : Int) := HJ.out.symm.trans (idxFrom_hit hj hjc)
              have hst2 : Hid (lexStep s k s[k] = some (j + 1, [(2, s.extract (k + 1) j)])) := by
                show _ = _
                rw [hst.out, HN.out, if_neg (by omega), show k + 1 + n.toNat = j from by omega]
              clear hjc hn0
              go_wp2_with (at_builtin; refine wpList_append_tok rfl _ _ 47 71 rfl Tryz.underlying47 info_rtok w.heap.size u4 acc rfl _ (2, s.extract (k + 1) j) rfl ?_ ?_; rotate_left; exact ⟨(by have hb0 := (H.2.1); (repeat first | with_reducible exact hb0 | with_reducible apply TokRow.drewN | with_reducible apply TokRow.drew | with_reducible apply TokRow.alloc | (with_reducible apply TokRow.set; (case hne => (first | assumption | omega | (simp; done) | (simp; omega)))))), (by have hb0 := (Hx.new wr #[.int .i64 2, .string (s.extract (k + 1) j)] 71); apply Hx.conv; (case h => (repeat first | with_reducible exact hb0 | with_reducible apply Hx.drewN | with_reducible apply Hx.drew | with_reducible apply Hx.set | with_reducible exact Hx.new _ _ _ | (with_reducible apply Hx.new'; (case hl => rfl); (case hb => (first | omega | (simp; done) | (simp; omega)))) | with_reducible apply Hx.alloc | (with_reducible apply Hx.other; (case hne => (first | omega | (simp; done) | (simp; omega)))))); (case e => (first | rfl | (simp; done) | (simp; omega)))), by simp; omega, by omega⟩; intro g' cap' w1 hown' hgrow; have HB1 : Below w.heap.size w w1 := Below.grown (by have hb0 := (H.1); (repeat first | with_reducible exact hb0 | with_reducible refine BelowN ?_ _ | with_reducible refine Below.drew ?_ | (with_reducible refine Below.alloc ?_ ?_ _; rotate_left; focus (first | omega | (simp; done) | (simp; omega))) | (with_reducible refine Below.setCell ?_ ?_ _; rotate_left; focus (first | omega | (simp; done) | (simp; omega))))) hgrow (by simp; omega) hlow)
              go_roundw
              case rel => exact ⟨j + 1, _, by go_num, RRel.step H hk hst2.out HB1 hown'⟩
              case measure => simp [intOf]; omega
            · have hjb : ((s[j].toNat : Int) != 34) = true := by
                rw [← hcc, bne, u8beq]; simpa using hjc
              have HJ' : Hid (idxFrom s s[k] (j + 1) (k + 1) = n) := Lib.hid ((idxFrom_step hj hjc).trans HJ.out)
              clear hjc
              go_wp2_with fail
              go_round
              case rel => exact ⟨j + 1, by go_num, by omega, by omega, HJ'⟩
              case measure => simp [intOf]; omega
          · have hn0 : n = -1 := HJ.out.symm.trans (idxFrom_end hj)
            have hst2 : lexStep s k s[k] = none := by rw [hst.out, HN.out, if_pos (by omega)]
            have HR2 := H.none hk hst2
            have hjs : ((j : Int) == (s.size : Int)) = true := by simp; omega
            clear hst2 hn0
            subst HR2
            go_wp2_with fail
            go_ret2
            exact ⟨H.1, rfl⟩
      by_cases n7 : s[k] = 39
      · have hcc : (s[k].toNat : Int) = 39 := by rw [n7]; rfl
        have hst := Lib.hid (lexStep_quote (s := s) (k := k) (c := s[k]) (Or.inr n7))
        obtain ⟨n, HN⟩ : ∃ n, Hid (Lib.indexByte (s.data.toList.drop (k + 1)) s[k] = n) := ⟨_, Lib.hid rfl⟩
        have HN0 : Hid (idxFrom s s[k] (k + 1) (k + 1) = n) := Lib.hid ((idxFrom_start _ _ _).trans HN.out)
        go_wp2_with fail
        go_loop [8] (fun jv => ∃ j : Nat, jv = .int .i64 j ∧ k + 1 ≤ j ∧ j ≤ s.size ∧ Hid (idxFrom s s[k] j (k + 1) = n)) (fun jv => s.size - (intOf jv).toNat)
        case atStart => exact ⟨k + 1, by go_num, by omega, by omega, HN0⟩
        case round =>
          obtain ⟨j, rfl, hj1, hj2, HJ⟩ := hrel
          clear HN0
          by_cases hj : j < s.size
          · by_cases hjc : s[j] = s[k]
            · have hjb : ((s[j].toNat : Int) != 39) = false := by rw [hjc]; simp [hcc]
              have hjs : ((j : Int) == (s.size : Int)) = false := by simp; omega
              have hn0 : n = (j : Int) - ((k + 1 : Nat) : Int) := HJ.out.symm.trans (idxFrom_hit hj hjc)
              have hst2 : Hid (lexStep s k s[k] = some (j + 1, [(2, s.extract (k + 1) j)])) := by
                show _ = _
                rw [hst.out, HN.out, if_neg (by omega), show k + 1 + n.toNat = j from by omega]
              clear hjc hn0
              go_wp2_with (at_builtin; refine wpList_append_tok rfl _ _ 47 71 rfl Tryz.underlying47 info_rtok w.heap.size u4 acc rfl _ (2, s.extract (k + 1) j) rfl ?_ ?_; rotate_left; exact ⟨(by have hb0 := (H.2.1); (repeat first | with_reducible exact hb0 | with_reducible apply TokRow.drewN | with_reducible apply TokRow.drew | with_reducible apply TokRow.alloc | (with_reducible apply TokRow.set; (case hne => (first | assumption | omega | (simp; done) | (simp; omega)))))), (by have hb0 := (Hx.new wr #[.int .i64 2, .string (s.extract (k + 1) j)] 71); apply Hx.conv; (case h => (repeat first | with_reducible exact hb0 | with_reducible apply Hx.drewN | with_reducible apply Hx.drew | with_reducible apply Hx.set | with_reducible exact Hx.new _ _ _ | (with_reducible apply Hx.new'; (case hl => rfl); (case hb => (first | omega | (simp; done) | (simp; omega)))) | with_reducible apply Hx.alloc | (with_reducible apply Hx.other; (case hne => (first | omega | (simp; done) | (simp; omega)))))); (case e => (first | rfl | (simp; done) | (simp; omega)))), by simp; omega, by omega⟩; intro g' cap' w1 hown' hgrow; have HB1 : Below w.heap.size w w1 := Below.grown (by have hb0 := (H.1); (repeat first | with_reducible exact hb0 | with_reducible refine BelowN ?_ _ | with_reducible refine Below.drew ?_ | (with_reducible refine Below.alloc ?_ ?_ _; rotate_left; focus (first | omega | (simp; done) | (simp; omega))) | (with_reducible refine Below.setCell ?_ ?_ _; rotate_left; focus (first | omega | (simp; done) | (simp; omega))))) hgrow (by simp; omega) hlow)
              go_roundw
              case rel => exact ⟨j + 1, _, by go_num, RRel.step H hk hst2.out HB1 hown'⟩
              case measure => simp [intOf]; omega
            · have hjb : ((s[j].toNat : Int) != 39) = true := by
                rw [← hcc, bne, u8beq]; simpa using hjc
              have HJ' : Hid (idxFrom s s[k] (j + 1) (k + 1) = n) := Lib.hid ((idxFrom_step hj hjc).trans HJ.out)
              clear hjc
              go_wp2_with fail
              go_round
              case rel => exact ⟨j + 1, by go_num, by omega, by omega, HJ'⟩
              case measure => simp [intOf]; omega
          · have hn0 : n = -1 := HJ.out.symm.trans (idxFrom_end hj)
            have hst2 : lexStep s k s[k] = none := by rw [hst.out, HN.out, if_pos (by omega)]
            have HR2 := H.none hk hst2
            have hjs : ((j : Int) == (s.size : Int)) = true := by simp; omega
            clear hst2 hn0
            subst HR2
            go_wp2_with fail
            go_ret2
            exact ⟨H.1, rfl⟩
      have lit : ∀ (a b : UInt8), a ≠ b → ((a.toNat : Int) == (b.toNat : Int)) = false := fun a b h => by rw [u8beq]; simpa using h
      have e40 : ((s[k].toNat : Int) == 40) = false := lit _ 40 n1
      have e41 : ((s[k].toNat : Int) == 41) = false := lit _ 41 n2
      have e44 : ((s[k].toNat : Int) == 44) = false := lit _ 44 n3
      have e32 : ((s[k].toNat : Int) == 32) = false := lit _ 32 n4
      have e09 : ((s[k].toNat : Int) == 9) = false := lit _ 9 n5
      have e34 : ((s[k].toNat : Int) == 34) = false := lit _ 34 n6
      have e39 : ((s[k].toNat : Int) == 39) = false := lit _ 39 n7
      have hst := Lib.hid (lexStep_word (s := s) (k := k) n1 n2 n3 n4 n5 n6 n7)
      clear n1 n2 n3 n4 n5 n6 n7 lit
      have hge : ∀ m d, wEnd (s.data.toList.drop k) 0 k = some (m, d) → m ≤ s.size := fun m d e => by
        have := wEnd_ge e
        have hl : (s.data.toList.drop k).length = s.size - k := by simp
        omega
      obtain ⟨W, HW⟩ : ∃ W, Hid (wEnd (s.data.toList.drop k) 0 k = W) := ⟨_, Lib.hid rfl⟩
      have HC := fun w => HW.out ▸ refWord_any s k w (by omega) (Nat.le_of_lt hk)
      rw [HW.out] at hge
      have HV : wordRes k W = -1 ∨ ∃ m, W = some (m, 0) ∧ k < m ∧ wordRes k W = m := by
        rcases W with _ | ⟨m, d⟩
        · exact Or.inl rfl
        · by_cases hd : d = 0 ∧ k < m
          · obtain ⟨rfl, hm⟩ := hd
            exact Or.inr ⟨m, rfl, hm, by simp [wordRes, hm]⟩
          · exact Or.inl (by simp only [wordRes]; rw [if_neg hd])
      rcases HV with HV | ⟨m, rfl, hm, HV⟩
      · have hst2 : lexStep s k s[k] = none := by
          rw [hst.out, HW.out]
          rcases W with _ | ⟨m, d⟩
          · rfl
          · cases d with
            | zero =>
              have h3 : ¬ k < m := fun h => by simp [wordRes, h] at HV
              simp [h3]
            | succ d => rfl
        have HR2 := H.none hk hst2
        clear hst2 hst HW hge
        subst HR2
        have HC' := Lib.hid HC; clear HC
        have HV' := Lib.hid HV; clear HV
        go_wp2_with (go_at_call 36; refine (HC'.out _).mono ?_; rw [HV'.out]; rintro e w' ⟨rfl, rfl⟩)
        go_ret2
        exact ⟨H.1, rfl⟩
      · have hst2 : Hid (lexStep s k s[k] = some (m, [(1, s.extract k m)])) := by
          show _ = _
          rw [hst.out, HW.out]
          simp [hm]
        have hm2 := hge m 0 rfl
        clear hst HW hge
        have HC' := Lib.hid HC; clear HC
        have HV' := Lib.hid HV; clear HV
        go_wp2_with (first | (go_at_call 36; refine (HC'.out _).mono ?_; rw [HV'.out]; rintro e w' ⟨rfl, rfl⟩) | (at_builtin; refine wpList_append_tok rfl _ _ 47 71 rfl Tryz.underlying47 info_rtok w.heap.size u4 acc rfl _ (1, s.extract k m) rfl ?_ ?_; rotate_left; exact ⟨(by have hb0 := (H.2.1); (repeat first | with_reducible exact hb0 | with_reducible apply TokRow.drewN | with_reducible apply TokRow.drew | with_reducible apply TokRow.alloc | (with_reducible apply TokRow.set; (case hne => (first | assumption | omega | (simp; done) | (simp; omega)))))), (by have hb0 := (Hx.new wr #[.int .i64 1, .string (s.extract k m)] 71); apply Hx.conv; (case h => (repeat first | with_reducible exact hb0 | with_reducible apply Hx.drewN | with_reducible apply Hx.drew | with_reducible apply Hx.set | with_reducible exact Hx.new _ _ _ | (with_reducible apply Hx.new'; (case hl => rfl); (case hb => (first | omega | (simp; done) | (simp; omega)))) | with_reducible apply Hx.alloc | (with_reducible apply Hx.other; (case hne => (first | omega | (simp; done) | (simp; omega)))))); (case e => (first | rfl | (simp; done) | (simp; omega)))), by simp; omega, by omega⟩; intro g' cap' w1 hown' hgrow; have HB1 : Below w.heap.size w w1 := Below.grown (by have hb0 := (H.1); (repeat first | with_reducible exact hb0 | with_reducible refine BelowN ?_ _ | with_reducible refine Below.drew ?_ | (with_reducible refine Below.alloc ?_ ?_ _; rotate_left; focus (first | omega | (simp; done) | (simp; omega))) | (with_reducible refine Below.setCell ?_ ?_ _; rotate_left; focus (first | omega | (simp; done) | (simp; omega))))) hgrow (by simp; omega) hlow))
        go_roundw
        case rel => exact ⟨m, _, rfl, RRel.step H hk hst2.out HB1 hown'⟩
        case measure => simp [intOf]; omega
    · have HR2 : R = some acc := by rw [← H.2.2.2.2, lexL_end hk]; simp
      subst HR2
      go_wp2_with fail
      go_ret2
      exact ⟨H.1, _, rfl, H.2.1⟩
end Go.Proofs.YtiakgjijlhfneaaGreatDoor
