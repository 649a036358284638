/-
  The walks of the four laws on names.
-/
import Derived.Test.YthabgdhfbcfjgaaDoorNamOf
import Derived.Test.YthabgdhfbcfjgaaDoorNamNode
import Derived.Test.YthabgdhfbcfjgaaDoorNamJoin
namespace Go.Proofs.YthabgdhfbcfjgaaDoor
open Go.RowKit
theorem ab_file : fileS ⟨#[97, 46, 98]⟩ = ⟨#[97, 47, 98, 46, 119, 115, 112]⟩ := by decide
theorem abc_node : nodeX ((ptsL (⟨#[97, 46, 98, 46, 99]⟩ : ByteArray).data.toList).map bs) (-1) = ⟨#[99]⟩ := by decide
set_option maxHeartbeats 4000000 in
theorem known8_any (w : World) (hm : MaxLen w) : Calls Tryd.prog 9 #[] w fun e w' => e = .returned (.bool true) ∧ w.grownBy w' none := by
  have HF := Lib.hid (file_any ⟨#[97, 46, 98]⟩ w (by decide) hm)
  rw [ab_file] at HF
  have HN := Lib.hid (fun w hm => node_any ⟨#[97, 46, 98, 46, 99]⟩ (-1) w (by decide) (by decide) (by decide) hm)
  rw [abc_node] at HN
  have HM := Lib.hid hm; clear hm
  have HG := G.refl w none
  go_enter Tryd.func9, Tryd.ntmps9
  go_wp2_with (first | (go_at_call 16; refine (HF.out).mono ?_; rintro e wn ⟨rfl, hgn⟩; replace HG := G.trans (by have hb0 := (HG); (repeat first | with_reducible exact hb0 | with_reducible refine G.drewN ?_ _ | with_reducible refine G.drew ?_ | with_reducible refine G.alloc ?_ _ | with_reducible refine G.set ?_ _ (Or.inr rfl) | (with_reducible refine G.set ?_ _ (Or.inl ?_); rotate_left; focus (first | omega | (simp; done) | (simp; omega))))) hgn; clear hgn) | (go_at_call 8; refine (HN.out _ (HM.out.kept (by have hb0 := (HG); (repeat first | with_reducible exact hb0 | with_reducible refine G.drewN ?_ _ | with_reducible refine G.drew ?_ | with_reducible refine G.alloc ?_ _ | with_reducible refine G.set ?_ _ (Or.inr rfl) | (with_reducible refine G.set ?_ _ (Or.inl ?_); rotate_left; focus (first | omega | (simp; done) | (simp; omega))))))).mono ?_; rintro e wn ⟨rfl, hgn⟩; replace HG := G.trans (by have hb0 := (HG); (repeat first | with_reducible exact hb0 | with_reducible refine G.drewN ?_ _ | with_reducible refine G.drew ?_ | with_reducible refine G.alloc ?_ _ | with_reducible refine G.set ?_ _ (Or.inr rfl) | (with_reducible refine G.set ?_ _ (Or.inl ?_); rotate_left; focus (first | omega | (simp; done) | (simp; omega))))) hgn; clear hgn))
  go_ret
  exact ⟨ret_bool rfl, HG⟩

set_option maxHeartbeats 8000000 in
theorem nameNodes_walk (s : ByteArray) (i : Int) (w : World) (hs : s.size ≤ maxLen) (hi : -9223372036854775808 ≤ i) (hi2 : i ≤ 9223372036854775807) (hm : MaxLen w) :
    Calls Tryd.prog 3 #[.string s, .int .i64 i] w fun e w' => e = .returned (.bool true) ∧ w.grownBy w' none := by
  unfold maxLen at hs
  have HG := G.refl w none
  have HM := Lib.hid hm; clear hm
  by_cases h1 : s.size ≤ 400
  · by_cases h2 : 0 ≤ i
    · by_cases h3 : i ≤ 500
      · have HP := Lib.hid (refParts_any s w (by omega))
        have HN := Lib.hid (fun i w (hi : -9223372036854775808 ≤ i) (hi2 : i ≤ 9223372036854775807) hm => node_any s i w (by omega) hi hi2 hm)
        have HK := Lib.hid known8_any
        have hx := ptsX_len s (by omega)
        generalize (ptsL s.data.toList).map bs = X at *
        obtain ⟨k, rfl⟩ := Int.eq_ofNat_of_zero_le h2
        clear hi hi2 h2
        by_cases h4 : k < X.length
        · have e1 := Lib.hid (nodeX_at h4)
          have e2 := Lib.hid (nodeX_back (X := X) (i := (k : Int) - X.length) (by omega) (k := k) (by omega) h4)
          go_enter Tryd.func3, Tryd.ntmps3
          go_wp2_with (first | (go_at_call 7; refine HP.out.mono ?_; rintro e wn ⟨v, rfl, hrow, hgn⟩; obtain ⟨A, c, rfl, q1, q2, q3⟩ := hrow; clear q1 q2 q3; replace HG := G.trans HG hgn; clear hgn) | (go_at_call 9; refine (HK.out _ (HM.out.kept (by have hb0 := (HG); (repeat first | with_reducible exact hb0 | with_reducible refine G.drewN ?_ _ | with_reducible refine G.drew ?_ | with_reducible refine G.alloc ?_ _ | with_reducible refine G.set ?_ _ (Or.inr rfl) | (with_reducible refine G.set ?_ _ (Or.inl ?_); rotate_left; focus (first | omega | (simp; done) | (simp; omega))))))).mono ?_; rintro e wn ⟨rfl, hgn⟩; replace HG := G.trans (by have hb0 := (HG); (repeat first | with_reducible exact hb0 | with_reducible refine G.drewN ?_ _ | with_reducible refine G.drew ?_ | with_reducible refine G.alloc ?_ _ | with_reducible refine G.set ?_ _ (Or.inr rfl) | (with_reducible refine G.set ?_ _ (Or.inl ?_); rotate_left; focus (first | omega | (simp; done) | (simp; omega))))) hgn; clear hgn) | fail)
          refine (HN.out _ _ (by omega) (by omega) (HM.out.kept (by have hb0 := (HG); (repeat first | with_reducible exact hb0 | with_reducible refine G.drewN ?_ _ | with_reducible refine G.drew ?_ | with_reducible refine G.alloc ?_ _ | with_reducible refine G.set ?_ _ (Or.inr rfl) | (with_reducible refine G.set ?_ _ (Or.inl ?_); rotate_left; focus (first | omega | (simp; done) | (simp; omega))))))).mono ?_
          rw [e1.out]
          rintro e wn ⟨rfl, hgn⟩
          replace HG := G.trans HG hgn; clear hgn
          go_wp2_with (first | (go_at_call 9; refine (HK.out _ (HM.out.kept (by have hb0 := (HG); (repeat first | with_reducible exact hb0 | with_reducible refine G.drewN ?_ _ | with_reducible refine G.drew ?_ | with_reducible refine G.alloc ?_ _ | with_reducible refine G.set ?_ _ (Or.inr rfl) | (with_reducible refine G.set ?_ _ (Or.inl ?_); rotate_left; focus (first | omega | (simp; done) | (simp; omega))))))).mono ?_; rintro e wn ⟨rfl, hgn⟩; replace HG := G.trans (by have hb0 := (HG); (repeat first | with_reducible exact hb0 | with_reducible refine G.drewN ?_ _ | with_reducible refine G.drew ?_ | with_reducible refine G.alloc ?_ _ | with_reducible refine G.set ?_ _ (Or.inr rfl) | (with_reducible refine G.set ?_ _ (Or.inl ?_); rotate_left; focus (first | omega | (simp; done) | (simp; omega))))) hgn; clear hgn) | fail)
          refine (HN.out _ _ (by omega) (by omega) (HM.out.kept (by have hb0 := (HG); (repeat first | with_reducible exact hb0 | with_reducible refine G.drewN ?_ _ | with_reducible refine G.drew ?_ | with_reducible refine G.alloc ?_ _ | with_reducible refine G.set ?_ _ (Or.inr rfl) | (with_reducible refine G.set ?_ _ (Or.inl ?_); rotate_left; focus (first | omega | (simp; done) | (simp; omega))))))).mono ?_
          rw [e2.out]
          rintro e wn ⟨rfl, hgn⟩
          replace HG := G.trans HG hgn; clear hgn
          go_wp2_with (first | (go_at_call 9; refine (HK.out _ (HM.out.kept (by have hb0 := (HG); (repeat first | with_reducible exact hb0 | with_reducible refine G.drewN ?_ _ | with_reducible refine G.drew ?_ | with_reducible refine G.alloc ?_ _ | with_reducible refine G.set ?_ _ (Or.inr rfl) | (with_reducible refine G.set ?_ _ (Or.inl ?_); rotate_left; focus (first | omega | (simp; done) | (simp; omega))))))).mono ?_; rintro e wn ⟨rfl, hgn⟩; replace HG := G.trans (by have hb0 := (HG); (repeat first | with_reducible exact hb0 | with_reducible refine G.drewN ?_ _ | with_reducible refine G.drew ?_ | with_reducible refine G.alloc ?_ _ | with_reducible refine G.set ?_ _ (Or.inr rfl) | (with_reducible refine G.set ?_ _ (Or.inl ?_); rotate_left; focus (first | omega | (simp; done) | (simp; omega))))) hgn; clear hgn) | fail)
          go_ret
          exact ⟨ret_bool rfl, HG⟩
        · have e1 := Lib.hid (nodeX_out (X := X) (i := (k : Int)) (by omega))
          have e2 := Lib.hid (nodeX_neg (X := X) (i := -(k : Int) - 1) (by omega) (by omega))
          go_enter Tryd.func3, Tryd.ntmps3
          go_wp2_with (first | (go_at_call 7; refine HP.out.mono ?_; rintro e wn ⟨v, rfl, hrow, hgn⟩; obtain ⟨A, c, rfl, q1, q2, q3⟩ := hrow; clear q1 q2 q3; replace HG := G.trans HG hgn; clear hgn) | (go_at_call 9; refine (HK.out _ (HM.out.kept (by have hb0 := (HG); (repeat first | with_reducible exact hb0 | with_reducible refine G.drewN ?_ _ | with_reducible refine G.drew ?_ | with_reducible refine G.alloc ?_ _ | with_reducible refine G.set ?_ _ (Or.inr rfl) | (with_reducible refine G.set ?_ _ (Or.inl ?_); rotate_left; focus (first | omega | (simp; done) | (simp; omega))))))).mono ?_; rintro e wn ⟨rfl, hgn⟩; replace HG := G.trans (by have hb0 := (HG); (repeat first | with_reducible exact hb0 | with_reducible refine G.drewN ?_ _ | with_reducible refine G.drew ?_ | with_reducible refine G.alloc ?_ _ | with_reducible refine G.set ?_ _ (Or.inr rfl) | (with_reducible refine G.set ?_ _ (Or.inl ?_); rotate_left; focus (first | omega | (simp; done) | (simp; omega))))) hgn; clear hgn) | fail)
          refine (HN.out _ _ (by omega) (by omega) (HM.out.kept (by have hb0 := (HG); (repeat first | with_reducible exact hb0 | with_reducible refine G.drewN ?_ _ | with_reducible refine G.drew ?_ | with_reducible refine G.alloc ?_ _ | with_reducible refine G.set ?_ _ (Or.inr rfl) | (with_reducible refine G.set ?_ _ (Or.inl ?_); rotate_left; focus (first | omega | (simp; done) | (simp; omega))))))).mono ?_
          rw [e1.out]
          rintro e wn ⟨rfl, hgn⟩
          replace HG := G.trans HG hgn; clear hgn
          go_wp2_with (first | (go_at_call 9; refine (HK.out _ (HM.out.kept (by have hb0 := (HG); (repeat first | with_reducible exact hb0 | with_reducible refine G.drewN ?_ _ | with_reducible refine G.drew ?_ | with_reducible refine G.alloc ?_ _ | with_reducible refine G.set ?_ _ (Or.inr rfl) | (with_reducible refine G.set ?_ _ (Or.inl ?_); rotate_left; focus (first | omega | (simp; done) | (simp; omega))))))).mono ?_; rintro e wn ⟨rfl, hgn⟩; replace HG := G.trans (by have hb0 := (HG); (repeat first | with_reducible exact hb0 | with_reducible refine G.drewN ?_ _ | with_reducible refine G.drew ?_ | with_reducible refine G.alloc ?_ _ | with_reducible refine G.set ?_ _ (Or.inr rfl) | (with_reducible refine G.set ?_ _ (Or.inl ?_); rotate_left; focus (first | omega | (simp; done) | (simp; omega))))) hgn; clear hgn) | fail)
          refine (HN.out _ _ (by omega) (by omega) (HM.out.kept (by have hb0 := (HG); (repeat first | with_reducible exact hb0 | with_reducible refine G.drewN ?_ _ | with_reducible refine G.drew ?_ | with_reducible refine G.alloc ?_ _ | with_reducible refine G.set ?_ _ (Or.inr rfl) | (with_reducible refine G.set ?_ _ (Or.inl ?_); rotate_left; focus (first | omega | (simp; done) | (simp; omega))))))).mono ?_
          rw [e2.out]
          rintro e wn ⟨rfl, hgn⟩
          replace HG := G.trans HG hgn; clear hgn
          go_wp2_with (first | (go_at_call 9; refine (HK.out _ (HM.out.kept (by have hb0 := (HG); (repeat first | with_reducible exact hb0 | with_reducible refine G.drewN ?_ _ | with_reducible refine G.drew ?_ | with_reducible refine G.alloc ?_ _ | with_reducible refine G.set ?_ _ (Or.inr rfl) | (with_reducible refine G.set ?_ _ (Or.inl ?_); rotate_left; focus (first | omega | (simp; done) | (simp; omega))))))).mono ?_; rintro e wn ⟨rfl, hgn⟩; replace HG := G.trans (by have hb0 := (HG); (repeat first | with_reducible exact hb0 | with_reducible refine G.drewN ?_ _ | with_reducible refine G.drew ?_ | with_reducible refine G.alloc ?_ _ | with_reducible refine G.set ?_ _ (Or.inr rfl) | (with_reducible refine G.set ?_ _ (Or.inl ?_); rotate_left; focus (first | omega | (simp; done) | (simp; omega))))) hgn; clear hgn) | fail)
          go_ret
          exact ⟨ret_bool rfl, HG⟩
      · go_enter Tryd.func3, Tryd.ntmps3
        go_wp2_with fail
        go_ret
        exact ⟨ret_bool rfl, HG⟩
    · go_enter Tryd.func3, Tryd.ntmps3
      go_wp2_with fail
      go_ret
      exact ⟨ret_bool rfl, HG⟩
  · go_enter Tryd.func3, Tryd.ntmps3
    go_wp2_with fail
    go_ret
    exact ⟨ret_bool rfl, HG⟩
theorem join_pcs : ∀ (s cur : List UInt8), Lib.join (pcs cur s) [46] = cur ++ s := by
  intro s
  induction s with
  | nil => intro cur; rw [pcs_nil, Lib.join_one, List.append_nil]
  | cons c r ih =>
    intro cur
    rw [pcs_cons]
    by_cases h : c = 46
    · rw [if_pos h, Lib.join_cons]
      have h2 := ih []
      rcases hp : pcs [] r with _ | ⟨y, ys⟩
      · exact absurd hp (pcs_ne _ _)
      · rw [hp, Lib.join_cons] at h2
        subst h
        have e : Lib.joinTail [46] (y :: ys) = 46 :: (y ++ Lib.joinTail [46] ys) := by simp [Lib.joinTail]
        rw [e, h2]
        rfl
    · rw [if_neg h, ih, List.append_assoc]; rfl
theorem map_bs (L : List (List UInt8)) : (L.map bs).map (·.data.toList) = L := by
  induction L with
  | nil => rfl
  | cons x L ih => rw [List.map_cons, List.map_cons, ih]; rfl
theorem joinX_pts (s : ByteArray) : joinX ((ptsL s.data.toList).map bs) = s := by
  unfold joinX ptsL
  rw [map_bs, join_pcs]
  rfl
set_option maxHeartbeats 8000000 in
theorem nameParts_walk (s : ByteArray) (i : Int) (w : World) (hs : s.size ≤ maxLen) (hi : -9223372036854775808 ≤ i) (hi2 : i ≤ 9223372036854775807) (hm : MaxLen w) :
    Calls Tryd.prog 6 #[.string s, .int .i64 i] w fun e w' => e = .returned (.bool true) ∧ w.grownBy w' none := by
  unfold maxLen at hs
  have HG := G.refl w none
  have HM := Lib.hid hm; clear hm
  by_cases h1 : s.size ≤ 400
  · have HP := Lib.hid (fun w hm => parts_any s w (by omega) hm)
    have HQ := Lib.hid (fun w => refParts_any s w (by omega))
    have HI := Lib.hid (fun w hm => nameIs_any s w (by omega) hm)
    have HJ := Lib.hid (fun w => refIs_any s w (by omega))
    have HN := Lib.hid (fun w hm => node_any s i w (by omega) hi hi2 hm)
    have HO := Lib.hid (fun w => refNode_any s i w (by omega) hi hi2)
    have HK := Lib.hid known8_any
    have hx := ptsX_len s (by omega)
    have hj := Lib.hid (joinX_pts s)
    have hjl : Hid ((Lib.join (((ptsL s.data.toList).map bs).map (·.data.toList)) [46]).length ≤ 140737488355328) := Lib.hid (by
      have := congrArg (·.data.toList.length) (joinX_pts s)
      simp only [joinX] at this
      rw [this]
      have e1 : s.data.toList.length = s.size := by simp
      omega)
    generalize (ptsL s.data.toList).map bs = X at *
    have HT := Lib.hid (fun v1 v2 w h1 h2 => texts_any v1 v2 X X w h1 h2)
    go_enter Tryd.func6, Tryd.ntmps6
    go_wp2_with fail
    refine (HP.out _ (HM.out.kept (by have hb0 := (HG); (repeat first | with_reducible exact hb0 | with_reducible refine G.drewN ?_ _ | with_reducible refine G.drew ?_ | with_reducible refine G.alloc ?_ _ | with_reducible refine G.set ?_ _ (Or.inr rfl) | (with_reducible refine G.set ?_ _ (Or.inl ?_); rotate_left; focus (first | omega | (simp; done) | (simp; omega))))))).mono ?_
    rintro e wn ⟨v1, rfl, hrow1, hgn⟩
    replace HG := G.trans (by have hb0 := (HG); (repeat first | with_reducible exact hb0 | with_reducible refine G.drewN ?_ _ | with_reducible refine G.drew ?_ | with_reducible refine G.alloc ?_ _ | with_reducible refine G.set ?_ _ (Or.inr rfl) | (with_reducible refine G.set ?_ _ (Or.inl ?_); rotate_left; focus (first | omega | (simp; done) | (simp; omega))))) hgn; clear hgn
    go_wp2_with (first | (go_at_call 19; refine (HI.out _ (HM.out.kept (by have hb0 := (HG); (repeat first | with_reducible exact hb0 | with_reducible refine G.drewN ?_ _ | with_reducible refine G.drew ?_ | with_reducible refine G.alloc ?_ _ | with_reducible refine G.set ?_ _ (Or.inr rfl) | (with_reducible refine G.set ?_ _ (Or.inl ?_); rotate_left; focus (first | omega | (simp; done) | (simp; omega))))))).mono ?_; rintro e wn ⟨rfl, hgn⟩; replace HG := G.trans (by have hb0 := (HG); (repeat first | with_reducible exact hb0 | with_reducible refine G.drewN ?_ _ | with_reducible refine G.drew ?_ | with_reducible refine G.alloc ?_ _ | with_reducible refine G.set ?_ _ (Or.inr rfl) | (with_reducible refine G.set ?_ _ (Or.inl ?_); rotate_left; focus (first | omega | (simp; done) | (simp; omega))))) hgn; replace hrow1 := ERow.kept0 hrow1 hgn; clear hgn) | (go_at_call 18; refine (HJ.out _).mono ?_; rintro e wn ⟨rfl, hgn⟩; replace HG := G.trans (by have hb0 := (HG); (repeat first | with_reducible exact hb0 | with_reducible refine G.drewN ?_ _ | with_reducible refine G.drew ?_ | with_reducible refine G.alloc ?_ _ | with_reducible refine G.set ?_ _ (Or.inr rfl) | (with_reducible refine G.set ?_ _ (Or.inl ?_); rotate_left; focus (first | omega | (simp; done) | (simp; omega))))) hgn; replace hrow1 := ERow.kept0 hrow1 hgn; clear hgn) | (go_at_call 7; refine (HQ.out _).mono ?_; rintro e wn ⟨v2, rfl, hrow2, hgn⟩; replace HG := G.trans (by have hb0 := (HG); (repeat first | with_reducible exact hb0 | with_reducible refine G.drewN ?_ _ | with_reducible refine G.drew ?_ | with_reducible refine G.alloc ?_ _ | with_reducible refine G.set ?_ _ (Or.inr rfl) | (with_reducible refine G.set ?_ _ (Or.inl ?_); rotate_left; focus (first | omega | (simp; done) | (simp; omega))))) hgn; replace hrow1 := ERow.kept0 hrow1 hgn; clear hgn) | (go_at_call 12; refine (HT.out _ _ _ hrow1 hrow2).mono ?_; rintro e wn ⟨rfl, hgn⟩; replace HG := G.trans (by have hb0 := (HG); (repeat first | with_reducible exact hb0 | with_reducible refine G.drewN ?_ _ | with_reducible refine G.drew ?_ | with_reducible refine G.alloc ?_ _ | with_reducible refine G.set ?_ _ (Or.inr rfl) | (with_reducible refine G.set ?_ _ (Or.inl ?_); rotate_left; focus (first | omega | (simp; done) | (simp; omega))))) hgn; replace hrow1 := ERow.kept0 hrow1 hgn; clear hgn) | (go_at_call 10; refine (join_any _ _ _ hrow1 hjl.out (by omega)).mono ?_; rw [hj.out]; rintro e wn ⟨rfl, hgn⟩; replace HG := G.trans (by have hb0 := (HG); (repeat first | with_reducible exact hb0 | with_reducible refine G.drewN ?_ _ | with_reducible refine G.drew ?_ | with_reducible refine G.alloc ?_ _ | with_reducible refine G.set ?_ _ (Or.inr rfl) | (with_reducible refine G.set ?_ _ (Or.inl ?_); rotate_left; focus (first | omega | (simp; done) | (simp; omega))))) hgn; clear hgn) | (go_at_call 8; refine (HN.out _ (HM.out.kept (by have hb0 := (HG); (repeat first | with_reducible exact hb0 | with_reducible refine G.drewN ?_ _ | with_reducible refine G.drew ?_ | with_reducible refine G.alloc ?_ _ | with_reducible refine G.set ?_ _ (Or.inr rfl) | (with_reducible refine G.set ?_ _ (Or.inl ?_); rotate_left; focus (first | omega | (simp; done) | (simp; omega))))))).mono ?_; rintro e wn ⟨rfl, hgn⟩; replace HG := G.trans (by have hb0 := (HG); (repeat first | with_reducible exact hb0 | with_reducible refine G.drewN ?_ _ | with_reducible refine G.drew ?_ | with_reducible refine G.alloc ?_ _ | with_reducible refine G.set ?_ _ (Or.inr rfl) | (with_reducible refine G.set ?_ _ (Or.inl ?_); rotate_left; focus (first | omega | (simp; done) | (simp; omega))))) hgn; clear hgn) | (go_at_call 20; refine (HO.out _).mono ?_; rintro e wn ⟨rfl, hgn⟩; replace HG := G.trans (by have hb0 := (HG); (repeat first | with_reducible exact hb0 | with_reducible refine G.drewN ?_ _ | with_reducible refine G.drew ?_ | with_reducible refine G.alloc ?_ _ | with_reducible refine G.set ?_ _ (Or.inr rfl) | (with_reducible refine G.set ?_ _ (Or.inl ?_); rotate_left; focus (first | omega | (simp; done) | (simp; omega))))) hgn; clear hgn) | (go_at_call 9; refine (HK.out _ (HM.out.kept (by have hb0 := (HG); (repeat first | with_reducible exact hb0 | with_reducible refine G.drewN ?_ _ | with_reducible refine G.drew ?_ | with_reducible refine G.alloc ?_ _ | with_reducible refine G.set ?_ _ (Or.inr rfl) | (with_reducible refine G.set ?_ _ (Or.inl ?_); rotate_left; focus (first | omega | (simp; done) | (simp; omega))))))).mono ?_; rintro e wn ⟨rfl, hgn⟩; replace HG := G.trans (by have hb0 := (HG); (repeat first | with_reducible exact hb0 | with_reducible refine G.drewN ?_ _ | with_reducible refine G.drew ?_ | with_reducible refine G.alloc ?_ _ | with_reducible refine G.set ?_ _ (Or.inr rfl) | (with_reducible refine G.set ?_ _ (Or.inl ?_); rotate_left; focus (first | omega | (simp; done) | (simp; omega))))) hgn; clear hgn))
    go_ret
    exact ⟨ret_bool rfl, HG⟩
  · go_enter Tryd.func6, Tryd.ntmps6
    go_wp2_with fail
    go_ret
    exact ⟨ret_bool rfl, HG⟩
end Go.Proofs.YthabgdhfbcfjgaaDoor
