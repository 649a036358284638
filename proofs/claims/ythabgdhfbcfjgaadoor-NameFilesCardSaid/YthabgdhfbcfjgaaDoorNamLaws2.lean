/-
  The walks of the laws on files' names and on texts put together.
-/
import Derived.Test.YthabgdhfbcfjgaaDoorNamLaws
namespace Go.Proofs.YthabgdhfbcfjgaaDoor
open Go.RowKit
def ofN (f : ByteArray) : ByteArray := if ofOk f then nameOf f else ⟨#[]⟩
theorem ofV_eq (f : ByteArray) : ofV f = .tuple #[.string (ofN f), .bool (ofOk f)] := by
  unfold ofV ofN
  cases h : ofOk f <;> rfl
theorem ofOk_file {f : ByteArray} (h : ofOk f = true) : fileS (ofN f) = f := by
  unfold ofN
  rw [if_pos h]
  unfold ofOk at h
  simp only [Bool.and_eq_true, decide_eq_true_eq] at h
  exact h.2
theorem mem_pcs : ∀ (s cur : List UInt8) (c : UInt8), c ∈ s → c = 46 ∨ ∃ p ∈ pcs cur s, c ∈ p := by
  have cur_in : ∀ (s cur : List UInt8) (c : UInt8), c ∈ cur → ∃ p ∈ pcs cur s, c ∈ p := by
    intro s
    induction s with
    | nil => intro cur c h; exact ⟨cur, by rw [pcs_nil]; simp, h⟩
    | cons d r ih =>
      intro cur c h
      rw [pcs_cons]
      split
      · exact ⟨cur, by simp, h⟩
      · exact ih _ _ (by simp [h])
  intro s
  induction s with
  | nil => intro cur c h; simp at h
  | cons d r ih =>
    intro cur c h
    rw [pcs_cons]
    by_cases hd : d = 46
    · rw [if_pos hd]
      rcases List.mem_cons.1 h with rfl | h
      · exact Or.inl hd
      · rcases ih [] c h with g | ⟨p, hp, hc⟩
        · exact Or.inl g
        · exact Or.inr ⟨p, by simp [hp], hc⟩
    · rw [if_neg hd]
      rcases List.mem_cons.1 h with rfl | h
      · exact Or.inr (cur_in _ _ _ (by simp))
      · exact ih _ c h
theorem isNm_bytes {s : ByteArray} (h : isNm s = true) : ∀ c ∈ s.data.toList, c ≠ 47 := by
  unfold isNm isNmX okAt at h
  simp only [Bool.and_eq_true, List.drop_zero, List.all_eq_true] at h
  have hall := h.2
  intro c hc e
  subst e
  rcases mem_pcs _ [] _ hc with g | ⟨p, hp, hq⟩
  · exact absurd g (by decide)
  · have := hall (bs p) (List.mem_map.2 ⟨p, hp, rfl⟩)
    unfold okPart nmAt at this
    simp only [Bool.and_eq_true, List.drop_zero, List.all_eq_true] at this
    have := this.2 47 hq
    exact absurd this (by decide)
theorem turn_back {s : ByteArray} (h : ∀ c ∈ s.data.toList, c ≠ 47) : turnS 47 46 (turnS 46 47 s) = s := by
  have : turnL 47 46 (turnL 46 47 s.data.toList) = s.data.toList := by
    unfold turnL
    rw [List.map_map]
    conv => rhs; rw [← List.map_id s.data.toList]
    apply List.map_congr_left
    intro c hc
    have := h c hc
    show turnC 47 46 (turnC 46 47 c) = c
    unfold turnC
    by_cases h1 : c = 46
    · rw [if_pos h1, if_pos rfl, h1]
    · rw [if_neg h1, if_neg this]
  show (⟨(turnL 47 46 (turnL 46 47 s.data.toList)).toArray⟩ : ByteArray) = s
  rw [this]
theorem file_data (s : ByteArray) : (fileS s).data.toList = (turnS 46 47 s).data.toList ++ [46, 119, 115, 112] := by
  unfold fileS; rw [ByteArray.data_append, Array.toList_append]; rfl
theorem file_hasEnd (s : ByteArray) : hasEnd (fileS s) = true := by
  unfold hasEnd Lib.hasSuffix
  rw [file_data, List.isSuffixOf_iff_suffix]
  exact List.suffix_append _ _
theorem file_stem (s : ByteArray) : stem (fileS s) = turnS 46 47 s := by
  unfold stem Lib.trimSuffix
  have h' : Lib.hasSuffix (fileS s).data.toList [46, 119, 115, 112] = true := file_hasEnd s
  rw [if_pos h', file_data]
  apply ByteArray.ext
  apply Array.ext'
  show List.take _ _ = _
  rw [List.length_append, Nat.add_sub_cancel, List.take_left]
theorem file_back {s : ByteArray} (h : isNm s = true) : ofOk (fileS s) = true ∧ ofN (fileS s) = s := by
  have hn : nameOf (fileS s) = s := by unfold nameOf; rw [file_stem, turn_back (isNm_bytes h)]
  have hok : ofOk (fileS s) = true := by unfold ofOk; rw [hn, file_hasEnd, h]; simp
  refine ⟨hok, ?_⟩
  unfold ofN
  rw [if_pos hok, hn]
theorem ofN_size (f : ByteArray) : (ofN f).size ≤ f.size := by
  unfold ofN
  split
  · unfold nameOf; rw [turnS_size]; exact stem_le f
  · exact Nat.zero_le _
set_option maxHeartbeats 8000000 in
theorem nameFiles_walk (s : ByteArray) (w : World) (hs : s.size ≤ maxLen) (hm : MaxLen w) :
    Calls Tryd.prog 5 #[.string s] w fun e w' => e = .returned (.bool true) ∧ w.grownBy w' none := by
  unfold maxLen at hs
  have HG := G.refl w none
  have HM := Lib.hid hm; clear hm
  by_cases h1 : s.size ≤ 400
  · have hfz := fileS_size s
    have hcz := ofN_size (fileS s)
    have HO := Lib.hid (fun w hm => of_any s w (by omega) hm)
    have HO2 := Lib.hid (fun w hm => of_any (fileS s) w (by omega) hm)
    have HR := Lib.hid (fun w => refOf_any s w (by omega))
    have HF := Lib.hid (fun w hm => file_any s w (by omega) hm)
    have HFc := Lib.hid (fun w hm => file_any (ofN (fileS s)) w (by omega) hm)
    have HE := Lib.hid (fun w => refFile_any s w (by omega))
    have HJ := Lib.hid (fun w => refIs_any s w (by omega))
    have HK := Lib.hid known8_any
    rw [ofV_eq] at HO HO2 HR
    clear hfz hcz
    have hb := Lib.hid (@file_back s)
    have hf := Lib.hid (@ofOk_file (fileS s))
    generalize ofN s = a at *
    generalize ofOk s = ok at *
    generalize ofN (fileS s) = c at *
    generalize ofOk (fileS s) = has at *
    generalize isNm s = nm at *
    cases has
    · have hnm : nm = false := by
        cases nm
        · rfl
        · exact absurd (hb.out rfl).1 (by simp)
      subst hnm
      go_enter Tryd.func5, Tryd.ntmps5
      go_wp2_with fail
      refine (HO.out _ (HM.out.kept (by have hb0 := (HG); (repeat first | with_reducible exact hb0 | with_reducible refine G.drewN ?_ _ | with_reducible refine G.drew ?_ | with_reducible refine G.alloc ?_ _ | with_reducible refine G.set ?_ _ (Or.inr rfl) | (with_reducible refine G.set ?_ _ (Or.inl ?_); rotate_left; focus (first | omega | (simp; done) | (simp; omega))))))).mono ?_
      rintro e wn ⟨rfl, hgn⟩
      replace HG := G.trans (by have hb0 := (HG); (repeat first | with_reducible exact hb0 | with_reducible refine G.drewN ?_ _ | with_reducible refine G.drew ?_ | with_reducible refine G.alloc ?_ _ | with_reducible refine G.set ?_ _ (Or.inr rfl) | (with_reducible refine G.set ?_ _ (Or.inl ?_); rotate_left; focus (first | omega | (simp; done) | (simp; omega))))) hgn; clear hgn
      go_wp2_with (first | (go_at_call 15; refine (HR.out _).mono ?_; rintro e wn ⟨rfl, hgn⟩; replace HG := G.trans (by have hb0 := (HG); (repeat first | with_reducible exact hb0 | with_reducible refine G.drewN ?_ _ | with_reducible refine G.drew ?_ | with_reducible refine G.alloc ?_ _ | with_reducible refine G.set ?_ _ (Or.inr rfl) | (with_reducible refine G.set ?_ _ (Or.inl ?_); rotate_left; focus (first | omega | (simp; done) | (simp; omega))))) hgn; clear hgn) | (go_at_call 16; refine (HF.out _ (HM.out.kept (by have hb0 := (HG); (repeat first | with_reducible exact hb0 | with_reducible refine G.drewN ?_ _ | with_reducible refine G.drew ?_ | with_reducible refine G.alloc ?_ _ | with_reducible refine G.set ?_ _ (Or.inr rfl) | (with_reducible refine G.set ?_ _ (Or.inl ?_); rotate_left; focus (first | omega | (simp; done) | (simp; omega))))))).mono ?_; rintro e wn ⟨rfl, hgn⟩; replace HG := G.trans (by have hb0 := (HG); (repeat first | with_reducible exact hb0 | with_reducible refine G.drewN ?_ _ | with_reducible refine G.drew ?_ | with_reducible refine G.alloc ?_ _ | with_reducible refine G.set ?_ _ (Or.inr rfl) | (with_reducible refine G.set ?_ _ (Or.inl ?_); rotate_left; focus (first | omega | (simp; done) | (simp; omega))))) hgn; clear hgn) | fail)
      refine (HO2.out _ (HM.out.kept (by have hb0 := (HG); (repeat first | with_reducible exact hb0 | with_reducible refine G.drewN ?_ _ | with_reducible refine G.drew ?_ | with_reducible refine G.alloc ?_ _ | with_reducible refine G.set ?_ _ (Or.inr rfl) | (with_reducible refine G.set ?_ _ (Or.inl ?_); rotate_left; focus (first | omega | (simp; done) | (simp; omega))))))).mono ?_
      rintro e wn ⟨rfl, hgn⟩
      replace HG := G.trans (by have hb0 := (HG); (repeat first | with_reducible exact hb0 | with_reducible refine G.drewN ?_ _ | with_reducible refine G.drew ?_ | with_reducible refine G.alloc ?_ _ | with_reducible refine G.set ?_ _ (Or.inr rfl) | (with_reducible refine G.set ?_ _ (Or.inl ?_); rotate_left; focus (first | omega | (simp; done) | (simp; omega))))) hgn; clear hgn
      go_wp2_with (first | (go_at_call 17; refine (HE.out _).mono ?_; rintro e wn ⟨rfl, hgn⟩; replace HG := G.trans (by have hb0 := (HG); (repeat first | with_reducible exact hb0 | with_reducible refine G.drewN ?_ _ | with_reducible refine G.drew ?_ | with_reducible refine G.alloc ?_ _ | with_reducible refine G.set ?_ _ (Or.inr rfl) | (with_reducible refine G.set ?_ _ (Or.inl ?_); rotate_left; focus (first | omega | (simp; done) | (simp; omega))))) hgn; clear hgn) | (go_at_call 16; refine (HF.out _ (HM.out.kept (by have hb0 := (HG); (repeat first | with_reducible exact hb0 | with_reducible refine G.drewN ?_ _ | with_reducible refine G.drew ?_ | with_reducible refine G.alloc ?_ _ | with_reducible refine G.set ?_ _ (Or.inr rfl) | (with_reducible refine G.set ?_ _ (Or.inl ?_); rotate_left; focus (first | omega | (simp; done) | (simp; omega))))))).mono ?_; rintro e wn ⟨rfl, hgn⟩; replace HG := G.trans (by have hb0 := (HG); (repeat first | with_reducible exact hb0 | with_reducible refine G.drewN ?_ _ | with_reducible refine G.drew ?_ | with_reducible refine G.alloc ?_ _ | with_reducible refine G.set ?_ _ (Or.inr rfl) | (with_reducible refine G.set ?_ _ (Or.inl ?_); rotate_left; focus (first | omega | (simp; done) | (simp; omega))))) hgn; clear hgn) | (go_at_call 18; refine (HJ.out _).mono ?_; rintro e wn ⟨rfl, hgn⟩; replace HG := G.trans (by have hb0 := (HG); (repeat first | with_reducible exact hb0 | with_reducible refine G.drewN ?_ _ | with_reducible refine G.drew ?_ | with_reducible refine G.alloc ?_ _ | with_reducible refine G.set ?_ _ (Or.inr rfl) | (with_reducible refine G.set ?_ _ (Or.inl ?_); rotate_left; focus (first | omega | (simp; done) | (simp; omega))))) hgn; clear hgn) | (go_at_call 9; refine (HK.out _ (HM.out.kept (by have hb0 := (HG); (repeat first | with_reducible exact hb0 | with_reducible refine G.drewN ?_ _ | with_reducible refine G.drew ?_ | with_reducible refine G.alloc ?_ _ | with_reducible refine G.set ?_ _ (Or.inr rfl) | (with_reducible refine G.set ?_ _ (Or.inl ?_); rotate_left; focus (first | omega | (simp; done) | (simp; omega))))))).mono ?_; rintro e wn ⟨rfl, hgn⟩; replace HG := G.trans (by have hb0 := (HG); (repeat first | with_reducible exact hb0 | with_reducible refine G.drewN ?_ _ | with_reducible refine G.drew ?_ | with_reducible refine G.alloc ?_ _ | with_reducible refine G.set ?_ _ (Or.inr rfl) | (with_reducible refine G.set ?_ _ (Or.inl ?_); rotate_left; focus (first | omega | (simp; done) | (simp; omega))))) hgn; clear hgn) | fail)
      go_ret
      exact ⟨ret_bool rfl, HG⟩
    · have hfc := hf.out rfl
      have eF : ((fileS c).toList == (fileS s).toList) = true := by rw [hfc]; exact beq_self_eq_true _
      have HFC := Lib.hid hfc; clear hfc
      cases nm
      · go_enter Tryd.func5, Tryd.ntmps5
        go_wp2_with fail
        refine (HO.out _ (HM.out.kept (by have hb0 := (HG); (repeat first | with_reducible exact hb0 | with_reducible refine G.drewN ?_ _ | with_reducible refine G.drew ?_ | with_reducible refine G.alloc ?_ _ | with_reducible refine G.set ?_ _ (Or.inr rfl) | (with_reducible refine G.set ?_ _ (Or.inl ?_); rotate_left; focus (first | omega | (simp; done) | (simp; omega))))))).mono ?_
        rintro e wn ⟨rfl, hgn⟩
        replace HG := G.trans (by have hb0 := (HG); (repeat first | with_reducible exact hb0 | with_reducible refine G.drewN ?_ _ | with_reducible refine G.drew ?_ | with_reducible refine G.alloc ?_ _ | with_reducible refine G.set ?_ _ (Or.inr rfl) | (with_reducible refine G.set ?_ _ (Or.inl ?_); rotate_left; focus (first | omega | (simp; done) | (simp; omega))))) hgn; clear hgn
        go_wp2_with (first | (go_at_call 15; refine (HR.out _).mono ?_; rintro e wn ⟨rfl, hgn⟩; replace HG := G.trans (by have hb0 := (HG); (repeat first | with_reducible exact hb0 | with_reducible refine G.drewN ?_ _ | with_reducible refine G.drew ?_ | with_reducible refine G.alloc ?_ _ | with_reducible refine G.set ?_ _ (Or.inr rfl) | (with_reducible refine G.set ?_ _ (Or.inl ?_); rotate_left; focus (first | omega | (simp; done) | (simp; omega))))) hgn; clear hgn) | (go_at_call 16; refine (HF.out _ (HM.out.kept (by have hb0 := (HG); (repeat first | with_reducible exact hb0 | with_reducible refine G.drewN ?_ _ | with_reducible refine G.drew ?_ | with_reducible refine G.alloc ?_ _ | with_reducible refine G.set ?_ _ (Or.inr rfl) | (with_reducible refine G.set ?_ _ (Or.inl ?_); rotate_left; focus (first | omega | (simp; done) | (simp; omega))))))).mono ?_; rintro e wn ⟨rfl, hgn⟩; replace HG := G.trans (by have hb0 := (HG); (repeat first | with_reducible exact hb0 | with_reducible refine G.drewN ?_ _ | with_reducible refine G.drew ?_ | with_reducible refine G.alloc ?_ _ | with_reducible refine G.set ?_ _ (Or.inr rfl) | (with_reducible refine G.set ?_ _ (Or.inl ?_); rotate_left; focus (first | omega | (simp; done) | (simp; omega))))) hgn; clear hgn) | fail)
        refine (HO2.out _ (HM.out.kept (by have hb0 := (HG); (repeat first | with_reducible exact hb0 | with_reducible refine G.drewN ?_ _ | with_reducible refine G.drew ?_ | with_reducible refine G.alloc ?_ _ | with_reducible refine G.set ?_ _ (Or.inr rfl) | (with_reducible refine G.set ?_ _ (Or.inl ?_); rotate_left; focus (first | omega | (simp; done) | (simp; omega))))))).mono ?_
        rintro e wn ⟨rfl, hgn⟩
        replace HG := G.trans (by have hb0 := (HG); (repeat first | with_reducible exact hb0 | with_reducible refine G.drewN ?_ _ | with_reducible refine G.drew ?_ | with_reducible refine G.alloc ?_ _ | with_reducible refine G.set ?_ _ (Or.inr rfl) | (with_reducible refine G.set ?_ _ (Or.inl ?_); rotate_left; focus (first | omega | (simp; done) | (simp; omega))))) hgn; clear hgn
        go_wp2_with (first | (go_at_call_of 16 (Value.string s); refine (HF.out _ (HM.out.kept (by have hb0 := (HG); (repeat first | with_reducible exact hb0 | with_reducible refine G.drewN ?_ _ | with_reducible refine G.drew ?_ | with_reducible refine G.alloc ?_ _ | with_reducible refine G.set ?_ _ (Or.inr rfl) | (with_reducible refine G.set ?_ _ (Or.inl ?_); rotate_left; focus (first | omega | (simp; done) | (simp; omega))))))).mono ?_; rintro e wn ⟨rfl, hgn⟩; replace HG := G.trans (by have hb0 := (HG); (repeat first | with_reducible exact hb0 | with_reducible refine G.drewN ?_ _ | with_reducible refine G.drew ?_ | with_reducible refine G.alloc ?_ _ | with_reducible refine G.set ?_ _ (Or.inr rfl) | (with_reducible refine G.set ?_ _ (Or.inl ?_); rotate_left; focus (first | omega | (simp; done) | (simp; omega))))) hgn; clear hgn) | (go_at_call_of 16 (Value.string c); refine (HFc.out _ (HM.out.kept (by have hb0 := (HG); (repeat first | with_reducible exact hb0 | with_reducible refine G.drewN ?_ _ | with_reducible refine G.drew ?_ | with_reducible refine G.alloc ?_ _ | with_reducible refine G.set ?_ _ (Or.inr rfl) | (with_reducible refine G.set ?_ _ (Or.inl ?_); rotate_left; focus (first | omega | (simp; done) | (simp; omega))))))).mono ?_; rintro e wn ⟨rfl, hgn⟩; replace HG := G.trans (by have hb0 := (HG); (repeat first | with_reducible exact hb0 | with_reducible refine G.drewN ?_ _ | with_reducible refine G.drew ?_ | with_reducible refine G.alloc ?_ _ | with_reducible refine G.set ?_ _ (Or.inr rfl) | (with_reducible refine G.set ?_ _ (Or.inl ?_); rotate_left; focus (first | omega | (simp; done) | (simp; omega))))) hgn; clear hgn) | (go_at_call 17; refine (HE.out _).mono ?_; rintro e wn ⟨rfl, hgn⟩; replace HG := G.trans (by have hb0 := (HG); (repeat first | with_reducible exact hb0 | with_reducible refine G.drewN ?_ _ | with_reducible refine G.drew ?_ | with_reducible refine G.alloc ?_ _ | with_reducible refine G.set ?_ _ (Or.inr rfl) | (with_reducible refine G.set ?_ _ (Or.inl ?_); rotate_left; focus (first | omega | (simp; done) | (simp; omega))))) hgn; clear hgn) | (go_at_call 18; refine (HJ.out _).mono ?_; rintro e wn ⟨rfl, hgn⟩; replace HG := G.trans (by have hb0 := (HG); (repeat first | with_reducible exact hb0 | with_reducible refine G.drewN ?_ _ | with_reducible refine G.drew ?_ | with_reducible refine G.alloc ?_ _ | with_reducible refine G.set ?_ _ (Or.inr rfl) | (with_reducible refine G.set ?_ _ (Or.inl ?_); rotate_left; focus (first | omega | (simp; done) | (simp; omega))))) hgn; clear hgn) | (go_at_call 9; refine (HK.out _ (HM.out.kept (by have hb0 := (HG); (repeat first | with_reducible exact hb0 | with_reducible refine G.drewN ?_ _ | with_reducible refine G.drew ?_ | with_reducible refine G.alloc ?_ _ | with_reducible refine G.set ?_ _ (Or.inr rfl) | (with_reducible refine G.set ?_ _ (Or.inl ?_); rotate_left; focus (first | omega | (simp; done) | (simp; omega))))))).mono ?_; rintro e wn ⟨rfl, hgn⟩; replace HG := G.trans (by have hb0 := (HG); (repeat first | with_reducible exact hb0 | with_reducible refine G.drewN ?_ _ | with_reducible refine G.drew ?_ | with_reducible refine G.alloc ?_ _ | with_reducible refine G.set ?_ _ (Or.inr rfl) | (with_reducible refine G.set ?_ _ (Or.inl ?_); rotate_left; focus (first | omega | (simp; done) | (simp; omega))))) hgn; clear hgn) | fail)
        go_ret
        exact ⟨ret_bool rfl, HG⟩
      · have hcs := (hb.out rfl).2
        have eC : (c.toList == s.toList) = true := by rw [hcs]; exact beq_self_eq_true _
        have HCS := Lib.hid hcs; clear hcs
        go_enter Tryd.func5, Tryd.ntmps5
        go_wp2_with fail
        refine (HO.out _ (HM.out.kept (by have hb0 := (HG); (repeat first | with_reducible exact hb0 | with_reducible refine G.drewN ?_ _ | with_reducible refine G.drew ?_ | with_reducible refine G.alloc ?_ _ | with_reducible refine G.set ?_ _ (Or.inr rfl) | (with_reducible refine G.set ?_ _ (Or.inl ?_); rotate_left; focus (first | omega | (simp; done) | (simp; omega))))))).mono ?_
        rintro e wn ⟨rfl, hgn⟩
        replace HG := G.trans (by have hb0 := (HG); (repeat first | with_reducible exact hb0 | with_reducible refine G.drewN ?_ _ | with_reducible refine G.drew ?_ | with_reducible refine G.alloc ?_ _ | with_reducible refine G.set ?_ _ (Or.inr rfl) | (with_reducible refine G.set ?_ _ (Or.inl ?_); rotate_left; focus (first | omega | (simp; done) | (simp; omega))))) hgn; clear hgn
        go_wp2_with (first | (go_at_call 15; refine (HR.out _).mono ?_; rintro e wn ⟨rfl, hgn⟩; replace HG := G.trans (by have hb0 := (HG); (repeat first | with_reducible exact hb0 | with_reducible refine G.drewN ?_ _ | with_reducible refine G.drew ?_ | with_reducible refine G.alloc ?_ _ | with_reducible refine G.set ?_ _ (Or.inr rfl) | (with_reducible refine G.set ?_ _ (Or.inl ?_); rotate_left; focus (first | omega | (simp; done) | (simp; omega))))) hgn; clear hgn) | (go_at_call 16; refine (HF.out _ (HM.out.kept (by have hb0 := (HG); (repeat first | with_reducible exact hb0 | with_reducible refine G.drewN ?_ _ | with_reducible refine G.drew ?_ | with_reducible refine G.alloc ?_ _ | with_reducible refine G.set ?_ _ (Or.inr rfl) | (with_reducible refine G.set ?_ _ (Or.inl ?_); rotate_left; focus (first | omega | (simp; done) | (simp; omega))))))).mono ?_; rintro e wn ⟨rfl, hgn⟩; replace HG := G.trans (by have hb0 := (HG); (repeat first | with_reducible exact hb0 | with_reducible refine G.drewN ?_ _ | with_reducible refine G.drew ?_ | with_reducible refine G.alloc ?_ _ | with_reducible refine G.set ?_ _ (Or.inr rfl) | (with_reducible refine G.set ?_ _ (Or.inl ?_); rotate_left; focus (first | omega | (simp; done) | (simp; omega))))) hgn; clear hgn) | fail)
        refine (HO2.out _ (HM.out.kept (by have hb0 := (HG); (repeat first | with_reducible exact hb0 | with_reducible refine G.drewN ?_ _ | with_reducible refine G.drew ?_ | with_reducible refine G.alloc ?_ _ | with_reducible refine G.set ?_ _ (Or.inr rfl) | (with_reducible refine G.set ?_ _ (Or.inl ?_); rotate_left; focus (first | omega | (simp; done) | (simp; omega))))))).mono ?_
        rintro e wn ⟨rfl, hgn⟩
        replace HG := G.trans (by have hb0 := (HG); (repeat first | with_reducible exact hb0 | with_reducible refine G.drewN ?_ _ | with_reducible refine G.drew ?_ | with_reducible refine G.alloc ?_ _ | with_reducible refine G.set ?_ _ (Or.inr rfl) | (with_reducible refine G.set ?_ _ (Or.inl ?_); rotate_left; focus (first | omega | (simp; done) | (simp; omega))))) hgn; clear hgn
        go_wp2_with (first | (go_at_call_of 16 (Value.string s); refine (HF.out _ (HM.out.kept (by have hb0 := (HG); (repeat first | with_reducible exact hb0 | with_reducible refine G.drewN ?_ _ | with_reducible refine G.drew ?_ | with_reducible refine G.alloc ?_ _ | with_reducible refine G.set ?_ _ (Or.inr rfl) | (with_reducible refine G.set ?_ _ (Or.inl ?_); rotate_left; focus (first | omega | (simp; done) | (simp; omega))))))).mono ?_; rintro e wn ⟨rfl, hgn⟩; replace HG := G.trans (by have hb0 := (HG); (repeat first | with_reducible exact hb0 | with_reducible refine G.drewN ?_ _ | with_reducible refine G.drew ?_ | with_reducible refine G.alloc ?_ _ | with_reducible refine G.set ?_ _ (Or.inr rfl) | (with_reducible refine G.set ?_ _ (Or.inl ?_); rotate_left; focus (first | omega | (simp; done) | (simp; omega))))) hgn; clear hgn) | (go_at_call_of 16 (Value.string c); refine (HFc.out _ (HM.out.kept (by have hb0 := (HG); (repeat first | with_reducible exact hb0 | with_reducible refine G.drewN ?_ _ | with_reducible refine G.drew ?_ | with_reducible refine G.alloc ?_ _ | with_reducible refine G.set ?_ _ (Or.inr rfl) | (with_reducible refine G.set ?_ _ (Or.inl ?_); rotate_left; focus (first | omega | (simp; done) | (simp; omega))))))).mono ?_; rintro e wn ⟨rfl, hgn⟩; replace HG := G.trans (by have hb0 := (HG); (repeat first | with_reducible exact hb0 | with_reducible refine G.drewN ?_ _ | with_reducible refine G.drew ?_ | with_reducible refine G.alloc ?_ _ | with_reducible refine G.set ?_ _ (Or.inr rfl) | (with_reducible refine G.set ?_ _ (Or.inl ?_); rotate_left; focus (first | omega | (simp; done) | (simp; omega))))) hgn; clear hgn) | (go_at_call 17; refine (HE.out _).mono ?_; rintro e wn ⟨rfl, hgn⟩; replace HG := G.trans (by have hb0 := (HG); (repeat first | with_reducible exact hb0 | with_reducible refine G.drewN ?_ _ | with_reducible refine G.drew ?_ | with_reducible refine G.alloc ?_ _ | with_reducible refine G.set ?_ _ (Or.inr rfl) | (with_reducible refine G.set ?_ _ (Or.inl ?_); rotate_left; focus (first | omega | (simp; done) | (simp; omega))))) hgn; clear hgn) | (go_at_call 18; refine (HJ.out _).mono ?_; rintro e wn ⟨rfl, hgn⟩; replace HG := G.trans (by have hb0 := (HG); (repeat first | with_reducible exact hb0 | with_reducible refine G.drewN ?_ _ | with_reducible refine G.drew ?_ | with_reducible refine G.alloc ?_ _ | with_reducible refine G.set ?_ _ (Or.inr rfl) | (with_reducible refine G.set ?_ _ (Or.inl ?_); rotate_left; focus (first | omega | (simp; done) | (simp; omega))))) hgn; clear hgn) | (go_at_call 9; refine (HK.out _ (HM.out.kept (by have hb0 := (HG); (repeat first | with_reducible exact hb0 | with_reducible refine G.drewN ?_ _ | with_reducible refine G.drew ?_ | with_reducible refine G.alloc ?_ _ | with_reducible refine G.set ?_ _ (Or.inr rfl) | (with_reducible refine G.set ?_ _ (Or.inl ?_); rotate_left; focus (first | omega | (simp; done) | (simp; omega))))))).mono ?_; rintro e wn ⟨rfl, hgn⟩; replace HG := G.trans (by have hb0 := (HG); (repeat first | with_reducible exact hb0 | with_reducible refine G.drewN ?_ _ | with_reducible refine G.drew ?_ | with_reducible refine G.alloc ?_ _ | with_reducible refine G.set ?_ _ (Or.inr rfl) | (with_reducible refine G.set ?_ _ (Or.inl ?_); rotate_left; focus (first | omega | (simp; done) | (simp; omega))))) hgn; clear hgn) | fail)
        go_ret
        exact ⟨ret_bool rfl, HG⟩
  · go_enter Tryd.func5, Tryd.ntmps5
    go_wp2_with fail
    go_ret
    exact ⟨ret_bool rfl, HG⟩
end Go.Proofs.YthabgdhfbcfjgaaDoor
