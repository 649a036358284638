/-
  The walks of a name's file, and of a file's name.
-/
import Derived.Test.YthabgdhfbcfjgaaDoorNamFile
namespace Go.Proofs.YthabgdhfbcfjgaaDoor
open Go.RowKit
def wsp : ByteArray := ⟨#[46, 119, 115, 112]⟩
def fileS (s : ByteArray) : ByteArray := turnS 46 47 s ++ wsp
theorem fileS_size (s : ByteArray) : (fileS s).size = s.size + 4 := by unfold fileS; rw [ByteArray.size_append, turnS_size]; rfl
set_option maxHeartbeats 4000000 in
theorem file_any (s : ByteArray) (w : World) (hs : s.size ≤ 1000000) (hm : MaxLen w) :
    Calls Tryd.prog 16 #[.string s] w fun e w' => e = .returned (.string (fileS s)) ∧ w.grownBy w' none := by
  have HR := Lib.hid (replaceAll_any 46 47 (by decide) s w hs hm); clear hm
  have hz := turnS_size 46 47 s
  unfold fileS wsp
  generalize turnS 46 47 s = t at *
  have hz2 : t.size ≤ 1000000 := by omega
  clear hz
  go_enter Tryd.func16, Tryd.ntmps16
  go_wp2_with (go_at_call 24; refine HR.out.mono ?_; rintro e w1 ⟨rfl, hg⟩)
  go_ret
  exact ⟨rfl, hg⟩
set_option maxHeartbeats 4000000 in
theorem refFile_any (s : ByteArray) (w : World) (hs : s.size ≤ 1000000) :
    Calls Tryd.prog 17 #[.string s] w fun e w' => e = .returned (.string (fileS s)) ∧ w.grownBy w' none := by
  have HR := Lib.hid (turn_any 46 47 s w hs)
  have hz := turnS_size 46 47 s
  unfold fileS wsp
  generalize turnS 46 47 s = t at *
  have hz2 : t.size ≤ 1000000 := by omega
  clear hz
  go_enter Tryd.func17, Tryd.ntmps17
  go_wp2_with (go_at_call 25; refine HR.out.mono ?_; rintro e w1 ⟨rfl, hg⟩)
  go_ret
  exact ⟨rfl, hg⟩
/-- what stands ahead of the ending -/
def stem (f : ByteArray) : ByteArray := ⟨(Lib.trimSuffix f.data.toList [46, 119, 115, 112]).toArray⟩
def hasEnd (f : ByteArray) : Bool := Lib.hasSuffix f.data.toList [46, 119, 115, 112]
def nameOf (f : ByteArray) : ByteArray := turnS 47 46 (stem f)
def ofOk (f : ByteArray) : Bool := hasEnd f && isNm (nameOf f) && decide (fileS (nameOf f) = f)
def ofV (f : ByteArray) : Value := if ofOk f then .tuple #[.string (nameOf f), .bool true] else .tuple #[.string ⟨#[]⟩, .bool false]
theorem stem_le (f : ByteArray) : (stem f).size ≤ f.size := by
  unfold stem Lib.trimSuffix
  have e : f.data.toList.length = f.size := by simp
  split
  · show (List.take _ _).toArray.size ≤ _
    simp
  · exact Nat.le_refl _
theorem eq_spell {a b : ByteArray} (h : a = b) : (!(a.toList == b.toList)) = false := by simp [h]
theorem ne_spell {a b : ByteArray} (h : ¬ a = b) : (!(a.toList == b.toList)) = true := by
  simp; exact fun e => h (bytes_ext e)
theorem ofV_yes {f : ByteArray} (h : ofOk f = true) : ofV f = .tuple #[.string (nameOf f), .bool true] := by unfold ofV; rw [if_pos h]
theorem ofV_no {f : ByteArray} (h : ofOk f = false) : ofV f = .tuple #[.string ⟨#[]⟩, .bool false] := by unfold ofV; rw [if_neg (by simp [h])]
set_option maxHeartbeats 4000000 in
theorem of_any (f : ByteArray) (w : World) (hs : f.size ≤ 1000000) (hm : MaxLen w) :
    Calls Tryd.prog 14 #[.string f] w fun e w' => e = .returned (ofV f) ∧ w.grownBy w' none := by
  have HC : Hid (∀ w, Calls Tryd.prog 23 #[.string f, .string ⟨#[46, 119, 115, 112]⟩] w fun e w' => e = .returned (.tuple #[.string (stem f), .bool (hasEnd f)]) ∧ w' = w) := Lib.hid (fun w => Tryd.strings_CutSuffix f ⟨#[46, 119, 115, 112]⟩ w (by omega))
  have hl := stem_le f
  have HR := Lib.hid (replaceAll_any 47 46 (by decide) (stem f) w (by omega) hm)
  have hn : (nameOf f).size ≤ 1000000 := by unfold nameOf; rw [turnS_size]; omega
  have HI := Lib.hid (fun w (hm : MaxLen w) => nameIs_any (nameOf f) w hn hm)
  have HF := Lib.hid (fun w (hm : MaxLen w) => file_any (nameOf f) w hn hm)
  have HR' : Hid (Calls Tryd.prog 24 #[.string (stem f), .string ⟨#[47]⟩, .string ⟨#[46]⟩] w fun e w' => e = .returned (.string (nameOf f)) ∧ w.grownBy w' none) := HR
  clear HR
  have HM := Lib.hid hm; clear hm
  obtain ⟨v, hv⟩ : ∃ v, Hid (ofV f = v) := ⟨_, Lib.hid rfl⟩
  rw [hv.out]
  have hy := Lib.hid (@ofV_yes f)
  have hno := Lib.hid (@ofV_no f)
  have hok : Hid (ofOk f = (hasEnd f && isNm (nameOf f) && decide (fileS (nameOf f) = f))) := Lib.hid rfl
  generalize hasEnd f = h1 at *
  generalize nameOf f = n at *
  generalize stem f = st at *
  generalize isNm n = h2 at *
  generalize hfs : fileS n = fs at *
  cases h1
  · go_enter Tryd.func14, Tryd.ntmps14
    go_wp2_with (first | (go_at_call 23; refine (HC.out _).mono ?_; rintro e w1 ⟨rfl, rfl⟩) | (go_at_call 24; refine (HR'.out).mono ?_; rintro e w2 ⟨rfl, hg2⟩))
    go_ret2
    exact ⟨by rw [← hv.out, hno.out (by rw [hok.out]; rfl)]; rfl, hg2⟩
  cases h2
  · go_enter Tryd.func14, Tryd.ntmps14
    go_wp2_with (first | (go_at_call 23; refine (HC.out _).mono ?_; rintro e w1 ⟨rfl, rfl⟩) | (go_at_call 24; refine (HR'.out).mono ?_; rintro e w2 ⟨rfl, hg2⟩) | (go_at_call 19; refine (HI.out _ (HM.out.kept hg2)).mono ?_; rintro e w3 ⟨rfl, hg3⟩; have hg23 := G.trans hg2 hg3))
    go_ret2
    exact ⟨by rw [← hv.out, hno.out (by rw [hok.out]; rfl)]; rfl, hg23⟩
  have HFS := Lib.hid hfs; clear hfs
  by_cases h3 : fs = f
  · have e3 := eq_spell h3
    have H3 := Lib.hid h3; clear h3
    go_enter Tryd.func14, Tryd.ntmps14
    go_wp2_with (first | (go_at_call 23; refine (HC.out _).mono ?_; rintro e w1 ⟨rfl, rfl⟩) | (go_at_call 24; refine (HR'.out).mono ?_; rintro e w2 ⟨rfl, hg2⟩) | (go_at_call 19; refine (HI.out _ (HM.out.kept hg2)).mono ?_; rintro e w3 ⟨rfl, hg3⟩; have hg23 := G.trans hg2 hg3) | (go_at_call 16; refine (HF.out _ (HM.out.kept hg23)).mono ?_; rintro e w4 ⟨rfl, hg4⟩; have hg24 := G.trans hg23 hg4))
    go_ret2
    exact ⟨by rw [← hv.out, hy.out (by rw [hok.out, decide_eq_true H3.out]; rfl)]; rfl, hg24⟩
  · have e3 := ne_spell h3
    have H3 := Lib.hid h3; clear h3
    go_enter Tryd.func14, Tryd.ntmps14
    go_wp2_with (first | (go_at_call 23; refine (HC.out _).mono ?_; rintro e w1 ⟨rfl, rfl⟩) | (go_at_call 24; refine (HR'.out).mono ?_; rintro e w2 ⟨rfl, hg2⟩) | (go_at_call 19; refine (HI.out _ (HM.out.kept hg2)).mono ?_; rintro e w3 ⟨rfl, hg3⟩; have hg23 := G.trans hg2 hg3) | (go_at_call 16; refine (HF.out _ (HM.out.kept hg23)).mono ?_; rintro e w4 ⟨rfl, hg4⟩; have hg24 := G.trans hg23 hg4))
    go_ret2
    exact ⟨by rw [← hv.out, hno.out (by rw [hok.out, decide_eq_false H3.out]; rfl)]; rfl, hg24⟩
theorem wsp_list : (⟨#[46, 119, 115, 112]⟩ : ByteArray).toList = [46, 119, 115, 112] := by rw [ByteArray.toList_eq]
theorem hasEnd_eq {f : ByteArray} (h : 4 ≤ f.size) : hasEnd f = decide (f.extract (f.size - 4) f.size = ⟨#[46, 119, 115, 112]⟩) := by
  have e1 : f.data.toList.length = f.size := by simp
  have e2 : (f.extract (f.size - 4) f.size).data.toList = f.data.toList.drop (f.size - 4) := Lib.extract_to_end f _
  have e3 : (f.extract (f.size - 4) f.size = ⟨#[46, 119, 115, 112]⟩) ↔ f.data.toList.drop (f.size - 4) = [46, 119, 115, 112] := by
    constructor
    · intro h; rw [← e2, h]
    · intro h; rw [← e2] at h; exact ByteArray.ext (Array.ext' h)
  unfold hasEnd Lib.hasSuffix
  rw [Bool.eq_iff_iff, decide_eq_true_iff, e3, List.isSuffixOf_iff_suffix]
  constructor
  · rintro ⟨t, ht⟩
    have hl := congrArg List.length ht
    rw [List.length_append, e1] at hl
    simp at hl
    rw [← ht, show f.size - 4 = t.length from by omega, List.drop_left]
  · intro h; rw [← h]; exact List.drop_suffix _ _
theorem hasEnd_short {f : ByteArray} (h : ¬ 4 ≤ f.size) : hasEnd f = false := by
  unfold hasEnd Lib.hasSuffix
  rw [Bool.eq_false_iff, ne_eq, List.isSuffixOf_iff_suffix]
  intro hs
  have := hs.length_le
  have e1 : f.data.toList.length = f.size := by simp
  rw [e1] at this; simp at this; omega
theorem stem_eq {f : ByteArray} (h : hasEnd f = true) : stem f = f.extract 0 (f.size - 4) := by
  unfold stem Lib.trimSuffix
  have h' : Lib.hasSuffix f.data.toList [46, 119, 115, 112] = true := h
  rw [if_pos h']
  apply ByteArray.ext
  apply Array.ext'
  have e1 : f.data.toList.length = f.size := by simp
  rw [e1, Lib.extract_from_zero]
  rfl
set_option maxHeartbeats 4000000 in
theorem refOf_any (f : ByteArray) (w : World) (hs : f.size ≤ 1000000) :
    Calls Tryd.prog 15 #[.string f] w fun e w' => e = .returned (ofV f) ∧ w.grownBy w' none := by
  obtain ⟨v, hv⟩ : ∃ v, Hid (ofV f = v) := ⟨_, Lib.hid rfl⟩
  rw [hv.out]
  have hy := Lib.hid (@ofV_yes f)
  have hno := Lib.hid (@ofV_no f)
  have hok : Hid (ofOk f = (hasEnd f && isNm (nameOf f) && decide (fileS (nameOf f) = f))) := Lib.hid rfl
  by_cases h4 : 4 ≤ f.size
  · by_cases he : f.extract (f.size - 4) f.size = ⟨#[46, 119, 115, 112]⟩
    · have h1 : hasEnd f = true := by rw [hasEnd_eq h4, decide_eq_true he]
      have hst := stem_eq h1
      have hl := stem_le f
      have HR := Lib.hid (turn_any 47 46 (stem f) w (by omega))
      have hn : (nameOf f).size ≤ 1000000 := by unfold nameOf; rw [turnS_size]; omega
      have HI := Lib.hid (fun w => refIs_any (nameOf f) w hn)
      have HF := Lib.hid (fun w => refFile_any (nameOf f) w hn)
      have HR' : Hid (Calls Tryd.prog 25 #[.string (f.extract 0 (f.size - 4)), .int .u8 47, .int .u8 46] w fun e w' => e = .returned (.string (nameOf f)) ∧ w.grownBy w' none) := by rw [hst] at HR; unfold nameOf; rw [hst]; exact HR
      clear HR hst hl
      rw [h1] at hok
      have e0 : (!((f.extract (f.size - 4) f.size).toList == [46, 119, 115, 112])) = false := by rw [he, wsp_list]; decide
      have he' := Lib.hid he; clear he h1
      generalize nameOf f = n at *
      generalize isNm n = h2 at *
      generalize hfs : fileS n = fs at *
      cases h2
      · have HFS := Lib.hid hfs; clear hfs
        go_enter Tryd.func15, Tryd.ntmps15
        go_wp2_with (first | (go_at_call 25; refine (HR'.out).mono ?_; rintro e w2 ⟨rfl, hg2⟩) | (go_at_call 18; refine (HI.out _).mono ?_; rintro e w3 ⟨rfl, hg3⟩; have hg23 := G.trans hg2 hg3))
        go_ret2
        exact ⟨by rw [← hv.out, hno.out (by rw [hok.out]; rfl)]; rfl, hg23⟩
      have HFS := Lib.hid hfs; clear hfs
      by_cases h3 : fs = f
      · have e3 := eq_spell h3
        have H3 := Lib.hid h3; clear h3
        go_enter Tryd.func15, Tryd.ntmps15
        go_wp2_with (first | (go_at_call 25; refine (HR'.out).mono ?_; rintro e w2 ⟨rfl, hg2⟩) | (go_at_call 18; refine (HI.out _).mono ?_; rintro e w3 ⟨rfl, hg3⟩; have hg23 := G.trans hg2 hg3) | (go_at_call 17; refine (HF.out _).mono ?_; rintro e w4 ⟨rfl, hg4⟩; have hg24 := G.trans hg23 hg4))
        go_ret2
        exact ⟨by rw [← hv.out, hy.out (by rw [hok.out, decide_eq_true H3.out]; rfl)]; rfl, hg24⟩
      · have e3 := ne_spell h3
        have H3 := Lib.hid h3; clear h3
        go_enter Tryd.func15, Tryd.ntmps15
        go_wp2_with (first | (go_at_call 25; refine (HR'.out).mono ?_; rintro e w2 ⟨rfl, hg2⟩) | (go_at_call 18; refine (HI.out _).mono ?_; rintro e w3 ⟨rfl, hg3⟩; have hg23 := G.trans hg2 hg3) | (go_at_call 17; refine (HF.out _).mono ?_; rintro e w4 ⟨rfl, hg4⟩; have hg24 := G.trans hg23 hg4))
        go_ret2
        exact ⟨by rw [← hv.out, hno.out (by rw [hok.out, decide_eq_false H3.out]; rfl)]; rfl, hg24⟩
    · have h1 : hasEnd f = false := by rw [hasEnd_eq h4, decide_eq_false he]
      have e0 : (!((f.extract (f.size - 4) f.size).toList == [46, 119, 115, 112])) = true := by
        simp; intro h; exact he (bytes_ext (h.trans wsp_list.symm))
      rw [h1] at hok
      have hE := Lib.hid h1; clear he h1
      go_enter Tryd.func15, Tryd.ntmps15
      go_wp2_with fail
      go_ret2
      exact ⟨by rw [← hv.out, hno.out (by rw [hok.out]; rfl)]; rfl, G.refl _ _⟩
  · have h1 := hasEnd_short h4
    rw [h1] at hok
    have hE := Lib.hid h1; clear h1
    go_enter Tryd.func15, Tryd.ntmps15
    go_wp2_with fail
    go_ret2
    exact ⟨by rw [← hv.out, hno.out (by rw [hok.out]; rfl)]; rfl, G.refl _ _⟩
end Go.Proofs.YthabgdhfbcfjgaaDoor
