/-
  The walks of the two functions that part a text at its dots.
-/
import Derived.Test.YthabgdhfbcfjgaaDoorNamSpec
import Derived.Test.YthabgdhfbcfjgaaDoorNamTexts
import Derived.Test.YthabgdhfbcfjgaaDoorShelf
namespace Go.Proofs.YthabgdhfbcfjgaaDoor
open Go.RowKit
theorem info_str : (Tryd.prog.info? 9).map (fun i => (i.zero, i.size, i.bytes)) = some (some strE.zero, strE.k, strE.bytes) := by kernel_rfl

theorem strE_flat (xs : List ByteArray) : xs.flatMap strE.cells = xs.map Value.string := by
  induction xs with
  | nil => rfl
  | cons x xs ih => rw [List.flatMap_cons, ih]; rfl
def restAt (s : ByteArray) (f i : Nat) : List (List UInt8) := if i ≤ s.size then pcs ((s.data.toList.drop f).take (i - f)) (s.data.toList.drop i) else []
theorem pcs_end (cur : List UInt8) : pcs cur [] = [cur] := by rw [pcs]
theorem restAt_zero (s : ByteArray) : restAt s 0 0 = ptsL s.data.toList := by unfold restAt; rw [if_pos (Nat.zero_le _)]; rfl
theorem cut_data (s : ByteArray) (f i : Nat) : (s.extract f i).data.toList = (s.data.toList.drop f).take (i - f) := by simp [ByteArray.data_extract, List.extract]
theorem restAt_last (s : ByteArray) (f : Nat) (i : Nat) (h : i = s.size) : restAt s f i = [(s.extract f i).data.toList] := by
  unfold restAt
  rw [if_pos (by omega), drop_end s i (by omega), pcs_end, cut_data]
theorem restAt_over (s : ByteArray) (f i : Nat) (h : s.size < i) : restAt s f i = [] := by unfold restAt; rw [if_neg (by omega)]
theorem restAt_dot (s : ByteArray) (f i : Nat) (h : i < s.size) (hc : s[i] = 46) : restAt s f i = (s.extract f i).data.toList :: restAt s (i + 1) (i + 1) := by
  unfold restAt
  rw [if_pos (by omega), if_pos (by omega), drop_cons s i h, pcs, if_pos hc, cut_data, Nat.sub_self, List.take_zero]
theorem restAt_step (s : ByteArray) (f i : Nat) (h : i < s.size) (hf : f ≤ i) (hc : ¬ s[i] = 46) : restAt s f i = restAt s f (i + 1) := by
  unfold restAt
  rw [if_pos (by omega), if_pos (by omega), drop_cons s i h, pcs, if_neg hc]
  congr 1
  rw [show i + 1 - f = (i - f) + 1 from by omega, List.take_add_one, List.getElem?_drop, show f + (i - f) = i from by omega]
  rw [List.getElem?_eq_getElem (by simpa using h)]
  rfl

set_option maxHeartbeats 4000000 in
theorem refParts_any (s : ByteArray) (w : World) (hs : s.size ≤ 1000000) :
    Calls Tryd.prog 7 #[.string s] w fun e w' => ∃ v, e = .returned v ∧ ERow strE w' v ((ptsL s.data.toList).map bs) ∧ w.grownBy w' none := by
  obtain ⟨R, HR⟩ : ∃ R, Hid (restAt s 0 0 = R) := ⟨_, Lib.hid rfl⟩
  rw [← restAt_zero, HR.out]
  go_enter Tryd.func7, Tryd.ntmps7
  go_wp2_with fail
  go_loopw [3, 4, 5] (fun lv fv iv wr => ∃ (f i : Nat) (done : List (List UInt8)), fv = .int .i64 f ∧ iv = .int .i64 i ∧ f ≤ i ∧ i ≤ s.size + 1 ∧ done.length ≤ i ∧ EOwn strE 9 wr w.heap.size lv (done.map bs) ∧ w.grownBy wr none ∧ Hid (done ++ restAt s f i = R)) (fun _ _ iv _ => s.size + 1 - (intOf iv).toNat)
  case atStart => exact ⟨0, 0, [], rfl, rfl, by omega, by omega, by simp, EOwn.nil _ _ _ _, G.refl _ _, Lib.hid (by rw [HR.out]; rfl)⟩
  case round =>
    obtain ⟨f, i, done, rfl, rfl, hf, hi, hd, HO, HG, H⟩ := hrel
    clear HR
    have hsz := HG.size
    by_cases hlt : i < s.size
    · by_cases hc : s[i] = 46
      · have HS := Lib.hid (restAt_dot s f i hlt hc)
        have hb : ((s[i].toNat : Int) == 46) = true := by rw [hc]; rfl
        have hne : ((i : Int) == (s.size : Int)) = false := by simp; omega
        clear hc
        go_wp2_with (first | (at_builtin; refine wpList_append_el strE rfl _ _ 22 9 rfl Tryd.underlying22 info_str w.heap.size u3 (done.map bs) rfl _ (s.extract f i) 9 rfl ?_ ?_; rotate_left; exact ⟨(by have hb0 := (HO); (repeat first | with_reducible exact hb0 | with_reducible apply EOwn.drewN | with_reducible apply EOwn.drew | with_reducible apply EOwn.alloc | (with_reducible apply EOwn.set; (case hne => (first | assumption | omega | (simp; done) | (simp; omega)))))), (by have hb0 := (Hx.new wr #[.string (s.extract f i)] 9); apply Hx.conv; (case h => (repeat first | with_reducible exact hb0 | with_reducible apply Hx.drewN | with_reducible apply Hx.drew | with_reducible apply Hx.set | with_reducible exact Hx.new _ _ _ | (with_reducible apply Hx.new'; (case hl => rfl); (case hb => (first | omega | (simp; done) | (simp; omega)))) | with_reducible apply Hx.alloc | (with_reducible apply Hx.other; (case hne => (first | omega | (simp; done) | (simp; omega)))))); (case e => (first | rfl | (simp; done) | (simp; omega)))), by simp; omega, by simp; omega⟩; intro g' cap' w1 hown' hgrow; have HG1 := EOwn.grow (by have hb0 := (HO); (repeat first | with_reducible exact hb0 | with_reducible apply EOwn.drewN | with_reducible apply EOwn.drew | with_reducible apply EOwn.alloc | (with_reducible apply EOwn.set; (case hne => (first | assumption | omega | (simp; done) | (simp; omega)))))) (by have hb0 := (HG); (repeat first | with_reducible exact hb0 | with_reducible refine G.drewN ?_ _ | with_reducible refine G.drew ?_ | with_reducible refine G.alloc ?_ _ | with_reducible refine G.set ?_ _ (Or.inr rfl) | (with_reducible refine G.set ?_ _ (Or.inl ?_); rotate_left; focus (first | omega | (simp; done) | (simp; omega))))) hgrow))
        refine ⟨⟨i + 1, i + 1, done ++ [(s.extract f i).data.toList], by go_num, by go_num, by omega, by omega, by simp; omega, ?_, HG1, Lib.hid ?_⟩, by simp [intOf]; omega⟩
        · rw [List.length_map] at hown'; rw [List.map_append]; exact hown'
        · rw [← H.out, HS.out, List.append_assoc]; rfl
      · have HS := Lib.hid (restAt_step s f i hlt hf hc)
        have hb : ((s[i].toNat : Int) == 46) = false := by
          rw [beq_eq_false_iff_ne]; intro h; exact hc (UInt8.toNat_inj.mp (by show s[i].toNat = 46; omega))
        have hne : ((i : Int) == (s.size : Int)) = false := by simp; omega
        clear hc
        go_wp2_with fail
        exact ⟨⟨f, i + 1, done, rfl, by go_num, by omega, by omega, by omega, (by have hb0 := (HO); (repeat first | with_reducible exact hb0 | with_reducible apply EOwn.drewN | with_reducible apply EOwn.drew | with_reducible apply EOwn.alloc | (with_reducible apply EOwn.set; (case hne => (first | assumption | omega | (simp; done) | (simp; omega)))))), (by have hb0 := (HG); (repeat first | with_reducible exact hb0 | with_reducible refine G.drewN ?_ _ | with_reducible refine G.drew ?_ | with_reducible refine G.alloc ?_ _ | with_reducible refine G.set ?_ _ (Or.inr rfl) | (with_reducible refine G.set ?_ _ (Or.inl ?_); rotate_left; focus (first | omega | (simp; done) | (simp; omega))))), Lib.hid (by rw [← H.out, HS.out])⟩, by simp [intOf]; omega⟩
    · by_cases he : i = s.size
      · have HS := Lib.hid (restAt_last s f i he)
        have HT := Lib.hid (restAt_over s (i + 1) (i + 1) (by omega))
        have hne : ((i : Int) == (s.size : Int)) = true := by simp; omega
        have HE := Lib.hid he
        have hle : i ≤ s.size := by omega
        clear he
        go_wp2_with (first | (at_builtin; refine wpList_append_el strE rfl _ _ 22 9 rfl Tryd.underlying22 info_str w.heap.size u3 (done.map bs) rfl _ (s.extract f i) 9 rfl ?_ ?_; rotate_left; exact ⟨(by have hb0 := (HO); (repeat first | with_reducible exact hb0 | with_reducible apply EOwn.drewN | with_reducible apply EOwn.drew | with_reducible apply EOwn.alloc | (with_reducible apply EOwn.set; (case hne => (first | assumption | omega | (simp; done) | (simp; omega)))))), (by have hb0 := (Hx.new wr #[.string (s.extract f i)] 9); apply Hx.conv; (case h => (repeat first | with_reducible exact hb0 | with_reducible apply Hx.drewN | with_reducible apply Hx.drew | with_reducible apply Hx.set | with_reducible exact Hx.new _ _ _ | (with_reducible apply Hx.new'; (case hl => rfl); (case hb => (first | omega | (simp; done) | (simp; omega)))) | with_reducible apply Hx.alloc | (with_reducible apply Hx.other; (case hne => (first | omega | (simp; done) | (simp; omega)))))); (case e => (first | rfl | (simp; done) | (simp; omega)))), by simp; omega, by simp; omega⟩; intro g' cap' w1 hown' hgrow; have HG1 := EOwn.grow (by have hb0 := (HO); (repeat first | with_reducible exact hb0 | with_reducible apply EOwn.drewN | with_reducible apply EOwn.drew | with_reducible apply EOwn.alloc | (with_reducible apply EOwn.set; (case hne => (first | assumption | omega | (simp; done) | (simp; omega)))))) (by have hb0 := (HG); (repeat first | with_reducible exact hb0 | with_reducible refine G.drewN ?_ _ | with_reducible refine G.drew ?_ | with_reducible refine G.alloc ?_ _ | with_reducible refine G.set ?_ _ (Or.inr rfl) | (with_reducible refine G.set ?_ _ (Or.inl ?_); rotate_left; focus (first | omega | (simp; done) | (simp; omega))))) hgrow))
        refine ⟨⟨i + 1, i + 1, done ++ [(s.extract f i).data.toList], by go_num, by go_num, by omega, by omega, by simp; omega, ?_, HG1, Lib.hid ?_⟩, by simp [intOf]; omega⟩
        · rw [List.length_map] at hown'; rw [List.map_append]; exact hown'
        · rw [HT.out, ← H.out, HS.out, List.append_nil]
      · have HT := Lib.hid (restAt_over s f i (by omega))
        go_wp2_with fail
        go_ret
        refine ⟨_, rfl, ?_, HG⟩
        rw [← H.out, HT.out, List.append_nil]
        exact HO.row
/-- the variable of the library's own that the search reads holds some number -/
def MaxLen (w : World) : Prop := ∃ m : Int, w.cell? ⟨0, 0, none⟩ = some (.int .i64 m)
theorem MaxLen.kept {w w' : World} (h : MaxLen w) (hg : w.grownBy w' none) : MaxLen w' := by
  obtain ⟨m, hm⟩ := h
  exact ⟨m, hg.cell hm (by simp)⟩
set_option maxHeartbeats 4000000 in
theorem parts_any (s : ByteArray) (w : World) (hs : s.size ≤ 1000000) (hm : MaxLen w) :
    Calls Tryd.prog 13 #[.string s] w fun e w' => ∃ v, e = .returned v ∧ ERow strE w' v ((ptsL s.data.toList).map bs) ∧ w.grownBy w' none := by
  obtain ⟨m, hm⟩ := hm
  have HS := Lib.hid (Tryd.strings_Split s ⟨#[46]⟩ m w (by omega) hm (by decide)); clear hm
  rw [splitB_46, countB_46] at HS
  have hl : (ptsL s.data.toList).length ≤ 1000001 := by
    rw [← countB_46]
    have : Lib.countB s ⟨#[46]⟩ ≤ s.size := Lib.countB_le ⟨#[46]⟩ (by decide) s.size s (Nat.le_refl _)
    omega
  generalize ptsL s.data.toList = L at *
  go_enter Tryd.func13, Tryd.ntmps13
  go_wp2_with (go_at_call 22; refine HS.out.mono ?_; rintro e w1 ⟨rfl, rfl⟩)
  go_ret
  refine ⟨_, rfl, ?_, (by have hb0 := (G.refl w none); (repeat first | with_reducible exact hb0 | with_reducible refine G.drewN ?_ _ | with_reducible refine G.drew ?_ | with_reducible refine G.alloc ?_ _ | with_reducible refine G.set ?_ _ (Or.inr rfl) | (with_reducible refine G.set ?_ _ (Or.inl ?_); rotate_left; focus (first | omega | (simp; done) | (simp; omega)))))⟩
  have h := ERow.of_hx (L := strE) (ts := L.map bs) (cap := L.length) (T := 9) (w := w.alloc (.cells ((L.map bs).map Value.string).toArray 9)) (b := w.heap.size) (by simp) (by unfold maxLen; omega) (Hx.new' rfl (by rw [strE_flat]))
  rw [List.length_map] at h
  rw [List.map_map] at h
  exact h
end Go.Proofs.YthabgdhfbcfjgaaDoor
