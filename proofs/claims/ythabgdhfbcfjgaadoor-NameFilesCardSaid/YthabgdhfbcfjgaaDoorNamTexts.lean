/-
  The walk of the law's comparison of two rows of texts.
-/
import Derived.Test.YthabgdhfbcfjgaaDoorElRow
import Derived.Test.YthabgdhfbcfjgaaDoorProg
import Derived.Deep.QuietTactic
import Derived.BigQuiet
import Derived.Lib.Index
import Derived.Shelf.Small.Strs
namespace Go.Proofs.YthabgdhfbcfjgaaDoor
open Go.RowKit
theorem bytes_ext {a b : ByteArray} (h : a.toList = b.toList) : a = b := by
  have h1 := Lib.toList_data a
  have h2 := Lib.toList_data b
  rw [h1, h2] at h
  exact ByteArray.ext (Array.ext' h)
set_option maxHeartbeats 4000000 in
theorem texts_any (v1 v2 : Value) (a b : List ByteArray) (w : World) (h1 : ERow strE w v1 a) (h2 : ERow strE w v2 b) :
    Calls Tryd.prog 12 #[v1, v2] w fun e w' => e = .returned (.bool (decide (a = b))) ∧ w.grownBy w' none := by
  have l1 := h1.le
  have l2 := h2.le
  unfold maxLen at l1 l2
  obtain ⟨A1, c1, rfl, q1, q2, hr1⟩ := h1
  obtain ⟨A2, c2, rfl, q3, q4, hr2⟩ := h2
  have Hr1 := Lib.hid hr1; clear hr1
  have Hr2 := Lib.hid hr2; clear hr2
  clear q1 q2 q3 q4
  by_cases hlen : a.length = b.length
  · have hne : ((a.length : Int) != (b.length : Int)) = false := by simp [hlen]
    have HL := Lib.hid hlen; clear hlen
    go_enter Tryd.func12, Tryd.ntmps12
    go_wp2_with fail
    go_loopw [5] (fun iv wr => ∃ i : Nat, iv = .int .i64 i ∧ i ≤ a.length ∧ w.grownBy wr none ∧ Hid (∀ j (hj : j < i) (hj1 : j < a.length) (hj2 : j < b.length), a[j] = b[j])) (fun iv _ => a.length - (intOf iv).toNat)
    case atStart => exact ⟨0, rfl, by omega, G.refl _ _, Lib.hid (fun j hj => by omega)⟩
    case round =>
      obtain ⟨i, rfl, hi, HG, HA⟩ := hrel
      by_cases hlt : i < a.length
      · have hlt2 : i < b.length := by have := HL.out; omega
        obtain ⟨g1, o1, rfl, hg1, hc1⟩ := Hr1.out (by omega)
        obtain ⟨g2, o2, rfl, hg2, hc2⟩ := Hr2.out (by omega)
        have a3 : wr.cell? ⟨g1, o1 + i, none⟩ = some (.string a[i]) := (G.cell HG (a := ⟨g1, o1 + i, none⟩) hg1 (by simp)).trans (by have := hc1 i hlt 0 _ rfl; simpa [strE] using this)
        have b3 : wr.cell? ⟨g2, o2 + i, none⟩ = some (.string b[i]) := (G.cell HG (a := ⟨g2, o2 + i, none⟩) hg2 (by simp)).trans (by have := hc2 i hlt2 0 _ rfl; simpa [strE] using this)
        clear hc1 hc2
        have i0 : (0 : Int) ≤ (i : Int) := by omega
        have i1 : (i : Int) < (a.length : Int) := by omega
        have i2 : (i : Int) < (b.length : Int) := by omega
        by_cases e : a[i] = b[i]
        · have e2 : a[i].toList = b[i].toList := by rw [e]
          have e' := Lib.hid e; clear e
          go_wp2_with fail
          go_quiet (fail)
          go_wp2_with fail
          refine ⟨⟨i + 1, by go_num, by omega, (by have hb0 := (HG); (repeat first | with_reducible exact hb0 | with_reducible refine G.drewN ?_ _ | with_reducible refine G.drew ?_ | with_reducible refine G.alloc ?_ _ | with_reducible refine G.set ?_ _ (Or.inr rfl) | (with_reducible refine G.set ?_ _ (Or.inl ?_); rotate_left; focus (first | omega | (simp; done) | (simp; omega))))), Lib.hid (fun j hj q1 q2 => ?_)⟩, by simp [intOf]; omega⟩
          rcases Nat.lt_or_ge j i with q | q
          · exact HA.out j q q1 q2
          · obtain rfl : j = i := by omega
            exact e'.out
        · have hF : decide (a = b) = false := by simp; intro h; subst h; exact e rfl
          have hF' := Lib.hid hF; clear hF
          have e2 : ¬ a[i].toList = b[i].toList := fun h => e (bytes_ext h)
          have e3 : (!a[i].toList == b[i].toList) = true := by simpa using e2
          clear e e2
          go_wp2_with fail
          go_quiet (fail)
          go_wp2_with fail
          go_ret
          exact ⟨ret_bool hF'.out.symm, (by have hb0 := (HG); (repeat first | with_reducible exact hb0 | with_reducible refine G.drewN ?_ _ | with_reducible refine G.drew ?_ | with_reducible refine G.alloc ?_ _ | with_reducible refine G.set ?_ _ (Or.inr rfl) | (with_reducible refine G.set ?_ _ (Or.inl ?_); rotate_left; focus (first | omega | (simp; done) | (simp; omega)))))⟩
      · have hT : decide (a = b) = true := by
          simp
          exact List.ext_getElem HL.out (fun j q1 q2 => HA.out j (by omega) q1 q2)
        have hT' := Lib.hid hT; clear hT
        go_wp2_with fail
        go_ret
        exact ⟨ret_bool hT'.out.symm, HG⟩
  · have hne : ((a.length : Int) != (b.length : Int)) = true := by simp; omega
    go_enter Tryd.func12, Tryd.ntmps12
    go_wp2_with fail
    go_ret
    exact ⟨ret_bool (by simp; intro h; exact hlen (by rw [h])), G.refl _ _⟩
end Go.Proofs.YthabgdhfbcfjgaaDoor
