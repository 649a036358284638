/-
  A time in digits; the walk of the law on it.
-/
import Derived.Test.YtjfdaoedpdiaeaaDoorSpanKnown
namespace Go.Proofs.YtjfdaoedpdiaeaaDoor
open Go.RowKit
theorem dig_head {Z : ByteArray} (h : Z.data.toList.all isD = true) : isNow Z = false ∧ signedS Z = false := by
  constructor
  · cases hn : isNow Z
    · rfl
    · obtain ⟨r, hr⟩ := isNow_data hn
      rw [hr, List.all_cons, Bool.and_eq_true] at h
      exact absurd h.1 (by decide)
  · cases hs : signedS Z
    · rfl
    · obtain ⟨h0, h1⟩ := signed_head hs
      rw [digits_at h 0 h0] at h1
      cases h1
theorem at_digits {Z : ByteArray} {k : Nat} (hZ : Z.data.toList = Lib.decDigits k) (h1 : 100000000 ≤ k) (h2 : k ≤ 4294967295) (now : Int) : atV Z now = .tuple #[.int .i64 k, .int .i64 0] := by
  have hd : Z.data.toList.all isD = true := by rw [hZ]; exact decDigits_isD k
  have hz : Z.size = (Lib.decDigits k).length := size_of_data hZ
  have hv := valF_lt _ (decDigits_isD k)
  rw [decDigits_val] at hv
  have hl : (Lib.decDigits k).length ≤ 10 := decDigits_len (by omega)
  have hg : 9 ≤ Z.size := by
    rw [hz]
    rcases Nat.lt_or_ge (Lib.decDigits k).length 9 with g | g
    · have : 10 ^ (Lib.decDigits k).length ≤ 10 ^ 8 := Nat.pow_le_pow_right (by omega) (by omega)
      omega
    · exact g
  obtain ⟨e1, e2⟩ := dig_head hd
  have e3 : hmS Z = false := by unfold hmS; rw [dif_neg (by omega)]
  have e4 : dayN Z = none := by unfold dayN; rw [if_neg (fun h => by omega)]
  have e5 : dateO Z = none := by unfold dateO capO; rw [e3, e4]; rfl
  have e6 : wholeO Z = some (k : Int) := by
    rw [whole_digits hd (by omega), hZ]
    unfold numR
    rw [decDigits_val, if_pos (by unfold topN; omega)]
    rfl
  unfold atV
  rw [e1, e2]
  simp only [Bool.false_eq_true, if_false]
  unfold plainV
  rw [e5, e6]
  dsimp only
  rw [if_neg]
  · unfold inV; rw [if_neg (by omega)]
  · rintro (h | h | h)
    · omega
    · rw [allAt_zero, hd] at h; cases h
    · omega
set_option maxHeartbeats 8000000 in
theorem spanDigits_walk (t now : Int) (w : World) (_t1 : -9223372036854775808 ≤ t) (_t2 : t ≤ 9223372036854775807) (h1 : -9223372036854775808 ≤ now) (h2 : now ≤ 9223372036854775807) (hp : Pow10 w) :
    Calls Tryd.prog 5 #[.int .i64 t, .int .i64 now] w fun e w' => e = .returned (.bool true) ∧ w.grownBy w' none := by
  have HP := Lib.hid hp; clear hp
  have HG := G.refl w none
  have HK := Lib.hid known16_any
  by_cases hz : t < 100000000
  · go_enter Tryd.func5, Tryd.ntmps5
    go_wp2_with (go_at_call 13; refine (HK.out _ (Pow10.kept (w := w) HP.out (by have hb0 := (HG); (repeat first | with_reducible exact hb0 | with_reducible refine G.drewN ?_ _ | with_reducible refine G.drew ?_ | with_reducible refine G.alloc ?_ _ | with_reducible refine G.set ?_ _ (Or.inr rfl) | (with_reducible refine G.set ?_ _ (Or.inl ?_); rotate_left; focus (first | omega | (simp; done) | (simp; omega))))))).mono ?_; rintro e wn ⟨rfl, hgn⟩; replace HG := G.trans (w := w) (by have hb0 := (HG); (repeat first | with_reducible exact hb0 | with_reducible refine G.drewN ?_ _ | with_reducible refine G.drew ?_ | with_reducible refine G.alloc ?_ _ | with_reducible refine G.set ?_ _ (Or.inr rfl) | (with_reducible refine G.set ?_ _ (Or.inl ?_); rotate_left; focus (first | omega | (simp; done) | (simp; omega))))) hgn; clear hgn)
    go_ret
    exact ⟨ret_bool rfl, (by have hb0 := (HG); (repeat first | with_reducible exact hb0 | with_reducible refine G.drewN ?_ _ | with_reducible refine G.drew ?_ | with_reducible refine G.alloc ?_ _ | with_reducible refine G.set ?_ _ (Or.inr rfl) | (with_reducible refine G.set ?_ _ (Or.inl ?_); rotate_left; focus (first | omega | (simp; done) | (simp; omega)))))⟩
  by_cases hy : 4294967295 < t
  · go_enter Tryd.func5, Tryd.ntmps5
    go_wp2_with (go_at_call 13; refine (HK.out _ (Pow10.kept (w := w) HP.out (by have hb0 := (HG); (repeat first | with_reducible exact hb0 | with_reducible refine G.drewN ?_ _ | with_reducible refine G.drew ?_ | with_reducible refine G.alloc ?_ _ | with_reducible refine G.set ?_ _ (Or.inr rfl) | (with_reducible refine G.set ?_ _ (Or.inl ?_); rotate_left; focus (first | omega | (simp; done) | (simp; omega))))))).mono ?_; rintro e wn ⟨rfl, hgn⟩; replace HG := G.trans (w := w) (by have hb0 := (HG); (repeat first | with_reducible exact hb0 | with_reducible refine G.drewN ?_ _ | with_reducible refine G.drew ?_ | with_reducible refine G.alloc ?_ _ | with_reducible refine G.set ?_ _ (Or.inr rfl) | (with_reducible refine G.set ?_ _ (Or.inl ?_); rotate_left; focus (first | omega | (simp; done) | (simp; omega))))) hgn; clear hgn)
    go_ret
    exact ⟨ret_bool rfl, (by have hb0 := (HG); (repeat first | with_reducible exact hb0 | with_reducible refine G.drewN ?_ _ | with_reducible refine G.drew ?_ | with_reducible refine G.alloc ?_ _ | with_reducible refine G.set ?_ _ (Or.inr rfl) | (with_reducible refine G.set ?_ _ (Or.inl ?_); rotate_left; focus (first | omega | (simp; done) | (simp; omega)))))⟩
  obtain ⟨k, rfl⟩ : ∃ k : Nat, t = k := ⟨t.toNat, by omega⟩
  go_enter Tryd.func5, Tryd.ntmps5
  go_wp2_with fail
  refine (refDigits_nat k rfl (by omega) _).mono ?_
  rintro e wn ⟨Z, rfl, hZ, hzs, hgn⟩
  replace HG := G.trans (w := w) (by have hb0 := (HG); (repeat first | with_reducible exact hb0 | with_reducible refine G.drewN ?_ _ | with_reducible refine G.drew ?_ | with_reducible refine G.alloc ?_ _ | with_reducible refine G.set ?_ _ (Or.inr rfl) | (with_reducible refine G.set ?_ _ (Or.inl ?_); rotate_left; focus (first | omega | (simp; done) | (simp; omega))))) hgn; clear hgn
  have HA := Lib.hid (fun w => at_prog Z now w (by omega) h1 h2)
  rw [at_digits hZ (by omega) (by omega)] at HA
  clear hZ
  go_wp2_with (first | (go_at_call 11; refine (HA.out _).mono ?_; rintro e wn ⟨rfl, hgn⟩; replace HG := G.trans (w := w) (by have hb0 := (HG); (repeat first | with_reducible exact hb0 | with_reducible refine G.drewN ?_ _ | with_reducible refine G.drew ?_ | with_reducible refine G.alloc ?_ _ | with_reducible refine G.set ?_ _ (Or.inr rfl) | (with_reducible refine G.set ?_ _ (Or.inl ?_); rotate_left; focus (first | omega | (simp; done) | (simp; omega))))) hgn; clear hgn) | (go_at_call 13; refine (HK.out _ (Pow10.kept (w := w) HP.out (by have hb0 := (HG); (repeat first | with_reducible exact hb0 | with_reducible refine G.drewN ?_ _ | with_reducible refine G.drew ?_ | with_reducible refine G.alloc ?_ _ | with_reducible refine G.set ?_ _ (Or.inr rfl) | (with_reducible refine G.set ?_ _ (Or.inl ?_); rotate_left; focus (first | omega | (simp; done) | (simp; omega))))))).mono ?_; rintro e wn ⟨rfl, hgn⟩; replace HG := G.trans (w := w) (by have hb0 := (HG); (repeat first | with_reducible exact hb0 | with_reducible refine G.drewN ?_ _ | with_reducible refine G.drew ?_ | with_reducible refine G.alloc ?_ _ | with_reducible refine G.set ?_ _ (Or.inr rfl) | (with_reducible refine G.set ?_ _ (Or.inl ?_); rotate_left; focus (first | omega | (simp; done) | (simp; omega))))) hgn; clear hgn))
  go_ret
  exact ⟨ret_bool (by simp), (by have hb0 := (HG); (repeat first | with_reducible exact hb0 | with_reducible refine G.drewN ?_ _ | with_reducible refine G.drew ?_ | with_reducible refine G.alloc ?_ _ | with_reducible refine G.set ?_ _ (Or.inr rfl) | (with_reducible refine G.set ?_ _ (Or.inl ?_); rotate_left; focus (first | omega | (simp; done) | (simp; omega)))))⟩
end Go.Proofs.YtjfdaoedpdiaeaaDoor
