/-
  A value in digits is read as that value; noughts ahead and behind; a seventh digit. Plain lists.
-/
import Derived.Test.YtjfonckmfafdgaaDoorDecB
import Derived.Test.YtjfonckmfafdgaaDoorRefParse
import Derived.Lib.Split
namespace Go.Proofs.YtjfonckmfafdgaaDoor
open Go.RowKit
theorem indexByte_app {a b : List UInt8} {c : UInt8} (h : ∀ x ∈ a, x ≠ c) : Lib.indexByte (a ++ c :: b) c = a.length := by
  refine indexByte_some (by simp) (by simp) (fun j hj => ?_)
  rw [List.getElem_append_left (by omega)]
  exact h _ (List.getElem_mem _)
theorem cut_app {t : ByteArray} {a b : List UInt8} (ht : t.data.toList = a ++ 46 :: b) (h : ∀ x ∈ a, x ≠ 46) : (cutA t 46).data.toList = a ∧ (cutB t 46).data.toList = b ∧ cutD t 46 = true := by
  have e := indexByte_app (b := b) h
  unfold cutA cutB cutD
  rw [ht, e, if_neg (by omega), if_neg (by omega), Int.toNat_natCast]
  refine ⟨?_, ?_, ?_⟩
  · rw [Lib.extract_from_zero, ht, List.take_left]
  · rw [Lib.extract_to_end, ht, List.drop_append, Nat.add_sub_cancel_left, List.drop_of_length_le (by omega)]; rfl
  · rw [decide_eq_false (by omega)]; rfl
theorem cut_plain {t : ByteArray} (h : ∀ x ∈ t.data.toList, x ≠ 46) : (cutA t 46).data.toList = t.data.toList ∧ (cutB t 46).data.toList = [] ∧ cutD t 46 = false := by
  have e := indexByte_none h
  unfold cutA cutB cutD
  rw [e]
  exact ⟨rfl, rfl, rfl⟩
theorem isD_dot {c : UInt8} (h : isD c = true) : c ≠ 46 := by rintro rfl; exact absurd h (by decide)
theorem all_dot {a : List UInt8} (h : a.all isD = true) : ∀ x ∈ a, x ≠ 46 := fun x hx => isD_dot (List.all_eq_true.1 h x hx)
theorem ne_empty {a : List UInt8} (h : a ≠ []) : (!a.isEmpty) = true := by cases a with | nil => exact absurd rfl h | cons c r => rfl
/-- digits, a dot, digits: what they say -/
theorem readS_dot {t : ByteArray} {a b : List UInt8} (ht : t.data.toList = a ++ 46 :: b) (ha : a.all isD = true) (ha0 : a ≠ []) (hb : b.all isD = true) (hb0 : b ≠ []) (hm : valF 0 a * 1000000 + fracR b ≤ topN) : readS t = some (valF 0 a * 1000000 + fracR b) := by
  obtain ⟨h1, h2, h3⟩ := cut_app ht (all_dot ha)
  unfold readS
  rw [h1, h2, h3, read_some (by rw [ha, ne_empty ha0]; rfl) (by rw [hb, ne_empty hb0]; rfl), if_pos hm]
theorem readS_whole {t : ByteArray} (ha : t.data.toList.all isD = true) (ha0 : t.data.toList ≠ []) (hm : valF 0 t.data.toList * 1000000 ≤ topN) : readS t = some (valF 0 t.data.toList * 1000000) := by
  obtain ⟨h1, h2, h3⟩ := cut_plain (all_dot ha)
  unfold readS
  rw [h1, h2, h3, read_some (by rw [ha, ne_empty ha0]; rfl) rfl, fracR_nil, Nat.add_zero, if_pos hm]
theorem readS_print {t : ByteArray} {m : Nat} (ht : t.data.toList = printA m) (hm : m ≤ topN) : readS t = some m := by
  unfold printA at ht
  have hd := decDigits_isD (m / 1000000)
  have hv := decDigits_val (m / 1000000)
  have hn := decDigits_ne (m / 1000000)
  by_cases hf : m % 1000000 = 0
  · rw [if_pos hf, List.append_nil] at ht
    rw [readS_whole (by rw [ht]; exact hd) (by rw [ht]; exact hn) (by rw [ht, hv]; omega), ht, hv]
    congr 1; omega
  · rw [if_neg hf] at ht
    have e : valF 0 (Lib.decDigits (m / 1000000)) * 1000000 + fracR (fracD (m % 1000000)) = m := by rw [hv, fracR_D (by omega)]; omega
    rw [readS_dot ht hd hn (fracD_isD (by omega)) (fracD_ne hf) (by rw [e]; exact hm), e]
theorem first_data {s : ByteArray} {c : UInt8} {r : List UInt8} (h : s.data.toList = c :: r) : 0 < s.size ∧ (∀ h0 : 0 < s.size, s[0] = c) ∧ (s.extract 1 s.size).data.toList = r := by
  have e : s.data.toList.length = s.size := by simp
  have hp : 0 < s.size := by rw [h, List.length_cons] at e; omega
  refine ⟨hp, fun h0 => ?_, ?_⟩
  · have := drop_cons s 0 h0
    rw [List.drop_zero, h] at this
    exact (List.cons.inj this).1.symm
  · rw [Lib.extract_to_end, h]; rfl
/-- with a minus ahead -/
theorem parse_neg {s : ByteArray} {r : List UInt8} {m : Nat} (h : s.data.toList = 45 :: r) (hr : ∀ t : ByteArray, t.data.toList = r → readS t = some m) : parseO s = some (-(m : Int)) := by
  obtain ⟨h0, h1, h2⟩ := first_data h
  have e1 : signedS s = true := by unfold signedS; rw [dif_pos h0, h1 h0]; rfl
  have e2 : minusS s = true := by unfold minusS; rw [dif_pos h0, h1 h0]; rfl
  unfold parseO bareS
  rw [e1, e2]
  simp only [if_true]
  rw [hr _ h2]; rfl
/-- without a sign ahead -/
theorem parse_pos {s : ByteArray} {c : UInt8} {r : List UInt8} {m : Nat} (h : s.data.toList = c :: r) (hc : isD c = true) (hr : readS s = some m) : parseO s = some (m : Int) := by
  obtain ⟨h0, h1, h2⟩ := first_data h
  have hlo := isD_lo hc
  have e1 : signedS s = false := by
    unfold signedS
    rw [dif_pos h0, h1 h0]
    have a1 : ((c.toNat : Int) == 45) = false := by simp; omega
    have a2 : ((c.toNat : Int) == 43) = false := by simp; omega
    rw [a1, a2]; rfl
  have e2 : minusS s = false := by
    unfold minusS
    rw [dif_pos h0, h1 h0]
    simp; omega
  unfold parseO bareS
  rw [e1, e2]
  simp only [Bool.false_eq_true, if_false]
  rw [hr]; rfl
theorem printA_head (m : Nat) : ∃ c r, printA m = c :: r ∧ isD c = true := by
  unfold printA
  have hd := decDigits_isD (m / 1000000)
  rcases h : Lib.decDigits (m / 1000000) with _ | ⟨c, r⟩
  · exact absurd h (decDigits_ne _)
  · rw [h, List.all_cons, Bool.and_eq_true] at hd
    exact ⟨c, _, rfl, hd.1⟩
/-- there and back -/
theorem parse_print {n : Int} (h : isR true n = true) : parseO (printV true n) = some n := by
  rw [printV_some (by rw [h]; rfl)]
  have hb : -4611686018427387904 ≤ n ∧ n ≤ 4611686018427387904 := by simpa [isR] using h
  have hm : n.natAbs ≤ topN := by unfold topN; omega
  by_cases hn : n < 0
  · have e : (⟨(printL n).toArray⟩ : ByteArray).data.toList = 45 :: printA n.natAbs := by show printL n = _; unfold printL; rw [if_pos hn]; rfl
    rw [parse_neg e (fun t ht => readS_print ht hm)]
    congr 1; omega
  · have e : (⟨(printL n).toArray⟩ : ByteArray).data.toList = printA n.natAbs := by show printL n = _; unfold printL; rw [if_neg hn]; rfl
    obtain ⟨c, r, h1, h2⟩ := printA_head n.natAbs
    rw [parse_pos (e.trans h1) h2 (readS_print e hm)]
    congr 1; omega
theorem parse_none : parseO noneB = none := by decide
theorem print_ne {n : Int} (h : isR true n = true) : printV true n ≠ noneB := by
  intro e
  have := parse_print h
  rw [e, parse_none] at this
  cases this
theorem printV_size (b : Bool) (n : Int) : (printV b n).size ≤ 100 := by
  cases hk : (b && isR b n)
  · rw [printV_none hk]; decide
  · rw [printV_some hk]
    cases b
    · cases hk
    have hb : -4611686018427387904 ≤ n ∧ n ≤ 4611686018427387904 := by simpa [isR] using hk
    rw [Lib.size_mk]
    unfold printL printA
    have h1 := decDigits_len (u := n.natAbs / 1000000) (k := 18) (by omega)
    have h2 := fracD_len (f := n.natAbs % 1000000) (by omega)
    simp only [List.length_append]
    split <;> split <;> simp <;> omega
end Go.Proofs.YtjfonckmfafdgaaDoor
