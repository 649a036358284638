/-
  So many of a unit, with either sign, and now and they; the walk of the law on it.
-/
import Derived.Test.YtjfdaoedpdiaeaaDoorSpanDig
namespace Go.Proofs.YtjfdaoedpdiaeaaDoor
open Go.RowKit
theorem while_app {a u : List UInt8} (ha : a.all isD = true) (hu : ∃ c r, u = c :: r ∧ isD c = false) : (a ++ u).takeWhile isD = a := by
  obtain ⟨c, r, rfl, hc⟩ := hu
  induction a with
  | nil => rw [List.nil_append, List.takeWhile_cons_of_neg (by rw [hc]; simp)]
  | cons x a ih =>
    rw [List.all_cons, Bool.and_eq_true] at ha
    rw [List.cons_append, List.takeWhile_cons_of_pos ha.1, ih ha.2]
theorem isD_signed {s : ByteArray} {c : UInt8} {r : List UInt8} (h : s.data.toList = c :: r) (hc : isD c = true) : signedS s = false := by
  obtain ⟨h0, h1⟩ := head_of h
  cases hs : signedS s
  · rfl
  · obtain ⟨h0', h2⟩ := signed_head hs
    rw [h1, hc] at h2; cases h2
theorem inter_plain {s U : ByteArray} {n : Nat} (hs : s.data.toList = Lib.decDigits n ++ U.data.toList) (hu : ∃ c r, U.data.toList = c :: r ∧ isD c = false) (_hn : n ≤ 100) (_h0 : unitN U ≠ 0) (_hU : unitN U ≤ 31536000) :
    signedS s = false ∧ bareS s = s ∧ leadB s = ⟨(Lib.decDigits n).toArray⟩ ∧ restB s = U := by
  have hd := decDigits_isD n
  obtain ⟨c, r, hcr⟩ : ∃ c r, Lib.decDigits n = c :: r := by
    cases h : Lib.decDigits n with
    | nil => exact absurd h (decDigits_ne n)
    | cons c r => exact ⟨c, r, rfl⟩
  have hsg : signedS s = false := isD_signed (c := c) (r := r ++ U.data.toList) (by rw [hs, hcr]; rfl) (by rw [hcr, List.all_cons, Bool.and_eq_true] at hd; exact hd.1)
  have hl : (leadB s).data.toList = Lib.decDigits n := by rw [leadB_data, hs]; exact while_app hd hu
  have hr : runD s 0 = (Lib.decDigits n).length := by unfold runD; rw [List.drop_zero, hs, while_app hd hu]
  refine ⟨hsg, by unfold bareS; rw [hsg]; rfl, ext_data hl, ?_⟩
  have : (restB s).data.toList = U.data.toList := by
    unfold restB
    rw [Lib.extract_to_end, hr, hs, List.drop_left]
  rw [ext_data this]
theorem whole_dec {n : Nat} (hn : n ≤ 100) : wholeO ⟨(Lib.decDigits n).toArray⟩ = some (n : Int) := by
  rw [whole_digits (t := ⟨(Lib.decDigits n).toArray⟩) (decDigits_isD n) (by rw [Lib.size_mk]; exact decDigits_pos n)]
  show Option.map _ (numR 0 (Lib.decDigits n)) = _
  unfold numR
  rw [decDigits_val, if_pos (by unfold topN; omega)]
  rfl
theorem unit_fits {n u : Nat} (hn : n ≤ 100) (h0 : u ≠ 0) (hU : u ≤ 31536000) : ¬ (u = 0 ∨ (4294967295 : Int) / (u : Int) < (n : Int)) := by
  rintro (h | h)
  · exact h0 h
  · have : (n : Int) ≤ (4294967295 : Int) / (u : Int) := by
      rw [Int.le_ediv_iff_mul_le (by omega)]
      have h1 : n * u ≤ 100 * 31536000 := Nat.mul_le_mul hn hU
      have h2 : ((n * u : Nat) : Int) = (n : Int) * (u : Int) := Int.natCast_mul n u
      omega
    omega
theorem inter_unit {s U : ByteArray} {n : Nat} (hs : s.data.toList = Lib.decDigits n ++ U.data.toList) (hu : ∃ c r, U.data.toList = c :: r ∧ isD c = false) (hn : n ≤ 100) (h0 : unitN U ≠ 0) (hU : unitN U ≤ 31536000) :
    interO s = some ((n : Int) * (unitN U : Int)) := by
  obtain ⟨h1, h2, h3, h4⟩ := inter_plain hs hu hn h0 hU
  have hm : minusS s = false := by
    unfold signedS at h1
    unfold minusS
    split
    · rename_i hz
      rw [dif_pos hz, Bool.or_eq_false_iff] at h1
      exact h1.1
    · rfl
  unfold interO
  rw [h2, h3, h4, whole_dec hn, hm]
  dsimp only [Option.bind_some]
  rw [if_neg (unit_fits hn h0 hU)]
  simp
theorem minus_data {m s : ByteArray} (hm : m.data.toList = 45 :: s.data.toList) : signedS m = true ∧ minusS m = true ∧ bareS m = s := by
  obtain ⟨h0, h1⟩ := head_of hm
  have hs : signedS m = true := by unfold signedS; rw [dif_pos h0, h1]; rfl
  have hn : minusS m = true := by unfold minusS; rw [dif_pos h0, h1]; rfl
  refine ⟨hs, hn, ?_⟩
  have : (bareS m).data.toList = s.data.toList := by unfold bareS; rw [hs, if_pos rfl, Lib.extract_to_end, hm]; rfl
  rw [ext_data this]
theorem inter_minus {m s U : ByteArray} {n : Nat} (hm : m.data.toList = 45 :: s.data.toList) (hs : s.data.toList = Lib.decDigits n ++ U.data.toList) (hu : ∃ c r, U.data.toList = c :: r ∧ isD c = false) (hn : n ≤ 100) (h0 : unitN U ≠ 0) (hU : unitN U ≤ 31536000) :
    interO m = some (-((n : Int) * (unitN U : Int))) := by
  obtain ⟨_, _, h3, h4⟩ := inter_plain hs hu hn h0 hU
  obtain ⟨_, g2, g3⟩ := minus_data hm
  unfold interO
  rw [g3, h3, h4, whole_dec hn, g2]
  dsimp only [Option.bind_some]
  rw [if_neg (unit_fits hn h0 hU)]
  simp
theorem rel_in {x now : Int} (w1 : 0 ≤ now) (w2 : now ≤ 4294967295) : relV (some x) now = inV (now + x) := if_neg (by omega)
theorem at_minus {m s U : ByteArray} {n : Nat} {now : Int} (hm : m.data.toList = 45 :: s.data.toList) (hs : s.data.toList = Lib.decDigits n ++ U.data.toList) (hu : ∃ c r, U.data.toList = c :: r ∧ isD c = false) (hn : n ≤ 100) (h0 : unitN U ≠ 0) (hU : unitN U ≤ 31536000) (w1 : 0 ≤ now) (w2 : now ≤ 4294967295) :
    atV m now = inV (now - (n : Int) * (unitN U : Int)) := by
  have hi := inter_minus hm hs hu hn h0 hU
  obtain ⟨g1, _, _⟩ := minus_data hm
  have hnw : isNow m = false := by
    cases h : isNow m
    · rfl
    · obtain ⟨r, hr⟩ := isNow_data h
      rw [hm] at hr
      rw [List.cons.injEq] at hr
      exact absurd hr.1 (by decide)
  unfold atV
  rw [hnw, g1, hi]
  simp only [Bool.false_eq_true, if_false, if_true]
  rw [rel_in w1 w2, ← Int.sub_eq_add_neg]
theorem at_now {m s q U : ByteArray} {n : Nat} {now : Int} (hq : q.data.toList = 110 :: 111 :: 119 :: m.data.toList) (hm : m.data.toList = 45 :: s.data.toList) (hs : s.data.toList = Lib.decDigits n ++ U.data.toList) (hu : ∃ c r, U.data.toList = c :: r ∧ isD c = false) (hn : n ≤ 100) (h0 : unitN U ≠ 0) (hU : unitN U ≤ 31536000) (w1 : 0 ≤ now) (w2 : now ≤ 4294967295) :
    atV q now = inV (now - (n : Int) * (unitN U : Int)) := by
  have hi := inter_minus hm hs hu hn h0 hU
  obtain ⟨g1, _, _⟩ := minus_data hm
  have hN : isNow q = true := by unfold isNow; rw [hq]; rfl
  have he : q.extract 3 q.size = m := by
    have : (q.extract 3 q.size).data.toList = m.data.toList := by rw [Lib.extract_to_end, hq]; rfl
    rw [ext_data this]
  have hz : ¬ q.size = 3 := by
    have e1 := size_of_data hq
    have e2 := size_of_data hm
    rw [List.length_cons, List.length_cons, List.length_cons, ← size_of_data rfl] at e1
    rw [List.length_cons] at e2
    omega
  unfold atV
  rw [hN, he, g1, hi]
  simp only [if_true]
  rw [if_neg hz]
  rw [rel_in w1 w2, ← Int.sub_eq_add_neg]
end Go.Proofs.YtjfdaoedpdiaeaaDoor
