/-
  The walk of the reference's Parse.
-/
import Derived.Test.YtiakgjijlhfneaaDoorDecParseAid
import Derived.Test.YtiakgjijlhfneaaDoorDecFrac
import Derived.Deep.DeepCutAuto
import Derived.RegionTactic
import Derived.ChangeAlike
namespace Go.Proofs.YtiakgjijlhfneaaDoor
open Go.RowKit
theorem indexByte_none {l : List UInt8} {c : UInt8} (h : ∀ x ∈ l, x ≠ c) : Lib.indexByte l c = -1 := by
  induction l with
  | nil => rfl
  | cons b l ih =>
    have hb : (b == c) = false := by simpa using h b (by simp)
    rw [Lib.indexByte, hb, ih (fun x hx => h x (by simp [hx]))]
    rfl
theorem indexByte_some {l : List UInt8} {c : UInt8} : ∀ {i : Nat}, (hi : i < l.length) → l[i] = c → (∀ j (h : j < i), l[j]'(by omega) ≠ c) → Lib.indexByte l c = i := by
  induction l with
  | nil => intro i hi; simp at hi
  | cons b l ih =>
    intro i hi h1 h2
    rw [Lib.indexByte]
    cases i with
    | zero =>
      have hb : (b == c) = true := by simpa using h1
      rw [hb]; rfl
    | succ i =>
      have hb : (b == c) = false := by simpa using h2 0 (by omega)
      have := ih (i := i) (by simpa using hi) (by simpa using h1) (fun j hj => by have := h2 (j + 1) (by omega); simpa using this)
      rw [hb, this]
      simp
theorem cut_found {t : ByteArray} {i : Nat} (hi : i < t.size) (h1 : t[i] = 46) (h2 : ∀ j (h : j < i), t[j]'(by omega) ≠ 46) : cutA t 46 = t.extract 0 i ∧ cutB t 46 = t.extract (i + 1) t.size ∧ cutD t 46 = true := by
  have e : Lib.indexByte t.data.toList 46 = i := indexByte_some (by simpa using hi) h1 h2
  unfold cutA cutB cutD
  rw [e]
  rw [if_neg (by omega), if_neg (by omega)]
  refine ⟨rfl, rfl, ?_⟩
  rw [decide_eq_false (by omega)]; rfl
theorem cut_missed {t : ByteArray} (h : ∀ j (h : j < t.size), t[j] ≠ 46) : cutA t 46 = t ∧ cutB t 46 = ⟨#[]⟩ ∧ cutD t 46 = false := by
  have e : Lib.indexByte t.data.toList 46 = -1 := indexByte_none (fun x hx => by
    obtain ⟨j, hj, rfl⟩ := List.getElem_of_mem hx
    exact h j (by simpa using hj))
  unfold cutA cutB cutD
  rw [e]
  simp
/-- has a text a sign ahead; is it a minus; the text without it -/
def signedS (s : ByteArray) : Bool := if h : 0 < s.size then ((s[0].toNat : Int) == 45) || ((s[0].toNat : Int) == 43) else false
def minusS (s : ByteArray) : Bool := if h : 0 < s.size then ((s[0].toNat : Int) == 45) else false
def bareS (s : ByteArray) : ByteArray := if signedS s then s.extract 1 s.size else s
def readS (t : ByteArray) : Option Nat := readR (cutA t 46).data.toList (cutB t 46).data.toList (cutD t 46)
/-- what a text says -/
def parseO (s : ByteArray) : Option Int := Option.map (fun (m : Nat) => if minusS s then -(m : Int) else (m : Int)) (readS (bareS s))
def parseV (s : ByteArray) : Value := .tuple #[valV (parseO s), .bool (parseO s).isSome]
theorem bareS_size (s : ByteArray) : (bareS s).size ≤ s.size := by
  unfold bareS
  split
  · rw [ByteArray.size_extract]; omega
  · exact Nat.le_refl _
theorem signed_pos {s : ByteArray} (h : signedS s = true) : 0 < s.size := by
  unfold signedS at h
  split at h
  · assumption
  · cases h
theorem toList_empty {s : ByteArray} (h : ¬ 0 < s.size) : s.toList.isEmpty = true := by
  rw [ByteArray.toList_eq]
  have e : s.data.toList.length = s.size := by simp
  have : s.data.toList = [] := List.eq_nil_of_length_eq_zero (by omega)
  rw [this]; rfl
theorem toList_full {s : ByteArray} (h : 0 < s.size) : s.toList.isEmpty = false := by
  rw [ByteArray.toList_eq]
  have e : s.data.toList.length = s.size := by simp
  cases hl : s.data.toList with
  | nil => rw [hl, List.length_nil] at e; omega
  | cons c r => rfl
/-- what the numbers of the two ways come to -/
theorem read_some {a b : List UInt8} {D : Bool} (hA : (a.all isD && !a.isEmpty) = true) (hB : (!D || (b.all isD && !b.isEmpty)) = true) : readR a b D = if valF 0 a * 1000000 + fracR b ≤ topN then some (valF 0 a * 1000000 + fracR b) else none := by
  unfold readR; rw [hA, hB]; rfl
theorem read_bad {a b : List UInt8} {D : Bool} (h : ((a.all isD && !a.isEmpty) && (!D || (b.all isD && !b.isEmpty))) = false) : readR a b D = none := by
  unfold readR; rw [if_neg (by rw [h]; simp)]
end Go.Proofs.YtiakgjijlhfneaaDoor
