/-
  A text's pieces between dots, and what a name is. No program is named here.
-/
import Derived.Test.YthabgdhfbcfjgaaDoorElRow
import Derived.Lib.SplitLaws
import Derived.Lib.Join
import Derived.Lib.Replace
namespace Go.Proofs.YthabgdhfbcfjgaaDoor
/-- the pieces of what is left, the first of which has begun -/
def pcs (cur : List UInt8) : List UInt8 → List (List UInt8)
  | [] => [cur]
  | c :: r => if c = 46 then cur :: pcs [] r else pcs (cur ++ [c]) r
def bs (l : List UInt8) : ByteArray := ⟨l.toArray⟩
theorem bs_data (l : List UInt8) : (bs l).data.toList = l := rfl
theorem bs_of (s : ByteArray) : bs s.data.toList = s := rfl
theorem bs_inj {a b : List UInt8} (h : bs a = bs b) : a = b := by have := congrArg (·.data.toList) h; simpa [bs] using this
theorem bs_map_inj {a b : List (List UInt8)} (h : a.map bs = b.map bs) : a = b := by
  induction a generalizing b with
  | nil => cases b with
    | nil => rfl
    | cons y b => simp at h
  | cons x a ih => cases b with
    | nil => simp at h
    | cons y b => simp only [List.map_cons, List.cons.injEq] at h; rw [bs_inj h.1, ih h.2]
def ptsL (s : List UInt8) : List (List UInt8) := pcs [] s
theorem pcs_ne (cur s : List UInt8) : pcs cur s ≠ [] := by
  induction s generalizing cur with
  | nil => simp [pcs]
  | cons c r ih => unfold pcs; split; simp; exact ih _
theorem pcs_cur (a b s : List UInt8) : pcs (a ++ b) s = match pcs b s with | [] => [] | h :: t => (a ++ h) :: t := by
  induction s generalizing b with
  | nil => rfl
  | cons c r ih =>
    unfold pcs
    by_cases h : c = 46
    · rw [if_pos h, if_pos h]
    · rw [if_neg h, if_neg h, List.append_assoc, ih (b ++ [c])]
theorem index_46 : ∀ s : List UInt8, Lib.index s [46] = Lib.indexByte s 46 := by
  intro s
  induction s with
  | nil => rfl
  | cons c r ih =>
    unfold Lib.index Lib.indexByte
    rw [ih]
    by_cases h : c = 46
    · subst h; simp [List.isPrefixOf]
    · have h1 : (c == 46) = false := by simpa using h
      have h2 : ([46] : List UInt8).isPrefixOf (c :: r) = false := by simp [List.isPrefixOf]; exact fun e => h e.symm
      rw [h1, h2]
theorem pcs_nil (cur : List UInt8) : pcs cur [] = [cur] := by rw [pcs]
theorem pcs_cons (cur r : List UInt8) (c : UInt8) : pcs cur (c :: r) = if c = 46 then cur :: pcs [] r else pcs (cur ++ [c]) r := by rw [pcs]
theorem pcs_index : ∀ (s cur : List UInt8), pcs cur s = if Lib.indexByte s 46 = -1 then [cur ++ s] else (cur ++ s.take (Lib.indexByte s 46).toNat) :: pcs [] (s.drop ((Lib.indexByte s 46).toNat + 1)) := by
  intro s
  induction s with
  | nil => intro cur; rw [pcs_nil, Lib.indexByte, if_pos rfl, List.append_nil]
  | cons c r ih =>
    intro cur
    have hge := Lib.indexByte_ge r 46
    rw [pcs_cons, Lib.indexByte]
    by_cases h : c = 46
    · subst h
      simp only [if_true, beq_self_eq_true]
      rw [if_neg (by omega)]
      simp
    · have h1 : (c == 46) = false := by simpa using h
      rw [if_neg h, h1, ih]
      simp only [Bool.false_eq_true, if_false, beq_iff_eq]
      by_cases h2 : Lib.indexByte r 46 = -1
      · rw [if_pos h2, if_pos h2, if_pos rfl, List.append_assoc]; rfl
      · rw [if_neg h2, if_neg h2, if_neg (by omega), show (Lib.indexByte r 46 + 1).toNat = (Lib.indexByte r 46).toNat + 1 from by omega, List.take_succ_cons, List.drop_succ_cons, List.append_assoc]; rfl
theorem splitK_46 : ∀ (n : Nat) (s : List UInt8), s.length ≤ n → Lib.splitK [46] 0 (Lib.count s [46]) s = pcs [] s := by
  intro n
  induction n with
  | zero =>
    intro s h
    obtain rfl : s = [] := List.eq_nil_of_length_eq_zero (by omega)
    rfl
  | succ n ih =>
    intro s h
    rw [pcs_index, ← index_46]
    by_cases hm : Lib.index s [46] = -1
    · rw [if_pos hm, Lib.count_miss hm]; rfl
    · have hge := Lib.index_ge s [46]
      obtain ⟨i, hi⟩ : ∃ i : Nat, Lib.index s [46] = i := ⟨(Lib.index s [46]).toNat, by omega⟩
      rw [if_neg hm, Lib.count_hit (by simp) hi, hi, Nat.add_comm 1, Lib.splitK, if_neg (by rw [hi]; simp), hi]
      simp only [Int.toNat_natCast, Nat.add_zero, List.nil_append, List.length_singleton]
      congr 1
      by_cases hs : s = []
      · subst hs; simp [Lib.index] at hi
      · have : 0 < s.length := List.length_pos_iff.2 hs
        exact ih _ (by rw [List.length_drop]; omega)
theorem splitB_46 (s : ByteArray) : Lib.splitB ⟨#[46]⟩ 0 (Lib.countB s ⟨#[46]⟩) s = (ptsL s.data.toList).map bs := by
  have h := Lib.splitB_data ⟨#[46]⟩ 0 (Lib.countB s ⟨#[46]⟩) s
  have e : Lib.splitK [46] 0 (Lib.countB s ⟨#[46]⟩) s.data.toList = ptsL s.data.toList := splitK_46 _ _ (Nat.le_refl _)
  rw [show (⟨#[46]⟩ : ByteArray).data.toList = [46] from rfl, e] at h
  rw [← h, List.map_map]
  exact (List.map_id _).symm
theorem countB_46 (s : ByteArray) : Lib.countB s ⟨#[46]⟩ + 1 = (ptsL s.data.toList).length := by
  have key : ∀ (l cur : List UInt8), l.count 46 + 1 = (pcs cur l).length := by
    intro l
    induction l with
    | nil => intro cur; rfl
    | cons c r ih =>
      intro cur
      rw [pcs_cons, List.count_cons]
      by_cases h : c = 46
      · subst h; simp; exact ih []
      · have h1 : (c == 46) = false := by simpa using h
        rw [if_neg h, h1]; simp; exact ih _
  show Lib.count s.data.toList [46] + 1 = _
  rw [Lib.count_one]
  exact key _ _
end Go.Proofs.YthabgdhfbcfjgaaDoor
