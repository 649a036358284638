/-
  The words of a target, from a place on: one at a time, and all. No program is named here.
-/
import Derived.Test.YtiakgjijlhfneaaGreatDoorLexSpec
import Derived.Test.YtiakgjijlhfneaaGreatDoorAid
import Derived.Lib.Bytealg
namespace Go.Proofs.YtiakgjijlhfneaaGreatDoor
abbrev Tok := Nat × ByteArray
def noText : ByteArray := ⟨#[]⟩

/-- what stands at a place whose byte is c: where the next one begins, and the word, if it is one -/
def lexStep (s : ByteArray) (k : Nat) (c : UInt8) : Option (Nat × List Tok) :=
  if c = 40 then some (k + 1, [(3, noText)]) else if c = 41 then some (k + 1, [(4, noText)]) else if c = 44 then some (k + 1, [(5, noText)])
  else if c = 32 ∨ c = 9 then some (k + 1, [])
  else if c = 34 ∨ c = 39 then
    (if Lib.indexByte (s.data.toList.drop (k + 1)) c < 0 then none
     else some (k + 1 + (Lib.indexByte (s.data.toList.drop (k + 1)) c).toNat + 1, [(2, s.extract (k + 1) (k + 1 + (Lib.indexByte (s.data.toList.drop (k + 1)) c).toNat))]))
  else match wEnd (s.data.toList.drop k) 0 k with
    | some (e, 0) => if k < e then some (e, [(1, s.extract k e)]) else none
    | _ => none

def lexAll : Nat → ByteArray → Nat → Option (List Tok)
  | 0, _, _ => some []
  | f + 1, s, k => if h : k < s.size then (match lexStep s k s[k] with
      | none => none
      | some (k', ts) => (lexAll f s k').map (ts ++ ·)) else some []

def tokCells (t : Tok) : List Value := [.int .i64 t.1, .string t.2]

theorem indexByte_lt (c : UInt8) : ∀ l : List UInt8, Lib.indexByte l c < l.length := by
  intro l
  induction l with
  | nil => simp [Lib.indexByte]
  | cons b l ih =>
    rw [Lib.indexByte]
    by_cases hb : (b == c) = true
    · simp [hb]
    · by_cases h1 : (Lib.indexByte l c == -1) = true
      · simp [hb, h1]; omega
      · simp [hb, h1]; omega

theorem lexStep_gt {s : ByteArray} {k k' : Nat} {c : UInt8} {ts : List Tok} (h : lexStep s k c = some (k', ts)) (hk : k < s.size) : k < k' ∧ k' ≤ s.size := by
  unfold lexStep at h
  have hl : (s.data.toList.drop (k + 1)).length = s.size - (k + 1) := by simp
  have hl2 : (s.data.toList.drop k).length = s.size - k := by simp
  repeat' split at h
  all_goals simp only [Option.some.injEq, Prod.mk.injEq, reduceCtorEq] at h
  all_goals try (obtain ⟨rfl, _⟩ := h; omega)
  · obtain ⟨rfl, _⟩ := h
    have := indexByte_lt c (s.data.toList.drop (k + 1))
    rw [hl] at this; omega
  · rename_i e he hlt
    have := wEnd_ge he
    rw [hl2] at this
    obtain ⟨rfl, _⟩ := h; omega

theorem lexStep_quote {s : ByteArray} {k : Nat} {c : UInt8} (hc : c = 34 ∨ c = 39) : lexStep s k c = if Lib.indexByte (s.data.toList.drop (k + 1)) c < 0 then none
     else some (k + 1 + (Lib.indexByte (s.data.toList.drop (k + 1)) c).toNat + 1, [(2, s.extract (k + 1) (k + 1 + (Lib.indexByte (s.data.toList.drop (k + 1)) c).toNat))]) := by
  rcases hc with rfl | rfl <;> simp [lexStep]
theorem lexStep_word {s : ByteArray} {k : Nat} {c : UInt8} (h1 : c ≠ 40) (h2 : c ≠ 41) (h3 : c ≠ 44) (h4 : c ≠ 32) (h5 : c ≠ 9) (h6 : c ≠ 34) (h7 : c ≠ 39) : lexStep s k c = match wEnd (s.data.toList.drop k) 0 k with
    | some (e, 0) => if k < e then some (e, [(1, s.extract k e)]) else none
    | _ => none := by
  simp [lexStep, h1, h2, h3, h4, h5, h6, h7]

theorem lexAll_fuel : ∀ (f g : Nat) (s : ByteArray) (k : Nat), s.size - k ≤ f → f ≤ g → lexAll g s k = lexAll f s k := by
  intro f
  induction f with
  | zero =>
    intro g s k h _
    cases g with
    | zero => rfl
    | succ g => simp only [lexAll]; rw [dif_neg (by omega)]
  | succ f ih =>
    intro g s k h hg
    cases g with
    | zero => omega
    | succ g =>
      simp only [lexAll]
      by_cases hk : k < s.size
      · rw [dif_pos hk, dif_pos hk]
        rcases hstep : lexStep s k s[k] with _ | ⟨k', ts⟩
        · rfl
        · have := lexStep_gt hstep hk
          simp only []
          rw [ih g s k' (by omega) (by omega)]
      · rw [dif_neg hk, dif_neg hk]

/-- all words, from a place on -/
def lexL (s : ByteArray) (k : Nat) : Option (List Tok) := lexAll (s.size - k) s k
theorem lexL_end {s : ByteArray} {k : Nat} (h : ¬ k < s.size) : lexL s k = some [] := by
  unfold lexL; rw [show s.size - k = 0 from by omega]; rfl
theorem lexL_none {s : ByteArray} {k : Nat} (h : k < s.size) (hs : lexStep s k s[k] = none) : lexL s k = none := by
  unfold lexL; rw [show s.size - k = (s.size - k - 1) + 1 from by omega, lexAll, dif_pos h, hs]
theorem lexL_some {s : ByteArray} {k k' : Nat} {ts : List Tok} (h : k < s.size) (hs : lexStep s k s[k] = some (k', ts)) : lexL s k = (lexL s k').map (ts ++ ·) := by
  have := lexStep_gt hs h
  unfold lexL; rw [show s.size - k = (s.size - k - 1) + 1 from by omega, lexAll, dif_pos h, hs]
  simp only []
  rw [lexAll_fuel (s.size - k') (s.size - k - 1) s k' (by omega) (by omega)]
end Go.Proofs.YtiakgjijlhfneaaGreatDoor
