/-
  The words of a target as plain functions on lists of bytes. No program is named here.
-/
namespace Go.Proofs.YtiakgjijlhfneaaGreatDoor
def isLetterB (c : UInt8) : Bool := (97 ≤ c && c ≤ 122) || (65 ≤ c && c ≤ 90)
def isDigitB (c : UInt8) : Bool := 48 ≤ c && c ≤ 57
def nameB (c : UInt8) : Bool := isLetterB c || isDigitB c || [95, 45, 58, 35, 37, 64, 61].contains c
def isWordB (c : UInt8) : Bool := isLetterB c || isDigitB c || [95, 45, 58, 35, 37, 64, 61, 46, 42, 63, 91, 93, 123, 125, 43].contains c

theorem isWordB_eq (c : UInt8) : (nameB c || [46, 42, 63, 91, 93, 123, 125, 43].contains c) = isWordB c := by
  simp only [nameB, isWordB, List.contains_cons, List.contains_nil, Bool.or_false, Bool.or_assoc]

/-- where the word that begins here ends, and how deep it is there; none: it closes more than it opens -/
def wEnd : List UInt8 → Nat → Nat → Option (Nat × Nat)
  | [], d, k => some (k, d)
  | c :: r, d, k =>
    if !isWordB c && (c != 44 || d == 0) then some (k, d)
    else if c == 123 then wEnd r (d + 1) (k + 1)
    else if c == 125 then (if d = 0 then none else wEnd r (d - 1) (k + 1))
    else wEnd r d (k + 1)

theorem wEnd_stop {c : UInt8} {r : List UInt8} {d k : Nat} (h1 : isWordB c = false) (h2 : c ≠ 44 ∨ d = 0) : wEnd (c :: r) d k = some (k, d) := by
  unfold wEnd; rw [if_pos]; simp only [h1, Bool.not_false, Bool.true_and, Bool.or_eq_true, bne_iff_ne, ne_eq, beq_iff_eq]; exact h2
theorem wEnd_go {c : UInt8} {r : List UInt8} {d k : Nat} (h1 : isWordB c = true ∨ (c = 44 ∧ d ≠ 0)) :
    wEnd (c :: r) d k = if c == 123 then wEnd r (d + 1) (k + 1) else if c == 125 then (if d = 0 then none else wEnd r (d - 1) (k + 1)) else wEnd r d (k + 1) := by
  conv => lhs; unfold wEnd
  rw [if_neg]; rcases h1 with h | ⟨rfl, h⟩
  · simp [h]
  · simp [h]
theorem wEnd_ge : ∀ {l : List UInt8} {d k k' d' : Nat}, wEnd l d k = some (k', d') → k ≤ k' ∧ k' ≤ k + l.length := by
  intro l
  induction l with
  | nil => intro d k k' d' h; simp [wEnd] at h; omega
  | cons c r ih =>
    intro d k k' d' h
    unfold wEnd at h
    split at h
    · simp at h; simp; omega
    · split at h
      · have := ih h; simp; omega
      · split at h
        · split at h
          · cases h
          · have := ih h; simp; omega
        · have := ih h; simp; omega

def isLetters (l : List UInt8) : Bool := match l with
  | [] => false
  | c :: r => isLetterB c && r.all fun c => isLetterB c || isDigitB c || c == 95
end Go.Proofs.YtiakgjijlhfneaaGreatDoor
