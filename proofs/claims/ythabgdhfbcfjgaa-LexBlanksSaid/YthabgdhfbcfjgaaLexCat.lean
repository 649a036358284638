/-
  The words of texts laid one behind the other. No program is named here.
-/
import Derived.Test.YthabgdhfbcfjgaaLexSpec2
namespace Go.Proofs.Ythabgdhfbcfjgaa
abbrev LTok := Nat × List UInt8
def upTo (c : UInt8) : List UInt8 → Option (List UInt8 × List UInt8)
  | [] => none
  | x :: r => if x = c then some ([], r) else (upTo c r).map fun p => (x :: p.1, p.2)
/-- one word off a list: what is left, and the word -/
def stepL (c : UInt8) (r : List UInt8) : Option (List UInt8 × List LTok) :=
  if c = 40 then some (r, [(3, [])]) else if c = 41 then some (r, [(4, [])]) else if c = 44 then some (r, [(5, [])])
  else if c = 32 ∨ c = 9 then some (r, [])
  else if c = 34 ∨ c = 39 then (upTo c r).map fun p => (p.2, [(2, p.1)])
  else match wEnd (c :: r) 0 0 with
    | some (e, 0) => if 0 < e then some ((c :: r).drop e, [(1, (c :: r).take e)]) else none
    | _ => none
theorem upTo_spec (c : UInt8) : ∀ (r : List UInt8), (Lib.indexByte r c < 0 ∧ upTo c r = none) ∨ (0 ≤ Lib.indexByte r c ∧ upTo c r = some (r.take (Lib.indexByte r c).toNat, r.drop ((Lib.indexByte r c).toNat + 1)) ∧ (Lib.indexByte r c).toNat < r.length) := by
  intro r
  induction r with
  | nil => exact Or.inl ⟨by simp [Lib.indexByte], rfl⟩
  | cons x r ih =>
    have hge := Lib.indexByte_ge r c
    rw [Lib.indexByte]
    by_cases hx : x = c
    · subst hx; exact Or.inr ⟨by simp, by simp [upTo], by simp⟩
    · have hb : (x == c) = false := by simpa using hx
      simp only [hb, Bool.false_eq_true, if_false, beq_iff_eq, upTo, if_neg hx]
      rcases ih with ⟨h1, h2⟩ | ⟨h1, h2, h3⟩
      · have : Lib.indexByte r c = -1 := by omega
        exact Or.inl ⟨by simp [this], by simp [h2]⟩
      · rw [if_neg (by omega)]
        have e : (Lib.indexByte r c + 1).toNat = (Lib.indexByte r c).toNat + 1 := by omega
        exact Or.inr ⟨by omega, by rw [h2, e]; simp, by rw [e]; simp; omega⟩
theorem upTo_app {c : UInt8} {u : List UInt8} : ∀ {r : List UInt8} {p : List UInt8 × List UInt8}, upTo c r = some p → upTo c (r ++ u) = some (p.1, p.2 ++ u) := by
  intro r
  induction r with
  | nil => intro p h; cases h
  | cons x r ih =>
    intro p h
    simp only [List.cons_append, upTo] at h ⊢
    split at h
    · rename_i hx; rw [if_pos hx]; cases h; rfl
    · rename_i hx; rw [if_neg hx]
      rcases hr : upTo c r with _ | q
      · rw [hr] at h; cases h
      · rw [hr] at h; cases h; rw [ih hr]; rfl
theorem wEnd_shift : ∀ (l : List UInt8) (d k j : Nat), wEnd l d (k + j) = (wEnd l d k).map fun p => (p.1 + j, p.2) := by
  intro l
  induction l with
  | nil => intro d k j; rfl
  | cons c r ih =>
    intro d k j
    unfold wEnd
    have e : k + j + 1 = k + 1 + j := by omega
    split
    · rfl
    · split
      · rw [e, ih]
      · split
        · split
          · rfl
          · rw [e, ih]
        · rw [e, ih]
/-- nothing that stands behind makes a word longer -/
def Stops (u : List UInt8) : Prop := ∀ c r, u = c :: r → isWordB c = false ∧ True
theorem wEnd_app {u : List UInt8} (hu : Stops u) : ∀ (l : List UInt8) (d k e : Nat), wEnd l d k = some (e, 0) → wEnd (l ++ u) d k = some (e, 0) := by
  intro l
  induction l with
  | nil =>
    intro d k e h
    simp only [wEnd, Option.some.injEq, Prod.mk.injEq] at h
    obtain ⟨rfl, rfl⟩ := h
    cases u with
    | nil => rfl
    | cons c r => exact wEnd_stop (hu c r rfl).1 (Or.inr rfl)
  | cons c r ih =>
    intro d k e h
    rw [List.cons_append]
    unfold wEnd at h ⊢
    split at h
    · rename_i g; rw [if_pos g]; exact h
    · rename_i g; rw [if_neg g]
      split at h
      · rename_i g2; rw [if_pos g2]; exact ih _ _ _ h
      · rename_i g2; rw [if_neg g2]
        split at h
        · rename_i g3; rw [if_pos g3]
          split at h
          · cases h
          · rename_i g4; rw [if_neg g4]; exact ih _ _ _ h
        · rename_i g3; rw [if_neg g3]; exact ih _ _ _ h
theorem stepL_lt {c : UInt8} {r rest : List UInt8} {ts : List LTok} (h : stepL c r = some (rest, ts)) : rest.length < (c :: r).length := by
  unfold stepL at h
  repeat' split at h
  all_goals first
    | (simp only [Option.some.injEq, Prod.mk.injEq, reduceCtorEq] at h; done)
    | (simp only [Option.some.injEq, Prod.mk.injEq] at h; obtain ⟨rfl, _⟩ := h; simp; done)
    | skip
  · rcases upTo_spec c r with ⟨_, h2⟩ | ⟨h1, h2, h3⟩
    · rw [h2] at h; cases h
    · rw [h2] at h
      simp only [Option.map_some, Option.some.injEq, Prod.mk.injEq] at h
      obtain ⟨rfl, _⟩ := h
      simp; omega
  · simp only [Option.some.injEq, Prod.mk.injEq] at h
    obtain ⟨rfl, _⟩ := h
    simp; omega
theorem stepL_app {c : UInt8} {r rest u : List UInt8} {ts : List LTok} (hu : Stops u) (h : stepL c r = some (rest, ts)) : stepL c (r ++ u) = some (rest ++ u, ts) := by
  unfold stepL at h ⊢
  by_cases h1 : c = 40
  · rw [if_pos h1] at h ⊢; cases h; rfl
  rw [if_neg h1] at h ⊢
  by_cases h2 : c = 41
  · rw [if_pos h2] at h ⊢; cases h; rfl
  rw [if_neg h2] at h ⊢
  by_cases h3 : c = 44
  · rw [if_pos h3] at h ⊢; cases h; rfl
  rw [if_neg h3] at h ⊢
  by_cases h4 : c = 32 ∨ c = 9
  · rw [if_pos h4] at h ⊢; cases h; rfl
  rw [if_neg h4] at h ⊢
  by_cases h5 : c = 34 ∨ c = 39
  · rw [if_pos h5] at h ⊢
    rcases hp : upTo c r with _ | p
    · rw [hp] at h; cases h
    · rw [hp] at h; cases h
      rw [upTo_app hp]; rfl
  rw [if_neg h5] at h ⊢
  rcases hw : wEnd (c :: r) 0 0 with _ | ⟨e, d⟩
  · rw [hw] at h; cases h
  · rw [hw] at h
    cases d with
    | succ d => cases h
    | zero =>
      have hge := wEnd_ge hw
      have happ := wEnd_app hu (c :: r) 0 0 e hw
      rw [List.cons_append] at happ
      rw [happ]
      simp only [] at h ⊢
      split at h
      · rename_i he
        rw [if_pos he]
        cases h
        have hle : e ≤ (c :: r).length := by simpa using hge.2
        rw [← List.cons_append, List.drop_append_of_le_length hle, List.take_append_of_le_length hle]
      · cases h

def lx : Nat → List UInt8 → Option (List LTok)
  | 0, _ => some []
  | _ + 1, [] => some []
  | f + 1, c :: r => match stepL c r with
    | none => none
    | some (rest, ts) => (lx f rest).map (ts ++ ·)
theorem lx_fuel : ∀ (f g : Nat) (l : List UInt8), l.length ≤ f → f ≤ g → lx g l = lx f l := by
  intro f
  induction f with
  | zero =>
    intro g l h _
    have : l = [] := List.eq_nil_of_length_eq_zero (by omega)
    subst this
    cases g <;> rfl
  | succ f ih =>
    intro g l h hg
    cases g with
    | zero => omega
    | succ g =>
      cases l with
      | nil => rfl
      | cons c r =>
        simp only [lx]
        rcases hst : stepL c r with _ | ⟨rest, ts⟩
        · rfl
        · have := stepL_lt hst
          simp only [List.length_cons] at h this
          simp only []
          rw [ih g rest (by omega) (by omega)]
def lxA (l : List UInt8) : Option (List LTok) := lx l.length l
theorem lxA_nil : lxA [] = some [] := rfl
theorem lxA_none {c : UInt8} {r : List UInt8} (h : stepL c r = none) : lxA (c :: r) = none := by
  unfold lxA; simp only [List.length_cons, lx, h]
theorem lxA_some {c : UInt8} {r rest : List UInt8} {ts : List LTok} (h : stepL c r = some (rest, ts)) : lxA (c :: r) = (lxA rest).map (ts ++ ·) := by
  have := stepL_lt h
  simp only [List.length_cons] at this
  unfold lxA; simp only [List.length_cons, lx, h]
  rw [lx_fuel rest.length r.length rest (Nat.le_refl _) (by omega)]
theorem lxA_app {u : List UInt8} (hu : Stops u) : ∀ (n : Nat) (l : List UInt8) (X : List LTok), l.length ≤ n → lxA l = some X → lxA (l ++ u) = (lxA u).map (X ++ ·) := by
  intro n
  induction n with
  | zero =>
    intro l X h hx
    have : l = [] := List.eq_nil_of_length_eq_zero (by omega)
    subst this
    rw [lxA_nil] at hx; cases hx
    simp
  | succ n ih =>
    intro l X h hx
    cases l with
    | nil => rw [lxA_nil] at hx; cases hx; simp
    | cons c r =>
      rcases hst : stepL c r with _ | ⟨rest, ts⟩
      · rw [lxA_none hst] at hx; cases hx
      · have hlt := stepL_lt hst
        simp only [List.length_cons] at h hlt
        rw [lxA_some hst] at hx
        rcases hr : lxA rest with _ | Y
        · rw [hr] at hx; cases hx
        · rw [hr] at hx
          simp only [Option.map_some, Option.some.injEq] at hx
          subst hx
          rw [List.cons_append, lxA_some (stepL_app hu hst), ih rest Y (by omega) hr, Option.map_map]
          congr 1
          funext z
          simp
theorem lxA_blanks (u : List UInt8) : ∀ n, lxA (List.replicate n 32 ++ u) = lxA u := by
  intro n
  induction n with
  | zero => rfl
  | succ n ih =>
    rw [List.replicate_succ, List.cons_append, lxA_some (rest := List.replicate n 32 ++ u) (ts := []) rfl, ih]
    cases lxA u <;> rfl
/-- a sign's word -/
def signTok (c : UInt8) : LTok := if c = 40 then (3, []) else if c = 41 then (4, []) else (5, [])
theorem lxA_sign {c : UInt8} (u : List UInt8) (hc : c = 40 ∨ c = 41 ∨ c = 44) : lxA (c :: u) = (lxA u).map (signTok c :: ·) := by
  rcases hc with rfl | rfl | rfl
  · exact lxA_some (c := 40) (rest := u) (ts := [(3, [])]) rfl
  · exact lxA_some (c := 41) (rest := u) (ts := [(4, [])]) rfl
  · exact lxA_some (c := 44) (rest := u) (ts := [(5, [])]) rfl
theorem stops_blanks (n : Nat) (c : UInt8) (u : List UInt8) (hc : c = 40 ∨ c = 41 ∨ c = 44) : Stops (List.replicate n 32 ++ c :: u) := by
  intro x r h
  cases n with
  | zero =>
    simp only [List.replicate_zero, List.nil_append, List.cons.injEq] at h
    obtain ⟨rfl, _⟩ := h
    rcases hc with rfl | rfl | rfl <;> exact ⟨by decide, trivial⟩
  | succ n =>
    rw [List.replicate_succ, List.cons_append, List.cons.injEq] at h
    obtain ⟨rfl, _⟩ := h
    exact ⟨by decide, trivial⟩
theorem stops_gap (n : Nat) : Stops (List.replicate n 32) := by
  intro x r h
  cases n with
  | zero => cases h
  | succ n =>
    rw [List.replicate_succ, List.cons.injEq] at h
    obtain ⟨rfl, _⟩ := h
    exact ⟨by decide, trivial⟩
theorem lxA_all {a b : List UInt8} {c : UInt8} (n : Nat) {X Y : List LTok} (hc : c = 40 ∨ c = 41 ∨ c = 44) (ha : lxA a = some X) (hb : lxA b = some Y) :
    lxA (List.replicate n 32 ++ (a ++ (List.replicate n 32 ++ c :: (List.replicate n 32 ++ (b ++ List.replicate n 32))))) = some (X ++ signTok c :: Y) := by
  have h0 : lxA (List.replicate n 32) = some [] := by have := lxA_blanks [] n; simpa [lxA_nil] using this
  rw [lxA_blanks, lxA_app (stops_blanks n c _ hc) a.length a X (Nat.le_refl _) ha, lxA_blanks, lxA_sign _ hc, lxA_blanks, lxA_app (stops_gap n) b.length b Y (Nat.le_refl _) hb, h0]
  simp

/-- a word of a list as a word of a text -/
def conv (t : LTok) : Tok := (t.1, ⟨t.2.toArray⟩)
theorem extract_conv (s : ByteArray) (a b : Nat) : (⟨((s.data.toList.drop a).take (b - a)).toArray⟩ : ByteArray) = s.extract a b := by
  have h := Lib.extract_data s a b
  rw [← h]
theorem drop_here {s : ByteArray} {k : Nat} (hk : k < s.size) : s.data.toList.drop k = s[k] :: s.data.toList.drop (k + 1) := by
  have h : k < s.data.toList.length := by simpa using hk
  rw [List.drop_eq_getElem_cons h]
  simp only [Array.getElem_toList]
  rfl
theorem stepL_lexStep {s : ByteArray} {k : Nat} (hk : k < s.size) : lexStep s k s[k] = (stepL s[k] (s.data.toList.drop (k + 1))).map fun p => (s.size - p.1.length, p.2.map conv) := by
  have hl : (s.data.toList.drop (k + 1)).length = s.size - (k + 1) := by simp
  have hd := drop_here hk
  generalize hc : s[k] = c at *
  unfold lexStep stepL
  have e1 : s.size - (s.data.toList.drop (k + 1)).length = k + 1 := by omega
  by_cases h1 : c = 40
  · rw [if_pos h1, if_pos h1]; simp only [Option.map_some, e1]; rfl
  rw [if_neg h1, if_neg h1]
  by_cases h2 : c = 41
  · rw [if_pos h2, if_pos h2]; simp only [Option.map_some, e1]; rfl
  rw [if_neg h2, if_neg h2]
  by_cases h3 : c = 44
  · rw [if_pos h3, if_pos h3]; simp only [Option.map_some, e1]; rfl
  rw [if_neg h3, if_neg h3]
  by_cases h4 : c = 32 ∨ c = 9
  · rw [if_pos h4, if_pos h4]; simp only [Option.map_some, e1]; rfl
  rw [if_neg h4, if_neg h4]
  by_cases h5 : c = 34 ∨ c = 39
  · rw [if_pos h5, if_pos h5]
    rcases upTo_spec c (s.data.toList.drop (k + 1)) with ⟨g1, g2⟩ | ⟨g1, g2, g3⟩
    · rw [if_pos g1, g2]; rfl
    · rw [if_neg (by omega), g2]
      simp only [Option.map_some, List.map_cons, List.map_nil, Option.some.injEq, Prod.mk.injEq, List.length_drop, List.drop_drop]
      refine ⟨?_, ?_⟩
      · rw [hl] at g3
        simp only [Array.length_toList]
        have hsz : s.data.size = s.size := rfl
        omega
      · unfold conv
        rw [← extract_conv]
        simp only [show ∀ i : Nat, k + 1 + i - (k + 1) = i from fun i => by omega]
  rw [if_neg h5, if_neg h5]
  rw [hd]
  have hsh := wEnd_shift (c :: s.data.toList.drop (k + 1)) 0 0 k
  rw [Nat.zero_add] at hsh
  rw [hsh]
  rcases hw : wEnd (c :: s.data.toList.drop (k + 1)) 0 0 with _ | ⟨e, d⟩
  · rfl
  · cases d with
    | succ d => rfl
    | zero =>
      have hge := (wEnd_ge hw).2
      simp only [Option.map_some]
      by_cases he : 0 < e
      · rw [if_pos (by omega), if_pos he]
        simp only [List.length_cons, hl] at hge
        rw [← hd]
        simp only [Option.map_some, List.map_cons, List.map_nil, Option.some.injEq, Prod.mk.injEq, List.length_drop, List.drop_drop, Array.length_toList]
        have hsz : s.data.size = s.size := rfl
        refine ⟨by omega, ?_⟩
        unfold conv
        rw [← extract_conv, show e + k - k = e from by omega]
      · rw [if_neg (by omega), if_neg he]; rfl
theorem stepL_suffix {s : ByteArray} {k : Nat} {rest : List UInt8} {ts : List LTok} (hk : k < s.size) (h : stepL s[k] (s.data.toList.drop (k + 1)) = some (rest, ts)) : ∃ j, rest = s.data.toList.drop j ∧ s.size - rest.length = j := by
  have hlt := stepL_lt h
  have hsuf : rest <:+ s[k] :: s.data.toList.drop (k + 1) := by
    unfold stepL at h
    repeat' split at h
    all_goals first
      | (simp only [Option.some.injEq, Prod.mk.injEq, reduceCtorEq] at h; done)
      | (simp only [Option.some.injEq, Prod.mk.injEq] at h; obtain ⟨rfl, _⟩ := h; exact List.suffix_cons _ _)
      | (simp only [Option.some.injEq, Prod.mk.injEq] at h; obtain ⟨rfl, _⟩ := h; exact List.drop_suffix _ _)
      | skip
    rcases upTo_spec s[k] (s.data.toList.drop (k + 1)) with ⟨_, h2⟩ | ⟨h1, h2, h3⟩
    · rw [h2] at h; cases h
    · rw [h2] at h
      simp only [Option.map_some, Option.some.injEq, Prod.mk.injEq] at h
      obtain ⟨rfl, _⟩ := h
      exact (List.drop_suffix _ _).trans (List.suffix_cons _ _)
  rw [← drop_here hk] at hsuf
  have h2 := hsuf.trans (List.drop_suffix k s.data.toList)
  have hle := h2.length_le
  simp only [Array.length_toList] at hle
  have hsz : s.data.size = s.size := rfl
  refine ⟨s.size - rest.length, ?_, rfl⟩
  have := List.suffix_iff_eq_drop.mp h2
  simp only [Array.length_toList] at this
  exact this
theorem lexL_lxA (s : ByteArray) : ∀ (n k : Nat), s.size - k ≤ n → lexL s k = (lxA (s.data.toList.drop k)).map (List.map conv) := by
  intro n
  induction n with
  | zero =>
    intro k h
    have h0 : s.data.toList.drop k = [] := List.drop_eq_nil_of_le (by simp only [Array.length_toList]; have hsz : s.data.size = s.size := rfl; omega)
    rw [lexL_end (by omega), h0, lxA_nil]; rfl
  | succ n ih =>
    intro k h
    by_cases hk : k < s.size
    · have hs := stepL_lexStep hk
      rw [drop_here hk]
      rcases hst : stepL s[k] (s.data.toList.drop (k + 1)) with _ | ⟨rest, ts⟩
      · rw [hst] at hs
        rw [lexL_none hk hs, lxA_none hst]; rfl
      · rw [hst] at hs
        simp only [Option.map_some] at hs
        have hrest : ∃ j, rest = s.data.toList.drop j ∧ s.size - rest.length = j := stepL_suffix hk hst
        obtain ⟨j, e1, e2⟩ := hrest
        have hgt := (lexStep_gt hs hk)
        rw [lexL_some hk hs, lxA_some hst, ih _ (by omega), e2, ← e1]
        cases lxA rest <;> simp
    · have h0 : s.data.toList.drop k = [] := List.drop_eq_nil_of_le (by simp only [Array.length_toList]; have hsz : s.data.size = s.size := rfl; omega)
      rw [lexL_end hk, h0, lxA_nil]; rfl
theorem lexL_all (s : ByteArray) : lexL s 0 = (lxA s.data.toList).map (List.map conv) := by
  have := lexL_lxA s s.size 0 (by omega)
  simpa using this
end Go.Proofs.Ythabgdhfbcfjgaa
