/-
  The plain laws of what has risen, put together again, and of what keeps values or lies between them. No program is walked here.
-/
import Derived.Test.YtkablhamnepfnaaDoorFsApply
namespace Go.Proofs.YtkablhamnepfnaaDoor
open Go.RowKit
/-- values told as values or none, as a row -/
def rowO (n : Nat) (f : Nat → Option Int) : List (Bool × Int) := (List.range n).map fun j => vP (f j)
theorem rowO_len (n : Nat) (f : Nat → Option Int) : (rowO n f).length = n := by simp [rowO]
theorem rowO_at (n : Nat) (f : Nat → Option Int) (j : Nat) (h : j < (rowO n f).length) : (rowO n f)[j] = vP (f j) := by simp [rowO]
theorem rowO_ext {n : Nat} {f g : Nat → Option Int} (h : ∀ j, j < n → f j = g j) : rowO n f = rowO n g := by
  unfold rowO
  exact List.map_congr_left (fun j hj => by rw [h j (List.mem_range.1 hj)])
theorem opts_row {nm : ByteArray} {st sp cn : Int} {n : Nat} {f : Nat → Option Int} (h : ∀ j, j < n → Fits (f j)) : (Ser.mk nm st sp (rowO n f) cn).opts = (List.range n).map f := by
  unfold Ser.opts rowO
  rw [List.map_map]
  exact List.map_congr_left (fun j hj => by
    show vK (vB (f j)) (vN (f j)) = f j
    exact vK_back (h j (List.mem_range.1 hj)))
theorem getD_range {α : Type} (n : Nat) (f : Nat → Option α) (j : Nat) (h : j < n) : ((List.range n).map f).getD j none = f j := by
  rw [List.getD_eq_getElem?_getD, List.getElem?_map, List.getElem?_range h]; rfl
theorem getD_range_out {α : Type} (n : Nat) (f : Nat → Option α) (j : Nat) (h : n ≤ j) : ((List.range n).map f).getD j none = none := by
  rw [List.getD_eq_getElem?_getD, List.getElem?_eq_none (by simpa using h)]; rfl
theorem isR_vP {o : Option Int} (h : Fits o) : isR (vP o).1 (vP o).2 = true := by
  cases o with
  | none => rfl
  | some n =>
    obtain ⟨a, b⟩ := h n rfl
    show (decide (-4611686018427387904 ≤ n) && decide (n ≤ 4611686018427387904)) = true
    rw [decide_eq_true a, decide_eq_true b]; rfl
theorem isSer_row {nm : ByteArray} {st sp cn : Int} {n : Nat} {f : Nat → Option Int} (hn : nm.size ≤ 4096) (h1 : 0 ≤ st) (h2 : st ≤ 4294967295) (h3 : 1 ≤ sp) (h4 : sp ≤ 1099511627776) (h5 : n ≤ 131072) (h6 : 0 ≤ cn) (h7 : cn ≤ 5) (hf : ∀ j, j < n → Fits (f j)) : isSer ⟨nm, st, sp, rowO n f, cn⟩ = true := by
  unfold isSer isHead
  simp only [Bool.and_eq_true, decide_eq_true_eq, rowO_len]
  refine ⟨⟨hn, h1, h2, h3, h4, h5, h6, h7⟩, ?_⟩
  rw [List.all_eq_true]
  intro p hp
  unfold rowO at hp
  obtain ⟨j, hj, rfl⟩ := List.mem_map.1 hp
  exact isR_vP (hf j (List.mem_range.1 hj))
/-- what a function makes of a row, asked without an argument -/
theorem fsApply_row {nm : ByteArray} {i : Nat} (hi : fsIdx nm = some i) (h0 : fsNeed i = 0) {S : Ser} (hS : isSer S = true) : fsApply nm S [] = some ⟨labelB nm (labTexts S.name []), S.start, S.step, rowO S.vals.length (fsV i S.step false none S.opts), S.cons⟩ := by
  have hok : fsOk nm S ([] : List (Bool × Int)).length = true := by
    unfold fsOk
    rw [hi, hS]
    show (true && (decide (fsNeed i ≤ 0) && decide (0 ≤ fsMost i))) = true
    rw [h0]
    simp
  unfold fsApply
  rw [if_pos hok]
  unfold fsVals rowO
  rw [hi]
  rfl
/-! there and back -/
def SmallL (X : List Int) : Prop := ∀ n ∈ X, -1125899906842624 ≤ n ∧ n ≤ 1125899906842624
def numO (X : List Int) (j : Nat) : Option Int := some (X.getD j 0)
def derO (X : List Int) (j : Nat) : Option Int := if j = 0 then none else some (X.getD j 0 - X.getD (j - 1) 0)
def risO (X : List Int) (j : Nat) : Option Int := if j = 0 then none else some (X.getD j 0 - X.getD 0 0)
theorem small_at {X : List Int} (h : SmallL X) (j : Nat) : -1125899906842624 ≤ X.getD j 0 ∧ X.getD j 0 ≤ 1125899906842624 := by
  rw [List.getD_eq_getElem?_getD]
  rcases Nat.lt_or_ge j X.length with g | g
  · rw [List.getElem?_eq_getElem g]; exact h _ (List.getElem_mem g)
  · rw [List.getElem?_eq_none g]; show -1125899906842624 ≤ (0 : Int) ∧ (0 : Int) ≤ 1125899906842624; omega
theorem numO_fits {X : List Int} (h : SmallL X) (j : Nat) : Fits (numO X j) := by
  have := small_at h j
  exact fits_some (by omega)
theorem derO_fits {X : List Int} (h : SmallL X) (j : Nat) : Fits (derO X j) := by
  have h1 := small_at h j
  have h2 := small_at h (j - 1)
  unfold derO
  split
  · exact none_fits
  · exact fits_some (by omega)
theorem risO_fits {X : List Int} (h : SmallL X) (j : Nat) : Fits (risO X j) := by
  have h1 := small_at h j
  have h2 := small_at h 0
  unfold risO
  split
  · exact none_fits
  · exact fits_some (by omega)
theorem der_law {X : List Int} (h : SmallL X) (s : Int) (j : Nat) (hj : j < X.length) : fsV 2 s false none ((List.range X.length).map (numO X)) j = derO X j := by
  show subO _ (atO _ ((j : Int) - 1)) = _
  rw [getD_range _ _ _ hj]
  cases j with
  | zero => unfold atO derO; rw [if_neg (by omega), if_pos rfl]; rfl
  | succ j =>
    unfold atO derO
    rw [if_pos (by omega), if_neg (by omega), show (((j + 1 : Nat) : Int) - 1).toNat = j by omega, getD_range _ _ _ (by omega), Nat.add_sub_cancel]
    have h1 := small_at h (j + 1)
    have h2 := small_at h j
    exact ofR_small (by omega)
theorem sum_law {X : List Int} (h : SmallL X) : ∀ j, j < X.length → sumTo ((List.range X.length).map (derO X)) (j + 1) = some (X.getD j 0 - X.getD 0 0) := by
  intro j
  induction j with
  | zero =>
    intro hj
    show (match ((List.range X.length).map (derO X)).getD 0 none with | none => sumTo _ 0 | some v => _) = _
    rw [getD_range _ _ _ hj]
    show (some 0 : Option Int) = _
    rw [Int.sub_self]
  | succ j ih =>
    intro hj
    have e : sumTo ((List.range X.length).map (derO X)) (j + 1 + 1) = (match ((List.range X.length).map (derO X)).getD (j + 1) none with | none => sumTo ((List.range X.length).map (derO X)) (j + 1) | some v => sumO (sumO (some 0) (sumTo ((List.range X.length).map (derO X)) (j + 1))) (some v)) := rfl
    rw [e, getD_range _ _ _ hj, ih (by omega)]
    have hd : derO X (j + 1) = some (X.getD (j + 1) 0 - X.getD j 0) := by unfold derO; rw [if_neg (by omega), Nat.add_sub_cancel]
    rw [hd]
    have h0 := small_at h 0
    have h1 := small_at h j
    have h2 := small_at h (j + 1)
    show (ofR (0 + (X.getD j 0 - X.getD 0 0))).bind (fun x => ofR (x + (X.getD (j + 1) 0 - X.getD j 0))) = _
    rw [ofR_small (by omega)]
    show ofR _ = _
    rw [ofR_small (by omega)]
    congr 1
    omega
theorem int_law {X : List Int} (h : SmallL X) (s : Int) (j : Nat) (hj : j < X.length) : fsV 3 s false none ((List.range X.length).map (derO X)) j = risO X j := by
  show (if (((List.range X.length).map (derO X)).getD j none).isSome then sumTo _ (j + 1) else none) = _
  rw [getD_range _ _ _ hj, sum_law h j hj]
  unfold derO risO
  by_cases h0 : j = 0
  · rw [if_pos h0, if_pos h0]; rfl
  · rw [if_neg h0, if_neg h0]; rfl
def numS (X : List Int) : Ser := ⟨⟨#[97]⟩, 0, 5, rowO X.length (numO X), 0⟩
theorem back_der {X : List Int} (h : SmallL X) (hl : X.length ≤ 100) : fsApply fs2 (numS X) [] = some ⟨labelB fs2 (labTexts ⟨#[97]⟩ []), 0, 5, rowO X.length (derO X), 0⟩ := by
  rw [fsApply_row (i := 2) (S := numS X) (by decide) rfl (isSer_row (by decide) (by omega) (by omega) (by omega) (by omega) (by omega) (by omega) (by omega) (fun j _ => numO_fits h j))]
  show some (Ser.mk _ 0 5 (rowO (rowO X.length (numO X)).length (fsV 2 5 false none (numS X).opts)) 0) = _
  unfold numS
  rw [rowO_len, opts_row (fun j _ => numO_fits h j), rowO_ext (fun j hj => der_law h 5 j hj)]
theorem back_int {X : List Int} (h : SmallL X) (hl : X.length ≤ 100) : ∃ nm, fsApply fs3 ⟨labelB fs2 (labTexts ⟨#[97]⟩ []), 0, 5, rowO X.length (derO X), 0⟩ [] = some ⟨nm, 0, 5, rowO X.length (risO X), 0⟩ := by
  refine ⟨labelB fs3 (labTexts (labelB fs2 (labTexts ⟨#[97]⟩ [])) []), ?_⟩
  rw [fsApply_row (i := 3) (by decide) rfl (isSer_row (by decide +kernel) (by omega) (by omega) (by omega) (by omega) (by omega) (by omega) (by omega) (fun j _ => derO_fits h j))]
  show some (Ser.mk _ 0 5 (rowO (rowO X.length (derO X)).length (fsV 3 5 false none (Ser.mk _ 0 5 (rowO X.length (derO X)) 0).opts)) 0) = _
  rw [rowO_len, opts_row (fun j _ => derO_fits h j), rowO_ext (fun j hj => int_law h 5 j hj)]
/-! what is kept, and what lies between -/
/-- the first place with a value among so many; -1: there is none -/
def firstI (X : List (Option Int)) : Nat → Int
  | 0 => -1
  | i + 1 => if firstI X i < 0 ∧ (X.getD i none).isSome = true then (i : Int) else firstI X i
theorem firstI_skip {X : List (Option Int)} {i : Nat} (h : X.getD i none = none) : firstI X (i + 1) = firstI X i := by
  show (if firstI X i < 0 ∧ (X.getD i none).isSome = true then (i : Int) else firstI X i) = _
  rw [h, if_neg (by simp)]
theorem firstI_hit {X : List (Option Int)} {i : Nat} {x : Int} (h : X.getD i none = some x) : firstI X (i + 1) = if firstI X i < 0 then (i : Int) else firstI X i := by
  show (if firstI X i < 0 ∧ (X.getD i none).isSome = true then (i : Int) else firstI X i) = _
  rw [h]
  by_cases h0 : firstI X i < 0
  · rw [if_pos ⟨h0, rfl⟩, if_pos h0]
  · rw [if_neg (fun g => h0 g.1), if_neg h0]
theorem firstI_bound (X : List (Option Int)) : ∀ i : Nat, -1 ≤ firstI X i ∧ firstI X i < i
  | 0 => by show (-1 : Int) ≤ -1 ∧ (-1 : Int) < ((0 : Nat) : Int); omega
  | i + 1 => by
    have ih := firstI_bound X i
    show -1 ≤ (if firstI X i < 0 ∧ (X.getD i none).isSome = true then (i : Int) else firstI X i) ∧ (if firstI X i < 0 ∧ (X.getD i none).isSome = true then (i : Int) else firstI X i) < ((i + 1 : Nat) : Int)
    split <;> omega
/-- there is a first one where there is a last one -/
theorem first_ahead (X : List (Option Int)) : ∀ i : Nat, (0 ≤ firstI X i ↔ 0 ≤ aheadI X i) ∧ firstI X i ≤ aheadI X i
  | 0 => ⟨Iff.rfl, Int.le_refl _⟩
  | i + 1 => by
    obtain ⟨h1, h2⟩ := first_ahead X i
    have hb := firstI_bound X i
    cases hv : X.getD i none with
    | none => rw [firstI_skip hv, aheadI_skip hv]; exact ⟨h1, h2⟩
    | some x =>
      rw [firstI_hit hv, aheadI_hit hv]
      split <;> constructor <;> omega
/-- later on there is one still, the same -/
theorem firstI_later (X : List (Option Int)) (i : Nat) : ∀ d, 0 ≤ firstI X i → firstI X (i + d) = firstI X i := by
  intro d h
  induction d with
  | zero => rfl
  | succ d ih =>
    show (if firstI X (i + d) < 0 ∧ (X.getD (i + d) none).isSome = true then ((i + d : Nat) : Int) else firstI X (i + d)) = _
    rw [ih, if_neg (by omega)]
theorem firstI_some (X : List (Option Int)) : ∀ i : Nat, 0 ≤ firstI X i → ∃ x, X.getD (firstI X i).toNat none = some x
  | 0, h => by exact absurd h (by show ¬ (0 : Int) ≤ -1; omega)
  | i + 1, h => by
    cases hv : X.getD i none with
    | none => rw [firstI_skip hv] at h ⊢; exact firstI_some X i h
    | some x =>
      rw [firstI_hit hv] at h ⊢
      by_cases h0 : firstI X i < 0
      · rw [if_pos h0]; exact ⟨x, by simpa using hv⟩
      · rw [if_neg h0] at h ⊢; exact firstI_some X i h
/-- up to a place there is one just where the first of all is not behind it -/
theorem first_at (X : List (Option Int)) (n i : Nat) (hi : i ≤ n) : 0 ≤ firstI X i ↔ 0 ≤ firstI X n ∧ firstI X n < i := by
  constructor
  · intro h
    have := firstI_later X i (n - i) h
    rw [show i + (n - i) = n by omega] at this
    rw [this]
    exact ⟨h, (firstI_bound X i).2⟩
  · rintro ⟨h1, h2⟩
    obtain ⟨x, hx⟩ := firstI_some X n h1
    have key : ∀ k : Nat, firstI X n < (k : Int) → 0 ≤ firstI X k := by
      intro k
      induction k with
      | zero => intro h; have := (firstI_bound X n).1; omega
      | succ k ih =>
        intro h
        show 0 ≤ (if firstI X k < 0 ∧ (X.getD k none).isSome = true then (k : Int) else firstI X k)
        by_cases hk : firstI X n < (k : Int)
        · have := ih hk
          rw [if_neg (by omega)]; exact this
        · have e : (firstI X n).toNat = k := by omega
          rw [e] at hx
          by_cases h0 : firstI X k < 0
          · rw [if_pos ⟨h0, by rw [hx]; rfl⟩]; omega
          · rw [if_neg (fun g => h0 g.1)]; omega
    exact key i h2
/-- the last one only moves on -/
theorem aheadI_mono (X : List (Option Int)) (i : Nat) : ∀ d, aheadI X i ≤ aheadI X (i + d) := by
  intro d
  induction d with
  | zero => exact Int.le_refl _
  | succ d ih =>
    have hb := (aheadI_bound X (i + d)).2
    cases hv : X.getD (i + d) none with
    | none => rw [show i + (d + 1) = i + d + 1 from rfl, aheadI_skip hv]; exact ih
    | some x => rw [show i + (d + 1) = i + d + 1 from rfl, aheadI_hit hv]; omega
/-- what is kept is there from the first one on -/
theorem keep_some {X : List (Option Int)} {s : Int} {j : Nat} (hj : j < X.length) : (fsV 5 s false none X j).isSome = (decide (0 ≤ firstI X X.length) && decide (firstI X X.length ≤ j)) := by
  have hf := first_at X X.length (j + 1) (by omega)
  have e : fsV 5 s false none X j = (match X.getD j none with | some x => some x | none => if 0 ≤ aheadI X j ∧ fillsB false none ((behindN X (X.length - (j + 1)) (j + 1) : Nat) - aheadI X j - 1) = true then X.getD (aheadI X j).toNat none else none) := rfl
  rw [e]
  cases hv : X.getD j none with
  | some x =>
    rw [firstI_hit hv] at hf
    have : 0 ≤ firstI X X.length ∧ firstI X X.length < ((j + 1 : Nat) : Int) := hf.1 (by have := (firstI_bound X j).1; split <;> omega)
    rw [decide_eq_true this.1, decide_eq_true (by omega)]; rfl
  | none =>
    rw [firstI_skip hv] at hf
    have ha := first_ahead X j
    by_cases h0 : 0 ≤ aheadI X j
    · obtain ⟨x, hx⟩ := aheadI_some X j h0
      have := hf.1 (ha.1.2 h0)
      rw [if_pos ⟨h0, rfl⟩, hx, decide_eq_true this.1, decide_eq_true (by omega)]; rfl
    · rw [if_neg (fun g => h0 g.1)]
      show false = _
      symm
      rw [Bool.and_eq_false_iff, decide_eq_false_iff_not, decide_eq_false_iff_not]
      by_cases g : 0 ≤ firstI X X.length
      · refine Or.inr fun hh => h0 (ha.1.1 (hf.2 ⟨g, by omega⟩))
      · exact Or.inl g
/-- all values within a bound -/
def SmallO (X : List (Option Int)) (n : Nat) : Prop := ∀ j, j < n → ∀ x, X.getD j none = some x → -1125899906842624 < x ∧ x < 1125899906842624
theorem quoR_le (N d D : Nat) (hd : 0 < d) (h : N ≤ D * d) : quoR N d ≤ D + 1 := by
  unfold quoR
  have : N / d ≤ D := by
    rw [← Nat.mul_div_cancel D hd]
    exact Nat.div_le_div_right h
  split <;> omega
theorem lie_some {a b p q : Int} (ha : -1125899906842624 < a ∧ a < 1125899906842624) (hb : -1125899906842624 < b ∧ b < 1125899906842624) (hp : 0 ≤ p) (hq : p ≤ q) (hq0 : 0 < q) : (lieO (some a) (some b) p q).isSome = true := by
  unfold lieO
  have e1 : subO (some b) (some a) = some (b - a) := ofR_small (by omega)
  rw [e1, Option.bind_some]
  have hle : quoR ((b - a).natAbs * p.natAbs) q.natAbs ≤ 2251799813685248 + 1 := by
    refine quoR_le _ _ _ (by omega) ?_
    exact Nat.mul_le_mul (by omega) (by omega)
  have e2 : ∃ n, mulDivO (b - a) p q = some n ∧ -2251799813685249 ≤ n ∧ n ≤ 2251799813685249 := by
    unfold mulDivO
    rw [if_neg (by omega), if_neg (by omega)]
    refine ⟨_, rfl, ?_⟩
    generalize quoR ((b - a).natAbs * p.natAbs) q.natAbs = Q at *
    split <;> omega
  obtain ⟨n, e3, e4⟩ := e2
  rw [e3, Option.bind_some]
  have e5 : sumO (some 0) (some a) = some a := by
    show ofR (0 + a) = _
    rw [Int.zero_add]
    exact ofR_small (by omega)
  rw [e5, ofR_small (by omega)]
  show (ofR (a + n)).isSome = true
  rw [ofR_small (by omega)]; rfl
theorem behind_last {X : List (Option Int)} {j : Nat} (hj : j < X.length) : behindN X (X.length - (j + 1)) (j + 1) < X.length ↔ (j : Int) < aheadI X X.length := by
  constructor
  · intro h
    obtain ⟨x, hx⟩ := behindN_some X (X.length - (j + 1)) (j + 1) (by omega)
    have hb := (behindN_bound X (X.length - (j + 1)) (j + 1)).1
    generalize behindN X (X.length - (j + 1)) (j + 1) = k at *
    have h1 := aheadI_hit hx
    have h2 := aheadI_mono X (k + 1) (X.length - (k + 1))
    rw [show k + 1 + (X.length - (k + 1)) = X.length by omega, h1] at h2
    omega
  · intro h
    have h0 : 0 ≤ aheadI X X.length := by omega
    obtain ⟨x, hx⟩ := aheadI_some X X.length h0
    have hb := (aheadI_bound X X.length).2
    have key : ∀ f i k : Nat, i ≤ k → k < i + f → (∃ x, X.getD k none = some x) → behindN X f i ≤ k := by
      intro f
      induction f with
      | zero => intro i k h1 h2; omega
      | succ f ih =>
        intro i k h1 h2 hk
        show (if (X.getD i none).isSome then i else behindN X f (i + 1)) ≤ k
        by_cases hv : (X.getD i none).isSome = true
        · rw [if_pos hv]; exact h1
        · rw [if_neg hv]
          refine ih (i + 1) k ?_ (by omega) hk
          rcases Nat.lt_or_ge i k with g | g
          · omega
          · obtain rfl : i = k := by omega
            obtain ⟨y, hy⟩ := hk
            rw [hy] at hv
            exact absurd rfl hv
    have := key (X.length - (j + 1)) (j + 1) (aheadI X X.length).toNat (by omega) (by omega) ⟨x, hx⟩
    omega
/-- what lies between is there from the first one to the last one -/
theorem lie_at {X : List (Option Int)} {s : Int} {j : Nat} (hj : j < X.length) (hs : SmallO X X.length) : (fsV 4 s false none X j).isSome = (decide (0 ≤ firstI X X.length) && (decide (firstI X X.length ≤ j) && decide ((j : Int) ≤ aheadI X X.length))) := by
  have hf := first_at X X.length (j + 1) (by omega)
  have e : fsV 4 s false none X j = (match X.getD j none with | some x => some x | none => if 0 ≤ aheadI X j ∧ behindN X (X.length - (j + 1)) (j + 1) < X.length ∧ fillsB false none ((behindN X (X.length - (j + 1)) (j + 1) : Nat) - aheadI X j - 1) = true then lieO (X.getD (aheadI X j).toNat none) (X.getD (behindN X (X.length - (j + 1)) (j + 1)) none) ((j : Int) - aheadI X j) ((behindN X (X.length - (j + 1)) (j + 1) : Nat) - aheadI X j) else none) := rfl
  rw [e]
  have hm := aheadI_mono X (j + 1) (X.length - (j + 1))
  rw [show j + 1 + (X.length - (j + 1)) = X.length by omega] at hm
  cases hv : X.getD j none with
  | some x =>
    rw [firstI_hit hv] at hf
    rw [aheadI_hit hv] at hm
    have : 0 ≤ firstI X X.length ∧ firstI X X.length < ((j + 1 : Nat) : Int) := hf.1 (by have := (firstI_bound X j).1; split <;> omega)
    rw [decide_eq_true this.1, decide_eq_true (by omega), decide_eq_true hm]; rfl
  | none =>
    rw [firstI_skip hv] at hf
    rw [aheadI_skip hv] at hm
    have ha := first_ahead X j
    have hb := behind_last hj
    have hbb := (aheadI_bound X j).2
    have hbn := (behindN_bound X (X.length - (j + 1)) (j + 1)).1
    by_cases h0 : 0 ≤ aheadI X j ∧ behindN X (X.length - (j + 1)) (j + 1) < X.length
    · obtain ⟨x, hx⟩ := aheadI_some X j h0.1
      obtain ⟨y, hy⟩ := behindN_some X (X.length - (j + 1)) (j + 1) (by omega)
      have t1 := hf.1 (ha.1.2 h0.1)
      have t2 := hb.1 h0.2
      rw [if_pos ⟨h0.1, h0.2, rfl⟩, hx, hy, decide_eq_true t1.1, decide_eq_true (by omega), decide_eq_true (by omega)]
      exact lie_some (hs _ (by omega) _ hx) (hs _ h0.2 _ hy) (by omega) (by omega) (by omega)
    · rw [if_neg (fun g => h0 ⟨g.1, g.2.1⟩)]
      show false = _
      symm
      rw [Bool.and_eq_false_iff, Bool.and_eq_false_iff, decide_eq_false_iff_not, decide_eq_false_iff_not, decide_eq_false_iff_not]
      by_cases g : 0 ≤ firstI X X.length
      · by_cases g2 : firstI X X.length ≤ j
        · have g3 := ha.1.1 (hf.2 ⟨g, by omega⟩)
          refine Or.inr (Or.inr fun g4 => h0 ⟨g3, hb.2 ?_⟩)
          rcases Int.lt_or_le (j : Int) (aheadI X X.length) with g5 | g5
          · exact g5
          · have e2 : (aheadI X X.length).toNat = j := by omega
            obtain ⟨x, hx⟩ := aheadI_some X X.length (by omega)
            rw [e2, hv] at hx
            cases hx
        · exact Or.inr (Or.inl g2)
      · exact Or.inl g
/-- where there is a value, both leave it -/
theorem keep_same {X : List (Option Int)} {s : Int} {j : Nat} {x : Int} (h : X.getD j none = some x) : fsV 5 s false none X j = some x ∧ fsV 4 s false none X j = some x := by
  constructor
  · show (match X.getD j none with | some x => some x | none => _) = _
    rw [h]
  · show (match X.getD j none with | some x => some x | none => _) = _
    rw [h]
end Go.Proofs.YtkablhamnepfnaaDoor
