/-
  Series as text in plain words.
-/
import Derived.Test.YtjfonckmfafdgaaDoorSerSpec
import Derived.Test.YtjfonckmfafdgaaDoorDecBack
namespace Go.Proofs.YtjfonckmfafdgaaDoor
open Go.RowKit
/-- a half of a byte as a sign -/
def hexD (n : Nat) : UInt8 := if n < 10 then UInt8.ofNat (48 + n) else UInt8.ofNat (87 + n)
/-- a byte between quotes -/
def qc (c : UInt8) : List UInt8 := if c = 34 ∨ c = 92 then [92, c] else if c.toNat < 32 then [92, 117, 48, 48, hexD (c.toNat / 16), hexD (c.toNat % 16)] else [c]
def quoteL (s : List UInt8) : List UInt8 := 34 :: (s.flatMap qc ++ [34])
theorem qc_len (c : UInt8) : 1 ≤ (qc c).length ∧ (qc c).length ≤ 6 := by unfold qc; split <;> (try split) <;> simp
theorem qcs_len (l : List UInt8) : l.length ≤ (l.flatMap qc).length ∧ (l.flatMap qc).length ≤ 6 * l.length := by
  induction l with
  | nil => simp
  | cons c l ih => have := qc_len c; rw [List.flatMap_cons, List.length_append, List.length_cons]; omega
/-- a value's text -/
def prL (p : Bool × Int) : List UInt8 := (printV p.1 p.2).data.toList
theorem prL_len (p : Bool × Int) : (prL p).length ≤ 100 := by
  have := printV_size p.1 p.2
  have e : (prL p).length = (printV p.1 p.2).size := by unfold prL; simp
  omega
/-- .. another one where it is none -/
def prN (none : List UInt8) (p : Bool × Int) : List UInt8 := if prL p = [78, 111, 110, 101] then none else prL p
theorem prN_len (none : List UInt8) (h : none.length ≤ 100) (p : Bool × Int) : (prN none p).length ≤ 100 := by
  have := prL_len p
  unfold prN; split <;> omega
def atW (X : List (Bool × Int)) (k : Nat) : Bool × Int := X.getD k (false, 0)
theorem atW_lt {X : List (Bool × Int)} {k : Nat} (h : k < X.length) : atW X k = X[k] := by unfold atW; simp [List.getD, List.getElem?_eq_getElem h]
/-- the first k parts, and what parts them -/
def joinP (sep : List UInt8) (f : Nat → List UInt8) : Nat → List UInt8
  | 0 => []
  | k + 1 => joinP sep f k ++ ((if k = 0 then [] else sep) ++ f k)
theorem joinP_len {sep : List UInt8} {f : Nat → List UInt8} {m n : Nat} (hf : ∀ k, k < n → (f k).length + sep.length ≤ m) : ∀ k, k ≤ n → (joinP sep f k).length ≤ m * k := by
  intro k
  induction k with
  | zero => intro _; simp [joinP]
  | succ k ih =>
    intro hk
    have h1 := ih (by omega)
    have h2 := hf k (by omega)
    show (joinP sep f k ++ ((if k = 0 then [] else sep) ++ f k)).length ≤ m * (k + 1)
    rw [List.length_append, List.length_append, Nat.mul_succ]
    split
    · simp only [List.length_nil]; omega
    · omega
theorem joinP_congr {sep : List UInt8} {f g : Nat → List UInt8} : ∀ n, (∀ k, k < n → f k = g k) → joinP sep f n = joinP sep g n := by
  intro n
  induction n with
  | zero => intro _; rfl
  | succ n ih => intro h; unfold joinP; rw [ih (fun k hk => h k (by omega)), h n (by omega)]
/-- a series' end -/
def endS (S : Ser) : Int := S.start + S.vals.length * S.step
def timeS (S : Ser) (k : Nat) : Int := S.start + k * S.step
/-- a plain line -/
def rawV (S : Ser) (k : Nat) : List UInt8 := joinP [44] (fun k => prL (atW S.vals k)) k
def rawH (S : Ser) : List UInt8 := S.name.data.toList ++ (44 :: (Lib.itoa S.start ++ (44 :: (Lib.itoa (endS S) ++ (44 :: (Lib.itoa S.step ++ [124]))))))
def rawS (S : Ser) : List UInt8 := rawH S ++ (rawV S S.vals.length ++ [10])
/-- JSON -/
def jPt (S : Ser) (k : Nat) : List UInt8 := 91 :: (prN [110, 117, 108, 108] (atW S.vals k) ++ (44 :: 32 :: (Lib.itoa (timeS S k) ++ [93])))
def jPts (S : Ser) (k : Nat) : List UInt8 := joinP [44, 32] (jPt S) k
def jHead : List UInt8 := [123, 34, 116, 97, 114, 103, 101, 116, 34, 58, 32]
def jMid : List UInt8 := [44, 32, 34, 100, 97, 116, 97, 112, 111, 105, 110, 116, 115, 34, 58, 32, 91]
def jsonS (S : Ser) : List UInt8 := jHead ++ (quoteL S.name.data.toList ++ (jMid ++ (jPts S S.vals.length ++ [93, 125])))
def serAt (L : List Ser) (k : Nat) : Ser := L.getD k Ser.none
theorem serAt_lt {L : List Ser} {k : Nat} (h : k < L.length) : serAt L k = L[k] := by unfold serAt; simp [List.getD, List.getElem?_eq_getElem h]
def jsonP (L : List Ser) (k : Nat) : List UInt8 := 91 :: joinP [44, 32] (fun k => jsonS (serAt L k)) k
def jsonL (L : List Ser) : List UInt8 := jsonP L L.length ++ [93]
def rawP (L : List Ser) (k : Nat) : List UInt8 := joinP [] (fun k => rawS (serAt L k)) k
/-- a field of a table -/
def fc (c : UInt8) : List UInt8 := if c = 34 then [34, 34] else [c]
def odd (c : UInt8) : Bool := c == 44 || c == 34 || c == 10
def fieldL (s : List UInt8) : List UInt8 := if s.any odd then 34 :: (s.flatMap fc ++ [34]) else s
theorem fc_len (c : UInt8) : 1 ≤ (fc c).length ∧ (fc c).length ≤ 2 := by unfold fc; split <;> simp
theorem fcs_len (l : List UInt8) : l.length ≤ (l.flatMap fc).length ∧ (l.flatMap fc).length ≤ 2 * l.length := by
  induction l with
  | nil => simp
  | cons c l ih => have := fc_len c; rw [List.flatMap_cons, List.length_append, List.length_cons]; omega
/-- few series, such as may be -/
structure Few (L : List Ser) : Prop where
  n : L.length ≤ 20
  one : ∀ S ∈ L, S.name.size ≤ 300 ∧ S.vals.length ≤ 120 ∧ isSer S = true
/-- what a series that may be is bound by -/
structure InS (S : Ser) : Prop where
  n : S.name.size ≤ 300
  l : S.vals.length ≤ 120
  a0 : 0 ≤ S.start
  a1 : S.start ≤ 4294967295
  b0 : 1 ≤ S.step
  b1 : S.step ≤ 1099511627776
  v : S.vals.all (fun p => isR p.1 p.2) = true
theorem Few.at {L : List Ser} (h : Few L) {k : Nat} (hk : k < L.length) : InS (serAt L k) := by
  rw [serAt_lt hk]
  obtain ⟨h1, h2, h3⟩ := h.one _ (List.getElem_mem hk)
  unfold isSer isHead at h3
  simp only [Bool.and_eq_true, decide_eq_true_eq] at h3
  exact ⟨h1, h2, h3.1.2.1, h3.1.2.2.1, h3.1.2.2.2.1, h3.1.2.2.2.2.1, h3.2⟩
theorem InS.time {S : Ser} (h : InS S) {k : Nat} (hk : k ≤ 120) : 0 ≤ (k : Int) * S.step ∧ (k : Int) * S.step ≤ 131941395333120 := by
  have h0 := h.b0
  have h1 := h.b1
  have e0 : (0 : Int) ≤ (k : Int) * S.step := Int.mul_nonneg (by omega) (by omega)
  have e1 : (k : Int) * S.step ≤ 120 * 1099511627776 := Int.mul_le_mul (by omega) h1 (by omega) (by omega)
  omega
theorem InS.itoa {S : Ser} (h : InS S) {k : Nat} (hk : k ≤ 120) : (Lib.itoa (timeS S k)).length ≤ 20 := by
  have := h.time hk
  have h0 := h.a0
  have h1 := h.a1
  unfold timeS
  exact itoa_len (by omega) (by omega)
theorem InS.rawV_len {S : Ser} (_h : InS S) {k : Nat} (_hk : k ≤ S.vals.length) : (rawV S k).length ≤ 101 * k :=
  joinP_len (n := k) (fun j _ => by have := prL_len (atW S.vals j); simp only [List.length_cons, List.length_nil]; omega) k (Nat.le_refl _)
theorem InS.rawH_len {S : Ser} (h : InS S) : (rawH S).length ≤ 400 := by
  have h1 := h.n
  have h0 : S.name.data.toList.length = S.name.size := by simp
  have h2 := itoa_len (n := S.start) (by have := h.a0; omega) (by have := h.a1; omega)
  have h3 := itoa_len (n := S.step) (by have := h.b0; omega) (by have := h.b1; omega)
  have h4 := h.itoa (k := S.vals.length) h.l
  have h5 : (Lib.itoa (endS S)).length ≤ 20 := h4
  unfold rawH
  simp only [List.length_append, List.length_cons, List.length_nil]
  omega
theorem InS.rawS_len {S : Ser} (h : InS S) : (rawS S).length ≤ 12600 := by
  have h1 := h.rawH_len
  have h2 := h.rawV_len (Nat.le_refl _)
  have h3 := h.l
  unfold rawS
  simp only [List.length_append, List.length_cons, List.length_nil]
  omega
theorem InS.jPt_len {S : Ser} (h : InS S) {k : Nat} (hk : k ≤ 120) : (jPt S k).length ≤ 124 := by
  have h1 := prN_len [110, 117, 108, 108] (by simp) (atW S.vals k)
  have h2 := h.itoa hk
  unfold jPt
  simp only [List.length_append, List.length_cons, List.length_nil]
  omega
theorem InS.jPts_len {S : Ser} (h : InS S) {k : Nat} (hk : k ≤ S.vals.length) : (jPts S k).length ≤ 126 * k := by
  have hl := h.l
  exact joinP_len (n := k) (fun j hj => by have := h.jPt_len (k := j) (by omega); simp only [List.length_cons, List.length_nil]; omega) k (Nat.le_refl _)
theorem quoteL_len (l : List UInt8) : (quoteL l).length ≤ 6 * l.length + 2 := by
  have := (qcs_len l).2
  unfold quoteL; simp only [List.length_append, List.length_cons, List.length_nil]; omega
theorem InS.jsonS_len {S : Ser} (h : InS S) : (jsonS S).length ≤ 17000 := by
  have h1 := quoteL_len S.name.data.toList
  have h0 : S.name.data.toList.length = S.name.size := by simp
  have h2 := h.n
  have h3 := h.jPts_len (Nat.le_refl _)
  have h4 := h.l
  unfold jsonS jHead jMid
  simp only [List.length_append, List.length_cons, List.length_nil]
  omega
theorem Few.jsonP_len {L : List Ser} (h : Few L) {k : Nat} (hk : k ≤ L.length) : (jsonP L k).length ≤ 400000 := by
  have hn := h.n
  have h1 : (joinP [44, 32] (fun k => jsonS (serAt L k)) k).length ≤ 17002 * k :=
    joinP_len (n := k) (fun j hj => by have := (h.at (k := j) (by omega)).jsonS_len; simp only [List.length_cons, List.length_nil]; omega) k (Nat.le_refl _)
  unfold jsonP
  rw [List.length_cons]
  omega
theorem Few.rawP_len {L : List Ser} (h : Few L) {k : Nat} (hk : k ≤ L.length) : (rawP L k).length ≤ 400000 := by
  have hn := h.n
  have h1 : (joinP [] (fun k => rawS (serAt L k)) k).length ≤ 12600 * k :=
    joinP_len (n := k) (fun j hj => by have := (h.at (k := j) (by omega)).rawS_len; simp only [List.length_nil]; omega) k (Nat.le_refl _)
  unfold rawP
  omega
end Go.Proofs.YtjfonckmfafdgaaDoor
