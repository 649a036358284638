/-
  The walks of the small functions on times in words.
  The walks of the units of time.
  The walks of both packages' units. Printed by genunit.py.
  The walk of the reference's unit. Printed by genunit.py.
  What a text of a number and a unit says; the walk of the program's Interval.
  The walks of the calendar's small functions, of both packages. Printed by gencal.py.
  The walk of the reference's Interval.
  What a text of eight digits says; the walks of the reference's num and day.
  What a text says as a day or as a minute of a day; the walk of the reference's Date.
  The walk of the program's Date.
  Which time a text is; small facts on texts that begin with no digit.
  The walk of the program's At. Printed by genat.py.
  The walk of the reference's At. Printed by genat.py.
  Numbers in two digits, in four; which text a time is.
-/
import Derived.Test.YtjfonckmfafdgaaDoorDecWholeAid
import Derived.Test.YtjfonckmfafdgaaDoorElRow
import Derived.Test.YtjfonckmfafdgaaDoorCal
import Derived.Deep.DeepCutAuto
import Derived.Test.YtjfonckmfafdgaaDoorGrowBase
namespace Go.Proofs.YtjfonckmfafdgaaDoor
open Go.RowKit
/-- how many digits stand from a place on -/
def runD (s : ByteArray) (k : Nat) : Nat := ((s.data.toList.drop k).takeWhile isD).length
theorem runD_step {s : ByteArray} {k : Nat} (hk : k < s.size) (h : isD s[k] = true) : runD s k = runD s (k + 1) + 1 := by
  unfold runD; rw [drop_cons s k hk, List.takeWhile_cons_of_pos h, List.length_cons]
theorem runD_stop {s : ByteArray} {k : Nat} (hk : k < s.size) (h : isD s[k] = false) : runD s k = 0 := by
  unfold runD; rw [drop_cons s k hk, List.takeWhile_cons_of_neg (by rw [h]; simp)]; rfl
theorem runD_end {s : ByteArray} {k : Nat} (hk : ¬ k < s.size) : runD s k = 0 := by unfold runD; rw [drop_end s k hk]; rfl
end Go.Proofs.YtjfonckmfafdgaaDoor
namespace Go.Proofs.YtjfonckmfafdgaaDoor
open Go.RowKit
/-- is a text one of those from a place on? -/
def hitAt (X : List ByteArray) (s : ByteArray) (i : Nat) : Bool := (X.drop i).any (fun x => x.toList == s.toList)
theorem hitAt_step {X : List ByteArray} {s : ByteArray} {i : Nat} (h : i < X.length) : hitAt X s i = ((X[i].toList == s.toList) || hitAt X s (i + 1)) := by
  unfold hitAt; rw [List.drop_eq_getElem_cons h, List.any_cons]
theorem hitAt_end {X : List ByteArray} {s : ByteArray} {i : Nat} (h : ¬ i < X.length) : hitAt X s i = false := by
  unfold hitAt; rw [List.drop_eq_nil_of_le (by omega)]; rfl
end Go.Proofs.YtjfonckmfafdgaaDoor
namespace Go.Proofs.YtjfonckmfafdgaaDoor
open Go.RowKit
def uw0 : List ByteArray := [⟨#[115]⟩, ⟨#[115, 101, 99]⟩, ⟨#[115, 101, 99, 115]⟩, ⟨#[115, 101, 99, 111, 110, 100]⟩, ⟨#[115, 101, 99, 111, 110, 100, 115]⟩]
def uw1 : List ByteArray := [⟨#[109, 105, 110]⟩, ⟨#[109, 105, 110, 115]⟩, ⟨#[109, 105, 110, 117, 116, 101]⟩, ⟨#[109, 105, 110, 117, 116, 101, 115]⟩]
def uw2 : List ByteArray := [⟨#[104]⟩, ⟨#[104, 111, 117, 114]⟩, ⟨#[104, 111, 117, 114, 115]⟩]
def uw3 : List ByteArray := [⟨#[100]⟩, ⟨#[100, 97, 121]⟩, ⟨#[100, 97, 121, 115]⟩]
def uw4 : List ByteArray := [⟨#[119]⟩, ⟨#[119, 101, 101, 107]⟩, ⟨#[119, 101, 101, 107, 115]⟩]
def uw5 : List ByteArray := [⟨#[109, 111, 110]⟩, ⟨#[109, 111, 110, 116, 104]⟩, ⟨#[109, 111, 110, 116, 104, 115]⟩]
def uw6 : List ByteArray := [⟨#[121]⟩, ⟨#[121, 101, 97, 114]⟩, ⟨#[121, 101, 97, 114, 115]⟩]
/-- how many seconds a unit has; 0: it is none -/
def unitN (s : ByteArray) : Nat := if hitAt uw0 s 0 then 1 else if hitAt uw1 s 0 then 60 else if hitAt uw2 s 0 then 3600 else if hitAt uw3 s 0 then 86400 else if hitAt uw4 s 0 then 604800 else if hitAt uw5 s 0 then 2592000 else if hitAt uw6 s 0 then 31536000 else 0
theorem hit_flat (s : ByteArray) (X : List ByteArray) (b : Bool) (h : (X.map (fun x => s.toList == x.toList)).or = b) : hitAt X s 0 = b := by
  subst h; unfold hitAt; rw [List.drop_zero]
  induction X with
  | nil => rfl
  | cons x X ih => rw [List.any_cons, List.map_cons, List.or_cons, ih, Bool.beq_comm]
end Go.Proofs.YtjfonckmfafdgaaDoor
namespace Go.Proofs.YtjfonckmfafdgaaDoor
open Go.RowKit
end Go.Proofs.YtjfonckmfafdgaaDoor
namespace Go.Proofs.YtjfonckmfafdgaaDoor
open Go.RowKit
theorem take_while_len (l : List UInt8) : l.take (l.takeWhile isD).length = l.takeWhile isD := by
  induction l with
  | nil => rfl
  | cons c l ih =>
    cases h : isD c
    · rw [List.takeWhile_cons_of_neg (by rw [h]; simp)]; rfl
    · rw [List.takeWhile_cons_of_pos h, List.length_cons, List.take_succ_cons, ih]
theorem all_while (l : List UInt8) : (l.takeWhile isD).all isD = true := by
  induction l with
  | nil => rfl
  | cons c l ih =>
    cases h : isD c
    · rw [List.takeWhile_cons_of_neg (by rw [h]; simp)]; rfl
    · rw [List.takeWhile_cons_of_pos h, List.all_cons, h, ih]; rfl
theorem runD_le (t : ByteArray) : runD t 0 ≤ t.size := by
  unfold runD
  rw [List.drop_zero]
  have := (List.takeWhile_sublist (p := isD) (l := t.data.toList)).length_le
  have e : t.data.toList.length = t.size := by simp
  omega
/-- the digits that stand ahead, and what stands behind them -/
def leadB (t : ByteArray) : ByteArray := t.extract 0 (runD t 0)
def restB (t : ByteArray) : ByteArray := t.extract (runD t 0) t.size
theorem leadB_data (t : ByteArray) : (leadB t).data.toList = t.data.toList.takeWhile isD := by
  unfold leadB
  rw [Lib.extract_data, List.drop_zero, Nat.sub_zero]
  unfold runD
  rw [List.drop_zero, take_while_len]
theorem lead_minus (t : ByteArray) : minusS (leadB t) = false := minus_not (fun r h => by
  have := all_while t.data.toList
  rw [← leadB_data, h, List.all_cons, Bool.and_eq_true] at this
  exact absurd this.1 (by decide))
theorem lead_bare (t : ByteArray) : bareW (leadB t) = leadB t := by unfold bareW; rw [lead_minus]; rfl
theorem lead_whole (t : ByteArray) : wholeO (leadB t) = if runD t 0 = 0 then none else Option.map (fun (m : Nat) => (m : Int)) (numR 0 (leadB t).data.toList) := by
  have e : (leadB t).data.toList.length = runD t 0 := by rw [leadB_data]; unfold runD; rw [List.drop_zero]
  unfold wholeO
  rw [lead_bare, lead_minus]
  unfold okD
  rw [leadB_data, all_while, ← leadB_data, Bool.true_and]
  by_cases h : runD t 0 = 0
  · rw [if_pos h]
    have : (leadB t).data.toList = [] := List.eq_nil_of_length_eq_zero (by omega)
    rw [this]; rfl
  · rw [if_neg h]
    have : (leadB t).data.toList.isEmpty = false := by
      cases h2 : (leadB t).data.toList with
      | nil => rw [h2, List.length_nil] at e; omega
      | cons c r => rfl
    rw [this]; simp
theorem lead_nat (t : ByteArray) : wholeO (leadB t) = none ∨ ∃ m : Nat, wholeO (leadB t) = some (m : Int) ∧ (m : Int) ≤ 4611686018427387904 := by
  rw [lead_whole]
  split
  · exact Or.inl rfl
  · unfold numR
    split
    · rename_i h; exact Or.inr ⟨_, rfl, by unfold topN at h; omega⟩
    · exact Or.inl rfl
/-- how many seconds a text is -/
def interO (s : ByteArray) : Option Int := (wholeO (leadB (bareS s))).bind fun n =>
  if unitN (restB (bareS s)) = 0 ∨ (4294967295 : Int) / (unitN (restB (bareS s)) : Int) < n then none else some (if minusS s then -(n * (unitN (restB (bareS s)) : Int)) else n * (unitN (restB (bareS s)) : Int))
theorem inter_bound {s : ByteArray} {n : Int} (h : interO s = some n) : -4294967295 ≤ n ∧ n ≤ 4294967295 := by
  unfold interO at h
  rcases lead_nat (bareS s) with e | ⟨m, e, _⟩
  · rw [e] at h; cases h
  · rw [e] at h
    simp only [Option.bind_some] at h
    generalize unitN (restB (bareS s)) = u at h
    split at h
    · cases h
    · rename_i hn
      have hu : (u : Int) ≠ 0 := by omega
      have h1 := Int.ediv_mul_le 4294967295 hu
      have h2 : (m : Int) * (u : Int) ≤ (4294967295 : Int) / (u : Int) * (u : Int) := Int.mul_le_mul_of_nonneg_right (by omega) (by omega)
      have h3 : 0 ≤ (m : Int) * (u : Int) := Int.mul_nonneg (by omega) (by omega)
      generalize (m : Int) * (u : Int) = p at *
      split at h <;> (cases h; omega)
def sgnI (mi : Bool) : Int := if mi then -1 else 1
end Go.Proofs.YtjfonckmfafdgaaDoor
namespace Go.Proofs.YtjfonckmfafdgaaDoor
open Go.RowKit
theorem leapY_int (y : Nat) : leapY y = ((((y : Int) % 4) == 0) && ((((y : Int) % 100) != 0) || (((y : Int) % 400) == 0))) := by
  unfold leapY
  rw [Bool.eq_iff_iff]
  simp only [Bool.and_eq_true, Bool.or_eq_true, beq_iff_eq, bne_iff_ne, ne_eq]
  omega
theorem leap_prog (y : Nat) (w : World) (hy : y ≤ 1000000) : Calls Tryd.prog 69 #[.int .i64 y] w fun e w' => e = .returned (.bool (leapY y)) ∧ w = w' := by
  have h0 : (0 : Int) ≤ (y : Int) := by omega
  have hL := Lib.hid (leapY_int y)
  cases h1 : (((y : Int) % 4) == 0)
  · go_enter Tryd.func69, Tryd.ntmps69
    go_wp2
    go_ret
    exact ⟨ret_bool (by rw [hL.out, h1]; rfl), rfl⟩
  · cases h2 : (((y : Int) % 100) != 0) <;> cases h3 : (((y : Int) % 400) == 0) <;>
    · go_enter Tryd.func69, Tryd.ntmps69
      go_wp2
      go_ret
      exact ⟨ret_bool (by rw [hL.out, h1, h2, h3]; rfl), rfl⟩
theorem leap_ref (y : Nat) (w : World) (hy : y ≤ 1000000) : Calls Tryd.prog 56 #[.int .i64 y] w fun e w' => e = .returned (.bool (leapY y)) ∧ w = w' := by
  have h0 : (0 : Int) ≤ (y : Int) := by omega
  have hL := Lib.hid (leapY_int y)
  cases h1 : (((y : Int) % 4) == 0)
  · go_enter Tryd.func56, Tryd.ntmps56
    go_wp2
    go_ret
    exact ⟨ret_bool (by rw [hL.out, h1]; rfl), rfl⟩
  · cases h2 : (((y : Int) % 100) != 0) <;> cases h3 : (((y : Int) % 400) == 0) <;>
    · go_enter Tryd.func56, Tryd.ntmps56
      go_wp2
      go_ret
      exact ⟨ret_bool (by rw [hL.out, h1, h2, h3]; rfl), rfl⟩
theorem month_prog (y m : Nat) (w : World) (hy : y ≤ 1000000) (hm : m ≤ 1000000) : Calls Tryd.prog 54 #[.int .i64 y, .int .i64 m] w fun e w' => e = .returned (.int .i64 (mlen y m : Nat)) ∧ w = w' := by
  obtain ⟨x, hx⟩ : ∃ x : Int, (m : Int) = x := ⟨_, rfl⟩
  obtain ⟨L, hL⟩ : ∃ L, Hid (mlen y m = L) := ⟨_, Lib.hid rfl⟩
  rw [hx, hL.out]
  by_cases h2 : m = 2
  · obtain rfl : x = 2 := by omega
    cases hl : leapY y <;>
    · go_enter Tryd.func54, Tryd.ntmps54
      go_wp2_with (go_at_call 69; refine (leap_prog y _ hy).mono ?_; rw [hl]; rintro e wn ⟨rfl, rfl⟩)
      go_ret
      exact ⟨ret_int (by rw [← hL.out]; unfold mlen; rw [if_pos h2, hl]; rfl), rfl⟩
  by_cases h4 : m = 4 ∨ m = 6 ∨ m = 9 ∨ m = 11
  · have HL : L = 30 := by rw [← hL.out]; unfold mlen; rw [if_neg h2, if_pos h4]
    have h5 : x = 4 ∨ x = 6 ∨ x = 9 ∨ x = 11 := by omega
    have HL := Lib.hid HL
    clear h2 h4 hx
    rcases h5 with rfl | rfl | rfl | rfl <;>
    · go_enter Tryd.func54, Tryd.ntmps54
      go_wp2_with fail
      go_ret
      exact ⟨ret_int (by rw [HL.out]; rfl), rfl⟩
  have HL : L = 31 := by rw [← hL.out]; unfold mlen; rw [if_neg h2, if_neg h4]
  have HL := Lib.hid HL
  have q2 : (x == 2) = false := by simp; omega
  have q4 : (x == 4) = false := by simp; omega
  have q6 : (x == 6) = false := by simp; omega
  have q9 : (x == 9) = false := by simp; omega
  have q11 : (x == 11) = false := by simp; omega
  clear h2 h4 hx
  go_enter Tryd.func54, Tryd.ntmps54
  go_wp2_with fail
  go_ret
  exact ⟨ret_int (by rw [HL.out]; rfl), rfl⟩
theorem days_ref (y m : Nat) (w : World) (hy : y ≤ 1000000) (hm : m ≤ 1000000) : Calls Tryd.prog 57 #[.int .i64 y, .int .i64 m] w fun e w' => e = .returned (.int .i64 (mlen y m : Nat)) ∧ w = w' := by
  obtain ⟨x, hx⟩ : ∃ x : Int, (m : Int) = x := ⟨_, rfl⟩
  obtain ⟨L, hL⟩ : ∃ L, Hid (mlen y m = L) := ⟨_, Lib.hid rfl⟩
  rw [hx, hL.out]
  by_cases h2 : m = 2
  · obtain rfl : x = 2 := by omega
    cases hl : leapY y <;>
    · go_enter Tryd.func57, Tryd.ntmps57
      go_wp2_with (go_at_call 56; refine (leap_ref y _ hy).mono ?_; rw [hl]; rintro e wn ⟨rfl, rfl⟩)
      go_ret
      exact ⟨ret_int (by rw [← hL.out]; unfold mlen; rw [if_pos h2, hl]; rfl), rfl⟩
  by_cases h4 : m = 4 ∨ m = 6 ∨ m = 9 ∨ m = 11
  · have HL : L = 30 := by rw [← hL.out]; unfold mlen; rw [if_neg h2, if_pos h4]
    have h5 : x = 4 ∨ x = 6 ∨ x = 9 ∨ x = 11 := by omega
    have HL := Lib.hid HL
    clear h2 h4 hx
    rcases h5 with rfl | rfl | rfl | rfl <;>
    · go_enter Tryd.func57, Tryd.ntmps57
      go_wp2_with fail
      go_ret
      exact ⟨ret_int (by rw [HL.out]; rfl), rfl⟩
  have HL : L = 31 := by rw [← hL.out]; unfold mlen; rw [if_neg h2, if_neg h4]
  have HL := Lib.hid HL
  have q2 : (x == 2) = false := by simp; omega
  have q4 : (x == 4) = false := by simp; omega
  have q6 : (x == 6) = false := by simp; omega
  have q9 : (x == 9) = false := by simp; omega
  have q11 : (x == 11) = false := by simp; omega
  clear h2 h4 hx
  go_enter Tryd.func57, Tryd.ntmps57
  go_wp2_with fail
  go_ret
  exact ⟨ret_int (by rw [HL.out]; rfl), rfl⟩
theorem year_prog (y : Nat) (w : World) (hy : y ≤ 1000000) : Calls Tryd.prog 53 #[.int .i64 y] w fun e w' => e = .returned (.int .i64 (ylen y : Nat)) ∧ w = w' := by
  obtain ⟨L, hL⟩ : ∃ L, Hid (ylen y = L) := ⟨_, Lib.hid rfl⟩
  rw [hL.out]
  cases hl : leapY y <;>
  · go_enter Tryd.func53, Tryd.ntmps53
    go_wp2_with (go_at_call 69; refine (leap_prog y _ hy).mono ?_; rw [hl]; rintro e wn ⟨rfl, rfl⟩)
    go_ret
    exact ⟨ret_int (by rw [← hL.out]; unfold ylen; rw [hl]; rfl), rfl⟩
end Go.Proofs.YtjfonckmfafdgaaDoor
namespace Go.Proofs.YtjfonckmfafdgaaDoor
open Go.RowKit
end Go.Proofs.YtjfonckmfafdgaaDoor
namespace Go.Proofs.YtjfonckmfafdgaaDoor
open Go.RowKit
theorem whole_digits {t : ByteArray} (h : t.data.toList.all isD = true) (hne : 0 < t.size) : wholeO t = Option.map (fun (m : Nat) => (m : Int)) (numR 0 t.data.toList) := by
  have h1 : minusS t = false := minus_not (fun r e => by
    rw [e, List.all_cons, Bool.and_eq_true] at h
    exact absurd h.1 (by decide))
  have h2 : bareW t = t := by unfold bareW; rw [h1]; rfl
  have e : t.data.toList.length = t.size := by simp
  unfold wholeO
  rw [h2, h1]
  unfold okD
  have : t.data.toList.isEmpty = false := by
    cases h2 : t.data.toList with
    | nil => rw [h2, List.length_nil] at e; omega
    | cons c r => rfl
  rw [h, this]; simp
theorem valF_lt : ∀ (l : List UInt8), l.all isD = true → valF 0 l < 10 ^ l.length := by
  intro l
  induction l with
  | nil => intro _; rw [valF_nil]; decide
  | cons c r ih =>
    intro h
    rw [List.all_cons, Bool.and_eq_true] at h
    have h1 := dg_le h.1
    have h2 := ih h.2
    rw [valF_cons, valF_base, List.length_cons, Nat.pow_succ, Nat.zero_mul, Nat.zero_add]
    generalize 10 ^ r.length = p at *
    have h3 : dg c * p ≤ 9 * p := Nat.mul_le_mul_right p h1
    omega
/-- the number that digits say -/
def numB (t : ByteArray) : Nat := valF 0 t.data.toList
theorem piece_digits {s : ByteArray} (h : allAt s 0 = true) (a b : Nat) : (s.extract a b).data.toList.all isD = true := by
  rw [allAt_zero] at h
  rw [List.all_eq_true] at h ⊢
  intro x hx
  rw [Lib.extract_data] at hx
  exact h x (List.mem_of_mem_drop (List.mem_of_mem_take hx))
theorem piece_whole {s : ByteArray} (h : allAt s 0 = true) (a b : Nat) (hab : a < b) (hb : b ≤ s.size) (h9 : b ≤ a + 8) : wholeO (s.extract a b) = some (numB (s.extract a b) : Int) ∧ numB (s.extract a b) < 10 ^ (b - a) := by
  have hd := piece_digits h a b
  have hz : (s.extract a b).size = b - a := by rw [ByteArray.size_extract]; omega
  have hl : (s.extract a b).data.toList.length = b - a := by rw [← hz, Array.length_toList]; rfl
  have hv := valF_lt _ hd
  rw [hl] at hv
  refine ⟨?_, hv⟩
  have hp : 10 ^ (b - a) ≤ 10 ^ 8 := Nat.pow_le_pow_right (by omega) (by omega)
  rw [whole_digits hd (by omega)]
  unfold numR
  rw [if_pos (by unfold topN; omega)]
  rfl
def okYMD (y m d : Nat) : Bool := decide (1970 ≤ y) && decide (1 ≤ m) && decide (m ≤ 12) && decide (1 ≤ d) && decide (d ≤ mlen y m)
def daysN (y m d : Nat) : Nat := (d - 1) + msum y 1 (m - 1) + ysum 1970 (y - 1970)
/-- the day, counted from the first one, that eight digits name -/
def dayN (s : ByteArray) : Option Nat := if s.size = 8 ∧ allAt s 0 = true then (if okYMD (numB (s.extract 0 4)) (numB (s.extract 4 6)) (numB (s.extract 6 8)) then some (daysN (numB (s.extract 0 4)) (numB (s.extract 4 6)) (numB (s.extract 6 8))) else none) else none
def dayV (o : Option Nat) : Value := match o with
  | none => .tuple #[.int .i64 0, .bool false]
  | some n => .tuple #[.int .i64 ((n : Int) * 86400), .bool (decide ((n : Int) * 86400 ≤ 4294967295))]
theorem msum_le (y m k : Nat) : msum y m k ≤ k * 31 := by
  induction k with
  | zero => exact Nat.le_refl _
  | succ k ih =>
    have : mlen y (m + k) ≤ 31 := by unfold mlen; repeat' split
                                     all_goals omega
    have e : msum y m (k + 1) = msum y m k + mlen y (m + k) := rfl
    rw [e, Nat.succ_mul]; omega
theorem ysum_le (y : Nat) : ∀ k, ysum y k ≤ k * 366 := by
  intro k
  induction k with
  | zero => exact Nat.le_refl _
  | succ k ih =>
    have h1 : ylen (y + k) ≤ 366 := by unfold ylen; split <;> omega
    have h2 : ysum y (k + 1) = ysum y k + ylen (y + k) := rfl
    rw [h2, Nat.succ_mul]; omega
end Go.Proofs.YtjfonckmfafdgaaDoor
namespace Go.Proofs.YtjfonckmfafdgaaDoor
open Go.RowKit
/-- does a text name a minute ahead of a day? -/
def hmS (s : ByteArray) : Bool := if h : s.size = 14 then ((s[2].toNat : Int) == 58) && (((s[5].toNat : Int) == 95) && (allAt (s.extract 0 2) 0 && allAt (s.extract 3 5) 0)) else false
def capO (o : Option Nat) (more : Nat) : Option Int := o.bind fun n => if (n : Int) * 86400 + (more : Int) ≤ 4294967295 then some ((n : Int) * 86400 + (more : Int)) else none
/-- the second at which what a text names begins -/
def dateO (s : ByteArray) : Option Int := if hmS s then (if 23 < numB (s.extract 0 2) ∨ 59 < numB (s.extract 3 5) then none else capO (dayN (s.extract 6 14)) (numB (s.extract 0 2) * 3600 + numB (s.extract 3 5) * 60)) else capO (dayN s) 0
theorem dayN_le {s : ByteArray} {n : Nat} (h : dayN s = some n) : n ≤ 5000000 := by
  unfold dayN at h
  split at h
  · rename_i hs
    obtain ⟨_, y2⟩ := piece_whole hs.2 0 4 (by omega) (by omega) (by omega)
    have e4 : (10 : Nat) ^ (4 - 0) = 10000 := by decide
    rw [e4] at y2
    generalize numB (s.extract 0 4) = y at *
    generalize numB (s.extract 4 6) = m at *
    generalize numB (s.extract 6 8) = d at *
    split at h
    · rename_i hk
      have h := Option.some.inj h
      rw [← h]
      unfold okYMD at hk
      simp only [Bool.and_eq_true, decide_eq_true_eq] at hk
      have h1 := msum_le y 1 (m - 1)
      have h2 := ysum_le 1970 (y - 1970)
      have h3 : mlen y m ≤ 31 := by unfold mlen; (repeat' split) <;> omega
      unfold daysN
      omega
    · cases h
  · cases h
theorem capO_le {o : Option Nat} {more : Nat} {n : Int} (h : capO o more = some n) : 0 ≤ n ∧ n ≤ 4294967295 := by
  unfold capO at h
  cases o with
  | none => cases h
  | some k =>
    simp only [Option.bind_some] at h
    split at h
    · cases h; omega
    · cases h
theorem dateO_le {s : ByteArray} {n : Int} (h : dateO s = some n) : 0 ≤ n ∧ n ≤ 4294967295 := by
  unfold dateO at h
  split at h
  · split at h
    · cases h
    · exact capO_le h
  · exact capO_le h
theorem hm_parts {s : ByteArray} (h : hmS s = true) : s.size = 14 ∧ allAt (s.extract 0 2) 0 = true ∧ allAt (s.extract 3 5) 0 = true := by
  unfold hmS at h
  split at h
  · rename_i h14
    simp only [Bool.and_eq_true] at h
    exact ⟨h14, h.2.2.1, h.2.2.2⟩
  · cases h
/-- two digits say a number below 100 -/
theorem two_whole {t : ByteArray} (h : allAt t 0 = true) (hz : t.size = 2) : wholeO t = some (numB t : Int) ∧ numB t < 100 := by
  have h1 := piece_whole h 0 2 (by omega) (by omega) (by omega)
  have e : t.extract 0 2 = t := by rw [← hz]; exact ByteArray.extract_zero_size
  rw [e] at h1
  exact h1
end Go.Proofs.YtjfonckmfafdgaaDoor
namespace Go.Proofs.YtjfonckmfafdgaaDoor
open Go.RowKit
theorem list_two : ∀ (l : List UInt8) (h : 2 < l.length), isD l[2] = false → (((l.takeWhile isD).length : Int) == 2) = (l.take 2).all isD := by
  intro l h hc
  match l, h, hc with
  | a :: b :: c :: r, _, hc =>
    have hc : isD c = false := hc
    cases ha : isD a
    · rw [List.takeWhile_cons_of_neg (by rw [ha]; simp)]
      simp [List.take, ha]
    · rw [List.takeWhile_cons_of_pos ha]
      cases hb : isD b
      · rw [List.takeWhile_cons_of_neg (by rw [hb]; simp)]
        simp [List.take, ha, hb]
      · rw [List.takeWhile_cons_of_pos hb, List.takeWhile_cons_of_neg (by rw [hc]; simp)]
        simp [List.take, ha, hb]
theorem run_two {t u : ByteArray} (h : 2 < t.size) (hc : isD t[2] = false) (hu : u.data.toList = t.data.toList.take 2) : ((runD t 0 : Int) == 2) = allAt u 0 := by
  have e : t.data.toList.length = t.size := by simp
  unfold runD
  rw [allAt_zero, hu, List.drop_zero]
  exact list_two _ (by omega) (by rw [← hc]; rfl)
theorem run_all {t : ByteArray} (h : t.size = 8) : ((runD t 0 : Int) != 8) = !allAt t 0 := by
  have e : t.data.toList.length = t.size := by simp
  have key : ∀ l : List UInt8, ((l.takeWhile isD).length = l.length) ↔ l.all isD = true := by
    intro l
    induction l with
    | nil => simp
    | cons c r ih =>
      cases hc : isD c
      · rw [List.takeWhile_cons_of_neg (by rw [hc]; simp), List.all_cons, hc]; simp
      · rw [List.takeWhile_cons_of_pos hc, List.all_cons, hc, List.length_cons, List.length_cons]; simp [ih]
  have k := key t.data.toList
  unfold runD
  rw [allAt_zero, List.drop_zero]
  generalize (t.data.toList.takeWhile isD).length = n at *
  cases hA : t.data.toList.all isD
  · have : ¬ n = 8 := fun h1 => by rw [hA] at k; exact absurd (k.1 (by omega)) (by simp)
    simp; omega
  · have := k.2 hA
    have : n = 8 := by omega
    subst this; rfl
theorem isD_not {c : UInt8} {n : Int} (h : ((c.toNat : Int) == n) = true) (hn : n < 48 ∨ 57 < n) : isD c = false := by
  have h : (c.toNat : Int) = n := by simpa using h
  unfold isD
  rw [h]
  rcases hn with hn | hn
  · rw [decide_eq_false (by omega), Bool.false_and]
  · rw [decide_eq_false (p := n ≤ 57) (by omega), Bool.and_false]
end Go.Proofs.YtjfonckmfafdgaaDoor
namespace Go.Proofs.YtjfonckmfafdgaaDoor
open Go.RowKit
/-- a time that may be, or the error -/
def inV (n : Int) : Value := if n < 0 ∨ 4294967295 < n then .tuple #[.int .i64 0, .int .i64 7] else .tuple #[.int .i64 n, .int .i64 0]
/-- now and so much, if there is a number -/
def relV (o : Option Int) (now : Int) : Value := match o with
  | none => .tuple #[.int .i64 0, .int .i64 8]
  | some n => if now < 0 ∨ 4294967295 < now then .tuple #[.int .i64 0, .int .i64 7] else inV (now + n)
/-- a day, a minute, or a number of seconds -/
def plainV (s : ByteArray) : Value := match dateO s with
  | some n => .tuple #[.int .i64 n, .int .i64 0]
  | none => if s.size = 0 ∨ allAt s 0 = false ∨ s.size = 8 then .tuple #[.int .i64 0, .int .i64 8] else (match wholeO s with | none => .tuple #[.int .i64 0, .int .i64 7] | some n => inV n)
def isNow (s : ByteArray) : Bool := s.data.toList.take 3 == [110, 111, 119]
/-- which time a text is -/
def atV (s : ByteArray) (now : Int) : Value :=
  if isNow s then (if s.size = 3 then relV (some 0) now else if signedS (s.extract 3 s.size) then relV (interO (s.extract 3 s.size)) now else .tuple #[.int .i64 0, .int .i64 8])
  else if signedS s then relV (interO s) now else plainV s
theorem isNow_data {s : ByteArray} (h : isNow s = true) : ∃ r, s.data.toList = 110 :: 111 :: 119 :: r := by
  unfold isNow at h
  rw [beq_iff_eq] at h
  match hl : s.data.toList, h with
  | a :: b :: c :: r, h =>
    simp at h
    obtain ⟨rfl, rfl, rfl⟩ := h
    exact ⟨r, rfl⟩
theorem isNow_size {s : ByteArray} (h : isNow s = true) : 3 ≤ s.size := by
  obtain ⟨r, hr⟩ := isNow_data h
  have e : s.data.toList.length = s.size := by simp
  rw [hr] at e
  simp at e
  omega
theorem trim_now {s : ByteArray} (h : isNow s = true) : (⟨(Lib.trimPrefix s.data.toList [110, 111, 119]).toArray⟩ : ByteArray) = s.extract 3 s.size := by
  obtain ⟨r, hr⟩ := isNow_data h
  refine (ext_data ?_).symm
  rw [Lib.extract_to_end, hr]
  unfold Lib.trimPrefix Lib.hasPrefix
  rfl
theorem trim_not {s : ByteArray} (h : isNow s = false) : (⟨(Lib.trimPrefix s.data.toList [110, 111, 119]).toArray⟩ : ByteArray) = s := by
  refine (ext_data ?_).symm
  unfold isNow at h
  unfold Lib.trimPrefix Lib.hasPrefix
  rw [if_neg]
  intro hp
  rw [beq_eq_false_iff_ne] at h
  apply h
  have := List.isPrefixOf_iff_prefix.1 hp
  obtain ⟨t, ht⟩ := this
  rw [← ht]
  rfl
theorem head_of {s : ByteArray} {c : UInt8} {r : List UInt8} (h : s.data.toList = c :: r) : ∃ h0 : 0 < s.size, s[0] = c := by
  obtain ⟨h0, h1, _⟩ := first_data h
  exact ⟨h0, h1 h0⟩
theorem now_head {s : ByteArray} (h : isNow s = true) : ∃ h0 : 0 < s.size, isD s[0] = false := by
  obtain ⟨r, hr⟩ := isNow_data h
  obtain ⟨h0, h1⟩ := head_of hr
  exact ⟨h0, by rw [h1]; decide⟩
theorem now_signed {s : ByteArray} (h : isNow s = true) : signedS s = false := by
  obtain ⟨r, hr⟩ := isNow_data h
  obtain ⟨h0, h1⟩ := head_of hr
  unfold signedS
  rw [dif_pos h0, h1]; rfl
theorem signed_head {s : ByteArray} (h : signedS s = true) : ∃ h0 : 0 < s.size, isD s[0] = false := by
  have h0 := signed_pos h
  unfold signedS at h
  rw [dif_pos h0, Bool.or_eq_true] at h
  exact ⟨h0, h.elim (fun h => isD_not h (by omega)) (fun h => isD_not h (by omega))⟩
theorem bad_all {s : ByteArray} (h0 : 0 < s.size) (h : isD s[0] = false) : allAt s 0 = false := by rw [allAt_step h0, h, Bool.false_and]
theorem bad_date {s : ByteArray} (h0 : 0 < s.size) (h : isD s[0] = false) : dateO s = none := by
  have h1 : hmS s = false := by
    cases hm : hmS s
    · rfl
    · obtain ⟨h14, h2, _⟩ := hm_parts hm
      rw [allAt_zero, Lib.extract_data, drop_cons s 0 h0] at h2
      simp [h] at h2
  have h2 : dayN s = none := by unfold dayN; rw [if_neg (fun k => by rw [bad_all h0 h] at k; cases k.2)]
  unfold dateO capO
  rw [h1, h2]; rfl
theorem bad_plain {s : ByteArray} (h0 : 0 < s.size) (h : isD s[0] = false) : plainV s = .tuple #[.int .i64 0, .int .i64 8] := by
  unfold plainV
  rw [bad_date h0 h]
  dsimp only
  rw [if_pos (Or.inr (Or.inl (bad_all h0 h)))]
theorem bad_inter {s : ByteArray} (h0 : 0 < s.size) (h : isD s[0] = false) (hs : signedS s = false) : interO s = none := by
  have hb : bareS s = s := by unfold bareS; rw [hs]; rfl
  unfold interO
  rw [hb, lead_whole, runD_stop h0 h]
  rfl
theorem run_len (t : ByteArray) : ((runD t 0 : Int) != (t.size : Int)) = !allAt t 0 := by
  have e : t.data.toList.length = t.size := by simp
  have key : ∀ l : List UInt8, ((l.takeWhile isD).length = l.length) ↔ l.all isD = true := by
    intro l
    induction l with
    | nil => simp
    | cons c r ih =>
      cases hc : isD c
      · rw [List.takeWhile_cons_of_neg (by rw [hc]; simp), List.all_cons, hc]; simp
      · rw [List.takeWhile_cons_of_pos hc, List.all_cons, hc, List.length_cons, List.length_cons]; simp [ih]
  have k := key t.data.toList
  unfold runD
  rw [allAt_zero, List.drop_zero]
  generalize (t.data.toList.takeWhile isD).length = n at *
  rw [e] at k
  generalize t.size = z at *
  cases hA : t.data.toList.all isD
  · have : ¬ n = z := fun h1 => by rw [hA] at k; exact absurd (k.1 (by omega)) (by simp)
    simp; omega
  · have := k.2 hA
    subst this; simp
end Go.Proofs.YtjfonckmfafdgaaDoor
namespace Go.Proofs.YtjfonckmfafdgaaDoor
open Go.RowKit
theorem inV_form (x : Int) : ∃ a b, inV x = .tuple #[.int .i64 a, .int .i64 b] := by
  unfold inV; split
  · exact ⟨_, _, rfl⟩
  · exact ⟨_, _, rfl⟩
theorem neq_of {a b : ByteArray} (h : a.size ≠ b.size) : (a.toList == b.toList) = false ∧ (a.toList != b.toList) = true := by
  have k : (a.toList == b.toList) = false := by
    rw [beq_eq_false_iff_ne, ByteArray.toList_eq, ByteArray.toList_eq]
    intro e
    apply h
    have e1 : a.data.toList.length = a.size := by simp
    have e2 : b.data.toList.length = b.size := by simp
    rw [← e1, ← e2, e]
  exact ⟨k, by rw [bne, k]; rfl⟩
end Go.Proofs.YtjfonckmfafdgaaDoor
namespace Go.Proofs.YtjfonckmfafdgaaDoor
open Go.RowKit
def n3S (s : ByteArray) : Bool := isNow s && decide (s.size = 3)
def r3S (s : ByteArray) : Bool := isNow s && (decide (3 < s.size) && signedS (s.extract 3 s.size))
def tS (s : ByteArray) : ByteArray := if r3S s then s.extract 3 s.size else s
def bS (s : ByteArray) : Bool := (interO (tS s)).isSome && signedS (tS s)
theorem at_split (s : ByteArray) (now : Int) : (bS s = true → ∃ n, interO (tS s) = some n ∧ atV s now = relV (some n) now) ∧ (bS s = false → n3S s = true → atV s now = relV (some 0) now) ∧ (bS s = false → n3S s = false → atV s now = plainV s) := by
  unfold bS tS r3S n3S atV
  cases hn : isNow s
  · simp only [Bool.false_and, Bool.false_eq_true, if_false]
    cases sg : signedS s
    · simp
    · obtain ⟨h0, h1⟩ := signed_head sg
      have hb := bad_plain h0 h1
      cases hi : interO s with
      | none => simp [relV, hb]
      | some n => simp
  · simp only [Bool.true_and, if_true]
    have h3 := isNow_size hn
    obtain ⟨h0, h1⟩ := now_head hn
    have hb := bad_plain h0 h1
    have hi := bad_inter h0 h1 (now_signed hn)
    by_cases hz : s.size = 3
    · have : ¬ 3 < s.size := by omega
      simp only [decide_eq_true hz, decide_eq_false this, if_pos hz, Bool.false_and, Bool.false_eq_true, if_false, hi]
      simp
    · have : 3 < s.size := by omega
      simp only [decide_eq_false hz, decide_eq_true this, if_neg hz, Bool.true_and]
      cases sg : signedS (s.extract 3 s.size)
      · simp only [Bool.false_eq_true, if_false, hi]
        simp [hb]
      · simp only [if_true, sg]
        cases hr : interO (s.extract 3 s.size) with
        | none => simp [relV, hb]
        | some n => simp
theorem tS_size {s : ByteArray} : (tS s).size ≤ s.size := by
  unfold tS; split
  · rw [ByteArray.size_extract]; omega
  · exact Nat.le_refl _
theorem now_eq (s : ByteArray) : (s.toList == [110, 111, 119]) = n3S s := by
  unfold n3S isNow
  have e : s.data.toList.length = s.size := by simp
  rw [ByteArray.toList_eq, ← e]
  match s.data.toList with
  | [] => rfl
  | [a] => simp
  | [a, b] => simp
  | [a, b, c] => simp
  | a :: b :: c :: d :: r => simp
theorem now_pre (s : ByteArray) : ((s.extract 0 3).toList == [110, 111, 119]) = isNow s := by
  unfold isNow
  rw [ByteArray.toList_eq, Lib.extract_data, List.drop_zero]
theorem r3_sign {s : ByteArray} (h : 3 < s.size) : signedS (s.extract 3 s.size) = (((s[3].toNat : Int) == 45) || ((s[3].toNat : Int) == 43)) := by
  have e : (s.extract 3 s.size).data.toList = s[3] :: s.data.toList.drop 4 := by rw [Lib.extract_to_end, drop_cons s 3 h]
  obtain ⟨h0, h1⟩ := head_of e
  unfold signedS
  rw [dif_pos h0, h1]
end Go.Proofs.YtjfonckmfafdgaaDoor
namespace Go.Proofs.YtjfonckmfafdgaaDoor
open Go.RowKit
def twoL (n : Nat) : List UInt8 := [UInt8.ofNat (48 + n / 10), UInt8.ofNat (48 + n % 10)]
def twoB (n : Nat) : ByteArray := ⟨(twoL n).toArray⟩
/-- a second, counted from the first one, as a day and a second of it -/
def clockL (T : Nat) : List UInt8 :=
  Lib.decDigits (yOf 1970 (T / 86400)).1 ++ (45 :: (twoL (mOf (yOf 1970 (T / 86400)).1 1 (yOf 1970 (T / 86400)).2).1 ++ (45 :: (twoL ((mOf (yOf 1970 (T / 86400)).1 1 (yOf 1970 (T / 86400)).2).2 + 1) ++
    (32 :: (twoL (T % 86400 / 3600) ++ (58 :: (twoL (T % 86400 % 3600 / 60) ++ (58 :: twoL (T % 86400 % 60))))))))))
theorem pad_two {n : Nat} (h : n < 100) : List.replicate (2 - (Lib.decDigits n).length) 48 ++ Lib.decDigits n = twoL n := by
  by_cases h1 : n < 10
  · rw [Lib.decDigits_one h1]
    have e1 : n / 10 = 0 := by omega
    have e2 : n % 10 = n := by omega
    unfold twoL
    rw [e1, e2]; rfl
  · rw [Lib.decDigits_two h1 h]; rfl
theorem dec_four {n : Nat} (h1 : 1000 ≤ n) (h2 : n ≤ 9999) : (Lib.decDigits n).length = 4 := by
  rw [Lib.decDigits_length]
  exact Lib.nDigits_unique 3 _ (by omega) (by omega)
set_option maxHeartbeats 4000000 in
theorem pad_prog (n k : Nat) (hn : n ≤ 9999) (hk : k ≤ 4) (w : World) (hp : Pow10 w) :
    Calls Tryd.prog 55 #[.int .i64 n, .int .i64 k] w fun e w' => e = .returned (.string ⟨(List.replicate (k - (Lib.decDigits n).length) 48 ++ Lib.decDigits n).toArray⟩) ∧ w.grownBy w' none := by
  have HP := Lib.hid hp; clear hp
  have HG := G.refl w none
  have HD := Lib.hid (fun w hp => digits_nat (x := (n : Int)) n rfl (by omega) w hp)
  have hl : (Lib.decDigits n).length ≤ 4 := decDigits_len (by omega)
  obtain ⟨V, hV⟩ : ∃ V, Hid ((⟨(List.replicate (k - (Lib.decDigits n).length) 48 ++ Lib.decDigits n).toArray⟩ : ByteArray) = V) := ⟨_, Lib.hid rfl⟩
  rw [hV.out]
  go_enter Tryd.func55, Tryd.ntmps55
  go_wp2_with fail
  refine (HD.out _ (Pow10.kept (w := w) HP.out (by exact G.go HG))).mono ?_
  rintro e wn ⟨Z, rfl, hz, hzs, hgn⟩
  replace HG := G.trans (w := w) (by exact G.go HG) hgn; clear hgn
  have hZ := Lib.hid hz
  have hl2 : Z.size ≤ 4 := by rw [size_of_data hz]; exact hl
  have hl3 : Hid ((Lib.decDigits n).length = Z.size) := Lib.hid (size_of_data hz).symm
  clear hz hl hzs
  go_wp2_with fail
  rw [show max 0 ((k : Int) - (Z.size : Int)) = ((k - Z.size : Nat) : Int) from by omega]
  refine (repeat_any (k - Z.size) _ (by omega)).mono ?_
  rintro e wq ⟨Y, rfl, hy, hys, hgn⟩
  replace HG := G.trans (w := w) (by exact G.go HG) hgn; clear hgn
  have HY := Lib.hid hy
  clear hy
  go_wp2_with fail
  go_ret
  refine ⟨ret_string ?_, (by exact G.go HG)⟩
  rw [← hV.out]
  refine ext_data ?_
  rw [ByteArray.data_append, Array.toList_append, HY.out, hZ.out, hl3.out]
theorem pad2_prog {n : Nat} (h : n < 100) (w : World) (hp : Pow10 w) : Calls Tryd.prog 55 #[.int .i64 n, .int .i64 2] w fun e w' => e = .returned (.string (twoB n)) ∧ w.grownBy w' none := by
  have := pad_prog n 2 (by omega) (by omega) w hp
  rw [pad_two h] at this
  exact this
theorem pad4_prog {n : Nat} (h1 : 1000 ≤ n) (h2 : n ≤ 9999) (w : World) (hp : Pow10 w) : Calls Tryd.prog 55 #[.int .i64 n, .int .i64 4] w fun e w' => e = .returned (.string ⟨(Lib.decDigits n).toArray⟩) ∧ w.grownBy w' none := by
  have := pad_prog n 4 (by omega) (by omega) w hp
  rw [dec_four h1 h2] at this
  exact this
theorem conv_two {P : Program} {w : World} {b : Nat} {x y : Int} {T : TypeId} (src e dst : TypeId) (hs : P.underlying src = some (.slice e)) (he : P.underlying e = some (.int .u8)) (hd : P.underlying dst = some .string)
    (h : Hx w b [.int .u8 x, .int .u8 y] T) : (convert src dst (.slice (some ⟨b, 0, none⟩) 2 2)).run P w = .ok (.string ⟨#[UInt8.ofNat x.toNat, UInt8.ofNat y.toNat]⟩) w := by
  have hcell : ∀ i, i < 2 → w.cell? ⟨b, 0 + i, none⟩ = some (.int .u8 ([x, y].getD i 0)) := by
    intro i hi
    rcases (show i = 0 ∨ i = 1 by omega) with rfl | rfl
    · rw [h.cell]; rfl
    · rw [h.cell]; rfl
  have := run_convert_bytes_arg w src e hs he b 0 2 2 [x, y] rfl hcell dst hd
  rw [this]
  rfl
set_option maxHeartbeats 4000000 in
set_option maxRecDepth 1000000 in
theorem two_ref {n : Nat} (h : n < 100) (w : World) : Calls Tryd.prog 58 #[.int .i64 n] w fun e w' => e = .returned (.string (twoB n)) ∧ w.grownBy w' none := by
  have HG := G.refl w none
  go_enter Tryd.func58, Tryd.ntmps58
  go_wp2_with fail
  rw [conv_two 37 5 9 Tryd.underlying37 Tryd.underlying5 Tryd.underlying9 (x := 48 + (n : Int) / 10) (y := 48 + (n : Int) % 10) (T := 5) (Hx.new' rfl rfl)]
  go_wp2_with fail
  go_ret
  refine ⟨ret_string ?_, (by exact G.go HG)⟩
  unfold twoB twoL
  rw [show (48 + (n : Int) / 10).toNat = 48 + n / 10 from by omega, show (48 + (n : Int) % 10).toNat = 48 + n % 10 from by omega]
end Go.Proofs.YtjfonckmfafdgaaDoor
