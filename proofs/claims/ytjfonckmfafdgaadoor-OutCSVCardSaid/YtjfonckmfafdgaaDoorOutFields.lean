/-
  strings.ContainsAny over the three odd signs of a table's field: any bytes.
  strings.ContainsAny over the three odd signs of a table's field: any bytes: the loop over the runes.
  strings.ContainsAny over the three odd signs of a table's field: any bytes.
  A table's field (out.field).
-/
import Derived.Test.YtjfonckmfafdgaaDoorProg
import Derived.Test.YtjfonckmfafdgaaDoorShelf
import Derived.Test.YtjfonckmfafdgaaDoorOutSpec
import Derived.Lib.IndexAny
import Derived.Laws.RangeString
import Derived.Deep.LoopGhost
import Derived.Laws.Runes
import Derived.BigQuiet
import Derived.WalkMore
import Derived.Shelf.Strings.IndexAnyAll
import Derived.Test.YtjfonckmfafdgaaDoorPow
import Derived.Lib.ReplaceLaws
namespace Go.Proofs.YtjfonckmfafdgaaDoor
open Go.RowKit
set_option maxHeartbeats 400000 in
/-- a rune that is no ASCII sign: how it lies in the text -/
theorem decode_high (s : ByteArray) (pos : Nat) (h : pos < s.size) (ha : 128 ≤ (s[pos]'h).toNat) :
    ∃ c n, Utf8.decode s pos = (c, n) ∧ 128 ≤ c ∧ c < 2097152 ∧ 1 ≤ n ∧ pos + n ≤ s.size ∧ ∀ j b, j < n → s.data.toList[pos + j]? = some b → 128 ≤ b.toNat := by
  have get : ∀ k (hk : pos + k < s.size), s.get! (pos + k) = s[pos + k] := by
    intro k hk
    show s.get! _ = _
    simp [ByteArray.get!, getElem!_pos, hk]
    rfl
  have e0 : (s.get! (pos + 0)).toNat = (s[pos]'h).toNat := by rw [get 0 h]; rfl
  have lst : ∀ k b, s.data.toList[pos + k]? = some b → ∃ hk : pos + k < s.size, s[pos + k] = b := by
    intro k b hb
    obtain ⟨h1, h2⟩ := List.getElem?_eq_some_iff.1 hb
    have hk : pos + k < s.size := by simpa using h1
    exact ⟨hk, by rw [← h2]; simp; rfl⟩
  have cont : ∀ k, (decide (pos + k < s.size) && (s.get! (pos + k)).toNat / 64 == 2) = true → pos + k < s.size ∧ ∀ b, s.data.toList[pos + k]? = some b → 128 ≤ b.toNat := by
    intro k hk
    rw [Bool.and_eq_true, decide_eq_true_eq, beq_iff_eq] at hk
    refine ⟨hk.1, fun b hb => ?_⟩
    obtain ⟨h1, h2⟩ := lst k b hb
    rw [get k h1, h2] at hk
    omega
  have first : ∀ b, s.data.toList[pos + 0]? = some b → 128 ≤ b.toNat := by
    intro b hb
    obtain ⟨h1, h2⟩ := lst 0 b hb
    rw [← h2]; exact ha
  have one : ∀ j b, j < 1 → s.data.toList[pos + j]? = some b → 128 ≤ b.toNat := by
    intro j b hj hb
    obtain rfl : j = 0 := by omega
    exact first b hb
  have hlt : ∀ k, (s.get! (pos + k)).toNat < 256 := fun k => (s.get! (pos + k)).toNat_lt
  unfold Utf8.decode
  have b256 := (s[pos]'h).toNat_lt
  obtain ⟨b0, hb0⟩ : ∃ b, (s[pos]'h).toNat = b := ⟨_, rfl⟩
  obtain ⟨b1, hb1⟩ : ∃ b, (s.get! (pos + 1)).toNat = b := ⟨_, rfl⟩
  obtain ⟨b2, hb2⟩ : ∃ b, (s.get! (pos + 2)).toNat = b := ⟨_, rfl⟩
  obtain ⟨b3, hb3⟩ : ∃ b, (s.get! (pos + 3)).toNat = b := ⟨_, rfl⟩
  have k1 := cont 1
  have k2 := cont 2
  have k3 := cont 3
  have h1 := hlt 1
  have h2 := hlt 2
  have h3 := hlt 3
  simp only [e0, hb0, hb1, hb2, hb3] at *
  clear cont hlt e0 hb0 hb1 hb2 hb3 get lst
  rw [if_neg (by omega)]
  split
  · rename_i g
    rw [Bool.and_eq_true, beq_iff_eq] at g
    have c1 := k1 g.2
    split
    · exact ⟨_, _, rfl, by omega, by omega, by omega, by omega, fun j b hj hb => by
        rcases (show j = 0 ∨ j = 1 by omega) with rfl | rfl
        · exact first b hb
        · exact c1.2 b hb⟩
    · exact ⟨_, _, rfl, by decide, by decide, by omega, by omega, one⟩
  · split
    · rename_i g
      rw [Bool.and_eq_true, Bool.and_eq_true, beq_iff_eq] at g
      have c1 := k1 g.1.2
      have c2 := k2 g.2
      split
      · rename_i q
        exact ⟨_, _, rfl, by have := of_decide_eq_true (Bool.and_eq_true_iff.1 q).1; omega, by omega, by omega, by omega, fun j b hj hb => by
          rcases (show j = 0 ∨ j = 1 ∨ j = 2 by omega) with rfl | rfl | rfl
          · exact first b hb
          · exact c1.2 b hb
          · exact c2.2 b hb⟩
      · exact ⟨_, _, rfl, by decide, by decide, by omega, by omega, one⟩
    · split
      · rename_i g
        rw [Bool.and_eq_true, Bool.and_eq_true, Bool.and_eq_true, beq_iff_eq] at g
        have c1 := k1 g.1.1.2
        have c2 := k2 g.1.2
        have c3 := k3 g.2
        split
        · rename_i q
          exact ⟨_, _, rfl, by have := of_decide_eq_true (Bool.and_eq_true_iff.1 q).1; omega, by omega, by omega, by omega, fun j b hj hb => by
            rcases (show j = 0 ∨ j = 1 ∨ j = 2 ∨ j = 3 by omega) with rfl | rfl | rfl | rfl
            · exact first b hb
            · exact c1.2 b hb
            · exact c2.2 b hb
            · exact c3.2 b hb⟩
        · exact ⟨_, _, rfl, by decide, by decide, by omega, by omega, one⟩
      · exact ⟨_, _, rfl, by decide, by decide, by omega, by omega, one⟩
theorem run_next_rune {P : Program} (w : World) (s : ByteArray) (pos : Nat) (ty : TypeId) (h : pos < s.size) {c n : Nat} (hd : Utf8.decode s pos = (c, n)) :
    (Instr.next (.pointer (some ⟨w.heap.size, 0, none⟩)) true ty).run P (w.iter s pos) = .ok (.tuple #[.bool true, .int .i64 pos, .int .i32 c]) (w.iter s (pos + n)) := by
  simp only [Instr.next, getObj, setObj, Sem.run_bind, Sem.run, World.iter_heap, Result.andThen, h, if_true, hd, World.iter_set]
  simp [goInt, Sem.run, World.iter_heap, World.iter_set]
/-- the three odd signs -/
def oddB : ByteArray := ⟨#[44, 34, 10]⟩
theorem odd_has (c : UInt8) : oddB.data.toList.contains c = odd c := by
  show ([44, 34, 10] : List UInt8).contains c = _
  unfold odd
  simp only [List.contains_cons, List.contains_nil, Bool.or_false]
  rw [Bool.or_assoc]
theorem odd_size : oddB.size = 3 := rfl
theorem odd_at (i : Nat) (h : i < oddB.size) : (oddB[i]'h).toNat < 128 := by
  have h3 : i < 3 := h
  have e0 : (oddB[0]'(by decide)).toNat < 128 := by decide
  have e1 : (oddB[1]'(by decide)).toNat < 128 := by decide
  have e2 : (oddB[2]'(by decide)).toNat < 128 := by decide
  rcases (show i = 0 ∨ i = 1 ∨ i = 2 by omega) with rfl | rfl | rfl
  · exact e0
  · exact e1
  · exact e2
set_option maxHeartbeats 8000000 in
set_option maxRecDepth 1000000 in
/-- the rune that stands for an error: none of the signs is it -/
theorem indexRune_err (w : World) : Calls Tryd.prog 77 #[.string oddB, .int .i32 65533] w fun e w' => e = .returned (.int .i64 (-1)) ∧ w.grownBy w' none := by
  have hz : oddB.size = 3 := rfl
  have HA := Lib.hid odd_at
  go_enter Tryd.func77, Tryd.ntmps77
  go_wp2_with fail
  go_loopg [5, 6] 3 (fun g _ _ wx => ∃ i : Nat, i + g = 3 ∧ wx = w.iter oddB i)
  case atStart => exact ⟨0, by omega, rfl⟩
  case round =>
    obtain ⟨i, hig, rfl⟩ := hrel
    cases gk with
    | zero =>
      obtain rfl : i = 3 := by omega
      have hnx := run_next_end (P := Tryd.prog) w oddB 3
      go_wp2
      go_ret
      exact ⟨rfl, World.grownBy_alloc w _ none⟩
    | succ g =>
      have hi : i < oddB.size := by omega
      have hx := HA.out i hi
      have hnx := fun ty => run_next_ascii (P := Tryd.prog) w oddB i ty hi hx
      generalize (oddB[i]'hi).toNat = x at *
      have hne : ((x : Int) == 65533) = false := by simp; omega
      go_wp2_with fail
      go_roundg g
      case measure => omega
      case rel => exact ⟨i + 1, by omega, rfl⟩
theorem oddAt (k : Nat) (h : k < 3) : ∃ x : UInt8, oddB[k]? = some x ∧ x.toNat < 128 := by
  rcases (show k = 0 ∨ k = 1 ∨ k = 2 by omega) with rfl | rfl | rfl
  · exact ⟨44, by rfl, by decide⟩
  · exact ⟨34, by rfl, by decide⟩
  · exact ⟨10, by rfl, by decide⟩
theorem indexByte_no : ∀ (l : List UInt8) (z : UInt8), (∀ b ∈ l, b ≠ z) → Lib.indexByte l z = -1
  | [], _, _ => rfl
  | b :: l, z, h => by
    have h1 : (b == z) = false := beq_eq_false_iff_ne.2 (h b (by simp))
    rw [Lib.indexByte, h1, indexByte_no l z (fun x hx => h x (by simp [hx]))]
    rfl
theorem odd_none (z : UInt8) (hz : 128 ≤ z.toNat) (a b : Nat) : Lib.indexByte (oddB.extract a b).data.toList z = -1 := by
  apply indexByte_no
  intro x hx e
  subst e
  have h1 : x ∈ oddB.data.toList := by
    rw [ByteArray.data_extract, Array.toList_extract, List.extract_eq_take_drop] at hx
    exact List.mem_of_mem_drop (List.mem_of_mem_take hx)
  have h2 : x ∈ ([44, 34, 10] : List UInt8) := h1
  simp only [List.mem_cons, List.not_mem_nil, or_false] at h2
  rcases h2 with rfl | rfl | rfl <;> exact absurd hz (by decide)
theorem indexByte_odd (z : UInt8) (hz : 128 ≤ z.toNat) (a b : Nat) (w : World) :
    Calls Tryd.prog 91 #[.string (oddB.extract a b), .int .u8 (z.toNat : Int)] w fun e w' => e = .returned (.int .i64 (-1)) ∧ w' = w := by
  have h := Tryd.strings_IndexByte (oddB.extract a b) (z.toNat : Int) w
  rw [show ((z.toNat : Int)).toNat.toUInt8 = z by simp, odd_none z hz a b] at h
  exact h
theorem last_at (t : ByteArray) (h : 2 ≤ t.size) (h2 : 128 ≤ (t[t.size - 1]'(by omega)).toNat) (k : Nat) (hk : t.size = k + 1) : 128 ≤ (t[k]'(by omega)).toNat := by
  have e : k = t.size - 1 := by omega
  subst e
  exact h2
set_option maxHeartbeats 8000000 in
set_option maxRecDepth 1000000 in
/-- no rune beside the ASCII signs is one of the three -/
theorem indexRune_high (r : Int) (w : World) (h1 : 128 ≤ r) (h2 : r < 2097152) :
    Calls Tryd.prog 77 #[.string oddB, .int .i32 r] w fun e w' => e = .returned (.int .i64 (-1)) ∧ w.grownBy w' none := by
  by_cases c1 : r = 65533
  · subst c1; exact indexRune_err w
  have HG := G.refl w none
  have d1 : (r == 65533) = false := by simpa using c1
  have d2 : ¬ r < 128 := by omega
  have hz : oddB.size = 3 := rfl
  cases hv : Lib.validRune r
  · go_enter Tryd.func77, Tryd.ntmps77
    go_wp2_with (go_at_call 92; refine (Tryd.utf8_ValidRune r _).mono ?_; rintro e w' ⟨rfl, rfl⟩)
    go_ret
    exact ⟨rfl, HG⟩
  · have hv2 : Utf8.valid r = true := by rw [← hv, Lib.validRune, validRune_eq, validRune]
    obtain ⟨e1, e2, e3⟩ := encode_facts r hv2 h1
    obtain ⟨t, ht⟩ : ∃ t, Utf8.encode r = t := ⟨_, rfl⟩
    rw [ht] at e1 e2 e3
    have e4 := last_at t e1 (e3 (by omega))
    clear e3
    have hcv : ∀ w, (convert 21 9 (.int .i32 r)).run Tryd.prog w = .ok (.string t) w := fun w => by
      rw [← ht]
      exact run_convert_int_string w _ _ .i32 r (by kernel_rfl) (by kernel_rfl)
    rcases (show t.size = 2 ∨ t.size = 3 ∨ t.size = 4 by omega) with hs | hs | hs
    · go_enter Tryd.func77, Tryd.ntmps77
      go_wp2_with (go_at_call 92; refine (Tryd.utf8_ValidRune r _).mono ?_; rintro e w' ⟨rfl, hw⟩; rw [hw]; clear hw)
      go_step3
      have e5 := e4 1 hs
      have hA := odd_at 1 (by decide)
      have hw2 : IntKind.i64.wrap 2 = 2 := by decide
      have hne : (((oddB[1]'(by decide)).toNat : Int) != ((t[1]'(by omega)).toNat : Int)) = true := by rw [bne_iff_ne]; omega
      have HC := Lib.hid (fun w => indexByte_odd (t[1]'(by omega)) e5 2 3 w)
      clear e4 ht
      go_wp2_with fail
      go_loopw [9] (fun iv wr => iv = .int .i64 1 ∧ wr = w) (fun _ _ => 0)
      case atStart => exact ⟨rfl, rfl⟩
      case round =>
        obtain ⟨rfl, rfl⟩ := hrel
        go_wp2_with fail
        go_step3
        go_wp2_with (fail)
        go_quiet (fail)
        go_wp2_with fail
        generalize hwq : wr.drewN nq = wq
        go_quiet ((go_at_call 91; exact Calls.quiet_of_same (HC.out _)))
        go_wp2_with fail
        subst hwq
        show bodyPost Tryd.prog Tryd.f77 (fun e w' => e = .returned (.int .i64 (-1)) ∧ wr.grownBy w' none) Exit.ret _ _
        go_ret
        exact ⟨rfl, (by exact G.go HG)⟩
    · go_enter Tryd.func77, Tryd.ntmps77
      go_wp2_with (go_at_call 92; refine (Tryd.utf8_ValidRune r _).mono ?_; rintro e w' ⟨rfl, hw⟩; rw [hw]; clear hw)
      go_step3
      have e5 := e4 2 hs
      have hA := odd_at 2 (by decide)
      have hw2 : IntKind.i64.wrap 3 = 3 := by decide
      have hne : (((oddB[2]'(by decide)).toNat : Int) != ((t[2]'(by omega)).toNat : Int)) = true := by rw [bne_iff_ne]; omega
      have HC := Lib.hid (fun w => indexByte_odd (t[2]'(by omega)) e5 3 3 w)
      clear e4 ht
      go_wp2_with fail
      go_loopw [9] (fun iv wr => iv = .int .i64 2 ∧ wr = w) (fun _ _ => 0)
      case atStart => exact ⟨rfl, rfl⟩
      case round =>
        obtain ⟨rfl, rfl⟩ := hrel
        go_wp2_with fail
        go_step3
        go_wp2_with (fail)
        go_quiet (fail)
        go_wp2_with fail
        generalize hwq : wr.drewN nq = wq
        go_quiet ((go_at_call 91; exact Calls.quiet_of_same (HC.out _)))
        go_wp2_with fail
        subst hwq
        show bodyPost Tryd.prog Tryd.f77 (fun e w' => e = .returned (.int .i64 (-1)) ∧ wr.grownBy w' none) Exit.ret _ _
        go_ret
        exact ⟨rfl, (by exact G.go HG)⟩
    · go_enter Tryd.func77, Tryd.ntmps77
      go_wp2_with (go_at_call 92; refine (Tryd.utf8_ValidRune r _).mono ?_; rintro e w' ⟨rfl, hw⟩; rw [hw]; clear hw)
      go_step3
      clear e4 ht
      go_wp2_with fail
      go_loopw [9] (fun iv wr => iv = .int .i64 3 ∧ wr = w) (fun _ _ => 0)
      case atStart => exact ⟨rfl, rfl⟩
      case round =>
        obtain ⟨rfl, rfl⟩ := hrel
        go_wp2_with fail
        show bodyPost Tryd.prog Tryd.f77 (fun e w' => e = .returned (.int .i64 (-1)) ∧ wr.grownBy w' none) Exit.ret _ _
        go_ret
        exact ⟨rfl, (by exact G.go HG)⟩
end Go.Proofs.YtjfonckmfafdgaaDoor
namespace Go.Proofs.YtjfonckmfafdgaaDoor
open Go.RowKit
/-- the world once an iterator has gone on -/
def setIt (W : World) (B : Nat) (s : ByteArray) (pos : Nat) : World := { W with heap := W.heap.setIfInBounds B (.stringIter s pos) }
theorem run_next_at {P : Program} (W : World) (B : Nat) (s : ByteArray) (pos : Nat) (ty : TypeId) (hb : W.heap[B]? = some (.stringIter s pos)) (h : pos < s.size) {c n : Nat} (hd : Utf8.decode s pos = (c, n)) :
    (Instr.next (.pointer (some ⟨B, 0, none⟩)) true ty).run P W = .ok (.tuple #[.bool true, .int .i64 pos, .int .i32 c]) (setIt W B s (pos + n)) := by
  simp only [Instr.next, getObj, setObj, Sem.run_bind, Sem.run, hb, Result.andThen, h, if_true, hd]
  simp [goInt, Sem.run, hb, setIt]
theorem run_next_at_end {P : Program} (W : World) (B : Nat) (s : ByteArray) (pos : Nat) (ty : TypeId) (hb : W.heap[B]? = some (.stringIter s pos)) (h : ¬ pos < s.size) :
    (Instr.next (.pointer (some ⟨B, 0, none⟩)) true ty).run P W = .ok (.tuple #[.bool false]) W := by
  simp [Instr.next, getObj, Sem.run, hb, h]
theorem setIt_at (W : World) (B : Nat) (s : ByteArray) (pos : Nat) (h : B < W.heap.size) : (setIt W B s pos).heap[B]? = some (.stringIter s pos) := by
  simp [setIt, h]
theorem setIt_size (W : World) (B : Nat) (s : ByteArray) (pos : Nat) : (setIt W B s pos).heap.size = W.heap.size := by
  simp [setIt]
theorem setIt_grown {w W : World} (h : w.grownBy W none) (B : Nat) (s : ByteArray) (pos : Nat) (hB : w.heap.size ≤ B) : w.grownBy (setIt W B s pos) none :=
  ⟨h.os, h.tape, h.output, by rw [setIt_size]; exact h.size, fun k hk hn => by
    rw [← h.block k hk hn]
    simp only [setIt]
    exact Array.getElem?_setIfInBounds_ne (by omega)⟩
/-- what strings.IndexRune answers over the three signs -/
def runeIdx (c : Nat) : Int := if c < 128 then Lib.indexByte oddB.data.toList (c : Int).toNat.toUInt8 else -1
theorem indexRune_odd (c : Nat) (h : c < 2097152) (w : World) :
    Calls Tryd.prog 77 #[.string oddB, .int .i32 (c : Int)] w fun e w' => e = .returned (.int .i64 (runeIdx c)) ∧ w.grownBy w' none := by
  by_cases h1 : c < 128
  · rw [runeIdx, if_pos h1]
    exact (Tryd.strings_IndexRune_ascii oddB (c : Int) w (by omega) (by omega)).mono fun e w' hh => ⟨hh.1, by rw [hh.2]; exact G.refl w none⟩
  · rw [runeIdx, if_neg h1]
    exact indexRune_high (c : Int) w (by omega) (by omega)
theorem noAny_high {l : List UInt8} {i : Nat} (h : Lib.NoAny l oddB.data.toList i) : ∀ n, (∀ j b, j < n → l[i + j]? = some b → 128 ≤ b.toNat) → Lib.NoAny l oddB.data.toList (i + n)
  | 0, _ => h
  | n + 1, hh => by
    have ih := noAny_high h n (fun j b hj hb => hh j b (by omega) hb)
    intro j b hj hb
    by_cases e : j = i + n
    · subst e
      have := hh n b (by omega) hb
      rw [odd_has]
      unfold odd
      have n1 : (b == 44) = false := beq_eq_false_iff_ne.2 (by rintro rfl; exact absurd this (by decide))
      have n2 : (b == 34) = false := beq_eq_false_iff_ne.2 (by rintro rfl; exact absurd this (by decide))
      have n3 : (b == 10) = false := beq_eq_false_iff_ne.2 (by rintro rfl; exact absurd this (by decide))
      simp [n1, n2, n3]
    · exact ih j b (by omega) hb
/-- one rune: how it lies, and what the search over it tells -/
theorem rune_step (s : ByteArray) (i : Nat) (hi : i < s.size) (hno : Lib.NoAny s.data.toList oddB.data.toList i) :
    ∃ c n, Utf8.decode s i = (c, n) ∧ c < 2097152 ∧ 1 ≤ n ∧ i + n ≤ s.size ∧
      ((0 ≤ runeIdx c ∧ Lib.indexAny s.data.toList oddB.data.toList = i) ∨ (¬ 0 ≤ runeIdx c ∧ Lib.NoAny s.data.toList oddB.data.toList (i + n))) := by
  by_cases ha : (s[i]'hi).toNat < 128
  · refine ⟨_, 1, decode_ascii s i hi ha, by omega, by omega, by omega, ?_⟩
    have hxl : s.data.toList[i]? = some (s[i]'hi) := Lib.data_getElem? s i hi
    generalize s[i]'hi = x at *
    have hcon := Lib.contains_iff_indexByte oddB.data.toList x
    rw [runeIdx, if_pos ha, show ((x.toNat : Int)).toNat.toUInt8 = x by simp]
    cases hin : oddB.data.toList.contains x
    · rw [hin] at hcon
      exact Or.inr ⟨of_decide_eq_false hcon.symm, hno.succ hxl hin⟩
    · rw [hin] at hcon
      exact Or.inl ⟨of_decide_eq_true hcon.symm, Lib.indexAny_hit hno hxl hin⟩
  · obtain ⟨c, n, hd, h1, h2, h3, h4, h5⟩ := decode_high s i hi (by omega)
    refine ⟨c, n, hd, h2, h3, h4, Or.inr ⟨?_, noAny_high hno n h5⟩⟩
    rw [runeIdx, if_neg (by omega)]
    decide
end Go.Proofs.YtjfonckmfafdgaaDoor
namespace Go.Proofs.YtjfonckmfafdgaaDoor
open Go.RowKit
set_option maxHeartbeats 8000000 in
set_option maxRecDepth 1000000 in
theorem indexAny_short (s : ByteArray) (w : World) (h8 : s.size ≤ 8) :
    Calls Tryd.prog 67 #[.string s, .string oddB] w fun e w' => e = .returned (.int .i64 (Lib.indexAny s.data.toList oddB.data.toList)) ∧ w.grownBy w' none := by
  have hz : oddB.size = 3 := rfl
  have hemp : oddB.toList.isEmpty = false := by rw [Lib.toList_data]; rfl
  have h8z : decide ((8 : Int) < (s.size : Int)) = false := decide_eq_false (by omega)
  have HR := Lib.hid indexRune_odd
  have HS := Lib.hid (fun i hi hno => rune_step s i hi hno)
  go_enter Tryd.func67, Tryd.ntmps67
  go_wp2_with (go_at_call 78; refine (Tryd.strings_shouldUseASCIISet _ _).mono ?_; rintro e w' ⟨rfl, hw⟩; rw [hw, h8z]; clear hw)
  have hB0 : (w.iter s 0).heap[w.heap.size]? = some (.stringIter s 0) := World.iter_heap w s 0
  have hL0 : w.heap.size < (w.iter s 0).heap.size := by
    show _ < (w.heap.push _).size
    rw [Array.size_push]
    omega
  have hG0 : w.grownBy (w.iter s 0) none := World.grownBy_alloc w _ none
  go_loopg [9, 10] s.size (fun g _ _ wx => ∃ i : Nat, s.size ≤ i + g ∧ i ≤ s.size ∧ w.grownBy wx none ∧ w.heap.size < wx.heap.size ∧ wx.heap[w.heap.size]? = some (.stringIter s i) ∧ Lib.NoAny s.data.toList oddB.data.toList i)
  case atStart => exact ⟨0, by omega, by omega, hG0, hL0, hB0, Lib.NoAny.zero _ _⟩
  case round =>
    obtain ⟨i, hig, hil, HG, hlt, hit, hno⟩ := hrel
    clear hB0 hG0 hL0
    have HN := Lib.hid hno
    clear hno
    by_cases hi : i < s.size
    · obtain ⟨c, n, hd, hc, hn, hin, hcase⟩ := HS.out i hi HN.out
      obtain ⟨g, rfl⟩ : ∃ g, gk = g + 1 := ⟨gk - 1, by omega⟩
      have hnx := fun ty => run_next_at (P := Tryd.prog) wr w.heap.size s i ty hit hi hd
      have hb2 := setIt_at wr w.heap.size s (i + n) hlt
      have hs2 := setIt_size wr w.heap.size s (i + n)
      have hg2 := setIt_grown HG w.heap.size s (i + n) (Nat.le_refl _)
      clear hit hd HS HG
      generalize setIt wr w.heap.size s (i + n) = w2 at *
      have HC := Lib.hid (HR.out c hc w2)
      clear HR
      rcases hcase with ⟨hv, hans⟩ | ⟨hv, hno⟩
      · go_wp2_with (go_at_call 77; refine (HC.out).mono ?_; rintro e w3 ⟨rfl, hgn⟩)
        go_ret
        exact ⟨by rw [hans]; rfl, G.trans hg2 hgn⟩
      · have HN2 := Lib.hid hno
        clear hno
        go_wp2_with (go_at_call 77; refine (HC.out).mono ?_; rintro e w3 ⟨rfl, hgn⟩)
        go_roundg g
        case measure => omega
        case rel => exact ⟨i + n, by omega, hin, G.trans hg2 hgn, by have := hgn.size; omega, by rw [hgn.block _ (by omega) (by simp)]; exact hb2, HN2.out⟩
    · obtain rfl : i = s.size := by omega
      have hnx := fun ty => run_next_at_end (P := Tryd.prog) _ w.heap.size s s.size ty hit hi
      go_wp2
      go_ret
      exact ⟨by rw [Lib.indexAny_none (by rw [← Lib.size_eq]; exact HN.out)]; rfl, (by exact G.go HG)⟩
theorem odd_ascii : ∀ (j : Nat) b, oddB.data.toList[j]? = some b → b.toNat < 128 := by
  intro j b hb
  have h : b ∈ ([44, 34, 10] : List UInt8) := List.mem_of_getElem? (l := [44, 34, 10]) hb
  simp only [List.mem_cons, List.not_mem_nil, or_false] at h
  rcases h with rfl | rfl | rfl <;> decide
theorem indexAny_any (s : ByteArray) (w : World) (hs : s.size < 4294967281) :
    Calls Tryd.prog 67 #[.string s, .string oddB] w fun e w' => e = .returned (.int .i64 (Lib.indexAny s.data.toList oddB.data.toList)) ∧ w.grownBy w' none := by
  by_cases h8 : s.size ≤ 8
  · exact indexAny_short s w h8
  · exact (Tryd.strings_IndexAny_long (zero_of_info (n := 256) (by kernel_rfl)).1 s oddB w (by decide) (by omega) hs (by decide) odd_ascii).mono fun e w' hh => ⟨hh.1, by rw [hh.2]; exact G.alloc (G.alloc (G.refl w none) _) _⟩
theorem any_contains (l chars : List UInt8) : decide (0 ≤ Lib.indexAny l chars) = l.any (fun b => chars.contains b) := by
  induction l with
  | nil => rfl
  | cons b l ih =>
    have hg := Lib.indexAny_ge chars l
    rw [Lib.indexAny, List.any_cons, ← ih]
    cases chars.contains b
    · simp only [Bool.false_or]
      by_cases e : Lib.indexAny l chars = -1
      · simp [e]
      · rw [if_neg (by simp), if_neg (by simpa using e)]
        have : 0 ≤ Lib.indexAny l chars := by omega
        simp [this]
        omega
    · simp
set_option maxHeartbeats 8000000 in
set_option maxRecDepth 1000000 in
/-- does the text hold a sign of the three: any bytes -/
theorem containsAny_odd (s : ByteArray) (w : World) (hs : s.size < 4294967281) :
    Calls Tryd.prog 51 #[.string s, .string oddB] w fun e w' => e = .returned (.bool (s.data.toList.any odd)) ∧ w.grownBy w' none := by
  have HC := Lib.hid (fun w => indexAny_any s w hs)
  go_enter Tryd.func51, Tryd.ntmps51
  go_wp2_with (go_at_call 67; refine (HC.out _).mono ?_; rintro e w' ⟨rfl, hgn⟩)
  go_ret
  refine ⟨?_, hgn⟩
  have h := any_contains s.data.toList oddB.data.toList
  simp only [odd_has] at h
  rw [← h]
  rfl
end Go.Proofs.YtjfonckmfafdgaaDoor
namespace Go.Proofs.YtjfonckmfafdgaaDoor
open Go.RowKit
theorem index_cons_one (b q : UInt8) (l : List UInt8) : Lib.index (b :: l) [q] = if b = q then 0 else if Lib.index l [q] = -1 then -1 else Lib.index l [q] + 1 := by
  rw [Lib.index]
  by_cases e : b = q
  · subst e; simp [List.isPrefixOf]
  · have e2 : (q == b) = false := beq_eq_false_iff_ne.2 (fun h => e h.symm)
    simp [List.isPrefixOf, e, e2]
theorem replace_one (q : UInt8) (new : List UInt8) : ∀ (l : List UInt8) (k : Nat), Lib.count l [q] ≤ k → Lib.replaceK [q] new k l = l.flatMap (fun c => if c = q then new else [c])
  | [], 0, _ => rfl
  | [], k + 1, _ => by
    have h : Lib.index [] [q] = -1 := rfl
    rw [Lib.replaceK, h]
    rfl
  | b :: l, k, hk => by
    have hc := index_cons_one b q l
    by_cases e : b = q
    · rw [if_pos e] at hc
      have h1 := Lib.count_hit (s := b :: l) (sub := [q]) (i := 0) (by simp) hc
      simp only [List.length_singleton, Nat.zero_add, List.drop_succ_cons, List.drop_zero] at h1
      obtain ⟨k, rfl⟩ : ∃ j, k = j + 1 := ⟨k - 1, by omega⟩
      rw [Lib.replaceK_hit [q] new k (b :: l) 0 hc]
      simp only [List.length_singleton, Nat.zero_add, List.drop_succ_cons, List.drop_zero, List.take_zero, List.nil_append, List.flatMap_cons, if_pos e]
      rw [replace_one q new l k (by omega)]
    · rw [if_neg e] at hc
      by_cases m : Lib.index l [q] = -1
      · rw [if_pos m] at hc
        have ih := replace_one q new l 0 (by rw [Lib.count_miss m]; omega)
        rw [Lib.replaceK] at ih
        rw [List.flatMap_cons, if_neg e, ← ih]
        cases k with
        | zero => rfl
        | succ k =>
          rw [Lib.replaceK, hc]
          rfl
      · rw [if_neg m] at hc
        have hg := Lib.index_ge l [q]
        obtain ⟨i, hi⟩ : ∃ i : Nat, Lib.index l [q] = i := ⟨(Lib.index l [q]).toNat, by omega⟩
        rw [hi] at hc
        have hc2 : Lib.index (b :: l) [q] = ((i + 1 : Nat) : Int) := by rw [hc]; omega
        have h1 := Lib.count_hit (s := b :: l) (sub := [q]) (i := i + 1) (by simp) hc2
        have h2 := Lib.count_hit (s := l) (sub := [q]) (i := i) (by simp) hi
        simp only [List.length_singleton, List.drop_succ_cons] at h1 h2
        obtain ⟨k, rfl⟩ : ∃ j, k = j + 1 := ⟨k - 1, by omega⟩
        have ih := replace_one q new l (k + 1) (by omega)
        rw [Lib.replaceK_hit [q] new k l i hi] at ih
        rw [Lib.replaceK_hit [q] new k (b :: l) (i + 1) hc2, List.flatMap_cons, if_neg e, ← ih]
        simp only [List.length_singleton, List.drop_succ_cons, List.take_succ_cons, List.cons_append, List.nil_append]
/-- every quote sign doubled -/
theorem replaceAll_fc (l : List UInt8) : Lib.replaceAll l [34] [34, 34] = l.flatMap fc := by
  unfold Lib.replaceAll Lib.replace
  rw [if_neg (by decide)]
  exact replace_one 34 [34, 34] l _ (by
    unfold Lib.replaceNum
    rw [if_pos (Or.inl (by decide))]
    exact Nat.le_refl _)
set_option maxHeartbeats 8000000 in
set_option maxRecDepth 1000000 in
/-- a table's field -/
theorem field_any (s : ByteArray) (w : World) (hs : s.size ≤ 100000) (hm : MaxLen w) :
    Calls Tryd.prog 39 #[.string s] w fun e w' => e = .returned (.string ⟨(fieldL s.data.toList).toArray⟩) ∧ w.grownBy w' none := by
  have HG := G.refl w none
  have HA0 : ∀ w, Calls Tryd.prog 51 #[.string s, .string ⟨#[44, 34, 10]⟩] w fun e w' => e = .returned (.bool (s.data.toList.any odd)) ∧ w.grownBy w' none := fun w => containsAny_odd s w (by omega)
  have HA := Lib.hid HA0
  clear HA0
  have HR0 : ∀ W, w.grownBy W none → Calls Tryd.prog 52 #[.string s, .string ⟨#[34]⟩, .string ⟨#[34, 34]⟩] W fun e w' => e = .returned (.string ⟨(s.data.toList.flatMap fc).toArray⟩) ∧ W.grownBy w' none := fun W hg => by
    obtain ⟨m, hm2⟩ := hm.kept hg
    have hc := Lib.countB_le ⟨#[34]⟩ (by decide) s.size s (Nat.le_refl _)
    have h := Tryd.strings_ReplaceAll s ⟨#[34]⟩ ⟨#[34, 34]⟩ m W (by omega) hm2 (by decide) (by
      have e : ByteArray.size ⟨#[34, 34]⟩ = 2 := rfl
      rw [e]
      omega)
    rw [← replaceAll_fc]
    exact h.mono fun e w' hh => ⟨hh.1, G.of_below hh.2⟩
  have HR := Lib.hid HR0
  clear HR0
  unfold fieldL
  cases ho : s.data.toList.any odd
  · go_enter Tryd.func39, Tryd.ntmps39
    go_wp2_with (go_at_call 51; refine (HA.out _).mono ?_; rintro e w' ⟨rfl, hgn⟩; replace HG := G.trans (w := w) HG hgn; clear hgn; rw [ho])
    go_ret
    exact ⟨rfl, HG⟩
  · have hcat : ∀ x : List UInt8, (⟨#[34]⟩ : ByteArray) ++ ⟨x.toArray⟩ ++ ⟨#[34]⟩ = ⟨(34 :: (x ++ [34])).toArray⟩ := fun x => by
      apply ByteArray.ext
      simp
    have HT := Lib.hid hcat
    clear hcat
    have hx := (fcs_len s.data.toList).2
    rw [← Lib.size_eq] at hx
    generalize s.data.toList.flatMap fc = x at *
    have hx1 : ¬ 9223372036854775807 < 1 + x.length := by omega
    have hx2 : ¬ 9223372036854775807 < 1 + x.length + 1 := by omega
    clear hx
    go_enter Tryd.func39, Tryd.ntmps39
    go_wp2_with (first
      | (go_at_call 51; refine (HA.out _).mono ?_; rintro e w' ⟨rfl, hgn⟩; replace HG := G.trans (w := w) HG hgn; clear hgn; rw [ho])
      | (go_at_call 52; refine (HR.out _ HG).mono ?_; rintro e w' ⟨rfl, hgn⟩; replace HG := G.trans (w := w) HG hgn; clear hgn))
    go_ret
    exact ⟨by rw [← HT.out x]; rfl, HG⟩
end Go.Proofs.YtjfonckmfafdgaaDoor
