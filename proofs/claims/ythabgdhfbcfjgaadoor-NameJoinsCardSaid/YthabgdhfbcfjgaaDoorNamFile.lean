/-
  The walks of what turns dots into strokes and back, and of a name's file.
-/
import Derived.Test.YthabgdhfbcfjgaaDoorNamIs2
import Derived.Lib.Replace
import Derived.Laws.IdiomStrings
import Derived.Laws.BytesArg
namespace Go.Proofs.YthabgdhfbcfjgaaDoor
open Go.RowKit
def turnC (a b c : UInt8) : UInt8 := if c = a then b else c
def turnL (a b : UInt8) (l : List UInt8) : List UInt8 := l.map (turnC a b)
theorem replaceK_one (a b : UInt8) (hab : a ≠ b) : ∀ (n : Nat) (s : List UInt8), s.length ≤ n → Lib.replaceK [a] [b] (Lib.count s [a]) s = turnL a b s := by
  intro n
  induction n with
  | zero =>
    intro s h
    obtain rfl : s = [] := List.eq_nil_of_length_eq_zero (by omega)
    rfl
  | succ n ih =>
    intro s h
    have key : ∀ (l : List UInt8) (i : Nat), Lib.index l [a] = i → l.take i = turnL a b (l.take i) ∧ l = l.take i ++ a :: l.drop (i + 1) := by
      intro l
      induction l with
      | nil => intro i hi; simp [Lib.index] at hi
      | cons c r ih =>
        intro i hi
        unfold Lib.index at hi
        by_cases hc : a = c
        · subst hc
          have : i = 0 := by simp [List.isPrefixOf] at hi; omega
          subst this
          exact ⟨rfl, rfl⟩
        · have h1 : ([a] : List UInt8).isPrefixOf (c :: r) = false := by simp [List.isPrefixOf, hc]
          rw [h1] at hi
          simp only [Bool.false_eq_true, if_false, beq_iff_eq] at hi
          by_cases hm : Lib.index r [a] = -1
          · rw [if_pos hm] at hi; omega
          · rw [if_neg hm] at hi
            have hge := Lib.index_ge r [a]
            obtain ⟨j, rfl⟩ : ∃ j, i = j + 1 := ⟨i - 1, by omega⟩
            obtain ⟨g1, g2⟩ := ih j (by omega)
            refine ⟨?_, ?_⟩
            · rw [List.take_succ_cons]
              show _ = turnC a b c :: turnL a b (List.take j r)
              rw [← g1]
              unfold turnC
              rw [if_neg (fun e => hc e.symm)]
            · rw [List.take_succ_cons, List.drop_succ_cons, List.cons_append, ← g2]
    by_cases hm : Lib.index s [a] = -1
    · rw [Lib.count_miss hm]
      show s = _
      have : ∀ l : List UInt8, Lib.index l [a] = -1 → l = turnL a b l := by
        intro l
        induction l with
        | nil => intro _; rfl
        | cons c r ih =>
          intro hi
          unfold Lib.index at hi
          by_cases hc : a = c
          · subst hc; simp [List.isPrefixOf] at hi
          · have h1 : ([a] : List UInt8).isPrefixOf (c :: r) = false := by simp [List.isPrefixOf, hc]
            rw [h1] at hi
            simp only [Bool.false_eq_true, if_false, beq_iff_eq] at hi
            have hge := Lib.index_ge r [a]
            by_cases hm : Lib.index r [a] = -1
            · show _ = turnC a b c :: turnL a b r
              rw [← ih hm]
              unfold turnC
              rw [if_neg (fun e => hc e.symm)]
            · rw [if_neg hm] at hi; omega
      exact this s hm
    · have hge := Lib.index_ge s [a]
      obtain ⟨i, hi⟩ : ∃ i : Nat, Lib.index s [a] = i := ⟨(Lib.index s [a]).toNat, by omega⟩
      obtain ⟨g1, g2⟩ := key s i hi
      rw [Lib.count_hit (by simp) hi, Nat.add_comm 1, Lib.replaceK_hit _ _ _ _ i hi]
      rw [ih _ (by rw [List.length_drop]; have : s ≠ [] := by { rintro rfl; simp at g2 }; have := List.length_pos_iff.2 this; simp; omega)]
      conv => rhs; rw [g2]
      unfold turnL at g1 ⊢
      rw [List.map_append, ← g1, List.map_cons, show turnC a b a = b from if_pos rfl, List.append_assoc]
      rfl
theorem replaceAll_one (a b : UInt8) (hab : a ≠ b) (s : List UInt8) : Lib.replaceAll s [a] [b] = turnL a b s := by
  unfold Lib.replaceAll Lib.replace
  rw [if_neg (by simp; exact hab), Lib.replaceNum, if_pos (Or.inl (by decide)), replaceK_one a b hab _ _ (Nat.le_refl _)]
def turnS (a b : UInt8) (s : ByteArray) : ByteArray := ⟨(turnL a b s.data.toList).toArray⟩
theorem turnS_size (a b : UInt8) (s : ByteArray) : (turnS a b s).size = s.size := by
  show (turnL a b s.data.toList).toArray.size = _
  simp [turnL]
theorem replaceAll_any (a b : UInt8) (hab : a ≠ b) (s : ByteArray) (w : World) (hs : s.size ≤ 1000000) (hm : MaxLen w) :
    Calls Tryd.prog 24 #[.string s, .string ⟨#[a]⟩, .string ⟨#[b]⟩] w fun e w' => e = .returned (.string (turnS a b s)) ∧ w.grownBy w' none := by
  obtain ⟨m, hm⟩ := hm
  have hc : Lib.countB s ⟨#[a]⟩ ≤ s.size := Lib.countB_le ⟨#[a]⟩ (by show 1 ≤ 1; omega) s.size s (Nat.le_refl _)
  refine (Tryd.strings_ReplaceAll s ⟨#[a]⟩ ⟨#[b]⟩ m w (by omega) hm (by show 1 ≤ 1; omega) (by show s.size + Lib.countB s ⟨#[a]⟩ * 1 ≤ _; omega)).mono ?_
  rintro e w' ⟨rfl, hb⟩
  refine ⟨?_, G.of_below hb⟩
  rw [show (⟨#[a]⟩ : ByteArray).data.toList = [a] from rfl, show (⟨#[b]⟩ : ByteArray).data.toList = [b] from rfl, replaceAll_one a b hab]
  rfl
/-- the bytes of a text in memory, those ahead of a place turned -/
def turnAt (a b : UInt8) (s : ByteArray) (i j : Nat) (h : j < s.size) : UInt8 := if j < i then turnC a b s[j] else s[j]
def TRow (a b : UInt8) (w : World) (g : Nat) (s : ByteArray) (i : Nat) : Prop := g < w.heap.size ∧ ∀ j (h : j < s.size), w.cell? ⟨g, j, none⟩ = some (.int .u8 (turnAt a b s i j h).toNat) ∧ w.frozen? ⟨g, j, none⟩ = false
theorem TRow.start (a b : UInt8) (w : World) (s : ByteArray) (cap : Nat) (T : TypeId) (q : Nat) : TRow a b (w.alloc (.cells (bytesRow s cap) T ((bytesRow s cap).size, q))) w.heap.size s 0 := by
  refine ⟨by simp, fun j h => ?_⟩
  have hh := heap_alloc_new w (.cells (bytesRow s cap) T ((bytesRow s cap).size, q))
  have hb := bytesRow_at s cap j h
  have hlt : j < (bytesRow s cap).size := (Array.getElem?_eq_some_iff.1 hb).1
  refine ⟨?_, ?_⟩
  · rw [World.cell?, hh]
    show (if (Option.none : Option Nat).isSome = true then none else (bytesRow s cap)[j]?) = _
    rw [if_neg (by simp), hb]
    unfold turnAt
    rw [if_neg (by omega)]
    rfl
  · rw [World.frozen?, hh]
    show (decide ((bytesRow s cap).size ≤ j) && decide (j < q)) = false
    rw [decide_eq_false (show ¬ (bytesRow s cap).size ≤ j by omega), Bool.false_and]
theorem TRow.skip {a b : UInt8} {w : World} {g : Nat} {s : ByteArray} {i : Nat} (h : TRow a b w g s i) (hi : i < s.size) (hc : ¬ s[i] = a) : TRow a b w g s (i + 1) := by
  refine ⟨h.1, fun j hj => ⟨?_, (h.2 j hj).2⟩⟩
  rw [(h.2 j hj).1]
  unfold turnAt
  by_cases e : j = i
  · subst e; rw [if_neg (by omega), if_pos (by omega)]; unfold turnC; rw [if_neg hc]
  · by_cases e2 : j < i
    · rw [if_pos e2, if_pos (by omega)]
    · rw [if_neg e2, if_neg (by omega)]
theorem TRow.put {a b : UInt8} {w : World} {g : Nat} {s : ByteArray} {i : Nat} (h : TRow a b w g s i) (hi : i < s.size) (hc : s[i] = a) : TRow a b (w.setCell ⟨g, i, none⟩ (.int .u8 b.toNat)) g s (i + 1) := by
  refine ⟨by simp [World.setCell]; exact h.1, fun j hj => ⟨?_, by rw [World.frozen?_setCell]; exact (h.2 j hj).2⟩⟩
  unfold turnAt
  by_cases e : j = i
  · subst e; rw [World.cell?_setCell_same w _ _ (h.2 j hj).1, if_pos (by omega)]; unfold turnC; rw [if_pos hc]
  · rw [World.cell?_setCell_other w _ _ _ (by intro q; injection q; omega), (h.2 j hj).1]
    unfold turnAt
    by_cases e2 : j < i
    · rw [if_pos e2, if_pos (by omega)]
    · rw [if_neg e2, if_neg (by omega)]
theorem TRow.done {P : Program} {a b : UInt8} {w : World} {g : Nat} {s : ByteArray} {i : Nat} (h : TRow a b w g s i) (hi : s.size ≤ i) (src dst e : TypeId) (hs : P.underlying src = some (.slice e)) (he : P.underlying e = some (.int .u8)) (hd : P.underlying dst = some .string) (cap : Nat) :
    (convert src dst (.slice (some ⟨g, 0, none⟩) s.size cap)).run P w = .ok (.string (turnS a b s)) w := by
  have hl : (turnL a b s.data.toList).length = s.size := by simp [turnL]
  have := run_convert_bytes_back (P := P) w src dst e ⟨g, 0, none⟩ cap (turnL a b s.data.toList) hs he hd (fun j hj => by
    rw [hl] at hj
    have hadd : (⟨g, 0, none⟩ : Addr).add j = ⟨g, j, none⟩ := by unfold Addr.add; split <;> simp_all
    rw [hadd, (h.2 j hj).1]
    unfold turnAt
    rw [if_pos (by omega)]
    simp [turnL]
    rfl)
  rw [hl] at this
  exact this
set_option maxHeartbeats 4000000 in
theorem turn_any (a b : UInt8) (s : ByteArray) (w : World) (hs : s.size ≤ 1000000) :
    Calls Tryd.prog 25 #[.string s, .int .u8 a.toNat, .int .u8 b.toNat] w fun e w' => e = .returned (.string (turnS a b s)) ∧ w.grownBy w' none := by
  go_enter Tryd.func25, Tryd.ntmps25
  go_wp2_with fail
  rw [run_bytes_of_string _ 9 42 5 s Tryd.underlying9 Tryd.underlying42 Tryd.underlying5]
  generalize grownCap w s.size 0 5 = cap
  have h0 := TRow.start a b w.drew s cap 5 ((bytesRow s cap).size + 1)
  have hg0 : w.grownBy (w.drew.alloc (.cells (bytesRow s cap) 5 ((bytesRow s cap).size, (bytesRow s cap).size + 1))) none := (by have hb0 := (G.refl w none); (repeat first | with_reducible exact hb0 | with_reducible refine G.drewN ?_ _ | with_reducible refine G.drew ?_ | with_reducible refine G.alloc ?_ _ | with_reducible refine G.set ?_ _ (Or.inr rfl) | (with_reducible refine G.set ?_ _ (Or.inl ?_); rotate_left; focus (first | omega | (simp; done) | (simp; omega)))))
  obtain ⟨w1, hw1⟩ : ∃ w1, w.drew.alloc (.cells (bytesRow s cap) 5 ((bytesRow s cap).size, (bytesRow s cap).size + 1)) = w1 := ⟨_, rfl⟩
  rw [hw1] at h0 hg0 ⊢
  clear hw1
  have h0' : TRow a b w1 w.heap.size s 0 := h0
  clear h0
  have hlow : w.heap.size ≤ w.heap.size := Nat.le_refl _
  go_wp2_with fail
  go_loopw [8] (fun iv wr => ∃ i : Nat, iv = .int .i64 i ∧ i ≤ s.size ∧ TRow a b wr w.heap.size s i ∧ w.grownBy wr none) (fun iv _ => s.size - (intOf iv).toNat)
  case atStart => exact ⟨0, rfl, by omega, h0', hg0⟩
  case round =>
    obtain ⟨i, rfl, hi, HT, HG⟩ := hrel
    by_cases hlt : i < s.size
    · have hcell := (HT.2 i hlt).1
      have hfree := (HT.2 i hlt).2
      rw [show turnAt a b s i i hlt = s[i] from if_neg (by omega)] at hcell
      have i0 : (0 : Int) ≤ (i : Int) := by omega
      by_cases hc : s[i] = a
      · have HP := TRow.put HT hlt hc
        have hb : ((s[i].toNat : Int) == (a.toNat : Int)) = true := by rw [hc]; exact beq_self_eq_true _
        have hc' := Lib.hid hc; clear hc
        have HG2 : w.grownBy (wr.setCell ⟨w.heap.size, i, none⟩ (.int .u8 b.toNat)) none := G.set HG _ (Or.inl (Nat.le_refl _))
        go_wp2_with fail
        exact ⟨⟨i + 1, by go_num, by omega, HP, HG2⟩, by simp [intOf]; omega⟩
      · have HP := TRow.skip HT hlt hc
        have hb : ((s[i].toNat : Int) == (a.toNat : Int)) = false := by rw [u8beq]; simpa using hc
        clear hc
        go_wp2_with fail
        exact ⟨⟨i + 1, by go_num, by omega, HP, HG⟩, by simp [intOf]; omega⟩
    · go_wp2_with fail
      rw [TRow.done HT (by omega) 42 9 5 Tryd.underlying42 Tryd.underlying5 Tryd.underlying9]
      go_wp2_with fail
      go_ret
      exact ⟨rfl, HG⟩
end Go.Proofs.YthabgdhfbcfjgaaDoor
