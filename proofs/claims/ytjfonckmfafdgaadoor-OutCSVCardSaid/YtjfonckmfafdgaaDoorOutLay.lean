/-
  The walks of what lays texts.
-/
import Derived.Test.YtjfonckmfafdgaaDoorOutStr
namespace Go.Proofs.YtjfonckmfafdgaaDoor
open Go.RowKit
theorem size_list' (t : ByteArray) : t.data.toList.length = t.size := by simp
def flatB (xs : List ByteArray) : List UInt8 := xs.flatMap fun x => x.data.toList
theorem flat1 (a : ByteArray) : flatB [a] = a.data.toList := by simp [flatB]
theorem flat2 (a b : ByteArray) : flatB [a, b] = a.data.toList ++ b.data.toList := by simp [flatB]
theorem flat3 (a b c : ByteArray) : flatB [a, b, c] = a.data.toList ++ (b.data.toList ++ c.data.toList) := by simp [flatB]
theorem flatB_take {xs : List ByteArray} {i : Nat} (h : i < xs.length) : flatB (xs.take (i + 1)) = flatB (xs.take i) ++ xs[i].data.toList := by
  unfold flatB; rw [List.take_succ_eq_append_getElem h, List.flatMap_append]; simp
theorem flatB_le (xs : List ByteArray) (i : Nat) : (flatB (xs.take i)).length ≤ (flatB xs).length := by
  have : flatB xs = flatB (xs.take i) ++ flatB (xs.drop i) := by unfold flatB; rw [← List.flatMap_append, List.take_append_drop]
  rw [this, List.length_append]; omega
set_option maxHeartbeats 4000000 in
set_option maxRecDepth 100000 in
theorem lays_any {B b c : Nat} (xs : List ByteArray) (l : List UInt8) (w : World) (h : Bld w B b l) (hc : Hx w c (xs.map Value.string) 9) (hne : c ≠ b) (hlen : l.length + (flatB xs).length ≤ 100000000) (hx : xs.length ≤ 1000) (hB : B ≤ w.heap.size) :
    Calls Tryd.prog 22 #[.pointer (some ⟨b, 0, none⟩), .slice (some ⟨c, 0, none⟩) xs.length xs.length] w fun e w' => e = .returned (.tuple #[]) ∧ Bld w' B b (l ++ flatB xs) ∧ Wr B b w w' := by
  have HW := Wr.refl B b w
  go_enter Tryd.func22, Tryd.ntmps22
  go_wp2_with fail
  go_loopw [5, 8] (fun _ iv wr => ∃ (i : Nat), iv = .int .i64 i ∧ i ≤ xs.length ∧ Bld wr B b (l ++ flatB (xs.take i)) ∧ Wr B b w wr) (fun _ iv _ => xs.length - (intOf iv).toNat)
  case atStart => exact ⟨0, rfl, by omega, h.conv (by simp [flatB]), HW⟩
  case round =>
    clear HW
    obtain ⟨i, rfl, hi, HD, HW⟩ := hrel
    have hcw := hc.wr HW hne (by decide)
    by_cases hlt : i < xs.length
    · have x0 : wr.cell? ⟨c, i, none⟩ = some (.string xs[i]) := by rw [hcw.cell]; simp [hlt]
      have hsz := HW.below.size
      have e1 := flatB_take hlt
      have e2 := flatB_le xs (i + 1)
      rw [e1, List.length_append] at e2
      have HK := Lib.hid (write_any (B := B) (b := b) (l ++ flatB (xs.take i)) xs[i] wr HD (by rw [List.length_append]; have := size_list' xs[i]; omega) (by omega))
      have He := Lib.hid e1
      clear e1 e2
      generalize xs[i] = x at *
      go_wp2_with (go_at_call 43; (with_reducible refine HK.out.mono ?_); rintro e wn ⟨rfl, hd1, hw1⟩)
      refine ⟨?_, by first | (simp [intOf]; done) | (simp [intOf]; omega)⟩
      exact ⟨i + 1, by go_num, by omega, hd1.conv (by rw [He.out, List.append_assoc]), HW.trans hw1⟩
    · obtain rfl : i = xs.length := by omega
      rw [List.take_length] at HD
      go_wp2_with fail
      go_end0
      exact ⟨rfl, HD, HW⟩
/-- the same, of a row that was just laid -/
theorem lays_of {B b c n : Nat} {w0 w : World} (xs : List ByteArray) (l m : List UInt8) (cs : Array Value) (hw : w = w0.alloc (.cells cs 9)) (hcs : cs.toList = xs.map Value.string) (hn : n = xs.length) (hc : c = w0.heap.size) (h : Bld w0 B b l) (hm : l ++ flatB xs = m) (hl : l.length ≤ 90000000) (hf : (flatB xs).length ≤ 1000000) (hx : xs.length ≤ 1000) (hB : B ≤ w0.heap.size) :
    Calls Tryd.prog 22 #[.pointer (some ⟨b, 0, none⟩), .slice (some ⟨c, 0, none⟩) n n] w fun e w' => e = .returned (.tuple #[]) ∧ Bld w' B b m ∧ Wr B b w0 w' := by
  subst hw; subst hn; subst hm; subst hc
  have hb := h.lt.2
  refine (lays_any (B := B) (b := b) (c := w0.heap.size) xs l _ (h.alloc _) ((Hx.new w0 cs 9).conv hcs) (by omega) (by omega) hx (by simp; omega)).mono ?_
  rintro e w' ⟨rfl, hd, hw⟩
  exact ⟨rfl, hd, (Wr.of_grown (World.grownBy_alloc w0 _ none) hB).trans hw⟩
/-- a row of texts that was laid behind w0 -/
def Laid (w0 : World) (xs : List ByteArray) (v : Value) (y : World) : Prop := ∃ g, v = .slice (some ⟨g, 0, none⟩) xs.length xs.length ∧ w0.heap.size ≤ g ∧ Hx y g (xs.map Value.string) 9
theorem Laid.grown {w0 y y' : World} {xs : List ByteArray} {v : Value} (h : Laid w0 xs v y) (hg : y.grownBy y' none) : Laid w0 xs v y' := by
  obtain ⟨g, h1, h2, h3⟩ := h
  exact ⟨g, h1, h2, h3.kept hg (by simp)⟩
theorem Laid.new {w0 y : World} {xs : List ByteArray} {n : Nat} {cs : Array Value} (hg : w0.grownBy y none) (hn : n = xs.length) (hcs : cs.toList = xs.map Value.string) : Laid w0 xs (.slice (some ⟨y.heap.size, 0, none⟩) n n) (y.alloc (.cells cs 9)) := by
  subst hn
  exact ⟨_, rfl, hg.size, (Hx.new y cs 9).conv hcs⟩
theorem lays_at {B b c n : Nat} {w0 w : World} (xs : List ByteArray) (l m : List UInt8) (hc : Hx w c (xs.map Value.string) 9) (hn : n = xs.length) (hne : w0.heap.size ≤ c) (h : Bld w0 B b l) (hg : w0.grownBy w none) (hm : l ++ flatB xs = m) (hl : l.length ≤ 90000000) (hf : (flatB xs).length ≤ 1000000) (hx : xs.length ≤ 1000) (hB : B ≤ w0.heap.size) :
    Calls Tryd.prog 22 #[.pointer (some ⟨b, 0, none⟩), .slice (some ⟨c, 0, none⟩) n n] w fun e w' => e = .returned (.tuple #[]) ∧ Bld w' B b m ∧ Wr B b w0 w' := by
  subst hn; subst hm
  have hb := h.lt.2
  refine (lays_any (B := B) (b := b) (c := c) xs l w (h.of_grown hg) hc (by omega) (by omega) hx (by have := hg.size; omega)).mono ?_
  rintro e w' ⟨rfl, hd, hw⟩
  exact ⟨rfl, hd, (Wr.of_grown hg hB).trans hw⟩
end Go.Proofs.YtjfonckmfafdgaaDoor
