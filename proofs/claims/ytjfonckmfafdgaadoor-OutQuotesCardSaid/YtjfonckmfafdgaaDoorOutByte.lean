/-
  Rows of bytes that the call owns; made into a text.
-/
import Derived.Test.YtjfonckmfafdgaaDoorOutQuote
import Derived.Test.YtjfonckmfafdgaaDoorSerOwn
namespace Go.Proofs.YtjfonckmfafdgaaDoor
open Go.RowKit
def byteE : Elt UInt8 := { cells := fun c => [.int .u8 c.toNat], k := 1, zero := .int .u8 0, bytes := 1, len := fun _ => rfl, one := fun _ u h => (by simp at h; subst h; rfl), zc := rfl, pos := by omega, small := by omega }
theorem info_byte : (Tryd.prog.info? 5).map (fun i => (i.zero, i.size, i.bytes)) = some (some byteE.zero, byteE.k, byteE.bytes) := by kernel_rfl
theorem conv_row {P : Program} {w : World} {v : Value} {l : List UInt8} (src e dst : TypeId) (hs : P.underlying src = some (.slice e)) (he : P.underlying e = some (.int .u8)) (hd : P.underlying dst = some .string)
    (h : ERow byteE w v l) : (convert src dst v).run P w = .ok (.string ⟨l.toArray⟩) w := by
  obtain ⟨A, c, rfl, h1, h2, h3⟩ := h
  rcases Nat.eq_zero_or_pos l.length with h0 | h0
  · obtain rfl := List.eq_nil_of_length_eq_zero h0
    rcases A with _ | a
    · rw [run_convert_bytes_nil w src e hs he _ _ dst hd]; rfl
    · rw [run_convert_bytes_string w src dst e _ _ c hs he hd]
      simp [Conv.bytesToString, loadCells]
      rfl
  · obtain ⟨b, o, rfl, hb, hc⟩ := h3 h0
    have hl : (l.map fun x : UInt8 => (x.toNat : Int)).length = l.length := by simp
    rw [run_convert_bytes_arg w src e hs he b o l.length c (l.map fun x : UInt8 => (x.toNat : Int)) hl (fun i hi => by
      have := hc i hi 0 _ rfl
      simp only [byteE, Nat.mul_one, Nat.add_zero] at this
      rw [this]
      simp [List.getD, List.getElem?_eq_getElem hi]) dst hd]
    have e : strOfNums (l.map fun x : UInt8 => (x.toNat : Int)) = ⟨l.toArray⟩ := by
      unfold strOfNums
      rw [List.map_map]
      congr 2
      rw [show ((fun n : Int => UInt8.ofNat n.toNat) ∘ fun x : UInt8 => (x.toNat : Int)) = id from by funext x; simp, List.map_id]
    rw [e]
theorem EOwn.of_hxB {α : Type} {L : Elt α} {E : TypeId} {w : World} {base b : Nat} {ts : List α} {n : Nat} (h : Hx w b (ts.flatMap L.cells) E) (hb : base ≤ b) (hn : ts.length = n) (hm : n ≤ maxLen) : EOwn L E w base (.slice (some ⟨b, 0, none⟩) n n) ts := by
  subst hn
  refine ⟨L.flat_len ts, Or.inr ⟨b, ts.length, _, rfl, hb, h, Nat.le_refl _, hm, ?_, ?_⟩⟩
  · show ((ts.flatMap L.cells).toArray).size = _
    rw [List.size_toArray, L.flat_len]
  · show (ts.flatMap L.cells).take _ = _
    rw [List.take_of_length_le (by rw [L.flat_len]; exact Nat.le_refl _)]
/-- a row of bytes that was laid behind w0 -/
def LaidB (w0 : World) (l : List UInt8) (v : Value) (y : World) : Prop := ∃ g, v = .slice (some ⟨g, 0, none⟩) l.length l.length ∧ w0.heap.size ≤ g ∧ Hx y g (l.flatMap byteE.cells) 5
theorem LaidB.grown {w0 y y' : World} {l : List UInt8} {v : Value} (h : LaidB w0 l v y) (hg : y.grownBy y' none) : LaidB w0 l v y' := by
  obtain ⟨g, h1, h2, h3⟩ := h
  exact ⟨g, h1, h2, h3.kept hg (by simp)⟩
theorem LaidB.new {w0 y : World} {l : List UInt8} {n : Nat} {cs : Array Value} (hg : w0.grownBy y none) (hn : n = l.length) (hcs : cs.toList = l.flatMap byteE.cells) : LaidB w0 l (.slice (some ⟨y.heap.size, 0, none⟩) n n) (y.alloc (.cells cs 5)) := by
  subst hn
  exact ⟨_, rfl, hg.size, (Hx.new y cs 5).conv hcs⟩
theorem LaidB.row {w0 y : World} {l : List UInt8} {v : Value} (h : LaidB w0 l v y) (hl : l.length ≤ 1000) : ERow byteE y v l := by
  obtain ⟨g, rfl, _, h3⟩ := h
  exact ERow.of_hx (Nat.le_refl _) (by unfold maxLen; omega) h3
set_option maxHeartbeats 4000000 in
theorem hexR_any (n : Nat) (w : World) (h : n < 16) : Calls Tryd.prog 37 #[.int .u8 n] w fun e w' => e = .returned (.int .u8 (hexD n).toNat) ∧ w = w' := by
  have hd : ((hexD n).toNat : Int) = if n < 10 then 48 + (n : Int) else 87 + (n : Int) := by
    have : ∀ k : Fin 16, ((hexD k.val).toNat : Int) = if k.val < 10 then 48 + (k.val : Int) else 87 + (k.val : Int) := by decide +kernel
    exact this ⟨n, h⟩
  rw [hd]
  by_cases h10 : n < 10
  · rw [if_pos h10]
    go_enter Tryd.func37, Tryd.ntmps37
    go_wp2_with fail
    go_ret
    exact ⟨ret_int (by first | rfl | omega), rfl⟩
  · rw [if_neg h10]
    go_enter Tryd.func37, Tryd.ntmps37
    go_wp2_with fail
    go_ret
    exact ⟨ret_int (by first | rfl | omega), rfl⟩
end Go.Proofs.YtjfonckmfafdgaaDoor
