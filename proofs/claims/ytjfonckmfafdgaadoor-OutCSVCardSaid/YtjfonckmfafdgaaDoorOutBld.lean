/-
  A strings.Builder within another struct: what is written on it, and what that leaves alone.
-/
import Derived.Test.YtjfonckmfafdgaaDoorProg
import Derived.Test.YtjfonckmfafdgaaDoorShelf
import Derived.Test.YtjfonckmfafdgaaDoorAid
import Derived.Test.YtjfonckmfafdgaaDoorElRow
import Derived.Lib.Builder
import Derived.Lib.AppendStr
import Derived.Lib.UnsafeStr
import Derived.Laws.Externs
namespace Go.Proofs.YtjfonckmfafdgaaDoor
open Go.RowKit
/-- the writer at b holds bytes; all of its blocks are from B on -/
def Bld (w : World) (B b : Nat) (l : List UInt8) : Prop := Lib.IsBuilder 45 5 B b (Lib.byteCells l) w
/-- what a write leaves alone: all blocks below B, and all that are neither the writer nor bytes -/
structure Wr (B b : Nat) (w w' : World) : Prop where
  below : Below B w w'
  other : ∀ (i : Nat) (cs : Array Value) (T : TypeId) (fr : Nat × Nat), i ≠ b → T ≠ 5 → w.heap[i]? = some (.cells cs T fr) → w'.heap[i]? = some (.cells cs T fr)
section
variable {w w1 w2 : World} {B b : Nat} {l : List UInt8}
theorem Wr.refl (B b : Nat) (w : World) : Wr B b w w := ⟨Below.refl B w, fun _ _ _ _ _ _ h => h⟩
theorem Wr.trans (h : Wr B b w w1) (k : Wr B b w1 w2) : Wr B b w w2 :=
  ⟨⟨k.below.os.trans h.below.os, k.below.tape.trans h.below.tape, k.below.output.trans h.below.output, Nat.le_trans h.below.size k.below.size, fun i hi => (k.below.block i hi).trans (h.below.block i hi)⟩,
   fun i cs T fr h1 h2 h3 => k.other i cs T fr h1 h2 (h.other i cs T fr h1 h2 h3)⟩
theorem Wr.of_grown (h : w.grownBy w1 none) (hB : B ≤ w.heap.size) : Wr B b w w1 :=
  ⟨⟨h.os, h.tape, h.output, h.size, fun i hi => h.block i (Nat.lt_of_lt_of_le hi hB) (by simp)⟩, fun i cs T fr _ _ h3 => by
    have hlt : i < w.heap.size := by
      rcases Nat.lt_or_ge i w.heap.size with g | g
      · exact g
      · rw [Array.getElem?_eq_none g] at h3; cases h3
    rw [h.block i hlt (by simp)]; exact h3⟩
theorem Hx.wr {x : Nat} {cs : List Value} {T : TypeId} (h : Hx w x cs T) (k : Wr B b w w1) (hne : x ≠ b) (hT : T ≠ 5) : Hx w1 x cs T := k.other x _ T _ hne hT h
theorem G.wr {w0 : World} (h : w0.grownBy w none) (k : Wr B b w w1) (hB : w0.heap.size ≤ B) : w0.grownBy w1 none :=
  ⟨k.below.os.trans h.os, k.below.tape.trans h.tape, k.below.output.trans h.output, Nat.le_trans h.size k.below.size, fun i hi _ => (k.below.block i (by omega)).trans (h.block i hi (by simp))⟩
theorem Bld.of_grown (h : Bld w B b l) (k : w.grownBy w1 none) : Bld w1 B b l := by
  have one : ∀ p, Lib.BuilderAt 45 5 B b p (Lib.byteCells l) w → Lib.BuilderAt 45 5 B b p (Lib.byteCells l) w1 := by
    intro p hp
    have hlt := hp.lt
    obtain ⟨hB, v, hb, hown, hne⟩ := hp
    exact ⟨hB, v, by rw [k.block b hlt (by simp)]; exact hb, hown.kept k (by cases v.ownBlock <;> simp), hne⟩
  rcases h with h | h
  · exact Or.inl (one _ h)
  · exact Or.inr (one _ h)
theorem Bld.lt (h : Bld w B b l) : B ≤ b ∧ b < w.heap.size := by
  rcases h with h | h
  · exact ⟨h.1, h.lt⟩
  · exact ⟨h.1, h.lt⟩
theorem Bld.fresh (w : World) : Bld (w.alloc (.cells #[.pointer none, .slice none 0 0] 45)) w.heap.size w.heap.size [] := Lib.fresh_isBuilder _ _ w
theorem Bld.mono {B' : Nat} (h : Bld w B b l) (hB : B' ≤ B) : Bld w B' b l := by
  have one : ∀ p, Lib.BuilderAt 45 5 B b p (Lib.byteCells l) w → Lib.BuilderAt 45 5 B' b p (Lib.byteCells l) w := by
    rintro p ⟨h1, v, hb, hown, hne⟩
    refine ⟨by omega, v, hb, ⟨hown.1, ?_⟩, hne⟩
    rcases hown.2 with g | ⟨g, cap, cur, e1, e2, e3⟩
    · exact Or.inl g
    · exact Or.inr ⟨g, cap, cur, e1, by omega, e3⟩
  rcases h with h | h
  · exact Or.inl (one _ h)
  · exact Or.inr (one _ h)
theorem Bld.conv {m : List UInt8} (h : Bld w B b l) (e : l = m) : Bld w B b m := e ▸ h
theorem Bld.alloc (h : Bld w B b l) (o : Obj) : Bld (w.alloc o) B b l := h.of_grown (World.grownBy_alloc w o none)
theorem Bld.drew (h : Bld w B b l) : Bld w.drew B b l := h
theorem Bld.drewN (h : Bld w B b l) (n : Nat) : Bld (w.drewN n) B b l := h
/-- a store into another block that is no row of bytes -/
theorem Bld.set (h : Bld w B b l) {c : Nat} {cs : List Value} {T : TypeId} (hc : Hx w c cs T) (hT : T ≠ 5) (hne : c ≠ b) (i : Nat) (u : Value) : Bld (w.setCell ⟨c, i, none⟩ u) B b l := by
  have one : ∀ p, Lib.BuilderAt 45 5 B b p (Lib.byteCells l) w → Lib.BuilderAt 45 5 B b p (Lib.byteCells l) (w.setCell ⟨c, i, none⟩ u) := by
    rintro p ⟨h1, v, hb, hown, hn⟩
    have hv := Lib.ownBlock_ne hown hc hT
    exact ⟨h1, v, by rw [Below.heap_setCell _ _ _ _ (fun e => hne e.symm)]; exact hb, ownsRow_setCell_other hown hv u, hn⟩
  rcases h with h | h
  · exact Or.inl (one _ h)
  · exact Or.inr (one _ h)
end
section
variable {B b : Nat}
theorem bld_info : ∃ j, Tryd.prog.info? 43 = some j ∧ j.size ≠ 0 := by
  rcases hi : Tryd.prog.info? 43 with _ | j
  · have h : (Tryd.prog.info? 43).isSome = true := by kernel_rfl
    rw [hi] at h; cases h
  · refine ⟨j, rfl, ?_⟩
    have h : (Tryd.prog.info? 43).map (·.size) = some 2 := by kernel_rfl
    rw [hi] at h
    have h : j.size = 2 := Option.some.inj h
    omega
set_option maxHeartbeats 4000000 in
set_option maxRecDepth 100000 in
theorem copyCheck_used (w : World) (h0 : w.cell? ⟨b, 0, none⟩ = some (.pointer (some ⟨b, 0, none⟩))) :
    Calls Tryd.prog 59 #[.pointer (some ⟨b, 0, none⟩)] w fun e w' => e = .returned (.tuple #[]) ∧ w' = w := by
  obtain ⟨j, hj, _⟩ := bld_info
  go_enter Tryd.func59, Tryd.ntmps59
  go_wp2
  rw [Lib.run_neq_ptr_same w _ Tryd.underlying41 hj]
  go_wp2
  go_end0
  exact ⟨rfl, rfl⟩
set_option maxHeartbeats 4000000 in
set_option maxRecDepth 100000 in
theorem copyCheck_fresh (w : World) (h0 : w.cell? ⟨b, 0, none⟩ = some (.pointer none)) (hsh : w.shape? b = some (45, 2)) (hfz : w.frozen? ⟨b, 0, none⟩ = false) :
    Calls Tryd.prog 59 #[.pointer (some ⟨b, 0, none⟩)] w fun e w' => e = .returned (.tuple #[]) ∧ w' = w.setCell ⟨b, 0, none⟩ (.pointer (some ⟨b, 0, none⟩)) := by
  obtain ⟨j, hj, hjs⟩ := bld_info
  go_enter Tryd.func59, Tryd.ntmps59
  go_wp2
  rw [Lib.run_to_unsafe w ⟨b, 0, none⟩ Tryd.underlying41 Tryd.underlying86 hj hjs hsh (Nat.zero_lt_succ 1)]
  simp only [Result.andThen]
  rw [Oper.upon_value]
  go_wp2
  rw [run_callFunc_extern Tryd.func71 (by kernel_rfl) (by kernel_rfl) (by kernel_rfl) (e := Extern.AbiNoEscape.same) (by kernel_rfl)]
  rw [Lib.run_noEscape]
  simp only [Result.andThen]
  rw [Oper.upon_value]
  go_wp2
  rw [Lib.run_from_unsafe w ⟨b, 0, none⟩ Tryd.underlying86 Tryd.underlying41 hj hsh (by kernel_rfl)]
  simp only [Result.andThen]
  rw [Oper.upon_value]
  go_wp2
  go_end0
  exact ⟨rfl, rfl⟩
/-- copyCheck: the writer holds its own address behind it -/
theorem copyCheck_any (bs : List Value) (w : World) (h : Lib.IsBuilder 45 5 B b bs w) :
    Calls Tryd.prog 59 #[.pointer (some ⟨b, 0, none⟩)] w fun e w' => e = .returned (.tuple #[]) ∧ Lib.BuilderAt 45 5 B b (.pointer (some ⟨b, 0, none⟩)) bs w' ∧ Wr B b w w' := by
  rcases h with h | h
  · refine (copyCheck_fresh w h.cell0 h.shape h.frozen0).mono ?_
    rintro e w' ⟨rfl, rfl⟩
    exact ⟨rfl, h.used _, (Below.refl B w).setCell (p := ⟨b, 0, none⟩) h.1 _, fun i cs T fr h1 _ h3 => by rw [Below.heap_setCell _ _ _ _ (fun e => h1 e)]; exact h3⟩
  · refine (copyCheck_used w h.cell0).mono ?_
    rintro e w' ⟨rfl, rfl⟩
    exact ⟨rfl, h, Wr.refl B b _⟩
theorem bld_byte : (Tryd.prog.info? 5).map (fun i => (i.zero, i.size, i.bytes)) = some (some (.int .u8 0), 1, 1) := by kernel_rfl
set_option maxHeartbeats 8000000 in
set_option maxRecDepth 100000 in
/-- a text written -/
theorem write_any (l : List UInt8) (s : ByteArray) (w : World) (h : Bld w B b l) (hlen : l.length + s.size ≤ 140737488355328) (hBw : B ≤ w.heap.size) :
    Calls Tryd.prog 43 #[.pointer (some ⟨b, 0, none⟩), .string s] w fun e w' => e = .returned (.tuple #[.int .i64 s.size, .nilIface]) ∧ Bld w' B b (l ++ s.data.toList) ∧ Wr B b w w' := by
  obtain ⟨i0, hi, hz0, hz1, hz2⟩ := info_parts bld_byte
  go_enter Tryd.func43, Tryd.ntmps43
  go_wp2_with (go_at_call 59; refine (copyCheck_any _ _ h).mono ?_)
  rintro e w1 ⟨rfl, h1, hb1⟩
  obtain ⟨hB, v, hbk, hown, hne⟩ := h1
  rw [Lib.byteCells_length] at hown
  have c0 : w1.cell? ⟨b, 0, none⟩ = some (.pointer (some ⟨b, 0, none⟩)) := by rw [Lib.cell_of_heap hbk]; rfl
  have c1 : w1.cell? ⟨b, 1, none⟩ = some v := by rw [Lib.cell_of_heap hbk]; rfl
  go_wp2_with (at_builtin; refine Lib.wpList_append_own_string _ rfl _ _ 37 9 rfl B 5 i0 Tryd.underlying37 Tryd.underlying9 hi hz0 hz1 hz2 _ _ _ rfl hown s rfl ?c3 ?c4 ?c5 ?_)
  case c3 => unfold maxLen; omega
  case c4 => omega
  case c5 => have := hb1.below.size; omega
  intro v' w2 hown' hgrow _
  have hlt : b < w1.heap.size := by
    rcases Nat.lt_or_ge b w1.heap.size with h' | h'
    · exact h'
    · simp [Array.getElem?_eq_none h'] at hbk
  have hb2 : w2.heap[b]? = some (.cells #[.pointer (some ⟨b, 0, none⟩), v] 45 (0, 0)) := by
    rw [hgrow.block b hlt (fun e => hne e.symm)]
    exact hbk
  have d0 : w2.cell? ⟨b, 0, none⟩ = some (.pointer (some ⟨b, 0, none⟩)) := by rw [Lib.cell_of_heap hb2]; rfl
  have d1 : w2.cell? ⟨b, 1, none⟩ = some v := by rw [Lib.cell_of_heap hb2]; rfl
  have f1 : w2.frozen? ⟨b, 1, none⟩ = false := Lib.frozen_of_heap hb2 1
  obtain ⟨ao, n', cap, rfl⟩ : ∃ ao n' cap, v' = .slice ao n' cap := by
    rcases hown'.2 with ⟨hv, _⟩ | ⟨g, cap, cur, hv, _⟩
    · exact ⟨_, _, _, hv⟩
    · exact ⟨_, _, _, hv⟩
  go_wp2
  go_ret2
  have e1 : Lib.byteCells (l ++ s.data.toList) = Lib.byteCells l ++ Lib.strCells s := by rw [Lib.byteCells_append, Lib.strCells_eq]
  refine ⟨rfl, ?_, ?_⟩
  · unfold Bld
    rw [e1]
    exact Or.inr (Lib.BuilderAt.put (T := 45) (e := 5) hB hb2 (bs' := Lib.byteCells l ++ Lib.strCells s) (by simpa [Lib.strCells_length, Lib.byteCells_length] using hown') (by decide))
  · refine hb1.trans ⟨((Below.refl B w1).grown hgrow (by have := hb1.below.size; omega) (fun k hk => (hown.lt k hk).1)).setCell (p := ⟨b, 1, none⟩) hB _, fun i cs T fr g1 g2 g3 => ?_⟩
    rw [Below.heap_setCell _ _ _ _ (fun e => g1 e)]
    have hi : i < w1.heap.size := by
      rcases Nat.lt_or_ge i w1.heap.size with h' | h'
      · exact h'
      · simp [Array.getElem?_eq_none h'] at g3
    rw [hgrow.block i hi (fun e => Lib.ownBlock_ne hown g3 g2 e.symm)]
    exact g3
end
end Go.Proofs.YtjfonckmfafdgaaDoor
