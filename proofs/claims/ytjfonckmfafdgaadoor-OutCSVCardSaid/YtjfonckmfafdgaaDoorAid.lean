/-
  Small general facts on worlds: what a block holds, and which blocks a call may have turned. No program is named here.
-/
import Derived.WalkKit
import Derived.WalkSpells
import Derived.WalkLawsBesides
import Derived.Lib.Hide
namespace Go.Proofs.YtjfonckmfafdgaaDoor
open Go.RowKit

theorem ret_bool {a b : Bool} (h : a = b) : Ending.returned (.bool a) = .returned (.bool b) := by rw [h]
theorem ret_int {k : IntKind} {a b : Int} (h : a = b) : Ending.returned (.int k a) = .returned (.int k b) := by rw [h]
theorem ret_string {a b : ByteArray} (h : a = b) : Ending.returned (.string a) = .returned (.string b) := by rw [h]
theorem u8le (a b : UInt8) : decide (a ≤ b) = decide ((a.toNat : Int) ≤ (b.toNat : Int)) := by
  rw [decide_eq_decide, UInt8.le_iff_toNat_le]; omega

theorem drop_cons (s : ByteArray) (k : Nat) (h : k < s.size) : s.data.toList.drop k = s[k] :: s.data.toList.drop (k + 1) := by
  rw [List.drop_eq_getElem_cons (by simpa using h)]; rfl
theorem drop_end (s : ByteArray) (k : Nat) (h : ¬ k < s.size) : s.data.toList.drop k = [] := List.drop_eq_nil_of_le (by simp; have : s.size = s.data.size := rfl; omega)
theorem u8beq (a b : UInt8) : (((a.toNat : Int)) == (b.toNat : Int)) = (a == b) := by
  rw [Bool.eq_iff_iff, beq_iff_eq, beq_iff_eq, ← UInt8.toNat_inj]; omega

theorem u8bI (a b : UInt8) : (a == b) = (((a.toNat : Int)) == (b.toNat : Int)) := (u8beq a b).symm
theorem u8eI (a b : UInt8) : (a = b) = ((a.toNat : Int) = (b.toNat : Int)) := by
  rw [← UInt8.toNat_inj]; exact propext (by omega)

/-- Block b of the world is a row of cells, not frozen. -/
def Hx (w : World) (b : Nat) (cs : List Value) (T : TypeId) : Prop := w.heap[b]? = some (.cells cs.toArray T (0, 0))

section
variable {w w' : World} {b : Nat} {cs : List Value} {T : TypeId}
theorem Hx.lt (h : Hx w b cs T) : b < w.heap.size := by
  unfold Hx at h
  rcases Nat.lt_or_ge b w.heap.size with g | g
  · exact g
  · rw [Array.getElem?_eq_none g] at h; cases h
theorem Hx.cell (h : Hx w b cs T) (i : Nat) : w.cell? ⟨b, i, none⟩ = cs[i]? := by
  unfold Hx at h; simp [World.cell?, h]
theorem Hx.free (h : Hx w b cs T) (i : Nat) : w.frozen? ⟨b, i, none⟩ = false := by
  unfold Hx at h; simp [World.frozen?, h]
theorem Hx.of_block (h : Hx w b cs T) (e : w'.heap[b]? = w.heap[b]?) : Hx w' b cs T := by unfold Hx at *; rw [e, h]
theorem Hx.new (w : World) (cs : Array Value) (T : TypeId) : Hx (w.alloc (.cells cs T)) w.heap.size cs.toList T := by
  unfold Hx; simpa using heap_alloc_new w (.cells cs T)
theorem Hx.new' {w : World} {b : Nat} {cs : Array Value} {l : List Value} {T : TypeId} (hb : b = w.heap.size) (hl : l = cs.toList) : Hx (w.alloc (.cells cs T)) b l T := by subst hb; subst hl; exact Hx.new w cs T
theorem Hx.alloc (h : Hx w b cs T) (o : Obj) : Hx (w.alloc o) b cs T := h.of_block (Below.heap_alloc _ _ _ h.lt)
theorem Hx.drew (h : Hx w b cs T) : Hx w.drew b cs T := h
theorem Hx.drewN (h : Hx w b cs T) (n : Nat) : Hx (w.drewN n) b cs T := h
theorem Hx.other (h : Hx w b cs T) {c : Nat} (hne : b ≠ c) (i : Nat) (v : Value) : Hx (w.setCell ⟨c, i, none⟩ v) b cs T := h.of_block (Below.heap_setCell _ _ _ _ hne)
theorem Hx.set (h : Hx w b cs T) (i : Nat) (v : Value) : Hx (w.setCell ⟨b, i, none⟩ v) b (cs.set i v) T := by
  unfold Hx at *
  simp only [World.setCell, Array.getElem?_modify, h, if_true, Option.map_some]
  simp
theorem Hx.conv {cs' : List Value} (h : Hx w b cs T) (e : cs = cs') : Hx w b cs' T := e ▸ h
theorem Hx.kept {row : Option Nat} (h : Hx w b cs T) (hg : w.grownBy w' row) (hne : some b ≠ row) : Hx w' b cs T := h.of_block (hg.block b h.lt hne)
end

section
variable {w w1 w2 : World} {row : Option Nat}
theorem G.refl (w : World) (row : Option Nat) : w.grownBy w row := ⟨rfl, rfl, rfl, Nat.le_refl _, fun _ _ _ => rfl⟩
theorem G.trans (h : w.grownBy w1 row) (k : w1.grownBy w2 row) : w.grownBy w2 row :=
  ⟨k.os.trans h.os, k.tape.trans h.tape, k.output.trans h.output, Nat.le_trans h.size k.size, fun i hi hn => (k.block i (Nat.lt_of_lt_of_le hi h.size) hn).trans (h.block i hi hn)⟩
/-- a step that turned one block alone, which is new, or the named one -/
theorem G.trans' {r2 : Option Nat} (h : w.grownBy w1 row) (k : w1.grownBy w2 r2) (hr : ∀ c, r2 = some c → w.heap.size ≤ c ∨ row = some c) : w.grownBy w2 row :=
  ⟨k.os.trans h.os, k.tape.trans h.tape, k.output.trans h.output, Nat.le_trans h.size k.size, fun i hi hn =>
    (k.block i (Nat.lt_of_lt_of_le hi h.size) (fun e => (hr i e.symm).elim (fun g => by omega) (fun g => hn g.symm))).trans (h.block i hi hn)⟩
theorem G.any (h : w.grownBy w1 none) (row : Option Nat) : w.grownBy w1 row := ⟨h.os, h.tape, h.output, h.size, fun i hi _ => h.block i hi (by simp)⟩
theorem G.alloc (h : w.grownBy w1 row) (o : Obj) : w.grownBy (w1.alloc o) row := G.trans h (World.grownBy_alloc w1 o row)
theorem G.drew (h : w.grownBy w1 row) : w.grownBy w1.drew row := ⟨h.os, h.tape, h.output, h.size, h.block⟩
theorem G.drewN (h : w.grownBy w1 row) (n : Nat) : w.grownBy (w1.drewN n) row := ⟨h.os, h.tape, h.output, h.size, h.block⟩
theorem G.set (h : w.grownBy w1 row) {a : Addr} (v : Value) (ha : w.heap.size ≤ a.block ∨ row = some a.block) : w.grownBy (w1.setCell a v) row :=
  G.trans' h (r2 := some a.block) ⟨rfl, rfl, rfl, by simp [World.setCell], fun k _ hk => Below.heap_setCell _ _ _ _ (fun e => hk (by rw [e]))⟩
    (fun c e => by cases e; exact ha)
theorem G.below (h : w.grownBy w1 none) : Below w.heap.size w w1 := ⟨h.os, h.tape, h.output, h.size, fun k hk => h.block k hk (by simp)⟩
theorem G.of_below (h : Below w.heap.size w w1) : w.grownBy w1 none := ⟨h.os, h.tape, h.output, h.size, fun k hk _ => h.block k hk⟩
/-- the named row is a new one: nothing old has turned -/
theorem G.fresh {w0 : World} {c : Nat} (h0 : w0.grownBy w none) (h : w.grownBy w1 (some c)) (hc : w0.heap.size ≤ c) : w0.grownBy w1 none :=
  G.trans' h0 h (fun d e => by cases e; exact Or.inl hc)
theorem G.cell (h : w.grownBy w1 row) {a : Addr} (ha : a.block < w.heap.size) (hne : some a.block ≠ row) : w1.cell? a = w.cell? a := World.cell?_of_block (h.block a.block ha hne)
theorem G.frozen (h : w.grownBy w1 row) {a : Addr} (ha : a.block < w.heap.size) (hne : some a.block ≠ row) : w1.frozen? a = w.frozen? a := World.frozen?_of_block (h.block a.block ha hne)
end

theorem run_loadVar_hx {P : Program} {w : World} {b : Nat} {cs : List Value} {T ty : TypeId} (h : Hx w b cs T) (off n : Nat) (hag : (isAgg ty).run P w = .ok true w) (hsz : (sizeOf ty).run P w = .ok n w) (hn : off + n ≤ cs.length) :
    (loadVar ty ⟨b, off, none⟩).run P w = .ok (.agg ((cs.drop off).take n).toArray) w := by
  have hl : ((cs.drop off).take n).length = n := by simp; omega
  have hr := run_loadCells_list (P := P) (w := w) ⟨b, off, none⟩ ((cs.drop off).take n) (fun j v hj => by
    have hadd : (⟨b, off, none⟩ : Addr).add j = ⟨b, off + j, none⟩ := by unfold Addr.add; split <;> simp_all
    rw [hadd, h.cell]
    rw [List.getElem?_take] at hj
    split at hj
    · rw [List.getElem?_drop] at hj; exact hj
    · cases hj)
  rw [hl] at hr
  simp [loadVar, hag, hsz, hr]

theorem BelowN {B : Nat} {a w : World} (h : Below B a w) (n : Nat) : Below B a (w.drewN n) := ⟨h.os, h.tape, h.output, h.size, h.block⟩

/-- a result that is a struct, read out of its own block -/
theorem ret_cell_tmp {P : Program} {fn : Func} {R : Ending → World → Prop} {a : Act} {w : World} {p u : Tmp} {ty : TypeId} (cs : List Value) (b : Nat) (T : TypeId) (hres : fn.results = #[.cell p ty, .tmp u]) (hp : a.tmps.getD p undef = .pointer (some ⟨b, 0, none⟩))
    (hag : (isAgg ty).run P w = .ok true w) (hsz : (sizeOf ty).run P w = .ok cs.length w) (hd : a.defers = []) (hx : Hx w b cs T) (hR : R (.returned (.tuple #[.agg cs.toArray, a.tmps.getD u undef])) w) : bodyPost P fn R .ret a w := by
  refine bodyPost_ret (v := .tuple #[.agg cs.toArray, a.tmps.getD u undef]) ?_ hd hR
  have hl := run_loadVar_hx (P := P) hx 0 cs.length hag hsz (by omega)
  simp only [List.drop_zero, List.take_length] at hl
  rw [results_cell_tmp hres]
  simp [hp, asAddr, hl]
theorem ret_cell {P : Program} {fn : Func} {R : Ending → World → Prop} {a : Act} {w : World} {p : Tmp} {ty : TypeId} (cs : List Value) (b : Nat) (T : TypeId) (hres : fn.results = #[.cell p ty]) (hp : a.tmps.getD p undef = .pointer (some ⟨b, 0, none⟩))
    (hag : (isAgg ty).run P w = .ok true w) (hsz : (sizeOf ty).run P w = .ok cs.length w) (hd : a.defers = []) (hx : Hx w b cs T) (hR : R (.returned (.agg cs.toArray)) w) : bodyPost P fn R .ret a w := by
  refine bodyPost_ret (v := .agg cs.toArray) ?_ hd hR
  have hl := run_loadVar_hx (P := P) hx 0 cs.length hag hsz (by omega)
  simp only [List.drop_zero, List.take_length] at hl
  have hp' : a.tmps[p]?.getD undef = .pointer (some ⟨b, 0, none⟩) := by simpa using hp
  simp only [results, hres]
  simp [hp', asAddr, hl]
/-- growth, as far as the walk has come: the steps of the world are peeled off down to a fact at hand -/
theorem G.go {w w0 w1 : World} {row : Option Nat} (_hb0 : w.grownBy w0 row) (h : w.grownBy w1 row := by (repeat first | with_reducible assumption | with_reducible refine G.drewN ?_ _ | with_reducible refine G.drew ?_ | with_reducible refine G.alloc ?_ _ | with_reducible refine G.set ?_ _ (Or.inr rfl) | (with_reducible refine G.set ?_ _ (Or.inl ?_); rotate_left; focus (first | omega | (simp; done) | (simp; omega))))) : w.grownBy w1 row := h
/-- a block's cells, as far as the walk has come -/
theorem Hx.go {w w0 : World} {b : Nat} {cs cs0 : List Value} {T : TypeId} (_hb0 : Hx w0 b cs0 T) (h : Hx w b cs T := by (apply Hx.conv; (case h => (repeat first | with_reducible assumption | with_reducible apply Hx.drewN | with_reducible apply Hx.drew | with_reducible apply Hx.set | with_reducible exact Hx.new _ _ _ | (with_reducible apply Hx.new'; (case hl => rfl); (case hb => (first | omega | (simp; done) | (simp; omega)))) | with_reducible apply Hx.alloc | (with_reducible apply Hx.other; (case hne => (first | omega | (simp; done) | (simp; omega)))))); (case e => (first | rfl | (simp; done) | (simp; omega))))) : Hx w b cs T := h
theorem Hx.go2 {w : World} {b : Nat} {cs : List Value} {T : TypeId} (h : Hx w b cs T := by (apply Hx.conv; (case h => (repeat first | with_reducible assumption | with_reducible apply Hx.drewN | with_reducible apply Hx.drew | with_reducible apply Hx.set | with_reducible exact Hx.new _ _ _ | (with_reducible apply Hx.new'; (case hl => rfl); (case hb => (first | omega | (simp; done) | (simp; omega)))) | with_reducible apply Hx.alloc | (with_reducible apply Hx.other; (case hne => (first | omega | (simp; done) | (simp; omega)))))); (case e => (first | rfl | (simp; done) | (simp; omega))))) : Hx w b cs T := h
end Go.Proofs.YtjfonckmfafdgaaDoor
