/-
  The walk of fstep.rows: eight functions. Printed by genfsrows.py.
  The walk of slices.IndexFunc over the table of functions, by name.
-/
import Derived.Test.YtkablhamnepfnaaDoorFsNames
import Derived.Test.YtkablhamnepfnaaDoorElRow
import Derived.Test.YtkablhamnepfnaaDoorProg
import Derived.Great.BuildSlice
import Derived.Deep.DeepCutAuto
import Derived.Deep.RegionHeld3
import Derived.Test.YtkablhamnepfnaaDoorSerSpec
import Derived.Laws.StructEq
import Derived.MapKept
namespace Go.Proofs.YtkablhamnepfnaaDoor
open Go.RowKit
/-- a row of the table: a name, how few and how many args, a function -/
structure SRow where
  name : ByteArray
  need : Nat
  most : Nat
  fn : Nat
def SRow.f (r : SRow) : Value := .func (.func r.fn) #[] #[]
def SRow.cap (_ : SRow) : Array Value := #[]
def frowE : Elt SRow := { cells := fun r => [.string r.name, .int .i64 r.need, .int .i64 r.most, r.f], k := 4, zero := .agg #[.string ⟨#[]⟩, .int .i64 0, .int .i64 0, Value.nilFunc], bytes := 40, len := fun _ => rfl, one := fun _ u h => (by simp at h; rcases h with rfl | rfl | rfl | rfl <;> rfl), zc := rfl, pos := by omega, small := by omega }
/-- the table -/
def fsRows : List SRow := [
  ⟨fs0, 0, 0, 19⟩,
  ⟨fs1, 1, 1, 20⟩,
  ⟨fs2, 0, 0, 21⟩,
  ⟨fs3, 0, 0, 22⟩,
  ⟨fs4, 0, 1, 23⟩,
  ⟨fs5, 0, 1, 24⟩,
  ⟨fs6, 0, 1, 25⟩,
  ⟨fs7, 0, 1, 26⟩]
theorem fsRows_len : fsRows.length = 8 := rfl
/-- a region without guards does not look at its own operations -/
theorem wp_region_gen {P : Program} {id : Nat} {l : List Oper} {Q : Exit → Act → World → Prop} {a : Act} {w : World} (h : ∀ ops : Array Oper, wpList P ops Q l a w) : (Code.region id l.toArray false).wp P Q a w := wp_region_lit (h _)
theorem wpList_buildRow {P : Program} {ops : Array Oper} {rest : List Oper} {o : Oper} {a : Act} {w : World} {Q : Exit → Act → World → Prop} (hg : o.guard = none) (t e : TypeId) (len : Nat) (parts : Array (Nat × Operand)) (ho : o.op = .buildSlice t len parts)
    (cells : List Value) (z : Value) (k : Nat) (hu : P.underlying t = some (.slice e)) (hE : (P.info? e).map (fun i => (i.zero, i.size)) = some (some z, k)) (hsmall : ¬ len * k > 2 ^ 24) (hpos : ¬ len * k = 0)
    (hf : Instr.fill (fun i => some (i * k, k)) ((Array.range (len * k)).map (z.cells[· % z.cells.size]!)) (parts.map fun (i, x) => (i, a.eval x)).toList = some cells.toArray)
    (h : wpList P ops Q rest (a.put o.dst (.slice (some ⟨w.heap.size, 0, none⟩) len len)) (w.alloc (.cells cells.toArray e))) : wpList P ops Q (o :: rest) a w := by
  cases hie : P.info? e with
  | none => simp [hie] at hE
  | some ie =>
    simp only [hie, Option.map_some, Option.some.injEq, Prod.mk.injEq] at hE
    obtain ⟨h1, rfl⟩ := hE
    exact wpList_buildSlice hg t e len parts ho _ ie z hu hie h1 hsmall hpos hf h
set_option maxHeartbeats 8000000 in
set_option maxRecDepth 100000 in
theorem fsRows_any (w : World) : Calls Tryd.prog 10 #[] w fun e w' => ∃ b, e = .returned (.slice (some ⟨b, 0, none⟩) 8 8) ∧ Hx w' b (fsRows.flatMap frowE.cells) 40 ∧ w.grownBy w' none := by
  have HG := G.refl w none
  go_enter Tryd.func10, Tryd.ntmps10
  go_upto_region 1 with (fail)
  refine wp_region_gen (fun ops => ?_)
  go_wp2_with (refine wpList_buildRow rfl 35 40 8 _ rfl (fsRows.flatMap frowE.cells) frowE.zero 4 Tryd.underlying35 (by kernel_rfl) (by decide) (by decide) (by kernel_rfl) ?_)
  go_ret
  exact ⟨_, rfl, Hx.new _ _ _, (by exact G.go HG)⟩
theorem fsIdx_none {nm : ByteArray} (h : ∀ j (hj : j < fsRows.length), fsRows[j].name ≠ nm) : fsIdx nm = none := by
  have h0 : nm ≠ fs0 := fun e => h 0 (by rw [fsRows_len]; omega) e.symm
  have h1 : nm ≠ fs1 := fun e => h 1 (by rw [fsRows_len]; omega) e.symm
  have h2 : nm ≠ fs2 := fun e => h 2 (by rw [fsRows_len]; omega) e.symm
  have h3 : nm ≠ fs3 := fun e => h 3 (by rw [fsRows_len]; omega) e.symm
  have h4 : nm ≠ fs4 := fun e => h 4 (by rw [fsRows_len]; omega) e.symm
  have h5 : nm ≠ fs5 := fun e => h 5 (by rw [fsRows_len]; omega) e.symm
  have h6 : nm ≠ fs6 := fun e => h 6 (by rw [fsRows_len]; omega) e.symm
  have h7 : nm ≠ fs7 := fun e => h 7 (by rw [fsRows_len]; omega) e.symm
  unfold fsIdx
  simp only [if_neg h0, if_neg h1, if_neg h2, if_neg h3, if_neg h4, if_neg h5, if_neg h6, if_neg h7]
theorem fsIdx_some {nm : ByteArray} : ∀ (i : Nat) (h : i < fsRows.length), fsRows[i].name = nm → fsIdx nm = some i
  | 0, _, h => by have e : fs0 = nm := h; subst e; decide
  | 1, _, h => by have e : fs1 = nm := h; subst e; decide
  | 2, _, h => by have e : fs2 = nm := h; subst e; decide
  | 3, _, h => by have e : fs3 = nm := h; subst e; decide
  | 4, _, h => by have e : fs4 = nm := h; subst e; decide
  | 5, _, h => by have e : fs5 = nm := h; subst e; decide
  | 6, _, h => by have e : fs6 = nm := h; subst e; decide
  | 7, _, h => by have e : fs7 = nm := h; subst e; decide
  | n + 8, h, _ => by rw [fsRows_len] at h; omega
theorem fsRow_at : ∀ (i : Nat) (h : i < fsRows.length), fsRows[i].need = fsNeed i ∧ fsRows[i].most = fsMost i ∧ ∀ args w, (callFunc fsRows[i].fn args).run Tryd.prog w = .ok (.enter fsRows[i].fn args) w
  | 0, _ => ⟨rfl, rfl, enters_of Tryd.func19 (by kernel_rfl) rfl⟩
  | 1, _ => ⟨rfl, rfl, enters_of Tryd.func20 (by kernel_rfl) rfl⟩
  | 2, _ => ⟨rfl, rfl, enters_of Tryd.func21 (by kernel_rfl) rfl⟩
  | 3, _ => ⟨rfl, rfl, enters_of Tryd.func22 (by kernel_rfl) rfl⟩
  | 4, _ => ⟨rfl, rfl, enters_of Tryd.func23 (by kernel_rfl) rfl⟩
  | 5, _ => ⟨rfl, rfl, enters_of Tryd.func24 (by kernel_rfl) rfl⟩
  | 6, _ => ⟨rfl, rfl, enters_of Tryd.func25 (by kernel_rfl) rfl⟩
  | 7, _ => ⟨rfl, rfl, enters_of Tryd.func26 (by kernel_rfl) rfl⟩
  | n + 8, h => by rw [fsRows_len] at h; omega
theorem fsCells {W : World} {LB : Nat} {T : TypeId} (h : Hx W LB (fsRows.flatMap frowE.cells) T) {i : Nat} (hi : i < 8) : W.cell? ⟨LB, i * 4 + 1, none⟩ = some (.int .i64 (fsNeed i)) ∧ W.cell? ⟨LB, i * 4 + 2, none⟩ = some (.int .i64 (fsMost i)) ∧ W.cell? ⟨LB, i * 4 + 3, none⟩ = some (fsRows[i]'(by rw [fsRows_len]; exact hi)).f := by
  have hi' : i < fsRows.length := by rw [fsRows_len]; exact hi
  obtain ⟨e1, e2, _⟩ := fsRow_at i hi'
  have c1 := frowE.flat_at fsRows i hi' 1 _ rfl
  have c2 := frowE.flat_at fsRows i hi' 2 _ rfl
  have c3 := frowE.flat_at fsRows i hi' 3 _ rfl
  rw [e1] at c1
  rw [e2] at c2
  exact ⟨(h.cell _).trans c1, (h.cell _).trans c2, (h.cell _).trans c3⟩
end Go.Proofs.YtkablhamnepfnaaDoor
namespace Go.Proofs.YtkablhamnepfnaaDoor
open Go.RowKit
theorem sbeq (a b : ByteArray) : (a.toList == b.toList) = decide (a = b) := by
  rw [Bool.eq_iff_iff, ← beq_toListBytes, MapKept.bytes_beq]; simp
set_option maxHeartbeats 4000000 in
theorem fsClos_any (r : SRow) (nm : ByteArray) (w : World) (q : Nat) (hq : Hx w q [.string nm] 9) : Calls Tryd.prog 12 #[.agg #[.string r.name, .int .i64 r.need, .int .i64 r.most, r.f], .pointer (some ⟨q, 0, none⟩)] w fun e w' => e = .returned (.bool (decide (r.name = nm))) ∧ w.grownBy w' none := by
  have hq_0 := hq.cell 0
  have hq_l := hq.lt
  have HG := G.refl w none
  have hb := Lib.hid (sbeq r.name nm)
  have hf1 : r.f.oneCell' = true := rfl
  have hf2 : r.f.cells = #[r.f] := rfl
  generalize r.f = f at *
  go_enter Tryd.func12, Tryd.ntmps12
  go_wp2_with fail
  go_ret
  exact ⟨ret_bool hb.out, (by exact G.go HG)⟩
/-- the place of a name in the table -/
def FindPost (R : List SRow) (nm : ByteArray) (w : World) (e : Ending) (w' : World) : Prop :=
  (e = .returned (.int .i64 (-1)) ∧ (∀ j (hj : j < R.length), R[j].name ≠ nm) ∧ w.grownBy w' none) ∨ (∃ i : Nat, ∃ hi : i < R.length, e = .returned (.int .i64 i) ∧ R[i].name = nm ∧ (∀ j (hj : j < R.length), j < i → R[j].name ≠ nm) ∧ w.grownBy w' none)
theorem frow_cells {R : List SRow} {w wr : World} {b o i : Nat} (h : ∀ i (hi : i < R.length) j u, (frowE.cells R[i])[j]? = some u → w.cell? ⟨b, o + i * frowE.k + j, none⟩ = some u) (hg : w.grownBy wr none) (hb : b < w.heap.size) (hi : i < R.length) :
    wr.cell? ⟨b, o + i * 4, none⟩ = some (.string R[i].name) ∧ wr.cell? ⟨b, o + i * 4 + 1, none⟩ = some (.int .i64 R[i].need) ∧ wr.cell? ⟨b, o + i * 4 + 2, none⟩ = some (.int .i64 R[i].most) ∧ wr.cell? ⟨b, o + i * 4 + 3, none⟩ = some R[i].f := by
  have c0 : w.cell? ⟨b, o + i * 4, none⟩ = some (.string R[i].name) := by have := h i hi 0 _ rfl; simpa [frowE] using this
  have c1 : w.cell? ⟨b, o + i * 4 + 1, none⟩ = some (.int .i64 R[i].need) := by have := h i hi 1 _ rfl; simpa [frowE] using this
  have c2 : w.cell? ⟨b, o + i * 4 + 2, none⟩ = some (.int .i64 R[i].most) := by have := h i hi 2 _ rfl; simpa [frowE] using this
  have c3 : w.cell? ⟨b, o + i * 4 + 3, none⟩ = some R[i].f := by have := h i hi 3 _ rfl; simpa [frowE] using this
  exact ⟨(G.cell hg (a := ⟨b, o + i * 4, none⟩) hb (by simp)).trans c0, (G.cell hg (a := ⟨b, o + i * 4 + 1, none⟩) hb (by simp)).trans c1, (G.cell hg (a := ⟨b, o + i * 4 + 2, none⟩) hb (by simp)).trans c2, (G.cell hg (a := ⟨b, o + i * 4 + 3, none⟩) hb (by simp)).trans c3⟩
set_option maxHeartbeats 8000000 in
theorem fsFind_any (R : List SRow) (v : Value) (nm : ByteArray) (w : World) (h : ERow frowE w v R) (q : Nat) (hq : Hx w q [.string nm] 9) :
    Calls Tryd.prog 11 #[v, .func (.func 12) #[] #[.pointer (some ⟨q, 0, none⟩)]] w fun e w' => FindPost R nm w e w' := by
  have hle := h.le
  unfold maxLen at hle
  have HG := G.refl w none
  have HQ := Lib.hid hq
  clear hq
  obtain ⟨A, c, rfl, q1, q2, q3⟩ := h
  have Q3 := Lib.hid q3; clear q3
  go_enter Tryd.func11, Tryd.ntmps11
  go_wp2_with fail
  go_loopw [5, 8] (fun _ iv wr => ∃ (i : Nat), iv = .int .i64 i ∧ i ≤ R.length ∧ Hid (∀ j (hj : j < R.length), j < i → R[j].name ≠ nm) ∧ w.grownBy wr none) (fun _ iv _ => R.length - (intOf iv).toNat)
  case atStart => exact ⟨0, rfl, by omega, Lib.hid (fun j _ h => by omega), HG⟩
  case round =>
    clear HG
    obtain ⟨i, rfl, hi, HV, HG⟩ := hrel
    by_cases hlt : i < R.length
    · obtain ⟨b, o, rfl, hbl, hc⟩ := Q3.out (by omega)
      obtain ⟨x0, x1, x2, x3⟩ := frow_cells hc HG hbl hlt
      have HK := Lib.hid (fun w h => fsClos_any R[i] nm w q h)
      have hstep : Hid (R[i].name ≠ nm → ∀ j (hj : j < R.length), j < i + 1 → R[j].name ≠ nm) := Lib.hid (fun hk j hj hji => by
        rcases Nat.lt_or_ge j i with g | g
        · exact HV.out j hj g
        · obtain rfl : j = i := by omega
          exact hk)
      have hname := Lib.hid (show R[i].name = R[i].name from rfl)
      have hf1 : R[i].f.oneCell' = true := rfl
      have hf2 : R[i].f.cells = #[R[i].f] := rfl
      clear hc
      generalize hx : R[i].name = xn at *
      generalize R[i].need = n1 at *
      generalize R[i].most = n2 at *
      generalize R[i].f = f at *
      by_cases hk : xn = nm
      · rw [decide_eq_true hk] at HK
        have hk2 := Lib.hid hk
        have hx2 := Lib.hid hx
        clear hstep hk hx hname
        go_wp2_with (go_at_call 12; (with_reducible refine (HK.out _ (HQ.out.kept HG (by simp))).mono ?_); rintro e wn ⟨rfl, hgn⟩; replace HG := G.trans (w := w) (by exact G.go HG) hgn; clear hgn)
        go_ret
        exact Or.inr ⟨i, hlt, rfl, by rw [hx2.out]; exact hk2.out, HV.out, HG⟩
      · rw [decide_eq_false hk] at HK
        have hs := Lib.hid (hstep.out hk)
        clear hstep hk hx HV hname
        go_wp2_with (go_at_call 12; (with_reducible refine (HK.out _ (HQ.out.kept HG (by simp))).mono ?_); rintro e wn ⟨rfl, hgn⟩; replace HG := G.trans (w := w) (by exact G.go HG) hgn; clear hgn)
        refine ⟨?_, by first | (simp [intOf]; done) | (simp [intOf]; omega)⟩
        exact ⟨i + 1, by go_num, by omega, hs, HG⟩
    · go_wp2_with fail
      go_ret
      exact Or.inl ⟨rfl, fun j hj => HV.out j hj (by omega), HG⟩
end Go.Proofs.YtkablhamnepfnaaDoor
