/-
  The walk of fmath.rows: sixteen functions, twelve of them behind a box. Printed by genfmrows.py.
-/
import Derived.Test.YtfomknfjidbdcaaGreatDoorFmNames
import Derived.Test.YtfomknfjidbdcaaGreatDoorElRow
import Derived.Test.YtfomknfjidbdcaaGreatDoorProg
import Derived.Test.YtfomknfjidbdcaaGreatDoorGrowBase
import Derived.Great.BuildSlice
import Derived.Deep.DeepCutAuto
import Derived.Deep.RegionHeld3
namespace Go.Proofs.YtfomknfjidbdcaaGreatDoor
open Go.RowKit
/-- a row of the table: a name, how few and how many args, a function value -/
structure FRow where
  name : ByteArray
  need : Nat
  most : Nat
  fn : Nat
  cap : Array Value
def FRow.f (r : FRow) : Value := .func (.func r.fn) #[] r.cap
def frowE : Elt FRow := { cells := fun r => [.string r.name, .int .i64 r.need, .int .i64 r.most, r.f], k := 4, zero := .agg #[.string ⟨#[]⟩, .int .i64 0, .int .i64 0, Value.nilFunc], bytes := 40, len := fun _ => rfl, one := fun _ u h => (by simp at h; rcases h with rfl | rfl | rfl | rfl <;> rfl), zc := rfl, pos := by omega, small := by omega }
def boxAt (p : Nat) : Array Value := #[.pointer (some ⟨p, 0, none⟩)]
/-- the table, its boxes at the places p -/
def fmRows (p : Nat → Nat) : List FRow := [
  ⟨fn0, 0, 0, 95, boxAt (p 0)⟩,
  ⟨fn1, 0, 0, 95, boxAt (p 1)⟩,
  ⟨fn2, 0, 0, 48, #[]⟩,
  ⟨fn3, 0, 0, 95, boxAt (p 3)⟩,
  ⟨fn4, 0, 0, 95, boxAt (p 4)⟩,
  ⟨fn5, 1, 1, 95, boxAt (p 5)⟩,
  ⟨fn6, 0, 0, 95, boxAt (p 6)⟩,
  ⟨fn7, 1, 1, 95, boxAt (p 7)⟩,
  ⟨fn8, 1, 1, 57, #[]⟩,
  ⟨fn9, 1, 1, 58, #[]⟩,
  ⟨fn10, 1, 1, 95, boxAt (p 10)⟩,
  ⟨fn11, 1, 1, 95, boxAt (p 11)⟩,
  ⟨fn12, 1, 1, 95, boxAt (p 12)⟩,
  ⟨fn13, 0, 0, 95, boxAt (p 13)⟩,
  ⟨fn14, 0, 0, 95, boxAt (p 14)⟩,
  ⟨fn15, 0, 1, 66, #[]⟩]
def fmFn (i : Nat) : Nat := match i with
  | 0 => 45
  | 1 => 47
  | 2 => 48
  | 3 => 49
  | 4 => 50
  | 5 => 53
  | 6 => 55
  | 7 => 56
  | 8 => 57
  | 9 => 58
  | 10 => 59
  | 11 => 60
  | 12 => 62
  | 13 => 63
  | 14 => 64
  | 15 => 66
  | _ => 0
def fmKn (i : Nat) : Bool := match i with | 2 => false | 8 => false | 9 => false | 15 => false | _ => true
def fnV (f : Nat) : Value := .func (.func f) #[] #[]
theorem known19_any (f : Nat) (w : World) : Calls Tryz.prog 44 #[.func (.func f) #[] #[]] w fun e w' => ∃ p, e = .returned (.func (.func 95) #[] #[.pointer (some ⟨p, 0, none⟩)]) ∧ Hx w' p [fnV f] 43 ∧ w.grownBy w' none := by
  go_enter Tryz.func44, Tryz.ntmps44
  go_wp2_with fail
  go_ret
  exact ⟨w.heap.size, rfl, Hx.new _ _ _, (by have hb0 := (G.refl w none); (repeat first | with_reducible exact hb0 | with_reducible refine G.drewN ?_ _ | with_reducible refine G.drew ?_ | with_reducible refine G.alloc ?_ _ | with_reducible refine G.set ?_ _ (Or.inr rfl) | (with_reducible refine G.set ?_ _ (Or.inl ?_); rotate_left; focus (first | omega | (simp; done) | (simp; omega)))))⟩
/-- a region without guards does not look at its own operations -/
theorem wp_region_gen {P : Program} {id : Nat} {l : List Oper} {Q : Exit → Act → World → Prop} {a : Act} {w : World} (h : ∀ ops : Array Oper, wpList P ops Q l a w) : (Code.region id l.toArray false).wp P Q a w := wp_region_lit (h _)
theorem wpList_buildRow {P : Program} {ops : Array Oper} {rest : List Oper} {o : Oper} {a : Act} {w : World} {Q : Exit → Act → World → Prop} (hg : o.guard = none) (t e : TypeId) (len : Nat) (parts : Array (Nat × Operand)) (ho : o.op = .buildSlice t len parts)
    (cells : List Value) (z : Value) (k : Nat) (hu : P.underlying t = some (.slice e)) (hE : (P.info? e).map (fun i => (i.zero, i.size)) = some (some z, k)) (hsmall : ¬ len * k > 2 ^ 24) (hpos : ¬ len * k = 0)
    (hf : Instr.fill (fun i => some (i * k, k)) ((Array.range (len * k)).map (z.cells[· % z.cells.size]!)) (parts.map fun (i, x) => (i, a.eval x)).toList = some cells.toArray)
    (h : wpList P ops Q rest (a.put o.dst (.slice (some ⟨w.heap.size, 0, none⟩) len len)) (w.alloc (.cells cells.toArray e))) : wpList P ops Q (o :: rest) a w := by
  cases hie : P.info? e with
  | none => simp [hie] at hE
  | some ie =>
    simp only [hie, Option.map_some, Option.some.injEq, Prod.mk.injEq] at hE
    obtain ⟨h1, rfl⟩ := hE
    exact wpList_buildSlice hg t e len parts ho _ ie z hu hie h1 hsmall hpos hf h
def fmBoxes (w : World) (p : Nat → Nat) : Prop := ∀ i, i < 16 → fmKn i = true → Hx w (p i) [fnV (fmFn i)] 43
theorem fmBoxes.kept {w w' : World} {p : Nat → Nat} (h : fmBoxes w p) (hg : w.grownBy w' none) : fmBoxes w' p := fun i hi hk => (h i hi hk).kept hg (by simp)
def fmPl (p0 p1 p3 p4 p5 p6 p7 p10 p11 p12 p13 p14 : Nat) : Nat → Nat := fun i => match i with | 0 => p0 | 1 => p1 | 3 => p3 | 4 => p4 | 5 => p5 | 6 => p6 | 7 => p7 | 10 => p10 | 11 => p11 | 12 => p12 | 13 => p13 | 14 => p14 | _ => 0
def FmRowsPost (w : World) (e : Ending) (w' : World) : Prop := ∃ b p, e = .returned (.slice (some ⟨b, 0, none⟩) 16 16) ∧ Hx w' b ((fmRows p).flatMap frowE.cells) 45 ∧ fmBoxes w' p ∧ w.grownBy w' none
set_option maxHeartbeats 8000000 in
set_option maxRecDepth 100000 in
theorem fmRows_any (w : World) : Calls Tryz.prog 29 #[] w fun e w' => FmRowsPost w e w' := by
  have HG := G.refl w none
  go_enter Tryz.func29, Tryz.ntmps29
  go_upto_region 1 with (fail)
  refine wp_region_gen (fun ops => ?_)
  go_wp2_with (first | (go_at_call 44; (with_reducible refine (known19_any 45 _).mono ?_); rintro e wn ⟨p0, rfl, h0, hgn⟩; replace HG := G.trans (w := w) HG hgn; clear hgn) | (go_at_call 44; (with_reducible refine (known19_any 47 _).mono ?_); rintro e wn ⟨p1, rfl, h1, hgn⟩; replace h0 := Hx.kept h0 hgn (by simp); replace HG := G.trans (w := w) HG hgn; clear hgn) | (go_at_call 44; (with_reducible refine (known19_any 49 _).mono ?_); rintro e wn ⟨p3, rfl, h3, hgn⟩; replace h0 := Hx.kept h0 hgn (by simp); replace h1 := Hx.kept h1 hgn (by simp); replace HG := G.trans (w := w) HG hgn; clear hgn) | (go_at_call 44; (with_reducible refine (known19_any 50 _).mono ?_); rintro e wn ⟨p4, rfl, h4, hgn⟩; replace h0 := Hx.kept h0 hgn (by simp); replace h1 := Hx.kept h1 hgn (by simp); replace h3 := Hx.kept h3 hgn (by simp); replace HG := G.trans (w := w) HG hgn; clear hgn) | (go_at_call 44; (with_reducible refine (known19_any 53 _).mono ?_); rintro e wn ⟨p5, rfl, h5, hgn⟩; replace h0 := Hx.kept h0 hgn (by simp); replace h1 := Hx.kept h1 hgn (by simp); replace h3 := Hx.kept h3 hgn (by simp); replace h4 := Hx.kept h4 hgn (by simp); replace HG := G.trans (w := w) HG hgn; clear hgn) | (go_at_call 44; (with_reducible refine (known19_any 55 _).mono ?_); rintro e wn ⟨p6, rfl, h6, hgn⟩; replace h0 := Hx.kept h0 hgn (by simp); replace h1 := Hx.kept h1 hgn (by simp); replace h3 := Hx.kept h3 hgn (by simp); replace h4 := Hx.kept h4 hgn (by simp); replace h5 := Hx.kept h5 hgn (by simp); replace HG := G.trans (w := w) HG hgn; clear hgn) | (go_at_call 44; (with_reducible refine (known19_any 56 _).mono ?_); rintro e wn ⟨p7, rfl, h7, hgn⟩; replace h0 := Hx.kept h0 hgn (by simp); replace h1 := Hx.kept h1 hgn (by simp); replace h3 := Hx.kept h3 hgn (by simp); replace h4 := Hx.kept h4 hgn (by simp); replace h5 := Hx.kept h5 hgn (by simp); replace h6 := Hx.kept h6 hgn (by simp); replace HG := G.trans (w := w) HG hgn; clear hgn) | (go_at_call 44; (with_reducible refine (known19_any 59 _).mono ?_); rintro e wn ⟨p10, rfl, h10, hgn⟩; replace h0 := Hx.kept h0 hgn (by simp); replace h1 := Hx.kept h1 hgn (by simp); replace h3 := Hx.kept h3 hgn (by simp); replace h4 := Hx.kept h4 hgn (by simp); replace h5 := Hx.kept h5 hgn (by simp); replace h6 := Hx.kept h6 hgn (by simp); replace h7 := Hx.kept h7 hgn (by simp); replace HG := G.trans (w := w) HG hgn; clear hgn) | (go_at_call 44; (with_reducible refine (known19_any 60 _).mono ?_); rintro e wn ⟨p11, rfl, h11, hgn⟩; replace h0 := Hx.kept h0 hgn (by simp); replace h1 := Hx.kept h1 hgn (by simp); replace h3 := Hx.kept h3 hgn (by simp); replace h4 := Hx.kept h4 hgn (by simp); replace h5 := Hx.kept h5 hgn (by simp); replace h6 := Hx.kept h6 hgn (by simp); replace h7 := Hx.kept h7 hgn (by simp); replace h10 := Hx.kept h10 hgn (by simp); replace HG := G.trans (w := w) HG hgn; clear hgn) | (go_at_call 44; (with_reducible refine (known19_any 62 _).mono ?_); rintro e wn ⟨p12, rfl, h12, hgn⟩; replace h0 := Hx.kept h0 hgn (by simp); replace h1 := Hx.kept h1 hgn (by simp); replace h3 := Hx.kept h3 hgn (by simp); replace h4 := Hx.kept h4 hgn (by simp); replace h5 := Hx.kept h5 hgn (by simp); replace h6 := Hx.kept h6 hgn (by simp); replace h7 := Hx.kept h7 hgn (by simp); replace h10 := Hx.kept h10 hgn (by simp); replace h11 := Hx.kept h11 hgn (by simp); replace HG := G.trans (w := w) HG hgn; clear hgn) | (go_at_call 44; (with_reducible refine (known19_any 63 _).mono ?_); rintro e wn ⟨p13, rfl, h13, hgn⟩; replace h0 := Hx.kept h0 hgn (by simp); replace h1 := Hx.kept h1 hgn (by simp); replace h3 := Hx.kept h3 hgn (by simp); replace h4 := Hx.kept h4 hgn (by simp); replace h5 := Hx.kept h5 hgn (by simp); replace h6 := Hx.kept h6 hgn (by simp); replace h7 := Hx.kept h7 hgn (by simp); replace h10 := Hx.kept h10 hgn (by simp); replace h11 := Hx.kept h11 hgn (by simp); replace h12 := Hx.kept h12 hgn (by simp); replace HG := G.trans (w := w) HG hgn; clear hgn) | (go_at_call 44; (with_reducible refine (known19_any 64 _).mono ?_); rintro e wn ⟨p14, rfl, h14, hgn⟩; replace h0 := Hx.kept h0 hgn (by simp); replace h1 := Hx.kept h1 hgn (by simp); replace h3 := Hx.kept h3 hgn (by simp); replace h4 := Hx.kept h4 hgn (by simp); replace h5 := Hx.kept h5 hgn (by simp); replace h6 := Hx.kept h6 hgn (by simp); replace h7 := Hx.kept h7 hgn (by simp); replace h10 := Hx.kept h10 hgn (by simp); replace h11 := Hx.kept h11 hgn (by simp); replace h12 := Hx.kept h12 hgn (by simp); replace h13 := Hx.kept h13 hgn (by simp); replace HG := G.trans (w := w) HG hgn; clear hgn) | (refine wpList_buildRow rfl 40 45 16 _ rfl ((fmRows (fmPl p0 p1 p3 p4 p5 p6 p7 p10 p11 p12 p13 p14)).flatMap frowE.cells) frowE.zero 4 Tryz.underlying40 (by kernel_rfl) (by decide) (by decide) (by kernel_rfl) ?_))
  go_ret
  refine ⟨_, fmPl p0 p1 p3 p4 p5 p6 p7 p10 p11 p12 p13 p14, rfl, ?_, ?_, (by exact G.go HG)⟩
  · exact Hx.new _ _ _
  · intro i hi hk
    match i, hi, hk with
    | 0, _, _ => exact Hx.alloc h0 _
    | 1, _, _ => exact Hx.alloc h1 _
    | 3, _, _ => exact Hx.alloc h3 _
    | 4, _, _ => exact Hx.alloc h4 _
    | 5, _, _ => exact Hx.alloc h5 _
    | 6, _, _ => exact Hx.alloc h6 _
    | 7, _, _ => exact Hx.alloc h7 _
    | 10, _, _ => exact Hx.alloc h10 _
    | 11, _, _ => exact Hx.alloc h11 _
    | 12, _, _ => exact Hx.alloc h12 _
    | 13, _, _ => exact Hx.alloc h13 _
    | 14, _, _ => exact Hx.alloc h14 _
    | 2, _, hk => exact absurd hk (by decide)
    | 8, _, hk => exact absurd hk (by decide)
    | 9, _, hk => exact absurd hk (by decide)
    | 15, _, hk => exact absurd hk (by decide)
    | n + 16, hi, _ => omega
end Go.Proofs.YtfomknfjidbdcaaGreatDoor
