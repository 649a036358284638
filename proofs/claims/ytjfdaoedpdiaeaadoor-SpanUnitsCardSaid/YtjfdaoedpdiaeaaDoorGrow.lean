/-
  A region that draws its order and whose callees only lay new blocks: one walk of the order of the text serves every order. No program is named here.
-/
import Derived.Test.YtjfdaoedpdiaeaaDoorAid
import Derived.Deep.QuietTactic
namespace Go.Proofs.YtjfdaoedpdiaeaaDoor
open Go.RowKit
/-- a world behind this one, with nothing but new blocks -/
def GrowW (w0 : World) : Type := { w' : World // w0.grownBy w' none }
instance (w0 : World) : Nonempty (GrowW w0) := ⟨⟨w0, G.refl w0 none⟩⟩
theorem GrowW.cell {w0 : World} (x : GrowW w0) {a : Addr} (ha : a.block < w0.heap.size) : x.1.cell? a = w0.cell? a := G.cell x.2 ha (by simp)
theorem wp_region_grow {P : Program} {id : Nat} {Q : Exit → Act → World → Prop} {a : Act} {w0 w : World} {l : List Oper} (hg : w0.grownBy w none) (hm : P.follows .mixedOrders = true) (hB : Region.lexB .any l.toArray = true)
    (h : wpQuiet P l.toArray (fun w' => ∃ x : GrowW w0, w' = x.1) (fun a' => ∀ w', w0.grownBy w' none → Q .normal a' w') l a) : (Code.region id l.toArray true).wp P Q a w := by
  refine wp_region_quiet (C := fun w' => ∃ x : GrowW w0, w' = x.1) hm hB ⟨⟨_, G.drew hg⟩, rfl⟩ ?_
  have e : (fun a' => ∀ w', w0.grownBy w' none → Q .normal a' w') = (fun a' => ∀ w', (∃ x : GrowW w0, w' = x.1) → Q .normal a' w') := by
    funext a'
    apply propext
    exact ⟨fun k w' ⟨x, hx⟩ => k w' (hx ▸ x.2), fun k w' hw => k w' ⟨⟨w', hw⟩, rfl⟩⟩
  rw [e] at h
  simpa using h
theorem grow_of {P : Program} {f : FuncId} {args : Array Value} {w0 : World} {x : GrowW w0} {v : Value} (h : Calls P f args x.1 fun e w' => e = .returned v ∧ x.1.grownBy w' none) :
    Calls P f args x.1 fun e w'' => e = .returned v ∧ ∃ y : GrowW w0, w'' = y.1 :=
  h.mono fun _ w' ⟨he, hg⟩ => ⟨he, ⟨w', G.trans x.2 hg⟩, rfl⟩
theorem grow_same {P : Program} {f : FuncId} {args : Array Value} {w0 : World} {x : GrowW w0} {v : Value} (h : Calls P f args x.1 fun e w' => e = .returned v ∧ x.1 = w') :
    Calls P f args x.1 fun e w'' => e = .returned v ∧ ∃ y : GrowW w0, w'' = y.1 :=
  h.mono fun _ _ ⟨he, hw⟩ => ⟨he, x, hw.symm⟩
end Go.Proofs.YtjfdaoedpdiaeaaDoor
