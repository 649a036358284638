/-
  The law TreeSettles holds: any text that is parsed, printed and parsed again is the same node, and prints as the same text . For every input; the package-level tables that the row lists start as the program's text lays them (the card ties them).
-/
import Derived.Test.YtiakgjijlhfneaaGreatDoorCards
import Derived.Test.YtiakgjijlhfneaaGreatDoorTie
import Derived.Test.YtiakgjijlhfneaaGreatDoorTreeLawC
import Derived.Test.YtiakgjijlhfneaaGreatDoorLawPost
import Derived.Test.YtiakgjijlhfneaaGreatDoorCardAidP
import Derived.Test.YtiakgjijlhfneaaGreatDoorCardBigTrz
import Derived.WalkKit
import Derived.ProofKit
import Derived.OpenShut
import Derived.ShutString
import Derived.Deep.DeepHandedRow
import Derived.Lay
namespace Go.Proofs.YtiakgjijlhfneaaGreatDoor.treeSettles
open Go.ChangeShapes Go.WideShapes Go.ChangeAt Go.RowKit

set_option maxRecDepth 100000 in
theorem contract (H : Type) (enc : TypeId × Value → H) (W : World) (base : Nat) (args : Array Value) (ds gs : List (DataW H)) (before : List MemPlace)
    (hval : ∀ (j : Nat) t v, Tryz.f5.params[j]? = some t → args[j]? = some v → Value.okWide Tryz.prog W .any base t v)
    (hW : DataW.Whole enc Tryz.prog Tryz.f5.params.toList Rows.treeSettlesSpec.vars false W args.toList ds gs before) (hL : laidMetH Tryz.prog Rows.treeSettlesRow.laid W) (_hsh : W.ShapedOpen Tryz.prog) :
    Calls Tryz.prog 5 args W fun e W' => ∃ v, e = .returned v ∧ Rows.treeSettlesSpec.post enc Tryz.prog Tryz.f5 false true false false W args v W' := by
  have hpost : ∀ W', W.grownBy W' none → Rows.treeSettlesSpec.post enc Tryz.prog Tryz.f5 false true false false W args (.bool true) W' := fun W' hg =>
    post_law (tb := 4) laidOut mapsFine slicesFull (by rw [Tryz.params5]; decide +kernel) rfl (by kernel_rfl) Tryz.underlying4 hW (by
      obtain ⟨p, q, hA, hV, _, _, _⟩ := hW
      rw [Tryz.params5] at hA
      intro hgs
      subst hgs
      obtain ⟨_, _, _, _, _, _, _, rfl, _, _, r0⟩ := trodAll_cons hA
      obtain ⟨_, rfl, _⟩ := trodAll_nil r0
      exact ⟨rfl, rfl, rfl⟩) hg
  obtain ⟨p, q, hA, hV, rfl, _, _⟩ := hW
  rw [Tryz.params5] at hA hval
  obtain ⟨v0, vs0, d0, ds0, p0, q0, hargs, rfl, rfl, h0, r0⟩ := trodAll_cons hA
  obtain ⟨rfl, rfl, rfl⟩ := trodAll_nil r0
  obtain rfl : args = #[v0] := by cases args; simp_all
  obtain ⟨a0, rfl, rfl, rfl, -⟩ := Go.ChangeMaps.open_string Tryz.underlying9 (hval 0 9 v0 rfl rfl) h0
  refine (treeSettlesLaw a0 W  (pow10_of hL (by kernel_rfl))).mono fun e W' h => ?_
  obtain ⟨he, hg⟩ := h
  subst he
  exact ⟨_, rfl, hpost W' hg⟩

theorem laid_met (os : Os) : laidMet Tryz.prog Rows.treeSettlesRow.laid ((World.laidAll Tryz.prog os Rows.treeSettlesRow.laid).forCall (fun _ _ => 0) ⟨#[], #[.string ByteArray.empty], []⟩).memory :=
  laidMet_laidAll _ (by kernel_rfl) (by kernel_rfl)
theorem reads (os : Os) {H : Type} (enc : TypeId × Value → H) : ∃ places, DataW.whole enc Tryz.prog ((World.laidAll Tryz.prog os Rows.treeSettlesRow.laid).forCall (fun _ _ => 0) ⟨#[], #[.string ByteArray.empty], []⟩).memory Tryz.f5.params.toList Rows.treeSettlesSpec.vars false (#[.string ByteArray.empty] : Array Value).toList 8 = some ([.lit (.string [])], [], places) :=
  ⟨[], by kernel_rfl⟩

set_option maxRecDepth 100000 in
theorem lifted (os : Os) (started : os.Started) (H : Type) (enc : TypeId × Value → H) (F : Stop.Interp) :
    ReturnsInHanded {} Tryz.checked os 5 .any ((OpenSpec.ofChange Rows.treeSettlesSpec).preRow enc Tryz.prog Tryz.f5 Rows.treeSettlesRow.domain false Rows.treeSettlesRow.laid) (((OpenSpec.ofChange Rows.treeSettlesSpec).at F).post enc Tryz.prog Tryz.f5 false true false false) := by
  obtain ⟨places, hx⟩ := reads os enc
  refine returnsInHanded_of_row (C := Tryz.checked) (s := (OpenSpec.ofChange Rows.treeSettlesSpec)) own started (by kernel_rfl) Tryz.func5
    (witness_row_at (enc := enc) (C := Tryz.checked) false (World.laidAll Tryz.prog os Rows.treeSettlesRow.laid) #[.string ByteArray.empty] (World.laidAll_os _ _ _) (by kernel_rfl) (by kernel_rfl) (by kernel_rfl)
      (OpenSpec.preRow_of_cond 8 hx (by kernel_rfl) (fun k hk => by cases hk) (by kernel_rfl) (laid_met os))) ?_
  intro W base args ds gs before hval hW _ _ _ hL hsh _
  exact contract H enc W base args ds gs before hval hW hL hsh

set_option maxRecDepth 100000 in
theorem joined : joinedFacts Tryz.prog 5 Tryz.f5 Rows.treeSettlesSpec Rows.treeSettlesRow = true := by
  unfold joinedFacts
  with_reducible refine and_t (and_t (and_t (and_t (and_t (and_t (and_t (and_t (and_t (and_t (and_t (and_t (and_t (and_t (and_t (and_t (and_t (and_t (and_t (and_t (and_t (and_t (and_t (and_t (and_t (and_t (and_t (and_t (and_t (and_t (and_t ?f0 ?f1) ?f2) ?f3) ?f4) ?f5) ?f6) ?f7) ?f8) ?f9) ?f10) ?f11) ?f12) ?f13) ?f14) ?f15) ?f16) ?f17) ?f18) ?f19) ?f20) ?f21) ?f22) ?f23) ?f24) ?f25) ?f26) ?f27) ?f28) ?f29) ?f30) ?f31
  case f25 => exact big_mayEnter
  case f26 => exact big_lifts
  case f27 => exact big_make
  all_goals kernel_rfl
set_option maxRecDepth 100000 in
theorem said : Rows.TreeSettlesSaid :=
  OpenClaim.holds_of_cond 5 Tryz.f5 rfl rfl rfl rfl rfl rfl rfl ⟨rfl, rfl, rfl, rfl, rfl⟩ rfl rfl rfl rfl rfl (by kernel_rfl) Tryz.func5 joined
    (of_decide_eq_true (by kernel_rfl)) (by unfold Func.isWrapper; first | (rw [if_pos (by decide +kernel)]; kernel_rfl) | (rw [if_neg (by decide +kernel)]; exact ⟨rfl, rfl⟩))
    (fun os started H enc _ F => by rw [OpenClaim.pre_eq_preRow]; exact lifted os started H enc F)

theorem plain (f : FuncId) (fn : Func) (hf : Tryz.pinned.checked.prog.funcNamed "graticule/graticulelaw15.TreeSettles" = some f) (hfn : Tryz.pinned.checked.prog.funcs[f]? = some fn) :
    false = Tryz.pinned.checked.prog.looks [] ∧ ∀ (j : Nat) t, fn.params[j]? = some t → Tryz.pinned.checked.prog.wantsStandIn t = false := by
  obtain rfl : f = 5 := Option.some.inj ((show Tryz.prog.funcNamed "graticule/graticulelaw15.TreeSettles" = some 5 by kernel_rfl).symm.trans hf) |>.symm
  obtain rfl : fn = Tryz.f5 := (Option.some.inj (Tryz.func5.symm.trans hfn)).symm
  refine ⟨by kernel_rfl, fun j t ht => ?_⟩
  have hall : (Tryz.f5.params.toList.all fun t => !Tryz.prog.wantsStandIn t) = true := by kernel_rfl
  have := List.all_eq_true.1 hall t (Array.mem_toList_iff.2 (Array.mem_of_getElem? ht))
  exact (by simpa using this : Tryz.prog.wantsStandIn t = false)

theorem proved : Rows.TreeSettlesCardSaid :=
  Claim7.holds_tied_plain_at .later [] _ _ _ _ said (fun _ h => by cases h) (by kernel_rfl) (fun _ h => by cases h) treeSettles_row_tie rfl ⟨rfl, rfl⟩ big_main rfl plain (by kernel_rfl)
#print axioms proved
end Go.Proofs.YtiakgjijlhfneaaGreatDoor.treeSettles
