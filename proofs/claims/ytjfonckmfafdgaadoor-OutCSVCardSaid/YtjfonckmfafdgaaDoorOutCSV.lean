/-
  The law OutCSV holds: any series as lines of a table . For every input; the package-level tables that the row lists start as the program's text lays them (the card ties them).
-/
import Derived.Test.YtjfonckmfafdgaaDoorCards
import Derived.Test.YtjfonckmfafdgaaDoorTie
import Derived.Test.YtjfonckmfafdgaaDoorOutCSVL
import Derived.Test.YtjfonckmfafdgaaDoorLawPost
import Derived.Test.YtjfonckmfafdgaaDoorCardAidP
import Derived.Test.YtjfonckmfafdgaaDoorCardBigOut
import Derived.Test.YtjfonckmfafdgaaDoorOutOpen
import Derived.WalkKit
import Derived.ProofKit
import Derived.OpenShut
import Derived.ShutString
import Derived.Deep.DeepHandedRow
import Derived.Lay
namespace Go.Proofs.YtjfonckmfafdgaaDoor.outCSV
open Go.ChangeShapes Go.WideShapes Go.ChangeAt Go.RowKit

set_option maxRecDepth 100000 in
theorem contract (H : Type) (enc : TypeId × Value → H) (W : World) (base : Nat) (args : Array Value) (ds gs : List (DataW H)) (before : List MemPlace)
    (hval : ∀ (j : Nat) t v, Tryd.f7.params[j]? = some t → args[j]? = some v → Value.okWide Tryd.prog W .any base t v)
    (hW : DataW.Whole enc Tryd.prog Tryd.f7.params.toList Rows.outCSVSpec.vars false W args.toList ds gs before) (hL : laidMetH Tryd.prog Rows.outCSVRow.laid W) (hsh : W.ShapedOpen Tryd.prog) :
    Calls Tryd.prog 7 args W fun e W' => ∃ v, e = .returned v ∧ Rows.outCSVSpec.post enc Tryd.prog Tryd.f7 false true false false W args v W' := by
  have hpost : ∀ W', W.grownBy W' none → Rows.outCSVSpec.post enc Tryd.prog Tryd.f7 false true false false W args (.bool true) W' := fun W' hg =>
    post_law (tb := 4) laidOut mapsFine slicesFull (by rw [Tryd.params7]; decide +kernel) rfl (by kernel_rfl) Tryd.underlying4 hW (by
      obtain ⟨p, q, hA, hV, _, _, _⟩ := hW
      rw [Tryd.params7] at hA
      intro hgs
      subst hgs
      obtain ⟨_, _, _, _, _, _, _, rfl, _, _, r0⟩ := trodAll_cons hA
      obtain ⟨_, rfl, _⟩ := trodAll_nil r0
      exact ⟨rfl, rfl, rfl⟩) hg
  obtain ⟨p, q, hA, hV, rfl, _, _⟩ := hW
  rw [Tryd.params7] at hA hval
  obtain ⟨v0, vs0, d0, ds0, p0, q0, hargs, rfl, rfl, h0, r0⟩ := trodAll_cons hA
  obtain ⟨rfl, rfl, rfl⟩ := trodAll_nil r0
  obtain rfl : args = #[v0] := by cases args; simp_all
  obtain ⟨X0, x0⟩ := open_sers Tryd.underlying22 Tryd.underlying29 (by kernel_rfl) (by kernel_rfl) Tryd.underlying9 Tryd.underlying3 Tryd.underlying3 rfl Tryd.underlying3 Tryd.underlying27 Tryd.underlying33 (by kernel_rfl) rfl rfl (by kernel_rfl) (by kernel_rfl) Tryd.underlying4 Tryd.underlying3 (hval 0 22 v0 rfl rfl) h0
  refine (outCSVLaw v0 X0 W x0 (maxLen_of hsh) (pow10_of hL (by kernel_rfl))).mono fun e W' h => ?_
  obtain ⟨he, hg⟩ := h
  subst he
  exact ⟨_, rfl, hpost W' hg⟩

theorem laid_met (os : Os) : laidMet Tryd.prog Rows.outCSVRow.laid ((World.laidAll Tryd.prog os Rows.outCSVRow.laid).forCall (fun _ _ => 0) ⟨#[], #[.slice none 0 0], []⟩).memory :=
  laidMet_laidAll _ (by kernel_rfl) (by kernel_rfl)
theorem reads (os : Os) {H : Type} (enc : TypeId × Value → H) : ∃ places, DataW.whole enc Tryd.prog ((World.laidAll Tryd.prog os Rows.outCSVRow.laid).forCall (fun _ _ => 0) ⟨#[], #[.slice none 0 0], []⟩).memory Tryd.f7.params.toList Rows.outCSVSpec.vars false (#[.slice none 0 0] : Array Value).toList 8 = some ([.nil], [], places) :=
  ⟨[], by kernel_rfl⟩

set_option maxRecDepth 100000 in
theorem lifted (os : Os) (started : os.Started) (H : Type) (enc : TypeId × Value → H) (F : Stop.Interp) :
    ReturnsInHanded {} Tryd.checked os 7 .any ((OpenSpec.ofChange Rows.outCSVSpec).preRow enc Tryd.prog Tryd.f7 Rows.outCSVRow.domain false Rows.outCSVRow.laid) (((OpenSpec.ofChange Rows.outCSVSpec).at F).post enc Tryd.prog Tryd.f7 false true false false) := by
  obtain ⟨places, hx⟩ := reads os enc
  refine returnsInHanded_of_row (C := Tryd.checked) (s := (OpenSpec.ofChange Rows.outCSVSpec)) own started (by kernel_rfl) Tryd.func7
    (witness_row_at (enc := enc) (C := Tryd.checked) false (World.laidAll Tryd.prog os Rows.outCSVRow.laid) #[.slice none 0 0] (World.laidAll_os _ _ _) (by kernel_rfl) (by kernel_rfl) (by kernel_rfl)
      (OpenSpec.preRow_of_cond 8 hx (by kernel_rfl) (fun k hk => by cases hk) (by kernel_rfl) (laid_met os))) ?_
  intro W base args ds gs before hval hW _ _ _ hL hsh _
  exact contract H enc W base args ds gs before hval hW hL hsh

set_option maxRecDepth 100000 in
theorem joined : joinedFacts Tryd.prog 7 Tryd.f7 Rows.outCSVSpec Rows.outCSVRow = true := by
  unfold joinedFacts
  with_reducible refine and_t (and_t (and_t (and_t (and_t (and_t (and_t (and_t (and_t (and_t (and_t (and_t (and_t (and_t (and_t (and_t (and_t (and_t (and_t (and_t (and_t (and_t (and_t (and_t (and_t (and_t (and_t (and_t (and_t (and_t (and_t ?f0 ?f1) ?f2) ?f3) ?f4) ?f5) ?f6) ?f7) ?f8) ?f9) ?f10) ?f11) ?f12) ?f13) ?f14) ?f15) ?f16) ?f17) ?f18) ?f19) ?f20) ?f21) ?f22) ?f23) ?f24) ?f25) ?f26) ?f27) ?f28) ?f29) ?f30) ?f31
  case f25 => exact big_mayEnter
  case f26 => exact big_lifts
  case f27 => exact big_make
  all_goals kernel_rfl
set_option maxRecDepth 100000 in
theorem said : Rows.OutCSVSaid :=
  OpenClaim.holds_of_cond 7 Tryd.f7 rfl rfl rfl rfl rfl rfl rfl ⟨rfl, rfl, rfl, rfl, rfl⟩ rfl rfl rfl rfl rfl (by kernel_rfl) Tryd.func7 joined
    (of_decide_eq_true (by kernel_rfl)) (by unfold Func.isWrapper; first | (rw [if_pos (by decide +kernel)]; kernel_rfl) | (rw [if_neg (by decide +kernel)]; exact ⟨rfl, rfl⟩))
    (fun os started H enc _ F => by rw [OpenClaim.pre_eq_preRow]; exact lifted os started H enc F)

theorem plain (f : FuncId) (fn : Func) (hf : Tryd.pinned.checked.prog.funcNamed "graticule/graticulelaw28.OutCSV" = some f) (hfn : Tryd.pinned.checked.prog.funcs[f]? = some fn) :
    false = Tryd.pinned.checked.prog.looks [] ∧ ∀ (j : Nat) t, fn.params[j]? = some t → Tryd.pinned.checked.prog.wantsStandIn t = false := by
  obtain rfl : f = 7 := Option.some.inj ((show Tryd.prog.funcNamed "graticule/graticulelaw28.OutCSV" = some 7 by kernel_rfl).symm.trans hf) |>.symm
  obtain rfl : fn = Tryd.f7 := (Option.some.inj (Tryd.func7.symm.trans hfn)).symm
  refine ⟨by kernel_rfl, fun j t ht => ?_⟩
  have hall : (Tryd.f7.params.toList.all fun t => !Tryd.prog.wantsStandIn t) = true := by kernel_rfl
  have := List.all_eq_true.1 hall t (Array.mem_toList_iff.2 (Array.mem_of_getElem? ht))
  exact (by simpa using this : Tryd.prog.wantsStandIn t = false)

theorem proved : Rows.OutCSVCardSaid :=
  Claim7.holds_tied_plain_at .later [] _ _ _ _ said (fun _ h => by cases h) (by kernel_rfl) (fun _ h => by cases h) outCSV_row_tie rfl ⟨rfl, rfl⟩ big_main rfl plain (by kernel_rfl)
#print axioms proved
end Go.Proofs.YtjfonckmfafdgaaDoor.outCSV
