/-
  The law FstepKeepLastValue holds: of any series the last value where there is none, with and without an argument . For every input; the package-level tables that the row lists start as the program's text lays them (the card ties them).
-/
import Derived.Test.YtkablhamnepfnaaGreatDoorCards
import Derived.Test.YtkablhamnepfnaaGreatDoorTie
import Derived.Test.YtkablhamnepfnaaGreatDoorFsLaws
import Derived.Test.YtkablhamnepfnaaGreatDoorLawPost
import Derived.Test.YtkablhamnepfnaaGreatDoorCardAidP
import Derived.Test.YtkablhamnepfnaaGreatDoorCardBigFst
import Derived.Test.YtkablhamnepfnaaGreatDoorSerOpen
import Derived.WalkKit
import Derived.ProofKit
import Derived.OpenShut
import Derived.ShutString
import Derived.Deep.DeepHandedRow
import Derived.Lay
namespace Go.Proofs.YtkablhamnepfnaaGreatDoor.fstepKeepLastValue
open Go.ChangeShapes Go.WideShapes Go.ChangeAt Go.RowKit

set_option maxRecDepth 100000 in
theorem contract (H : Type) (enc : TypeId × Value → H) (W : World) (base : Nat) (args : Array Value) (ds gs : List (DataW H)) (before : List MemPlace)
    (hval : ∀ (j : Nat) t v, Tryz.f8.params[j]? = some t → args[j]? = some v → Value.okWide Tryz.prog W .any base t v)
    (hW : DataW.Whole enc Tryz.prog Tryz.f8.params.toList Rows.fstepKeepLastValueSpec.vars false W args.toList ds gs before) (hL : laidMetH Tryz.prog Rows.fstepKeepLastValueRow.laid W) (_hsh : W.ShapedOpen Tryz.prog) :
    Calls Tryz.prog 8 args W fun e W' => ∃ v, e = .returned v ∧ Rows.fstepKeepLastValueSpec.post enc Tryz.prog Tryz.f8 false true false false W args v W' := by
  have hpost : ∀ W', W.grownBy W' none → Rows.fstepKeepLastValueSpec.post enc Tryz.prog Tryz.f8 false true false false W args (.bool true) W' := fun W' hg =>
    post_law (tb := 4) laidOut mapsFine slicesFull (by rw [Tryz.params8]; decide +kernel) rfl (by kernel_rfl) Tryz.underlying4 hW (by
      obtain ⟨p, q, hA, hV, _, _, _⟩ := hW
      rw [Tryz.params8] at hA
      intro hgs
      subst hgs
      obtain ⟨_, _, _, _, _, _, _, rfl, _, _, r0⟩ := trodAll_cons hA
      obtain ⟨_, _, _, _, _, _, _, rfl, _, _, r1⟩ := trodAll_cons r0
      obtain ⟨_, rfl, _⟩ := trodAll_nil r1
      exact ⟨rfl, rfl, rfl⟩) hg
  obtain ⟨p, q, hA, hV, rfl, _, _⟩ := hW
  rw [Tryz.params8] at hA hval
  obtain ⟨v0, vs0, d0, ds0, p0, q0, hargs, rfl, rfl, h0, r0⟩ := trodAll_cons hA
  obtain ⟨v1, vs1, d1, ds1, p1, q1, rfl, rfl, rfl, h1, r1⟩ := trodAll_cons r0
  obtain ⟨rfl, rfl, rfl⟩ := trodAll_nil r1
  obtain rfl : args = #[v0, v1] := by cases args; simp_all
  obtain ⟨S0, u0, rfl, x0, z0, g0, -, -, -, -, -, y0⟩ := open_series Tryz.underlying24 (by kernel_rfl) (by kernel_rfl) Tryz.underlying9 Tryz.underlying3 Tryz.underlying3 rfl Tryz.underlying3 Tryz.underlying22 Tryz.underlying28 (by kernel_rfl) rfl rfl (by kernel_rfl) (by kernel_rfl) Tryz.underlying4 Tryz.underlying3 (hval 0 24 v0 rfl rfl) h0
  clear g0 z0 y0
  obtain ⟨b1, n1, rfl, l1, u1⟩ := open_val Tryz.underlying28 (by kernel_rfl) (by kernel_rfl) Tryz.underlying4 Tryz.underlying3 (hval 1 28 v1 rfl rfl) h1
  refine (fstepKeepLastValue_any S0 u0 b1 n1 W x0 l1 u1 (pow10_of hL (by kernel_rfl))).mono fun e W' h => ?_
  obtain ⟨he, hg⟩ := h
  subst he
  exact ⟨_, rfl, hpost W' hg⟩

theorem laid_met (os : Os) : laidMet Tryz.prog Rows.fstepKeepLastValueRow.laid ((World.laidAll Tryz.prog os Rows.fstepKeepLastValueRow.laid).forCall (fun _ _ => 0) ⟨#[], #[.agg #[.string ByteArray.empty, .int .i64 0, .int .i64 0, .slice none 0 0, .int .i64 0], .agg #[.bool false, .int .i64 0]], []⟩).memory :=
  laidMet_laidAll _ (by kernel_rfl) (by kernel_rfl)
theorem reads (os : Os) {H : Type} (enc : TypeId × Value → H) : ∃ places, DataW.whole enc Tryz.prog ((World.laidAll Tryz.prog os Rows.fstepKeepLastValueRow.laid).forCall (fun _ _ => 0) ⟨#[], #[.agg #[.string ByteArray.empty, .int .i64 0, .int .i64 0, .slice none 0 0, .int .i64 0], .agg #[.bool false, .int .i64 0]], []⟩).memory Tryz.f8.params.toList Rows.fstepKeepLastValueSpec.vars false (#[.agg #[.string ByteArray.empty, .int .i64 0, .int .i64 0, .slice none 0 0, .int .i64 0], .agg #[.bool false, .int .i64 0]] : Array Value).toList 8 = some ([.agg [.lit (.string []), .lit (.int .i64 0), .lit (.int .i64 0), .nil, .lit (.int .i64 0)], .agg [.lit (.bool false), .lit (.int .i64 0)]], [], places) :=
  ⟨[], by kernel_rfl⟩

set_option maxRecDepth 100000 in
theorem lifted (os : Os) (started : os.Started) (H : Type) (enc : TypeId × Value → H) (F : Stop.Interp) :
    ReturnsInHanded {} Tryz.checked os 8 .any ((OpenSpec.ofChange Rows.fstepKeepLastValueSpec).preRow enc Tryz.prog Tryz.f8 Rows.fstepKeepLastValueRow.domain false Rows.fstepKeepLastValueRow.laid) (((OpenSpec.ofChange Rows.fstepKeepLastValueSpec).at F).post enc Tryz.prog Tryz.f8 false true false false) := by
  obtain ⟨places, hx⟩ := reads os enc
  refine returnsInHanded_of_row (C := Tryz.checked) (s := (OpenSpec.ofChange Rows.fstepKeepLastValueSpec)) own started (by kernel_rfl) Tryz.func8
    (witness_row_at (enc := enc) (C := Tryz.checked) false (World.laidAll Tryz.prog os Rows.fstepKeepLastValueRow.laid) #[.agg #[.string ByteArray.empty, .int .i64 0, .int .i64 0, .slice none 0 0, .int .i64 0], .agg #[.bool false, .int .i64 0]] (World.laidAll_os _ _ _) (by kernel_rfl) (by kernel_rfl) (by kernel_rfl)
      (OpenSpec.preRow_of_cond 8 hx (by kernel_rfl) (fun k hk => by cases hk) (by kernel_rfl) (laid_met os))) ?_
  intro W base args ds gs before hval hW _ _ _ hL hsh _
  exact contract H enc W base args ds gs before hval hW hL hsh

set_option maxRecDepth 100000 in
theorem joined : joinedFacts Tryz.prog 8 Tryz.f8 Rows.fstepKeepLastValueSpec Rows.fstepKeepLastValueRow = true := by
  unfold joinedFacts
  with_reducible refine and_t (and_t (and_t (and_t (and_t (and_t (and_t (and_t (and_t (and_t (and_t (and_t (and_t (and_t (and_t (and_t (and_t (and_t (and_t (and_t (and_t (and_t (and_t (and_t (and_t (and_t (and_t (and_t (and_t (and_t (and_t ?f0 ?f1) ?f2) ?f3) ?f4) ?f5) ?f6) ?f7) ?f8) ?f9) ?f10) ?f11) ?f12) ?f13) ?f14) ?f15) ?f16) ?f17) ?f18) ?f19) ?f20) ?f21) ?f22) ?f23) ?f24) ?f25) ?f26) ?f27) ?f28) ?f29) ?f30) ?f31
  case f25 => exact big_mayEnter
  case f26 => exact big_lifts
  case f27 => exact big_make
  all_goals kernel_rfl
set_option maxRecDepth 100000 in
theorem said : Rows.FstepKeepLastValueSaid :=
  OpenClaim.holds_of_cond 8 Tryz.f8 rfl rfl rfl rfl rfl rfl rfl ⟨rfl, rfl, rfl, rfl, rfl⟩ rfl rfl rfl rfl rfl (by kernel_rfl) Tryz.func8 joined
    (of_decide_eq_true (by kernel_rfl)) (by unfold Func.isWrapper; first | (rw [if_pos (by decide +kernel)]; kernel_rfl) | (rw [if_neg (by decide +kernel)]; exact ⟨rfl, rfl⟩))
    (fun os started H enc _ F => by rw [OpenClaim.pre_eq_preRow]; exact lifted os started H enc F)

theorem plain (f : FuncId) (fn : Func) (hf : Tryz.pinned.checked.prog.funcNamed "graticule/graticulelaw20.FstepKeepLastValue" = some f) (hfn : Tryz.pinned.checked.prog.funcs[f]? = some fn) :
    false = Tryz.pinned.checked.prog.looks [] ∧ ∀ (j : Nat) t, fn.params[j]? = some t → Tryz.pinned.checked.prog.wantsStandIn t = false := by
  obtain rfl : f = 8 := Option.some.inj ((show Tryz.prog.funcNamed "graticule/graticulelaw20.FstepKeepLastValue" = some 8 by kernel_rfl).symm.trans hf) |>.symm
  obtain rfl : fn = Tryz.f8 := (Option.some.inj (Tryz.func8.symm.trans hfn)).symm
  refine ⟨by kernel_rfl, fun j t ht => ?_⟩
  have hall : (Tryz.f8.params.toList.all fun t => !Tryz.prog.wantsStandIn t) = true := by kernel_rfl
  have := List.all_eq_true.1 hall t (Array.mem_toList_iff.2 (Array.mem_of_getElem? ht))
  exact (by simpa using this : Tryz.prog.wantsStandIn t = false)

theorem proved : Rows.FstepKeepLastValueCardSaid :=
  Claim7.holds_tied_plain_at .later [] _ _ _ _ said (fun _ h => by cases h) (by kernel_rfl) (fun _ h => by cases h) fstepKeepLastValue_row_tie rfl ⟨rfl, rfl⟩ big_main rfl plain (by kernel_rfl)
#print axioms proved
end Go.Proofs.YtkablhamnepfnaaGreatDoor.fstepKeepLastValue
