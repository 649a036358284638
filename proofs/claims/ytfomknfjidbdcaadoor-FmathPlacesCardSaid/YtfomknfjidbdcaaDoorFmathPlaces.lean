/-
  The law FmathPlaces holds: a function of single values does to a part of a series what it does to it there . For every input; the package-level tables that the row lists start as the program's text lays them (the card ties them).
-/
import Derived.Test.YtfomknfjidbdcaaDoorCards
import Derived.Test.YtfomknfjidbdcaaDoorTie
import Derived.Test.YtfomknfjidbdcaaDoorFmPlacesW
import Derived.Test.YtfomknfjidbdcaaDoorLawPost
import Derived.Test.YtfomknfjidbdcaaDoorCardAidP
import Derived.Test.YtfomknfjidbdcaaDoorCardBigFmd
import Derived.Test.YtfomknfjidbdcaaDoorSerOpen
import Derived.WalkKit
import Derived.ProofKit
import Derived.OpenShut
import Derived.ShutString
import Derived.Deep.DeepHandedRow
import Derived.Lay
namespace Go.Proofs.YtfomknfjidbdcaaDoor.fmathPlaces
open Go.ChangeShapes Go.WideShapes Go.ChangeAt Go.RowKit

set_option maxRecDepth 100000 in
theorem contract (H : Type) (enc : TypeId × Value → H) (W : World) (base : Nat) (args : Array Value) (ds gs : List (DataW H)) (before : List MemPlace)
    (hval : ∀ (j : Nat) t v, Tryd.f4.params[j]? = some t → args[j]? = some v → Value.okWide Tryd.prog W .any base t v)
    (hW : DataW.Whole enc Tryd.prog Tryd.f4.params.toList Rows.fmathPlacesSpec.vars false W args.toList ds gs before) (hL : laidMetH Tryd.prog Rows.fmathPlacesRow.laid W) (_hsh : W.ShapedOpen Tryd.prog) :
    Calls Tryd.prog 4 args W fun e W' => ∃ v, e = .returned v ∧ Rows.fmathPlacesSpec.post enc Tryd.prog Tryd.f4 false true false false W args v W' := by
  have hpost : ∀ W', W.grownBy W' none → Rows.fmathPlacesSpec.post enc Tryd.prog Tryd.f4 false true false false W args (.bool true) W' := fun W' hg =>
    post_law (tb := 4) laidOut mapsFine slicesFull (by rw [Tryd.params4]; decide +kernel) rfl (by kernel_rfl) Tryd.underlying4 hW (by
      obtain ⟨p, q, hA, hV, _, _, _⟩ := hW
      rw [Tryd.params4] at hA
      intro hgs
      subst hgs
      obtain ⟨_, _, _, _, _, _, _, rfl, _, _, r0⟩ := trodAll_cons hA
      obtain ⟨_, _, _, _, _, _, _, rfl, _, _, r1⟩ := trodAll_cons r0
      obtain ⟨_, _, _, _, _, _, _, rfl, _, _, r2⟩ := trodAll_cons r1
      obtain ⟨_, _, _, _, _, _, _, rfl, _, _, r3⟩ := trodAll_cons r2
      obtain ⟨_, _, _, _, _, _, _, rfl, _, _, r4⟩ := trodAll_cons r3
      obtain ⟨_, rfl, _⟩ := trodAll_nil r4
      exact ⟨rfl, rfl, rfl⟩) hg
  obtain ⟨p, q, hA, hV, rfl, _, _⟩ := hW
  rw [Tryd.params4] at hA hval
  obtain ⟨v0, vs0, d0, ds0, p0, q0, hargs, rfl, rfl, h0, r0⟩ := trodAll_cons hA
  obtain ⟨v1, vs1, d1, ds1, p1, q1, rfl, rfl, rfl, h1, r1⟩ := trodAll_cons r0
  obtain ⟨v2, vs2, d2, ds2, p2, q2, rfl, rfl, rfl, h2, r2⟩ := trodAll_cons r1
  obtain ⟨v3, vs3, d3, ds3, p3, q3, rfl, rfl, rfl, h3, r3⟩ := trodAll_cons r2
  obtain ⟨v4, vs4, d4, ds4, p4, q4, rfl, rfl, rfl, h4, r4⟩ := trodAll_cons r3
  obtain ⟨rfl, rfl, rfl⟩ := trodAll_nil r4
  obtain rfl : args = #[v0, v1, v2, v3, v4] := by cases args; simp_all
  obtain ⟨a0, rfl, rfl, rfl, w0⟩ := open_int Tryd.underlying3 (hval 0 3 v0 rfl rfl) h0
  have w0' : -9223372036854775808 ≤ a0 ∧ a0 ≤ 9223372036854775807 := by simpa [Lit.wf, IntKind.min, IntKind.max, IntKind.signed, IntKind.bits] using w0
  obtain ⟨S1, u1, rfl, x1, z1, g1, -, -, -, -, -, y1⟩ := open_series Tryd.underlying24 (by kernel_rfl) (by kernel_rfl) Tryd.underlying9 Tryd.underlying3 Tryd.underlying3 rfl Tryd.underlying3 Tryd.underlying22 Tryd.underlying26 (by kernel_rfl) rfl rfl (by kernel_rfl) (by kernel_rfl) Tryd.underlying4 Tryd.underlying3 (hval 1 24 v1 rfl rfl) h1
  clear g1 z1 y1
  obtain ⟨b2, n2, rfl, l2, u2⟩ := open_val Tryd.underlying26 (by kernel_rfl) (by kernel_rfl) Tryd.underlying4 Tryd.underlying3 (hval 2 26 v2 rfl rfl) h2
  obtain ⟨a3, rfl, rfl, rfl, w3⟩ := open_int Tryd.underlying3 (hval 3 3 v3 rfl rfl) h3
  have w3' : -9223372036854775808 ≤ a3 ∧ a3 ≤ 9223372036854775807 := by simpa [Lit.wf, IntKind.min, IntKind.max, IntKind.signed, IntKind.bits] using w3
  obtain ⟨a4, rfl, rfl, rfl, w4⟩ := open_int Tryd.underlying3 (hval 4 3 v4 rfl rfl) h4
  have w4' : -9223372036854775808 ≤ a4 ∧ a4 ≤ 9223372036854775807 := by simpa [Lit.wf, IntKind.min, IntKind.max, IntKind.signed, IntKind.bits] using w4
  refine (fmathPlaces_any a0 S1 u1 b2 n2 a3 a4 W w0'.1 w0'.2 x1 l2 u2 w3'.1 w3'.2 w4'.1 w4'.2 (pow10_of hL (by kernel_rfl))).mono fun e W' h => ?_
  obtain ⟨he, hg⟩ := h
  subst he
  exact ⟨_, rfl, hpost W' hg⟩

theorem laid_met (os : Os) : laidMet Tryd.prog Rows.fmathPlacesRow.laid ((World.laidAll Tryd.prog os Rows.fmathPlacesRow.laid).forCall (fun _ _ => 0) ⟨#[], #[.int .i64 0, .agg #[.string ByteArray.empty, .int .i64 0, .int .i64 0, .slice none 0 0, .int .i64 0], .agg #[.bool false, .int .i64 0], .int .i64 0, .int .i64 0], []⟩).memory :=
  laidMet_laidAll _ (by kernel_rfl) (by kernel_rfl)
theorem reads (os : Os) {H : Type} (enc : TypeId × Value → H) : ∃ places, DataW.whole enc Tryd.prog ((World.laidAll Tryd.prog os Rows.fmathPlacesRow.laid).forCall (fun _ _ => 0) ⟨#[], #[.int .i64 0, .agg #[.string ByteArray.empty, .int .i64 0, .int .i64 0, .slice none 0 0, .int .i64 0], .agg #[.bool false, .int .i64 0], .int .i64 0, .int .i64 0], []⟩).memory Tryd.f4.params.toList Rows.fmathPlacesSpec.vars false (#[.int .i64 0, .agg #[.string ByteArray.empty, .int .i64 0, .int .i64 0, .slice none 0 0, .int .i64 0], .agg #[.bool false, .int .i64 0], .int .i64 0, .int .i64 0] : Array Value).toList 8 = some ([.lit (.int .i64 0), .agg [.lit (.string []), .lit (.int .i64 0), .lit (.int .i64 0), .nil, .lit (.int .i64 0)], .agg [.lit (.bool false), .lit (.int .i64 0)], .lit (.int .i64 0), .lit (.int .i64 0)], [], places) :=
  ⟨[], by kernel_rfl⟩

set_option maxRecDepth 100000 in
theorem lifted (os : Os) (started : os.Started) (H : Type) (enc : TypeId × Value → H) (F : Stop.Interp) :
    ReturnsInHanded {} Tryd.checked os 4 .any ((OpenSpec.ofChange Rows.fmathPlacesSpec).preRow enc Tryd.prog Tryd.f4 Rows.fmathPlacesRow.domain false Rows.fmathPlacesRow.laid) (((OpenSpec.ofChange Rows.fmathPlacesSpec).at F).post enc Tryd.prog Tryd.f4 false true false false) := by
  obtain ⟨places, hx⟩ := reads os enc
  refine returnsInHanded_of_row (C := Tryd.checked) (s := (OpenSpec.ofChange Rows.fmathPlacesSpec)) own started (by kernel_rfl) Tryd.func4
    (witness_row_at (enc := enc) (C := Tryd.checked) false (World.laidAll Tryd.prog os Rows.fmathPlacesRow.laid) #[.int .i64 0, .agg #[.string ByteArray.empty, .int .i64 0, .int .i64 0, .slice none 0 0, .int .i64 0], .agg #[.bool false, .int .i64 0], .int .i64 0, .int .i64 0] (World.laidAll_os _ _ _) (by kernel_rfl) (by kernel_rfl) (by kernel_rfl)
      (OpenSpec.preRow_of_cond 8 hx (by kernel_rfl) (fun k hk => by cases hk) (by kernel_rfl) (laid_met os))) ?_
  intro W base args ds gs before hval hW _ _ _ hL hsh _
  exact contract H enc W base args ds gs before hval hW hL hsh

set_option maxRecDepth 100000 in
theorem joined : joinedFacts Tryd.prog 4 Tryd.f4 Rows.fmathPlacesSpec Rows.fmathPlacesRow = true := by
  unfold joinedFacts
  with_reducible refine and_t (and_t (and_t (and_t (and_t (and_t (and_t (and_t (and_t (and_t (and_t (and_t (and_t (and_t (and_t (and_t (and_t (and_t (and_t (and_t (and_t (and_t (and_t (and_t (and_t (and_t (and_t (and_t (and_t (and_t (and_t ?f0 ?f1) ?f2) ?f3) ?f4) ?f5) ?f6) ?f7) ?f8) ?f9) ?f10) ?f11) ?f12) ?f13) ?f14) ?f15) ?f16) ?f17) ?f18) ?f19) ?f20) ?f21) ?f22) ?f23) ?f24) ?f25) ?f26) ?f27) ?f28) ?f29) ?f30) ?f31
  case f25 => exact big_mayEnter
  case f26 => exact big_lifts
  case f27 => exact big_make
  all_goals kernel_rfl
set_option maxRecDepth 100000 in
theorem said : Rows.FmathPlacesSaid :=
  OpenClaim.holds_of_cond 4 Tryd.f4 rfl rfl rfl rfl rfl rfl rfl ⟨rfl, rfl, rfl, rfl, rfl⟩ rfl rfl rfl rfl rfl (by kernel_rfl) Tryd.func4 joined
    (of_decide_eq_true (by kernel_rfl)) (by unfold Func.isWrapper; first | (rw [if_pos (by decide +kernel)]; kernel_rfl) | (rw [if_neg (by decide +kernel)]; exact ⟨rfl, rfl⟩))
    (fun os started H enc _ F => by rw [OpenClaim.pre_eq_preRow]; exact lifted os started H enc F)

theorem plain (f : FuncId) (fn : Func) (hf : Tryd.pinned.checked.prog.funcNamed "graticule/graticulelaw19.FmathPlaces" = some f) (hfn : Tryd.pinned.checked.prog.funcs[f]? = some fn) :
    false = Tryd.pinned.checked.prog.looks [] ∧ ∀ (j : Nat) t, fn.params[j]? = some t → Tryd.pinned.checked.prog.wantsStandIn t = false := by
  obtain rfl : f = 4 := Option.some.inj ((show Tryd.prog.funcNamed "graticule/graticulelaw19.FmathPlaces" = some 4 by kernel_rfl).symm.trans hf) |>.symm
  obtain rfl : fn = Tryd.f4 := (Option.some.inj (Tryd.func4.symm.trans hfn)).symm
  refine ⟨by kernel_rfl, fun j t ht => ?_⟩
  have hall : (Tryd.f4.params.toList.all fun t => !Tryd.prog.wantsStandIn t) = true := by kernel_rfl
  have := List.all_eq_true.1 hall t (Array.mem_toList_iff.2 (Array.mem_of_getElem? ht))
  exact (by simpa using this : Tryd.prog.wantsStandIn t = false)

theorem proved : Rows.FmathPlacesCardSaid :=
  Claim7.holds_tied_plain_at .later [] _ _ _ _ said (fun _ h => by cases h) (by kernel_rfl) (fun _ h => by cases h) fmathPlaces_row_tie rfl ⟨rfl, rfl⟩ big_main rfl plain (by kernel_rfl)
#print axioms proved
end Go.Proofs.YtfomknfjidbdcaaDoor.fmathPlaces
