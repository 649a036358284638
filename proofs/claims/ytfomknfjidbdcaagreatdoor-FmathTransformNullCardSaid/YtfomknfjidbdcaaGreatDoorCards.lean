/-
  DERIVED. GIVEN WITH THE SEED: THE CARDS: each row of YtfomknfjidbdcaaGreatDoorRows.lean that lists a variable, with what it lists TIED to the program's text (the seventh form; the later family's looks); each row that meets fmt, with fmt's text TOLD by the authors' own Lean function (tested against real Go, not proved from fmt's source: count such statements apart). THE CARD IS WHAT COUNTS. Prove the row's statement (the work); the ties are given (YtfomknfjidbdcaaGreatDoorTie.lean); close each card by the builder's one call (the guide's Derived/Test/ToyasCard.lean, 'card_holds'). Laid BY PROGRAM, IN A SANDBOX (cutbox-door.mjs). By AI agents, Wed Nov 11 2026. No macro, syntax, notation, axiom, sorry.
-/
import Derived.Test.YtfomknfjidbdcaaGreatDoorRows
import GoSem.ClaimSeven
namespace Go.Proofs.YtfomknfjidbdcaaGreatDoor
namespace Rows

/-- THE TIED CARD OF 'graticulelaw19.FmathAbsolute'. -/
def fmathAbsoluteCard : Claim7 := { stood := { row := fmathAbsoluteRow, standIns := [], harness := (true, "4b4a6af205e58f0dd0a377e67ee45fd990d2340610f17eb985ef01670e88be5f"), looks := false }, kinds := [], alts := [], laidByText := true, laidKinds := [.data, .data, .data, .data, .pinned], laidTests := true, laidLooks := .later }
def FmathAbsoluteCardSaid : Prop := Claim7.holds Tryz.pinned (.plain (OpenSpec.ofChange fmathAbsoluteSpec)) fmathAbsoluteCard

/-- THE TIED CARD OF 'graticulelaw19.FmathInvert'. -/
def fmathInvertCard : Claim7 := { stood := { row := fmathInvertRow, standIns := [], harness := (true, "4b4a6af205e58f0dd0a377e67ee45fd990d2340610f17eb985ef01670e88be5f"), looks := false }, kinds := [], alts := [], laidByText := true, laidKinds := [.data, .data, .data, .data, .pinned], laidTests := true, laidLooks := .later }
def FmathInvertCardSaid : Prop := Claim7.holds Tryz.pinned (.plain (OpenSpec.ofChange fmathInvertSpec)) fmathInvertCard

/-- THE TIED CARD OF 'graticulelaw19.FmathIsNonNull'. -/
def fmathIsNonNullCard : Claim7 := { stood := { row := fmathIsNonNullRow, standIns := [], harness := (true, "4b4a6af205e58f0dd0a377e67ee45fd990d2340610f17eb985ef01670e88be5f"), looks := false }, kinds := [], alts := [], laidByText := true, laidKinds := [.data, .data, .data, .data, .pinned], laidTests := true, laidLooks := .later }
def FmathIsNonNullCardSaid : Prop := Claim7.holds Tryz.pinned (.plain (OpenSpec.ofChange fmathIsNonNullSpec)) fmathIsNonNullCard

/-- THE TIED CARD OF 'graticulelaw19.FmathMinMax'. -/
def fmathMinMaxCard : Claim7 := { stood := { row := fmathMinMaxRow, standIns := [], harness := (true, "4b4a6af205e58f0dd0a377e67ee45fd990d2340610f17eb985ef01670e88be5f"), looks := false }, kinds := [], alts := [], laidByText := true, laidKinds := [.data, .data, .data, .data, .pinned], laidTests := true, laidLooks := .later }
def FmathMinMaxCardSaid : Prop := Claim7.holds Tryz.pinned (.plain (OpenSpec.ofChange fmathMinMaxSpec)) fmathMinMaxCard

/-- THE TIED CARD OF 'graticulelaw19.FmathNegate'. -/
def fmathNegateCard : Claim7 := { stood := { row := fmathNegateRow, standIns := [], harness := (true, "4b4a6af205e58f0dd0a377e67ee45fd990d2340610f17eb985ef01670e88be5f"), looks := false }, kinds := [], alts := [], laidByText := true, laidKinds := [.data, .data, .data, .data, .pinned], laidTests := true, laidLooks := .later }
def FmathNegateCardSaid : Prop := Claim7.holds Tryz.pinned (.plain (OpenSpec.ofChange fmathNegateSpec)) fmathNegateCard

/-- THE TIED CARD OF 'graticulelaw19.FmathOffset'. -/
def fmathOffsetCard : Claim7 := { stood := { row := fmathOffsetRow, standIns := [], harness := (true, "4b4a6af205e58f0dd0a377e67ee45fd990d2340610f17eb985ef01670e88be5f"), looks := false }, kinds := [], alts := [], laidByText := true, laidKinds := [.data, .data, .data, .data, .pinned], laidTests := true, laidLooks := .later }
def FmathOffsetCardSaid : Prop := Claim7.holds Tryz.pinned (.plain (OpenSpec.ofChange fmathOffsetSpec)) fmathOffsetCard

/-- THE TIED CARD OF 'graticulelaw19.FmathOffsetToZero'. -/
def fmathOffsetToZeroCard : Claim7 := { stood := { row := fmathOffsetToZeroRow, standIns := [], harness := (true, "4b4a6af205e58f0dd0a377e67ee45fd990d2340610f17eb985ef01670e88be5f"), looks := false }, kinds := [], alts := [], laidByText := true, laidKinds := [.data, .data, .data, .data, .pinned], laidTests := true, laidLooks := .later }
def FmathOffsetToZeroCardSaid : Prop := Claim7.holds Tryz.pinned (.plain (OpenSpec.ofChange fmathOffsetToZeroSpec)) fmathOffsetToZeroCard

/-- THE TIED CARD OF 'graticulelaw19.FmathPow'. -/
def fmathPowCard : Claim7 := { stood := { row := fmathPowRow, standIns := [], harness := (true, "4b4a6af205e58f0dd0a377e67ee45fd990d2340610f17eb985ef01670e88be5f"), looks := false }, kinds := [], alts := [], laidByText := true, laidKinds := [.data, .data, .data, .data, .pinned], laidTests := true, laidLooks := .later }
def FmathPowCardSaid : Prop := Claim7.holds Tryz.pinned (.plain (OpenSpec.ofChange fmathPowSpec)) fmathPowCard

/-- THE TIED CARD OF 'graticulelaw19.FmathRemoveAboveValue'. -/
def fmathRemoveAboveValueCard : Claim7 := { stood := { row := fmathRemoveAboveValueRow, standIns := [], harness := (true, "4b4a6af205e58f0dd0a377e67ee45fd990d2340610f17eb985ef01670e88be5f"), looks := false }, kinds := [], alts := [], laidByText := true, laidKinds := [.data, .data, .data, .data, .pinned], laidTests := true, laidLooks := .later }
def FmathRemoveAboveValueCardSaid : Prop := Claim7.holds Tryz.pinned (.plain (OpenSpec.ofChange fmathRemoveAboveValueSpec)) fmathRemoveAboveValueCard

/-- THE TIED CARD OF 'graticulelaw19.FmathRemoveBelowValue'. -/
def fmathRemoveBelowValueCard : Claim7 := { stood := { row := fmathRemoveBelowValueRow, standIns := [], harness := (true, "4b4a6af205e58f0dd0a377e67ee45fd990d2340610f17eb985ef01670e88be5f"), looks := false }, kinds := [], alts := [], laidByText := true, laidKinds := [.data, .data, .data, .data, .pinned], laidTests := true, laidLooks := .later }
def FmathRemoveBelowValueCardSaid : Prop := Claim7.holds Tryz.pinned (.plain (OpenSpec.ofChange fmathRemoveBelowValueSpec)) fmathRemoveBelowValueCard

/-- THE TIED CARD OF 'graticulelaw19.FmathRound'. -/
def fmathRoundCard : Claim7 := { stood := { row := fmathRoundRow, standIns := [], harness := (true, "4b4a6af205e58f0dd0a377e67ee45fd990d2340610f17eb985ef01670e88be5f"), looks := false }, kinds := [], alts := [], laidByText := true, laidKinds := [.data, .data, .data, .data, .pinned], laidTests := true, laidLooks := .later }
def FmathRoundCardSaid : Prop := Claim7.holds Tryz.pinned (.plain (OpenSpec.ofChange fmathRoundSpec)) fmathRoundCard

/-- THE TIED CARD OF 'graticulelaw19.FmathScale'. -/
def fmathScaleCard : Claim7 := { stood := { row := fmathScaleRow, standIns := [], harness := (true, "4b4a6af205e58f0dd0a377e67ee45fd990d2340610f17eb985ef01670e88be5f"), looks := false }, kinds := [], alts := [], laidByText := true, laidKinds := [.data, .data, .data, .data, .pinned], laidTests := true, laidLooks := .later }
def FmathScaleCardSaid : Prop := Claim7.holds Tryz.pinned (.plain (OpenSpec.ofChange fmathScaleSpec)) fmathScaleCard

/-- THE TIED CARD OF 'graticulelaw19.FmathScaleToSeconds'. -/
def fmathScaleToSecondsCard : Claim7 := { stood := { row := fmathScaleToSecondsRow, standIns := [], harness := (true, "4b4a6af205e58f0dd0a377e67ee45fd990d2340610f17eb985ef01670e88be5f"), looks := false }, kinds := [], alts := [], laidByText := true, laidKinds := [.data, .data, .data, .data, .pinned], laidTests := true, laidLooks := .later }
def FmathScaleToSecondsCardSaid : Prop := Claim7.holds Tryz.pinned (.plain (OpenSpec.ofChange fmathScaleToSecondsSpec)) fmathScaleToSecondsCard

/-- THE TIED CARD OF 'graticulelaw19.FmathSign'. -/
def fmathSignCard : Claim7 := { stood := { row := fmathSignRow, standIns := [], harness := (true, "4b4a6af205e58f0dd0a377e67ee45fd990d2340610f17eb985ef01670e88be5f"), looks := false }, kinds := [], alts := [], laidByText := true, laidKinds := [.data, .data, .data, .data, .pinned], laidTests := true, laidLooks := .later }
def FmathSignCardSaid : Prop := Claim7.holds Tryz.pinned (.plain (OpenSpec.ofChange fmathSignSpec)) fmathSignCard

/-- THE TIED CARD OF 'graticulelaw19.FmathSquareRoot'. -/
def fmathSquareRootCard : Claim7 := { stood := { row := fmathSquareRootRow, standIns := [], harness := (true, "4b4a6af205e58f0dd0a377e67ee45fd990d2340610f17eb985ef01670e88be5f"), looks := false }, kinds := [], alts := [], laidByText := true, laidKinds := [.data, .data, .data, .data, .pinned], laidTests := true, laidLooks := .later }
def FmathSquareRootCardSaid : Prop := Claim7.holds Tryz.pinned (.plain (OpenSpec.ofChange fmathSquareRootSpec)) fmathSquareRootCard

/-- THE TIED CARD OF 'graticulelaw19.FmathTransformNull'. -/
def fmathTransformNullCard : Claim7 := { stood := { row := fmathTransformNullRow, standIns := [], harness := (true, "4b4a6af205e58f0dd0a377e67ee45fd990d2340610f17eb985ef01670e88be5f"), looks := false }, kinds := [], alts := [], laidByText := true, laidKinds := [.data, .data, .data, .data, .pinned], laidTests := true, laidLooks := .later }
def FmathTransformNullCardSaid : Prop := Claim7.holds Tryz.pinned (.plain (OpenSpec.ofChange fmathTransformNullSpec)) fmathTransformNullCard

/-- THE TIED CARD OF 'graticulelaw19.FmathOthers'. -/
def fmathOthersCard : Claim7 := { stood := { row := fmathOthersRow, standIns := [], harness := (true, "4b4a6af205e58f0dd0a377e67ee45fd990d2340610f17eb985ef01670e88be5f"), looks := false }, kinds := [], alts := [], laidByText := true, laidKinds := [.data, .data, .data, .data, .pinned], laidTests := true, laidLooks := .later }
def FmathOthersCardSaid : Prop := Claim7.holds Tryz.pinned (.plain (OpenSpec.ofChange fmathOthersSpec)) fmathOthersCard

/-- THE SECOND FORM's CARD OF 'graticulelaw19.FmathAbsolute'. -/
def fmathAbsoluteUptoCard : Claim7 := { stood := { row := fmathAbsoluteUptoRow, standIns := [], harness := (true, "4b4a6af205e58f0dd0a377e67ee45fd990d2340610f17eb985ef01670e88be5f"), looks := false }, kinds := [], alts := [], laidByText := true, laidKinds := [.data, .data, .data, .data, .pinned], laidTests := true, laidLooks := .later }
def FmathAbsoluteUptoCardSaid : Prop := Claim7.holds Tryz.pinned (.plain (OpenSpec.upto fmathAbsoluteSpec)) fmathAbsoluteUptoCard

/-- THE SECOND FORM's CARD OF 'graticulelaw19.FmathInvert'. -/
def fmathInvertUptoCard : Claim7 := { stood := { row := fmathInvertUptoRow, standIns := [], harness := (true, "4b4a6af205e58f0dd0a377e67ee45fd990d2340610f17eb985ef01670e88be5f"), looks := false }, kinds := [], alts := [], laidByText := true, laidKinds := [.data, .data, .data, .data, .pinned], laidTests := true, laidLooks := .later }
def FmathInvertUptoCardSaid : Prop := Claim7.holds Tryz.pinned (.plain (OpenSpec.upto fmathInvertSpec)) fmathInvertUptoCard

/-- THE SECOND FORM's CARD OF 'graticulelaw19.FmathIsNonNull'. -/
def fmathIsNonNullUptoCard : Claim7 := { stood := { row := fmathIsNonNullUptoRow, standIns := [], harness := (true, "4b4a6af205e58f0dd0a377e67ee45fd990d2340610f17eb985ef01670e88be5f"), looks := false }, kinds := [], alts := [], laidByText := true, laidKinds := [.data, .data, .data, .data, .pinned], laidTests := true, laidLooks := .later }
def FmathIsNonNullUptoCardSaid : Prop := Claim7.holds Tryz.pinned (.plain (OpenSpec.upto fmathIsNonNullSpec)) fmathIsNonNullUptoCard

/-- THE SECOND FORM's CARD OF 'graticulelaw19.FmathMinMax'. -/
def fmathMinMaxUptoCard : Claim7 := { stood := { row := fmathMinMaxUptoRow, standIns := [], harness := (true, "4b4a6af205e58f0dd0a377e67ee45fd990d2340610f17eb985ef01670e88be5f"), looks := false }, kinds := [], alts := [], laidByText := true, laidKinds := [.data, .data, .data, .data, .pinned], laidTests := true, laidLooks := .later }
def FmathMinMaxUptoCardSaid : Prop := Claim7.holds Tryz.pinned (.plain (OpenSpec.upto fmathMinMaxSpec)) fmathMinMaxUptoCard

/-- THE SECOND FORM's CARD OF 'graticulelaw19.FmathNegate'. -/
def fmathNegateUptoCard : Claim7 := { stood := { row := fmathNegateUptoRow, standIns := [], harness := (true, "4b4a6af205e58f0dd0a377e67ee45fd990d2340610f17eb985ef01670e88be5f"), looks := false }, kinds := [], alts := [], laidByText := true, laidKinds := [.data, .data, .data, .data, .pinned], laidTests := true, laidLooks := .later }
def FmathNegateUptoCardSaid : Prop := Claim7.holds Tryz.pinned (.plain (OpenSpec.upto fmathNegateSpec)) fmathNegateUptoCard

/-- THE SECOND FORM's CARD OF 'graticulelaw19.FmathOffset'. -/
def fmathOffsetUptoCard : Claim7 := { stood := { row := fmathOffsetUptoRow, standIns := [], harness := (true, "4b4a6af205e58f0dd0a377e67ee45fd990d2340610f17eb985ef01670e88be5f"), looks := false }, kinds := [], alts := [], laidByText := true, laidKinds := [.data, .data, .data, .data, .pinned], laidTests := true, laidLooks := .later }
def FmathOffsetUptoCardSaid : Prop := Claim7.holds Tryz.pinned (.plain (OpenSpec.upto fmathOffsetSpec)) fmathOffsetUptoCard

/-- THE SECOND FORM's CARD OF 'graticulelaw19.FmathOffsetToZero'. -/
def fmathOffsetToZeroUptoCard : Claim7 := { stood := { row := fmathOffsetToZeroUptoRow, standIns := [], harness := (true, "4b4a6af205e58f0dd0a377e67ee45fd990d2340610f17eb985ef01670e88be5f"), looks := false }, kinds := [], alts := [], laidByText := true, laidKinds := [.data, .data, .data, .data, .pinned], laidTests := true, laidLooks := .later }
def FmathOffsetToZeroUptoCardSaid : Prop := Claim7.holds Tryz.pinned (.plain (OpenSpec.upto fmathOffsetToZeroSpec)) fmathOffsetToZeroUptoCard

/-- THE SECOND FORM's CARD OF 'graticulelaw19.FmathPow'. -/
def fmathPowUptoCard : Claim7 := { stood := { row := fmathPowUptoRow, standIns := [], harness := (true, "4b4a6af205e58f0dd0a377e67ee45fd990d2340610f17eb985ef01670e88be5f"), looks := false }, kinds := [], alts := [], laidByText := true, laidKinds := [.data, .data, .data, .data, .pinned], laidTests := true, laidLooks := .later }
def FmathPowUptoCardSaid : Prop := Claim7.holds Tryz.pinned (.plain (OpenSpec.upto fmathPowSpec)) fmathPowUptoCard

/-- THE SECOND FORM's CARD OF 'graticulelaw19.FmathRemoveAboveValue'. -/
def fmathRemoveAboveValueUptoCard : Claim7 := { stood := { row := fmathRemoveAboveValueUptoRow, standIns := [], harness := (true, "4b4a6af205e58f0dd0a377e67ee45fd990d2340610f17eb985ef01670e88be5f"), looks := false }, kinds := [], alts := [], laidByText := true, laidKinds := [.data, .data, .data, .data, .pinned], laidTests := true, laidLooks := .later }
def FmathRemoveAboveValueUptoCardSaid : Prop := Claim7.holds Tryz.pinned (.plain (OpenSpec.upto fmathRemoveAboveValueSpec)) fmathRemoveAboveValueUptoCard

/-- THE SECOND FORM's CARD OF 'graticulelaw19.FmathRemoveBelowValue'. -/
def fmathRemoveBelowValueUptoCard : Claim7 := { stood := { row := fmathRemoveBelowValueUptoRow, standIns := [], harness := (true, "4b4a6af205e58f0dd0a377e67ee45fd990d2340610f17eb985ef01670e88be5f"), looks := false }, kinds := [], alts := [], laidByText := true, laidKinds := [.data, .data, .data, .data, .pinned], laidTests := true, laidLooks := .later }
def FmathRemoveBelowValueUptoCardSaid : Prop := Claim7.holds Tryz.pinned (.plain (OpenSpec.upto fmathRemoveBelowValueSpec)) fmathRemoveBelowValueUptoCard

/-- THE SECOND FORM's CARD OF 'graticulelaw19.FmathRound'. -/
def fmathRoundUptoCard : Claim7 := { stood := { row := fmathRoundUptoRow, standIns := [], harness := (true, "4b4a6af205e58f0dd0a377e67ee45fd990d2340610f17eb985ef01670e88be5f"), looks := false }, kinds := [], alts := [], laidByText := true, laidKinds := [.data, .data, .data, .data, .pinned], laidTests := true, laidLooks := .later }
def FmathRoundUptoCardSaid : Prop := Claim7.holds Tryz.pinned (.plain (OpenSpec.upto fmathRoundSpec)) fmathRoundUptoCard

/-- THE SECOND FORM's CARD OF 'graticulelaw19.FmathScale'. -/
def fmathScaleUptoCard : Claim7 := { stood := { row := fmathScaleUptoRow, standIns := [], harness := (true, "4b4a6af205e58f0dd0a377e67ee45fd990d2340610f17eb985ef01670e88be5f"), looks := false }, kinds := [], alts := [], laidByText := true, laidKinds := [.data, .data, .data, .data, .pinned], laidTests := true, laidLooks := .later }
def FmathScaleUptoCardSaid : Prop := Claim7.holds Tryz.pinned (.plain (OpenSpec.upto fmathScaleSpec)) fmathScaleUptoCard

/-- THE SECOND FORM's CARD OF 'graticulelaw19.FmathScaleToSeconds'. -/
def fmathScaleToSecondsUptoCard : Claim7 := { stood := { row := fmathScaleToSecondsUptoRow, standIns := [], harness := (true, "4b4a6af205e58f0dd0a377e67ee45fd990d2340610f17eb985ef01670e88be5f"), looks := false }, kinds := [], alts := [], laidByText := true, laidKinds := [.data, .data, .data, .data, .pinned], laidTests := true, laidLooks := .later }
def FmathScaleToSecondsUptoCardSaid : Prop := Claim7.holds Tryz.pinned (.plain (OpenSpec.upto fmathScaleToSecondsSpec)) fmathScaleToSecondsUptoCard

/-- THE SECOND FORM's CARD OF 'graticulelaw19.FmathSign'. -/
def fmathSignUptoCard : Claim7 := { stood := { row := fmathSignUptoRow, standIns := [], harness := (true, "4b4a6af205e58f0dd0a377e67ee45fd990d2340610f17eb985ef01670e88be5f"), looks := false }, kinds := [], alts := [], laidByText := true, laidKinds := [.data, .data, .data, .data, .pinned], laidTests := true, laidLooks := .later }
def FmathSignUptoCardSaid : Prop := Claim7.holds Tryz.pinned (.plain (OpenSpec.upto fmathSignSpec)) fmathSignUptoCard

/-- THE SECOND FORM's CARD OF 'graticulelaw19.FmathSquareRoot'. -/
def fmathSquareRootUptoCard : Claim7 := { stood := { row := fmathSquareRootUptoRow, standIns := [], harness := (true, "4b4a6af205e58f0dd0a377e67ee45fd990d2340610f17eb985ef01670e88be5f"), looks := false }, kinds := [], alts := [], laidByText := true, laidKinds := [.data, .data, .data, .data, .pinned], laidTests := true, laidLooks := .later }
def FmathSquareRootUptoCardSaid : Prop := Claim7.holds Tryz.pinned (.plain (OpenSpec.upto fmathSquareRootSpec)) fmathSquareRootUptoCard

/-- THE SECOND FORM's CARD OF 'graticulelaw19.FmathTransformNull'. -/
def fmathTransformNullUptoCard : Claim7 := { stood := { row := fmathTransformNullUptoRow, standIns := [], harness := (true, "4b4a6af205e58f0dd0a377e67ee45fd990d2340610f17eb985ef01670e88be5f"), looks := false }, kinds := [], alts := [], laidByText := true, laidKinds := [.data, .data, .data, .data, .pinned], laidTests := true, laidLooks := .later }
def FmathTransformNullUptoCardSaid : Prop := Claim7.holds Tryz.pinned (.plain (OpenSpec.upto fmathTransformNullSpec)) fmathTransformNullUptoCard

/-- THE SECOND FORM's CARD OF 'graticulelaw19.FmathOthers'. -/
def fmathOthersUptoCard : Claim7 := { stood := { row := fmathOthersUptoRow, standIns := [], harness := (true, "4b4a6af205e58f0dd0a377e67ee45fd990d2340610f17eb985ef01670e88be5f"), looks := false }, kinds := [], alts := [], laidByText := true, laidKinds := [.data, .data, .data, .data, .pinned], laidTests := true, laidLooks := .later }
def FmathOthersUptoCardSaid : Prop := Claim7.holds Tryz.pinned (.plain (OpenSpec.upto fmathOthersSpec)) fmathOthersUptoCard
end Rows
end Go.Proofs.YtfomknfjidbdcaaGreatDoor
