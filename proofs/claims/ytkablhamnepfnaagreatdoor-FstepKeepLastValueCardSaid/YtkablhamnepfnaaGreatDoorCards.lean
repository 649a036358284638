/-
  DERIVED. GIVEN WITH THE SEED: THE CARDS: each row of YtkablhamnepfnaaGreatDoorRows.lean that lists a variable, with what it lists TIED to the program's text (the seventh form; the later family's looks); each row that meets fmt, with fmt's text TOLD by the authors' own Lean function (tested against real Go, not proved from fmt's source: count such statements apart). THE CARD IS WHAT COUNTS. Prove the row's statement (the work); the ties are given (YtkablhamnepfnaaGreatDoorTie.lean); close each card by the builder's one call (the guide's Derived/Test/ToyasCard.lean, 'card_holds'). Laid BY PROGRAM, IN A SANDBOX (cutbox-door.mjs). By AI agents, Wed Nov 11 2026. No macro, syntax, notation, axiom, sorry.
-/
import Derived.Test.YtkablhamnepfnaaGreatDoorRows
import GoSem.ClaimSeven
namespace Go.Proofs.YtkablhamnepfnaaGreatDoor
namespace Rows

/-- THE TIED CARD OF 'graticulelaw20.FstepChanged'. -/
def fstepChangedCard : Claim7 := { stood := { row := fstepChangedRow, standIns := [], harness := (true, "c689968383f5a9fe8ef9c0a31be59fb1075029aba3f9f6b495510342ffcccb83"), looks := false }, kinds := [], alts := [], laidByText := true, laidKinds := [.data, .data, .data, .data, .pinned], laidTests := true, laidLooks := .later }
def FstepChangedCardSaid : Prop := Claim7.holds Tryz.pinned (.plain (OpenSpec.ofChange fstepChangedSpec)) fstepChangedCard

/-- THE TIED CARD OF 'graticulelaw20.FstepDelay'. -/
def fstepDelayCard : Claim7 := { stood := { row := fstepDelayRow, standIns := [], harness := (true, "c689968383f5a9fe8ef9c0a31be59fb1075029aba3f9f6b495510342ffcccb83"), looks := false }, kinds := [], alts := [], laidByText := true, laidKinds := [.data, .data, .data, .data, .pinned], laidTests := true, laidLooks := .later }
def FstepDelayCardSaid : Prop := Claim7.holds Tryz.pinned (.plain (OpenSpec.ofChange fstepDelaySpec)) fstepDelayCard

/-- THE TIED CARD OF 'graticulelaw20.FstepDerivative'. -/
def fstepDerivativeCard : Claim7 := { stood := { row := fstepDerivativeRow, standIns := [], harness := (true, "c689968383f5a9fe8ef9c0a31be59fb1075029aba3f9f6b495510342ffcccb83"), looks := false }, kinds := [], alts := [], laidByText := true, laidKinds := [.data, .data, .data, .data, .pinned], laidTests := true, laidLooks := .later }
def FstepDerivativeCardSaid : Prop := Claim7.holds Tryz.pinned (.plain (OpenSpec.ofChange fstepDerivativeSpec)) fstepDerivativeCard

/-- THE TIED CARD OF 'graticulelaw20.FstepIntegral'. -/
def fstepIntegralCard : Claim7 := { stood := { row := fstepIntegralRow, standIns := [], harness := (true, "c689968383f5a9fe8ef9c0a31be59fb1075029aba3f9f6b495510342ffcccb83"), looks := false }, kinds := [], alts := [], laidByText := true, laidKinds := [.data, .data, .data, .data, .pinned], laidTests := true, laidLooks := .later }
def FstepIntegralCardSaid : Prop := Claim7.holds Tryz.pinned (.plain (OpenSpec.ofChange fstepIntegralSpec)) fstepIntegralCard

/-- THE TIED CARD OF 'graticulelaw20.FstepInterpolate'. -/
def fstepInterpolateCard : Claim7 := { stood := { row := fstepInterpolateRow, standIns := [], harness := (true, "c689968383f5a9fe8ef9c0a31be59fb1075029aba3f9f6b495510342ffcccb83"), looks := false }, kinds := [], alts := [], laidByText := true, laidKinds := [.data, .data, .data, .data, .pinned], laidTests := true, laidLooks := .later }
def FstepInterpolateCardSaid : Prop := Claim7.holds Tryz.pinned (.plain (OpenSpec.ofChange fstepInterpolateSpec)) fstepInterpolateCard

/-- THE TIED CARD OF 'graticulelaw20.FstepKeepLastValue'. -/
def fstepKeepLastValueCard : Claim7 := { stood := { row := fstepKeepLastValueRow, standIns := [], harness := (true, "c689968383f5a9fe8ef9c0a31be59fb1075029aba3f9f6b495510342ffcccb83"), looks := false }, kinds := [], alts := [], laidByText := true, laidKinds := [.data, .data, .data, .data, .pinned], laidTests := true, laidLooks := .later }
def FstepKeepLastValueCardSaid : Prop := Claim7.holds Tryz.pinned (.plain (OpenSpec.ofChange fstepKeepLastValueSpec)) fstepKeepLastValueCard

/-- THE TIED CARD OF 'graticulelaw20.FstepNonNegativeDerivative'. -/
def fstepNonNegativeDerivativeCard : Claim7 := { stood := { row := fstepNonNegativeDerivativeRow, standIns := [], harness := (true, "c689968383f5a9fe8ef9c0a31be59fb1075029aba3f9f6b495510342ffcccb83"), looks := false }, kinds := [], alts := [], laidByText := true, laidKinds := [.data, .data, .data, .data, .pinned], laidTests := true, laidLooks := .later }
def FstepNonNegativeDerivativeCardSaid : Prop := Claim7.holds Tryz.pinned (.plain (OpenSpec.ofChange fstepNonNegativeDerivativeSpec)) fstepNonNegativeDerivativeCard

/-- THE TIED CARD OF 'graticulelaw20.FstepPerSecond'. -/
def fstepPerSecondCard : Claim7 := { stood := { row := fstepPerSecondRow, standIns := [], harness := (true, "c689968383f5a9fe8ef9c0a31be59fb1075029aba3f9f6b495510342ffcccb83"), looks := false }, kinds := [], alts := [], laidByText := true, laidKinds := [.data, .data, .data, .data, .pinned], laidTests := true, laidLooks := .later }
def FstepPerSecondCardSaid : Prop := Claim7.holds Tryz.pinned (.plain (OpenSpec.ofChange fstepPerSecondSpec)) fstepPerSecondCard

/-- THE TIED CARD OF 'graticulelaw20.FstepOthers'. -/
def fstepOthersCard : Claim7 := { stood := { row := fstepOthersRow, standIns := [], harness := (true, "c689968383f5a9fe8ef9c0a31be59fb1075029aba3f9f6b495510342ffcccb83"), looks := false }, kinds := [], alts := [], laidByText := true, laidKinds := [.data, .data, .data, .data, .pinned], laidTests := true, laidLooks := .later }
def FstepOthersCardSaid : Prop := Claim7.holds Tryz.pinned (.plain (OpenSpec.ofChange fstepOthersSpec)) fstepOthersCard

/-- THE SECOND FORM's CARD OF 'graticulelaw20.FstepChanged'. -/
def fstepChangedUptoCard : Claim7 := { stood := { row := fstepChangedUptoRow, standIns := [], harness := (true, "c689968383f5a9fe8ef9c0a31be59fb1075029aba3f9f6b495510342ffcccb83"), looks := false }, kinds := [], alts := [], laidByText := true, laidKinds := [.data, .data, .data, .data, .pinned], laidTests := true, laidLooks := .later }
def FstepChangedUptoCardSaid : Prop := Claim7.holds Tryz.pinned (.plain (OpenSpec.upto fstepChangedSpec)) fstepChangedUptoCard

/-- THE SECOND FORM's CARD OF 'graticulelaw20.FstepDelay'. -/
def fstepDelayUptoCard : Claim7 := { stood := { row := fstepDelayUptoRow, standIns := [], harness := (true, "c689968383f5a9fe8ef9c0a31be59fb1075029aba3f9f6b495510342ffcccb83"), looks := false }, kinds := [], alts := [], laidByText := true, laidKinds := [.data, .data, .data, .data, .pinned], laidTests := true, laidLooks := .later }
def FstepDelayUptoCardSaid : Prop := Claim7.holds Tryz.pinned (.plain (OpenSpec.upto fstepDelaySpec)) fstepDelayUptoCard

/-- THE SECOND FORM's CARD OF 'graticulelaw20.FstepDerivative'. -/
def fstepDerivativeUptoCard : Claim7 := { stood := { row := fstepDerivativeUptoRow, standIns := [], harness := (true, "c689968383f5a9fe8ef9c0a31be59fb1075029aba3f9f6b495510342ffcccb83"), looks := false }, kinds := [], alts := [], laidByText := true, laidKinds := [.data, .data, .data, .data, .pinned], laidTests := true, laidLooks := .later }
def FstepDerivativeUptoCardSaid : Prop := Claim7.holds Tryz.pinned (.plain (OpenSpec.upto fstepDerivativeSpec)) fstepDerivativeUptoCard

/-- THE SECOND FORM's CARD OF 'graticulelaw20.FstepIntegral'. -/
def fstepIntegralUptoCard : Claim7 := { stood := { row := fstepIntegralUptoRow, standIns := [], harness := (true, "c689968383f5a9fe8ef9c0a31be59fb1075029aba3f9f6b495510342ffcccb83"), looks := false }, kinds := [], alts := [], laidByText := true, laidKinds := [.data, .data, .data, .data, .pinned], laidTests := true, laidLooks := .later }
def FstepIntegralUptoCardSaid : Prop := Claim7.holds Tryz.pinned (.plain (OpenSpec.upto fstepIntegralSpec)) fstepIntegralUptoCard

/-- THE SECOND FORM's CARD OF 'graticulelaw20.FstepInterpolate'. -/
def fstepInterpolateUptoCard : Claim7 := { stood := { row := fstepInterpolateUptoRow, standIns := [], harness := (true, "c689968383f5a9fe8ef9c0a31be59fb1075029aba3f9f6b495510342ffcccb83"), looks := false }, kinds := [], alts := [], laidByText := true, laidKinds := [.data, .data, .data, .data, .pinned], laidTests := true, laidLooks := .later }
def FstepInterpolateUptoCardSaid : Prop := Claim7.holds Tryz.pinned (.plain (OpenSpec.upto fstepInterpolateSpec)) fstepInterpolateUptoCard

/-- THE SECOND FORM's CARD OF 'graticulelaw20.FstepKeepLastValue'. -/
def fstepKeepLastValueUptoCard : Claim7 := { stood := { row := fstepKeepLastValueUptoRow, standIns := [], harness := (true, "c689968383f5a9fe8ef9c0a31be59fb1075029aba3f9f6b495510342ffcccb83"), looks := false }, kinds := [], alts := [], laidByText := true, laidKinds := [.data, .data, .data, .data, .pinned], laidTests := true, laidLooks := .later }
def FstepKeepLastValueUptoCardSaid : Prop := Claim7.holds Tryz.pinned (.plain (OpenSpec.upto fstepKeepLastValueSpec)) fstepKeepLastValueUptoCard

/-- THE SECOND FORM's CARD OF 'graticulelaw20.FstepNonNegativeDerivative'. -/
def fstepNonNegativeDerivativeUptoCard : Claim7 := { stood := { row := fstepNonNegativeDerivativeUptoRow, standIns := [], harness := (true, "c689968383f5a9fe8ef9c0a31be59fb1075029aba3f9f6b495510342ffcccb83"), looks := false }, kinds := [], alts := [], laidByText := true, laidKinds := [.data, .data, .data, .data, .pinned], laidTests := true, laidLooks := .later }
def FstepNonNegativeDerivativeUptoCardSaid : Prop := Claim7.holds Tryz.pinned (.plain (OpenSpec.upto fstepNonNegativeDerivativeSpec)) fstepNonNegativeDerivativeUptoCard

/-- THE SECOND FORM's CARD OF 'graticulelaw20.FstepPerSecond'. -/
def fstepPerSecondUptoCard : Claim7 := { stood := { row := fstepPerSecondUptoRow, standIns := [], harness := (true, "c689968383f5a9fe8ef9c0a31be59fb1075029aba3f9f6b495510342ffcccb83"), looks := false }, kinds := [], alts := [], laidByText := true, laidKinds := [.data, .data, .data, .data, .pinned], laidTests := true, laidLooks := .later }
def FstepPerSecondUptoCardSaid : Prop := Claim7.holds Tryz.pinned (.plain (OpenSpec.upto fstepPerSecondSpec)) fstepPerSecondUptoCard

/-- THE SECOND FORM's CARD OF 'graticulelaw20.FstepOthers'. -/
def fstepOthersUptoCard : Claim7 := { stood := { row := fstepOthersUptoRow, standIns := [], harness := (true, "c689968383f5a9fe8ef9c0a31be59fb1075029aba3f9f6b495510342ffcccb83"), looks := false }, kinds := [], alts := [], laidByText := true, laidKinds := [.data, .data, .data, .data, .pinned], laidTests := true, laidLooks := .later }
def FstepOthersUptoCardSaid : Prop := Claim7.holds Tryz.pinned (.plain (OpenSpec.upto fstepOthersSpec)) fstepOthersUptoCard
end Rows
end Go.Proofs.YtkablhamnepfnaaGreatDoor
