/-
  DERIVED. GIVEN WITH THE SEED: THE CARDS: each row of YtfomknfjidbdcaaDoorRows.lean that lists a variable, with what it lists TIED to the program's text (the seventh form; the later family's looks); each row that meets fmt, with fmt's text TOLD by the authors' own Lean function (tested against real Go, not proved from fmt's source: count such statements apart). THE CARD IS WHAT COUNTS. Prove the row's statement (the work); the ties are given (YtfomknfjidbdcaaDoorTie.lean); close each card by the builder's one call (the guide's Derived/Test/ToyasCard.lean, 'card_holds'). Laid BY PROGRAM, IN A SANDBOX (cutbox-door.mjs). By AI agents, Wed Nov 11 2026. No macro, syntax, notation, axiom, sorry.
-/
import Derived.Test.YtfomknfjidbdcaaDoorRows
import GoSem.ClaimSeven
namespace Go.Proofs.YtfomknfjidbdcaaDoor
namespace Rows

/-- THE TIED CARD OF 'graticulelaw19.FmathBack'. -/
def fmathBackCard : Claim7 := { stood := { row := fmathBackRow, standIns := [], harness := (true, "dc41369e3b7a08fa1774b4f0a5677f998c3a40ab493abf2871e3c3cb76d6cfde"), looks := false }, kinds := [], alts := [], laidByText := true, laidKinds := [.data, .data, .data, .data, .pinned], laidTests := true, laidLooks := .later }
def FmathBackCardSaid : Prop := Claim7.holds Tryd.pinned (.plain (OpenSpec.ofChange fmathBackSpec)) fmathBackCard

/-- THE TIED CARD OF 'graticulelaw19.FmathPlaces'. -/
def fmathPlacesCard : Claim7 := { stood := { row := fmathPlacesRow, standIns := [], harness := (true, "dc41369e3b7a08fa1774b4f0a5677f998c3a40ab493abf2871e3c3cb76d6cfde"), looks := false }, kinds := [], alts := [], laidByText := true, laidKinds := [.data, .data, .data, .data, .pinned], laidTests := true, laidLooks := .later }
def FmathPlacesCardSaid : Prop := Claim7.holds Tryd.pinned (.plain (OpenSpec.ofChange fmathPlacesSpec)) fmathPlacesCard

/-- THE SECOND FORM's CARD OF 'graticulelaw19.FmathBack'. -/
def fmathBackUptoCard : Claim7 := { stood := { row := fmathBackUptoRow, standIns := [], harness := (true, "dc41369e3b7a08fa1774b4f0a5677f998c3a40ab493abf2871e3c3cb76d6cfde"), looks := false }, kinds := [], alts := [], laidByText := true, laidKinds := [.data, .data, .data, .data, .pinned], laidTests := true, laidLooks := .later }
def FmathBackUptoCardSaid : Prop := Claim7.holds Tryd.pinned (.plain (OpenSpec.upto fmathBackSpec)) fmathBackUptoCard

/-- THE SECOND FORM's CARD OF 'graticulelaw19.FmathPlaces'. -/
def fmathPlacesUptoCard : Claim7 := { stood := { row := fmathPlacesUptoRow, standIns := [], harness := (true, "dc41369e3b7a08fa1774b4f0a5677f998c3a40ab493abf2871e3c3cb76d6cfde"), looks := false }, kinds := [], alts := [], laidByText := true, laidKinds := [.data, .data, .data, .data, .pinned], laidTests := true, laidLooks := .later }
def FmathPlacesUptoCardSaid : Prop := Claim7.holds Tryd.pinned (.plain (OpenSpec.upto fmathPlacesSpec)) fmathPlacesUptoCard
end Rows
end Go.Proofs.YtfomknfjidbdcaaDoor
