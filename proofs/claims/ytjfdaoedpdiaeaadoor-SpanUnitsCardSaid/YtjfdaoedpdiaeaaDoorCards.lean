/-
  DERIVED. GIVEN WITH THE SEED: THE CARDS: each row of YtjfdaoedpdiaeaaDoorRows.lean that lists a variable, with what it lists TIED to the program's text (the seventh form; the later family's looks); each row that meets fmt, with fmt's text TOLD by the authors' own Lean function (tested against real Go, not proved from fmt's source: count such statements apart). THE CARD IS WHAT COUNTS. Prove the row's statement (the work); the ties are given (YtjfdaoedpdiaeaaDoorTie.lean); close each card by the builder's one call (the guide's Derived/Test/ToyasCard.lean, 'card_holds'). Laid BY PROGRAM, IN A SANDBOX (cutbox-door.mjs). By AI agents, Wed Nov 11 2026. No macro, syntax, notation, axiom, sorry.
-/
import Derived.Test.YtjfdaoedpdiaeaaDoorRows
import GoSem.ClaimSeven
namespace Go.Proofs.YtjfdaoedpdiaeaaDoor
namespace Rows

/-- THE TIED CARD OF 'graticulelaw16.SpanReads'. -/
def spanReadsCard : Claim7 := { stood := { row := spanReadsRow, standIns := [], harness := (true, "5dead1418becd18cf04b35459e2aef366ad74490691275b78b280d277029af84"), looks := false }, kinds := [], alts := [], laidByText := true, laidKinds := [.data, .data, .data], laidTests := true, laidLooks := .later }
def SpanReadsCardSaid : Prop := Claim7.holds Tryd.pinned (.plain (OpenSpec.ofChange spanReadsSpec)) spanReadsCard

/-- THE TIED CARD OF 'graticulelaw16.SpanClock'. -/
def spanClockCard : Claim7 := { stood := { row := spanClockRow, standIns := [], harness := (true, "5dead1418becd18cf04b35459e2aef366ad74490691275b78b280d277029af84"), looks := false }, kinds := [], alts := [], laidByText := true, laidKinds := [.data, .data, .data], laidTests := true, laidLooks := .later }
def SpanClockCardSaid : Prop := Claim7.holds Tryd.pinned (.plain (OpenSpec.ofChange spanClockSpec)) spanClockCard

/-- THE TIED CARD OF 'graticulelaw16.SpanDigits'. -/
def spanDigitsCard : Claim7 := { stood := { row := spanDigitsRow, standIns := [], harness := (true, "5dead1418becd18cf04b35459e2aef366ad74490691275b78b280d277029af84"), looks := false }, kinds := [], alts := [], laidByText := true, laidKinds := [.data, .data, .data], laidTests := true, laidLooks := .later }
def SpanDigitsCardSaid : Prop := Claim7.holds Tryd.pinned (.plain (OpenSpec.ofChange spanDigitsSpec)) spanDigitsCard

/-- THE TIED CARD OF 'graticulelaw16.SpanUnits'. -/
def spanUnitsCard : Claim7 := { stood := { row := spanUnitsRow, standIns := [], harness := (true, "5dead1418becd18cf04b35459e2aef366ad74490691275b78b280d277029af84"), looks := false }, kinds := [], alts := [], laidByText := true, laidKinds := [.data, .data, .data], laidTests := true, laidLooks := .later }
def SpanUnitsCardSaid : Prop := Claim7.holds Tryd.pinned (.plain (OpenSpec.ofChange spanUnitsSpec)) spanUnitsCard

/-- THE SECOND FORM's CARD OF 'graticulelaw16.SpanReads'. -/
def spanReadsUptoCard : Claim7 := { stood := { row := spanReadsUptoRow, standIns := [], harness := (true, "5dead1418becd18cf04b35459e2aef366ad74490691275b78b280d277029af84"), looks := false }, kinds := [], alts := [], laidByText := true, laidKinds := [.data, .data, .data], laidTests := true, laidLooks := .later }
def SpanReadsUptoCardSaid : Prop := Claim7.holds Tryd.pinned (.plain (OpenSpec.upto spanReadsSpec)) spanReadsUptoCard

/-- THE SECOND FORM's CARD OF 'graticulelaw16.SpanClock'. -/
def spanClockUptoCard : Claim7 := { stood := { row := spanClockUptoRow, standIns := [], harness := (true, "5dead1418becd18cf04b35459e2aef366ad74490691275b78b280d277029af84"), looks := false }, kinds := [], alts := [], laidByText := true, laidKinds := [.data, .data, .data], laidTests := true, laidLooks := .later }
def SpanClockUptoCardSaid : Prop := Claim7.holds Tryd.pinned (.plain (OpenSpec.upto spanClockSpec)) spanClockUptoCard

/-- THE SECOND FORM's CARD OF 'graticulelaw16.SpanDigits'. -/
def spanDigitsUptoCard : Claim7 := { stood := { row := spanDigitsUptoRow, standIns := [], harness := (true, "5dead1418becd18cf04b35459e2aef366ad74490691275b78b280d277029af84"), looks := false }, kinds := [], alts := [], laidByText := true, laidKinds := [.data, .data, .data], laidTests := true, laidLooks := .later }
def SpanDigitsUptoCardSaid : Prop := Claim7.holds Tryd.pinned (.plain (OpenSpec.upto spanDigitsSpec)) spanDigitsUptoCard

/-- THE SECOND FORM's CARD OF 'graticulelaw16.SpanUnits'. -/
def spanUnitsUptoCard : Claim7 := { stood := { row := spanUnitsUptoRow, standIns := [], harness := (true, "5dead1418becd18cf04b35459e2aef366ad74490691275b78b280d277029af84"), looks := false }, kinds := [], alts := [], laidByText := true, laidKinds := [.data, .data, .data], laidTests := true, laidLooks := .later }
def SpanUnitsUptoCardSaid : Prop := Claim7.holds Tryd.pinned (.plain (OpenSpec.upto spanUnitsSpec)) spanUnitsUptoCard
end Rows
end Go.Proofs.YtjfdaoedpdiaeaaDoor
