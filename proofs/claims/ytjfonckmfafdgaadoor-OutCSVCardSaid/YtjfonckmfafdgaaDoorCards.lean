/-
  DERIVED. GIVEN WITH THE SEED: THE CARDS: each row of YtjfonckmfafdgaaDoorRows.lean that lists a variable, with what it lists TIED to the program's text (the seventh form; the later family's looks); each row that meets fmt, with fmt's text TOLD by the authors' own Lean function (tested against real Go, not proved from fmt's source: count such statements apart). THE CARD IS WHAT COUNTS. Prove the row's statement (the work); the ties are given (YtjfonckmfafdgaaDoorTie.lean); close each card by the builder's one call (the guide's Derived/Test/ToyasCard.lean, 'card_holds'). Laid BY PROGRAM, IN A SANDBOX (cutbox-door.mjs). By AI agents, Wed Nov 11 2026. No macro, syntax, notation, axiom, sorry.
-/
import Derived.Test.YtjfonckmfafdgaaDoorRows
import GoSem.ClaimSeven
namespace Go.Proofs.YtjfonckmfafdgaaDoor
namespace Rows

/-- THE TIED CARD OF 'graticulelaw28.OutRaw'. -/
def outRawCard : Claim7 := { stood := { row := outRawRow, standIns := [], harness := (true, "7fdf2e6521929bdfe760ff3383b3d91be567dc4ded5cb9afb081ef707653195a"), looks := false }, kinds := [], alts := [], laidByText := true, laidKinds := [.data, .data, .data, .data, .pinned], laidTests := true, laidLooks := .later }
def OutRawCardSaid : Prop := Claim7.holds Tryd.pinned (.plain (OpenSpec.ofChange outRawSpec)) outRawCard

/-- THE TIED CARD OF 'graticulelaw28.OutParses'. -/
def outParsesCard : Claim7 := { stood := { row := outParsesRow, standIns := [], harness := (true, "7fdf2e6521929bdfe760ff3383b3d91be567dc4ded5cb9afb081ef707653195a"), looks := false }, kinds := [], alts := [], laidByText := true, laidKinds := [.data, .data, .data, .data, .pinned], laidTests := true, laidLooks := .later }
def OutParsesCardSaid : Prop := Claim7.holds Tryd.pinned (.plain (OpenSpec.ofChange outParsesSpec)) outParsesCard

/-- THE TIED CARD OF 'graticulelaw28.OutQuotes'. -/
def outQuotesCard : Claim7 := { stood := { row := outQuotesRow, standIns := [], harness := (true, "7fdf2e6521929bdfe760ff3383b3d91be567dc4ded5cb9afb081ef707653195a"), looks := false }, kinds := [], alts := [], laidByText := true, laidKinds := [.data, .data, .data, .data, .pinned], laidTests := true, laidLooks := .later }
def OutQuotesCardSaid : Prop := Claim7.holds Tryd.pinned (.plain (OpenSpec.ofChange outQuotesSpec)) outQuotesCard

/-- THE TIED CARD OF 'graticulelaw28.OutJSON'. -/
def outJSONCard : Claim7 := { stood := { row := outJSONRow, standIns := [], harness := (true, "7fdf2e6521929bdfe760ff3383b3d91be567dc4ded5cb9afb081ef707653195a"), looks := false }, kinds := [], alts := [], laidByText := true, laidKinds := [.data, .data, .data, .data, .pinned], laidTests := true, laidLooks := .later }
def OutJSONCardSaid : Prop := Claim7.holds Tryd.pinned (.plain (OpenSpec.ofChange outJSONSpec)) outJSONCard

/-- THE TIED CARD OF 'graticulelaw28.OutCSV'. -/
def outCSVCard : Claim7 := { stood := { row := outCSVRow, standIns := [], harness := (true, "7fdf2e6521929bdfe760ff3383b3d91be567dc4ded5cb9afb081ef707653195a"), looks := false }, kinds := [], alts := [], laidByText := true, laidKinds := [.data, .data, .data, .data, .pinned], laidTests := true, laidLooks := .later }
def OutCSVCardSaid : Prop := Claim7.holds Tryd.pinned (.plain (OpenSpec.ofChange outCSVSpec)) outCSVCard

/-- THE SECOND FORM's CARD OF 'graticulelaw28.OutRaw'. -/
def outRawUptoCard : Claim7 := { stood := { row := outRawUptoRow, standIns := [], harness := (true, "7fdf2e6521929bdfe760ff3383b3d91be567dc4ded5cb9afb081ef707653195a"), looks := false }, kinds := [], alts := [], laidByText := true, laidKinds := [.data, .data, .data, .data, .pinned], laidTests := true, laidLooks := .later }
def OutRawUptoCardSaid : Prop := Claim7.holds Tryd.pinned (.plain (OpenSpec.upto outRawSpec)) outRawUptoCard

/-- THE SECOND FORM's CARD OF 'graticulelaw28.OutParses'. -/
def outParsesUptoCard : Claim7 := { stood := { row := outParsesUptoRow, standIns := [], harness := (true, "7fdf2e6521929bdfe760ff3383b3d91be567dc4ded5cb9afb081ef707653195a"), looks := false }, kinds := [], alts := [], laidByText := true, laidKinds := [.data, .data, .data, .data, .pinned], laidTests := true, laidLooks := .later }
def OutParsesUptoCardSaid : Prop := Claim7.holds Tryd.pinned (.plain (OpenSpec.upto outParsesSpec)) outParsesUptoCard

/-- THE SECOND FORM's CARD OF 'graticulelaw28.OutQuotes'. -/
def outQuotesUptoCard : Claim7 := { stood := { row := outQuotesUptoRow, standIns := [], harness := (true, "7fdf2e6521929bdfe760ff3383b3d91be567dc4ded5cb9afb081ef707653195a"), looks := false }, kinds := [], alts := [], laidByText := true, laidKinds := [.data, .data, .data, .data, .pinned], laidTests := true, laidLooks := .later }
def OutQuotesUptoCardSaid : Prop := Claim7.holds Tryd.pinned (.plain (OpenSpec.upto outQuotesSpec)) outQuotesUptoCard

/-- THE SECOND FORM's CARD OF 'graticulelaw28.OutJSON'. -/
def outJSONUptoCard : Claim7 := { stood := { row := outJSONUptoRow, standIns := [], harness := (true, "7fdf2e6521929bdfe760ff3383b3d91be567dc4ded5cb9afb081ef707653195a"), looks := false }, kinds := [], alts := [], laidByText := true, laidKinds := [.data, .data, .data, .data, .pinned], laidTests := true, laidLooks := .later }
def OutJSONUptoCardSaid : Prop := Claim7.holds Tryd.pinned (.plain (OpenSpec.upto outJSONSpec)) outJSONUptoCard

/-- THE SECOND FORM's CARD OF 'graticulelaw28.OutCSV'. -/
def outCSVUptoCard : Claim7 := { stood := { row := outCSVUptoRow, standIns := [], harness := (true, "7fdf2e6521929bdfe760ff3383b3d91be567dc4ded5cb9afb081ef707653195a"), looks := false }, kinds := [], alts := [], laidByText := true, laidKinds := [.data, .data, .data, .data, .pinned], laidTests := true, laidLooks := .later }
def OutCSVUptoCardSaid : Prop := Claim7.holds Tryd.pinned (.plain (OpenSpec.upto outCSVSpec)) outCSVUptoCard
end Rows
end Go.Proofs.YtjfonckmfafdgaaDoor
