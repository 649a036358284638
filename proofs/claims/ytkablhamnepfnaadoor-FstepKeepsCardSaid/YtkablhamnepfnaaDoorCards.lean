/-
  DERIVED. GIVEN WITH THE SEED: THE CARDS: each row of YtkablhamnepfnaaDoorRows.lean that lists a variable, with what it lists TIED to the program's text (the seventh form; the later family's looks); each row that meets fmt, with fmt's text TOLD by the authors' own Lean function (tested against real Go, not proved from fmt's source: count such statements apart). THE CARD IS WHAT COUNTS. Prove the row's statement (the work); the ties are given (YtkablhamnepfnaaDoorTie.lean); close each card by the builder's one call (the guide's Derived/Test/ToyasCard.lean, 'card_holds'). Laid BY PROGRAM, IN A SANDBOX (cutbox-door.mjs). By AI agents, Wed Nov 11 2026. No macro, syntax, notation, axiom, sorry.
-/
import Derived.Test.YtkablhamnepfnaaDoorRows
import GoSem.ClaimSeven
namespace Go.Proofs.YtkablhamnepfnaaDoor
namespace Rows

/-- THE TIED CARD OF 'graticulelaw20.FstepBack'. -/
def fstepBackCard : Claim7 := { stood := { row := fstepBackRow, standIns := [], harness := (true, "d88ecb27bbf69d6f6ef057245e307b819b5de9e0d5531cc38bc416677e620463"), looks := false }, kinds := [], alts := [], laidByText := true, laidKinds := [.data, .data, .data, .data, .pinned], laidTests := true, laidLooks := .later }
def FstepBackCardSaid : Prop := Claim7.holds Tryd.pinned (.plain (OpenSpec.ofChange fstepBackSpec)) fstepBackCard

/-- THE TIED CARD OF 'graticulelaw20.FstepKeeps'. -/
def fstepKeepsCard : Claim7 := { stood := { row := fstepKeepsRow, standIns := [], harness := (true, "d88ecb27bbf69d6f6ef057245e307b819b5de9e0d5531cc38bc416677e620463"), looks := false }, kinds := [], alts := [], laidByText := true, laidKinds := [.data, .data, .data, .data, .pinned], laidTests := true, laidLooks := .later }
def FstepKeepsCardSaid : Prop := Claim7.holds Tryd.pinned (.plain (OpenSpec.ofChange fstepKeepsSpec)) fstepKeepsCard

/-- THE SECOND FORM's CARD OF 'graticulelaw20.FstepBack'. -/
def fstepBackUptoCard : Claim7 := { stood := { row := fstepBackUptoRow, standIns := [], harness := (true, "d88ecb27bbf69d6f6ef057245e307b819b5de9e0d5531cc38bc416677e620463"), looks := false }, kinds := [], alts := [], laidByText := true, laidKinds := [.data, .data, .data, .data, .pinned], laidTests := true, laidLooks := .later }
def FstepBackUptoCardSaid : Prop := Claim7.holds Tryd.pinned (.plain (OpenSpec.upto fstepBackSpec)) fstepBackUptoCard

/-- THE SECOND FORM's CARD OF 'graticulelaw20.FstepKeeps'. -/
def fstepKeepsUptoCard : Claim7 := { stood := { row := fstepKeepsUptoRow, standIns := [], harness := (true, "d88ecb27bbf69d6f6ef057245e307b819b5de9e0d5531cc38bc416677e620463"), looks := false }, kinds := [], alts := [], laidByText := true, laidKinds := [.data, .data, .data, .data, .pinned], laidTests := true, laidLooks := .later }
def FstepKeepsUptoCardSaid : Prop := Claim7.holds Tryd.pinned (.plain (OpenSpec.upto fstepKeepsSpec)) fstepKeepsUptoCard
end Rows
end Go.Proofs.YtkablhamnepfnaaDoor
