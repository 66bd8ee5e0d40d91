/-
  DERIVED. GIVEN WITH THE SEED: THE CARDS: each row of YtgdejggelcpokaaGreatDoorRows.lean that lists a variable, with what it lists TIED to the program's text (the seventh form; the later family's looks); each row that meets fmt, with fmt's text TOLD by the authors' own Lean function (tested against real Go, not proved from fmt's source: count such statements apart). THE CARD IS WHAT COUNTS. Prove the row's statement (the work); the ties are given (YtgdejggelcpokaaGreatDoorTie.lean); close each card by the builder's one call (the guide's Derived/Test/ToyasCard.lean, 'card_holds'). Laid BY PROGRAM, IN A SANDBOX (cutbox-door.mjs). By AI agents, Wed Nov 11 2026. No macro, syntax, notation, axiom, sorry.
-/
import Derived.Test.YtgdejggelcpokaaGreatDoorRows
import GoSem.ClaimSeven
namespace Go.Proofs.YtgdejggelcpokaaGreatDoor
namespace Rows

/-- THE TIED CARD OF 'pliantlaw15.RtsStacks'. -/
def rtsStacksCard : Claim7 := { stood := { row := rtsStacksRow, standIns := [], harness := (true, "263c6b14f10614155aff2c93d6237742614a4f730716accdab09f84b614352ec"), looks := true }, kinds := [], alts := [], laidByText := true, laidKinds := [.data, .data, .data, .data, .sentinel, .sentinel, .data, .data, .data, .pinned], laidTests := true, laidLooks := .later }
def RtsStacksCardSaid : Prop := Claim7.holds Tryz.pinned (.plain (OpenSpec.ofChange rtsStacksSpec)) rtsStacksCard

/-- THE TIED CARD OF 'pliantlaw15.RtsAreas'. -/
def rtsAreasCard : Claim7 := { stood := { row := rtsAreasRow, standIns := [], harness := (true, "263c6b14f10614155aff2c93d6237742614a4f730716accdab09f84b614352ec"), looks := true }, kinds := [], alts := [], laidByText := true, laidKinds := [.data, .data, .data, .data, .sentinel, .sentinel, .data, .data, .data, .pinned], laidTests := true, laidLooks := .later }
def RtsAreasCardSaid : Prop := Claim7.holds Tryz.pinned (.plain (OpenSpec.ofChange rtsAreasSpec)) rtsAreasCard

/-- THE TIED CARD OF 'pliantlaw15.RtsReads'. -/
def rtsReadsCard : Claim7 := { stood := { row := rtsReadsRow, standIns := [], harness := (true, "263c6b14f10614155aff2c93d6237742614a4f730716accdab09f84b614352ec"), looks := true }, kinds := [], alts := [], laidByText := true, laidKinds := [.data, .data, .data, .data, .sentinel, .sentinel, .data, .data, .data, .pinned], laidTests := true, laidLooks := .later }
def RtsReadsCardSaid : Prop := Claim7.holds Tryz.pinned (.plain (OpenSpec.ofChange rtsReadsSpec)) rtsReadsCard

/-- THE SECOND FORM's CARD OF 'pliantlaw15.RtsStacks'. -/
def rtsStacksUptoCard : Claim7 := { stood := { row := rtsStacksUptoRow, standIns := [], harness := (true, "263c6b14f10614155aff2c93d6237742614a4f730716accdab09f84b614352ec"), looks := true }, kinds := [], alts := [], laidByText := true, laidKinds := [.data, .data, .data, .data, .sentinel, .sentinel, .data, .data, .data, .pinned], laidTests := true, laidLooks := .later }
def RtsStacksUptoCardSaid : Prop := Claim7.holds Tryz.pinned (.plain (OpenSpec.upto rtsStacksSpec)) rtsStacksUptoCard

/-- THE SECOND FORM's CARD OF 'pliantlaw15.RtsAreas'. -/
def rtsAreasUptoCard : Claim7 := { stood := { row := rtsAreasUptoRow, standIns := [], harness := (true, "263c6b14f10614155aff2c93d6237742614a4f730716accdab09f84b614352ec"), looks := true }, kinds := [], alts := [], laidByText := true, laidKinds := [.data, .data, .data, .data, .sentinel, .sentinel, .data, .data, .data, .pinned], laidTests := true, laidLooks := .later }
def RtsAreasUptoCardSaid : Prop := Claim7.holds Tryz.pinned (.plain (OpenSpec.upto rtsAreasSpec)) rtsAreasUptoCard

/-- THE SECOND FORM's CARD OF 'pliantlaw15.RtsReads'. -/
def rtsReadsUptoCard : Claim7 := { stood := { row := rtsReadsUptoRow, standIns := [], harness := (true, "263c6b14f10614155aff2c93d6237742614a4f730716accdab09f84b614352ec"), looks := true }, kinds := [], alts := [], laidByText := true, laidKinds := [.data, .data, .data, .data, .sentinel, .sentinel, .data, .data, .data, .pinned], laidTests := true, laidLooks := .later }
def RtsReadsUptoCardSaid : Prop := Claim7.holds Tryz.pinned (.plain (OpenSpec.upto rtsReadsSpec)) rtsReadsUptoCard
end Rows
end Go.Proofs.YtgdejggelcpokaaGreatDoor
