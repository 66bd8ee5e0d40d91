/-
  DERIVED. GIVEN WITH THE SEED: THE CARDS: each row of YtdaglpleolagnaaGreatDoorRows.lean that lists a variable, with what it lists TIED to the program's text (the seventh form; the later family's looks); each row that meets fmt, with fmt's text TOLD by the authors' own Lean function (tested against real Go, not proved from fmt's source: count such statements apart). THE CARD IS WHAT COUNTS. Prove the row's statement (the work); the ties are given (YtdaglpleolagnaaGreatDoorTie.lean); close each card by the builder's one call (the guide's Derived/Test/ToyasCard.lean, 'card_holds'). Laid BY PROGRAM, IN A SANDBOX (cutbox-door.mjs). By AI agents, Wed Nov 11 2026. No macro, syntax, notation, axiom, sorry.
-/
import Derived.Test.YtdaglpleolagnaaGreatDoorRows
import GoSem.ClaimSeven
namespace Go.Proofs.YtdaglpleolagnaaGreatDoor
namespace Rows

/-- THE TIED CARD OF 'pliantlaw25.TasksCycles'. -/
def tasksCyclesCard : Claim7 := { stood := { row := tasksCyclesRow, standIns := [], harness := (true, "0bef746cf4c2eb782383f25a04dd15e394ca55f48c35960bc69f0c67f573de75"), looks := true }, kinds := [], alts := [], laidByText := true, laidKinds := [.pinned, .data, .data, .sentinel, .sentinel, .data, .data, .data, .data, .data, .handle], laidTests := true, laidLooks := .later }
def TasksCyclesCardSaid : Prop := Claim7.holds Tryz.pinned (.plain (OpenSpec.ofChange tasksCyclesSpec)) tasksCyclesCard

/-- THE SECOND FORM's CARD OF 'pliantlaw25.TasksCycles'. -/
def tasksCyclesUptoCard : Claim7 := { stood := { row := tasksCyclesUptoRow, standIns := [], harness := (true, "0bef746cf4c2eb782383f25a04dd15e394ca55f48c35960bc69f0c67f573de75"), looks := true }, kinds := [], alts := [], laidByText := true, laidKinds := [.pinned, .data, .data, .sentinel, .sentinel, .data, .data, .data, .data, .data, .handle], laidTests := true, laidLooks := .later }
def TasksCyclesUptoCardSaid : Prop := Claim7.holds Tryz.pinned (.plain (OpenSpec.upto tasksCyclesSpec)) tasksCyclesUptoCard
end Rows
end Go.Proofs.YtdaglpleolagnaaGreatDoor
