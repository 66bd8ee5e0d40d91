/-
  DERIVED. GIVEN WITH THE SEED: THE CARDS: each row of YtdmcanlbncbemaaGreatDoorRows.lean that lists a variable, with what it lists TIED to the program's text (the seventh form; the later family's looks); each row that meets fmt, with fmt's text TOLD by the authors' own Lean function (tested against real Go, not proved from fmt's source: count such statements apart). THE CARD IS WHAT COUNTS. Prove the row's statement (the work); the ties are given (YtdmcanlbncbemaaGreatDoorTie.lean); close each card by the builder's one call (the guide's Derived/Test/ToyasCard.lean, 'card_holds'). Laid BY PROGRAM, IN A SANDBOX (cutbox-door.mjs). By AI agents, Wed Nov 11 2026. No macro, syntax, notation, axiom, sorry.
-/
import Derived.Test.YtdmcanlbncbemaaGreatDoorRows
import GoSem.ClaimSeven
namespace Go.Proofs.YtdmcanlbncbemaaGreatDoor
namespace Rows

/-- THE TIED CARD OF 'pliantlaw16.MeanConditions'. -/
def meanConditionsCard : Claim7 := { stood := { row := meanConditionsRow, standIns := [], harness := (true, "3eb8d8e3155be01841347b725250b2cc254e197a124519fccfef76261502dc68"), looks := true }, kinds := [], alts := [], laidByText := true, laidKinds := [.pinned, .data, .data, .sentinel, .sentinel, .data, .data, .data, .data, .data, .handle], laidTests := true, laidLooks := .later }
def MeanConditionsCardSaid : Prop := Claim7.holds Tryz.pinned (.plain (OpenSpec.ofChange meanConditionsSpec)) meanConditionsCard

/-- THE TIED CARD OF 'pliantlaw16.MeanGoto'. -/
def meanGotoCard : Claim7 := { stood := { row := meanGotoRow, standIns := [], harness := (true, "3eb8d8e3155be01841347b725250b2cc254e197a124519fccfef76261502dc68"), looks := true }, kinds := [], alts := [], laidByText := true, laidKinds := [.pinned, .data, .data, .sentinel, .sentinel, .data, .data, .data, .data, .data, .handle], laidTests := true, laidLooks := .later }
def MeanGotoCardSaid : Prop := Claim7.holds Tryz.pinned (.plain (OpenSpec.ofChange meanGotoSpec)) meanGotoCard

/-- THE TIED CARD OF 'pliantlaw16.MeanRecursion'. -/
def meanRecursionCard : Claim7 := { stood := { row := meanRecursionRow, standIns := [], harness := (true, "3eb8d8e3155be01841347b725250b2cc254e197a124519fccfef76261502dc68"), looks := true }, kinds := [], alts := [], laidByText := true, laidKinds := [.pinned, .data, .data, .sentinel, .sentinel, .data, .data, .data, .data, .data, .handle], laidTests := true, laidLooks := .later }
def MeanRecursionCardSaid : Prop := Claim7.holds Tryz.pinned (.plain (OpenSpec.ofChange meanRecursionSpec)) meanRecursionCard

/-- THE TIED CARD OF 'pliantlaw16.MeanAssigns'. -/
def meanAssignsCard : Claim7 := { stood := { row := meanAssignsRow, standIns := [], harness := (true, "3eb8d8e3155be01841347b725250b2cc254e197a124519fccfef76261502dc68"), looks := true }, kinds := [], alts := [], laidByText := true, laidKinds := [.pinned, .data, .data, .sentinel, .sentinel, .data, .data, .data, .data, .data, .handle, .data, .listed], laidTests := true, laidLooks := .later }
def MeanAssignsCardSaid : Prop := Claim7.holds Tryz.pinned (.plain (OpenSpec.ofChange meanAssignsSpec)) meanAssignsCard

/-- THE SECOND FORM's CARD OF 'pliantlaw16.MeanConditions'. -/
def meanConditionsUptoCard : Claim7 := { stood := { row := meanConditionsUptoRow, standIns := [], harness := (true, "3eb8d8e3155be01841347b725250b2cc254e197a124519fccfef76261502dc68"), looks := true }, kinds := [], alts := [], laidByText := true, laidKinds := [.pinned, .data, .data, .sentinel, .sentinel, .data, .data, .data, .data, .data, .handle], laidTests := true, laidLooks := .later }
def MeanConditionsUptoCardSaid : Prop := Claim7.holds Tryz.pinned (.plain (OpenSpec.upto meanConditionsSpec)) meanConditionsUptoCard

/-- THE SECOND FORM's CARD OF 'pliantlaw16.MeanGoto'. -/
def meanGotoUptoCard : Claim7 := { stood := { row := meanGotoUptoRow, standIns := [], harness := (true, "3eb8d8e3155be01841347b725250b2cc254e197a124519fccfef76261502dc68"), looks := true }, kinds := [], alts := [], laidByText := true, laidKinds := [.pinned, .data, .data, .sentinel, .sentinel, .data, .data, .data, .data, .data, .handle], laidTests := true, laidLooks := .later }
def MeanGotoUptoCardSaid : Prop := Claim7.holds Tryz.pinned (.plain (OpenSpec.upto meanGotoSpec)) meanGotoUptoCard

/-- THE SECOND FORM's CARD OF 'pliantlaw16.MeanRecursion'. -/
def meanRecursionUptoCard : Claim7 := { stood := { row := meanRecursionUptoRow, standIns := [], harness := (true, "3eb8d8e3155be01841347b725250b2cc254e197a124519fccfef76261502dc68"), looks := true }, kinds := [], alts := [], laidByText := true, laidKinds := [.pinned, .data, .data, .sentinel, .sentinel, .data, .data, .data, .data, .data, .handle], laidTests := true, laidLooks := .later }
def MeanRecursionUptoCardSaid : Prop := Claim7.holds Tryz.pinned (.plain (OpenSpec.upto meanRecursionSpec)) meanRecursionUptoCard

/-- THE SECOND FORM's CARD OF 'pliantlaw16.MeanAssigns'. -/
def meanAssignsUptoCard : Claim7 := { stood := { row := meanAssignsUptoRow, standIns := [], harness := (true, "3eb8d8e3155be01841347b725250b2cc254e197a124519fccfef76261502dc68"), looks := true }, kinds := [], alts := [], laidByText := true, laidKinds := [.pinned, .data, .data, .sentinel, .sentinel, .data, .data, .data, .data, .data, .handle, .data, .listed], laidTests := true, laidLooks := .later }
def MeanAssignsUptoCardSaid : Prop := Claim7.holds Tryz.pinned (.plain (OpenSpec.upto meanAssignsSpec)) meanAssignsUptoCard
end Rows
end Go.Proofs.YtdmcanlbncbemaaGreatDoor
