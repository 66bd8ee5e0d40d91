/-
  THE CARD: for every kind, all numbers and either choice that pliantlaw16.MeanConditions is handed the call returns true and the arguments read behind it as they read before.
  Conditions: the listed package variables read as the row lists them (tied to the program text by the given tie).
-/
import Derived.Test.YtdmcanlbncbemaaGreatDoorCards
import Derived.Test.YtdmcanlbncbemaaGreatDoorG36
import Derived.Test.YtdmcanlbncbemaaGreatDoorG41
set_option linter.unusedSimpArgs false
set_option linter.unusedVariables false
set_option linter.unusedSectionVars false
noncomputable section
namespace Go.Proofs.YtdmcanlbncbemaaGreatDoor.meanConditions
theorem card : Rows.MeanConditionsCardSaid :=
  Claim7.holds_tied_plain_at .later [] _ _ _ _ said (fun _ h => by cases h) row_wf (fun _ h => by cases h) row_tie rfl ⟨rfl, rfl⟩ row_main rfl plain row_goes
#print axioms card
end Go.Proofs.YtdmcanlbncbemaaGreatDoor.meanConditions
end
