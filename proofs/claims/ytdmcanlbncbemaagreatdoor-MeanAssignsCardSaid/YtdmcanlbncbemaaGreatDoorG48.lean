/-
 THE CARD: for every list of steps and every number that pliantlaw16.MeanAssigns is handed the call returns true and the arguments read behind it as they read before.
 Conditions: the listed package variables read as the row lists them (tied to the program text by the given tie).
-/
import Derived.Test.YtdmcanlbncbemaaGreatDoorCards
import Derived.Test.YtdmcanlbncbemaaGreatDoorG42
import Derived.Test.YtdmcanlbncbemaaGreatDoorG47
set_option linter.unusedVariables false
set_option maxRecDepth 100000
set_option maxHeartbeats 8000000
noncomputable section
namespace Go.Proofs.YtdmcanlbncbemaaGreatDoor.meanAssigns
theorem card:Rows.MeanAssignsCardSaid :=
 Claim7.holds_tied_plain_at .later [] _ _ _ _ said (λ_ h=>by cases h) row_wf (λ_ h=>by cases h) row_tie rfl ⟨rfl,rfl⟩ row_main rfl plain row_goes
#print axioms card
end Go.Proofs.YtdmcanlbncbemaaGreatDoor.meanAssigns
end
