/-
  A part of the proof that pliantlaw16.MeanGoto returns true and leaves its arguments alone. Conditions: those of the card in the last text.
-/
import Derived.Test.YtdmcanlbncbemaaGreatDoorG40
set_option linter.unusedSimpArgs false
set_option linter.unusedVariables false
set_option linter.unusedSectionVars false
noncomputable section
namespace Go.Proofs.YtdmcanlbncbemaaGreatDoor.meanGoto
theorem tie_done (os : Os) (tape : Tape) : varsDone Tryz.prog 400 627 os tape = true := by kernel_rfl
end Go.Proofs.YtdmcanlbncbemaaGreatDoor.meanGoto
end
