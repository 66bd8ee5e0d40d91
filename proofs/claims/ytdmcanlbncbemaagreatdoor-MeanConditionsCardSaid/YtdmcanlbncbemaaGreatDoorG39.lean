/-
  A part of the proof that pliantlaw16.MeanConditions returns true and leaves its arguments alone. Conditions: those of the card in the last text.
-/
import Derived.Test.YtdmcanlbncbemaaGreatDoorG37
set_option linter.unusedSimpArgs false
set_option linter.unusedVariables false
set_option linter.unusedSectionVars false
noncomputable section
namespace Go.Proofs.YtdmcanlbncbemaaGreatDoor.meanConditions
theorem tie_done (os : Os) (tape : Tape) : varsDone Tryz.prog 400 627 os tape = true := by kernel_rfl
theorem tie_vals (os : Os) (tape : Tape) : (DataW.laidRun Tryz.prog (varsWorld Tryz.prog 400 627 os tape).memory 8 ((tied.filter fun x => x.2.handleName?.isNone).map (·.1))).map (·.1) = some (tied.filter fun x => x.2.handleName?.isNone) := by kernel_rfl
end Go.Proofs.YtdmcanlbncbemaaGreatDoor.meanConditions
end
