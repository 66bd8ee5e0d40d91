/-
  A part of the proof that pliantlaw16.MeanGoto returns true and leaves its arguments alone. Conditions: those of the card in the last text.
-/
import Derived.Test.YtdmcanlbncbemaaGreatDoorG40
set_option linter.unusedSimpArgs false
set_option linter.unusedVariables false
set_option linter.unusedSectionVars false
noncomputable section
namespace Go.Proofs.YtdmcanlbncbemaaGreatDoor.meanGoto
theorem tie_vals (os : Os) (tape : Tape) : (DataW.laidRun Tryz.prog (varsWorld Tryz.prog 400 627 os tape).memory 8 ((tied.filter fun x => x.2.handleName?.isNone).map (·.1))).map (·.1) = some (tied.filter fun x => x.2.handleName?.isNone) := by kernel_rfl
end Go.Proofs.YtdmcanlbncbemaaGreatDoor.meanGoto
end
