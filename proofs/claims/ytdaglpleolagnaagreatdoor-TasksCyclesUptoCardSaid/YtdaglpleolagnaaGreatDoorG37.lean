/-
  A part of the proof that pliantlaw25.TasksCycles returns true and leaves its argument alone. Conditions: those of the card in the last text.
-/
import Derived.Test.YtdaglpleolagnaaGreatDoorG34
set_option linter.unusedSimpArgs false
set_option linter.unusedVariables false

noncomputable section
namespace Go.Proofs.YtdaglpleolagnaaGreatDoor.tasksCycles
theorem tie_vals (os : Os) (tape : Tape) : (DataW.laidRun Tryz.prog (varsWorld Tryz.prog 400 828 os tape).memory 8 ((tied.filter fun x => x.2.handleName?.isNone).map (·.1))).map (·.1) = some (tied.filter fun x => x.2.handleName?.isNone) := by kernel_rfl
end Go.Proofs.YtdaglpleolagnaaGreatDoor.tasksCycles
end
