/-
  A part of the proof that pliantlaw25.TasksCycles returns true and leaves its argument alone. Conditions: those of the card in the last text.
-/
import Derived.Deep.DeepLaidRun
import Derived.Test.YtdaglpleolagnaaGreatDoorG28
set_option linter.unusedSimpArgs false
set_option linter.unusedVariables false

noncomputable section
set_option linter.unusedSimpArgs false
set_option linter.unusedVariables false
namespace Go.Proofs.YtdaglpleolagnaaGreatDoor.tasksCycles
open Go.ChangeShapes Go.WideShapes Go.ChangeAt Go.RowKit Go.Deep
theorem laid_rows (os : Os) : (DataW.laidRun Tryz.prog (witW os).memory 8 ((Rows.tasksCyclesUptoRow.laid.filter fun x => x.2.handleName?.isNone).map (·.1))).map (fun x => laidRowsB Tryz.prog (witW os).memory x.2) = some true := by kernel_rfl
end Go.Proofs.YtdaglpleolagnaaGreatDoor.tasksCycles
end
