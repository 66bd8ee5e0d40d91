/-
  A part of the proof that pliantlaw25.TasksCycles returns true and leaves its argument alone. Conditions: those of the card in the last text.
-/
import Derived.Test.YtdaglpleolagnaaGreatDoorG34
set_option linter.unusedSimpArgs false
set_option linter.unusedVariables false

noncomputable section
namespace Go.Proofs.YtdaglpleolagnaaGreatDoor.tasksCycles
theorem tie_n : varsNamedLaterB Tryz.prog (varsId Tryz.prog) tied = true := by
  rw [vars_id]
  unfold varsNamedLaterB Program.callsLaidAlone
  rw [named_elem]
  kernel_rfl
end Go.Proofs.YtdaglpleolagnaaGreatDoor.tasksCycles
end
