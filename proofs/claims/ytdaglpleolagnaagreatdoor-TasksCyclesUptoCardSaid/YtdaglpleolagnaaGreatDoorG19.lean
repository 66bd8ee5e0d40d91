/-
  A part of the proof that pliantlaw25.TasksCycles returns true and leaves its argument alone. Conditions: those of the card in the last text.
-/
import Derived.KernelRfl
import Derived.Test.YtdaglpleolagnaaGreatDoorG10
set_option linter.unusedSimpArgs false
set_option linter.unusedVariables false

noncomputable section
namespace Go.Proofs.K25
open Go Go.Ev Go.Proofs
theorem sane_run : retTrue NG (ev Tb0 sp0 100000 (.call 4 []) (Hnone NG)) = true := by kernel_rfl
end Go.Proofs.K25
end
