/-
  A part of the proof that pliantlaw16.MeanConditions returns true and leaves its arguments alone. Conditions: those of the card in the last text.
-/
import Derived.Test.YtdmcanlbncbemaaGreatDoorG17
set_option linter.unusedSimpArgs false
set_option linter.unusedVariables false
set_option linter.unusedSectionVars false
noncomputable section
namespace Go.Proofs.MN
open Go Go.Ev Go.Proofs Go.Ev.SM
variable [SyO]
set_option maxRecDepth 100000000 in
theorem sane_run : Nat.beq (Bc saneB 1 0) 1 = true := by kernel_rfl
end Go.Proofs.MN
end
