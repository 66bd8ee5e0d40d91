/-
  A part of the proof that pliantlaw16.MeanRecursion returns true and leaves its arguments alone. Conditions: those of the card in the last text.
-/
import Derived.Test.YtdmcanlbncbemaaGreatDoorG14
set_option linter.unusedSimpArgs false
set_option linter.unusedVariables false
set_option linter.unusedSectionVars false
noncomputable section
namespace Go.Proofs.MN
open Go Go.Ev Go.Proofs Go.Ev.SM
set_option maxRecDepth 100000000 in
theorem deep_2 : Nat.beq (Bc (allB deepB [33, 34, 35, 36, 37, 38, 39, 40, 41, 42, 43, 44, 45, 46, 47, 48]) 1 0) 1 = true := by kernel_rfl
set_option maxRecDepth 100000000 in
theorem base_2 : Nat.beq (Bc (allB baseB [33, 34, 35, 36, 37, 38, 39, 40, 41, 42, 43, 44, 45, 46, 47, 48]) 1 0) 1 = true := by kernel_rfl
end Go.Proofs.MN
end
