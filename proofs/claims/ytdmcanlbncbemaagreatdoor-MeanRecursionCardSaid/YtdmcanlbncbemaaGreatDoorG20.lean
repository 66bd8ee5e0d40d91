/-
  A part of the proof that pliantlaw16.MeanRecursion returns true and leaves its arguments alone. Conditions: those of the card in the last text.
-/
import Derived.Test.YtdmcanlbncbemaaGreatDoorG14
set_option linter.unusedSimpArgs false
set_option linter.unusedVariables false
set_option linter.unusedSectionVars false
noncomputable section
namespace Go.Proofs.MN
open Go Go.Ev Go.Proofs Go.Ev.SM
set_option maxRecDepth 100000000 in
theorem deep_0 : Nat.beq (Bc (allB deepB [1, 2, 3, 4, 5, 6, 7, 8, 9, 10, 11, 12, 13, 14, 15, 16]) 1 0) 1 = true := by kernel_rfl
set_option maxRecDepth 100000000 in
theorem base_0 : Nat.beq (Bc (allB baseB [1, 2, 3, 4, 5, 6, 7, 8, 9, 10, 11, 12, 13, 14, 15, 16]) 1 0) 1 = true := by kernel_rfl
end Go.Proofs.MN
end
