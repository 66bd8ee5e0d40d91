/-
  A part of the proof that pliantlaw16.MeanGoto returns true and leaves its arguments alone. Conditions: those of the card in the last text.
-/
import Derived.Test.YtdmcanlbncbemaaGreatDoorG26
set_option linter.unusedSimpArgs false
set_option linter.unusedVariables false
set_option linter.unusedSectionVars false
noncomputable section
namespace Go.Proofs.MN
open Go Go.Ev Go.Proofs Go.Ev.SM
set_option maxRecDepth 100000000 in
theorem lawF_2_0 : Nat.beq (Bc (allB (lawG false) [35, 36, 37, 38, 39, 40, 41, 42, 43]) 1 0) 1 = true := by kernel_rfl
set_option maxRecDepth 100000000 in
theorem lawF_2_1 : Nat.beq (Bc (allB (lawG false) [44, 45, 46, 47, 48, 49, 50]) 1 0) 1 = true := by kernel_rfl
set_option maxRecDepth 100000000 in
theorem lawT_0_0 : Nat.beq (Bc (allB (lawG true) [1, 2, 3, 4, 5, 6, 7, 8, 9]) 1 0) 1 = true := by kernel_rfl
set_option maxRecDepth 100000000 in
theorem lawT_0_1 : Nat.beq (Bc (allB (lawG true) [10, 11, 12, 13, 14, 15, 16, 17]) 1 0) 1 = true := by kernel_rfl
end Go.Proofs.MN
end
