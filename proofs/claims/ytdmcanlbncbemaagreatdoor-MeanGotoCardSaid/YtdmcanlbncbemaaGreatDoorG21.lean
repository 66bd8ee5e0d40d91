/-
  A part of the proof that pliantlaw16.MeanGoto returns true and leaves its arguments alone. Conditions: those of the card in the last text.
-/
import Derived.Test.YtdmcanlbncbemaaGreatDoorG20
set_option linter.unusedSimpArgs false
set_option linter.unusedVariables false
set_option linter.unusedSectionVars false
noncomputable section
namespace Go.Proofs.MN
open Go Go.Ev Go.Proofs Go.Ev.SM
set_option maxRecDepth 100000000 in
theorem baseF_0 : Nat.beq (Bc (allB (gBaseB rF uR) [1, 2, 3, 4, 5, 6, 7, 8, 9, 10, 11, 12, 13, 14, 15, 16, 17]) 1 0) 1 = true := by kernel_rfl
set_option maxRecDepth 100000000 in
theorem baseF_1 : Nat.beq (Bc (allB (gBaseB rF uR) [18, 19, 20, 21, 22, 23, 24, 25, 26, 27, 28, 29, 30, 31, 32, 33, 34]) 1 0) 1 = true := by kernel_rfl
set_option maxRecDepth 100000000 in
theorem baseF_2 : Nat.beq (Bc (allB (gBaseB rF uR) [35, 36, 37, 38, 39, 40, 41, 42, 43, 44, 45, 46, 47, 48, 49, 50]) 1 0) 1 = true := by kernel_rfl
set_option maxRecDepth 100000000 in
theorem baseT_0 : Nat.beq (Bc (allB (gBaseB rT uR) [1, 2, 3, 4, 5, 6, 7, 8, 9, 10, 11, 12, 13, 14, 15, 16, 17]) 1 0) 1 = true := by kernel_rfl
set_option maxRecDepth 100000000 in
theorem baseT_1 : Nat.beq (Bc (allB (gBaseB rT uR) [18, 19, 20, 21, 22, 23, 24, 25, 26, 27, 28, 29, 30, 31, 32, 33, 34]) 1 0) 1 = true := by kernel_rfl
set_option maxRecDepth 100000000 in
theorem baseT_2 : Nat.beq (Bc (allB (gBaseB rT uR) [35, 36, 37, 38, 39, 40, 41, 42, 43, 44, 45, 46, 47, 48, 49, 50]) 1 0) 1 = true := by kernel_rfl
end Go.Proofs.MN
end
