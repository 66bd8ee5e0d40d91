/-
  A part of the proof that pliantlaw16.MeanConditions returns true and leaves its arguments alone. Conditions: those of the card in the last text.
-/
import Derived.Test.YtdmcanlbncbemaaGreatDoorG13
set_option linter.unusedSimpArgs false
set_option linter.unusedVariables false
set_option linter.unusedSectionVars false
noncomputable section
namespace Go.Proofs.MN
open Go Go.Ev Go.Proofs Go.Ev.SM
variable [SyO]
set_option maxRecDepth 100000000 in
theorem ty_runs : Nat.beq (Bc (allC sp0 tyL) 1 0) 1 = true := by kernel_rfl
set_option maxRecDepth 100000000 in
theorem sub_runs : Nat.beq (Bc (allB (pB subC) r60) 1 0) 1 = true := by kernel_rfl
set_option maxRecDepth 100000000 in
theorem add_runs : Nat.beq (Bc (allB (pB addC) r60) 1 0) 1 = true := by kernel_rfl
set_option maxRecDepth 100000000 in
theorem to_runs : Nat.beq (Bc (allB (pB toC) r61) 1 0) 1 = true := by kernel_rfl
set_option maxRecDepth 100000000 in
theorem tri_runs : Nat.beq (Bc (allB (pB fun x => toC (triN x)) r61) 1 0) 1 = true := by kernel_rfl
end Go.Proofs.MN
end
