/-
  A part of the proof that pliantlaw16.MeanConditions returns true and leaves its arguments alone. Conditions: those of the card in the last text.
-/
import Derived.Test.YtdmcanlbncbemaaGreatDoorG13
set_option linter.unusedSimpArgs false
set_option linter.unusedVariables false
set_option linter.unusedSectionVars false
noncomputable section
namespace Go.Proofs.MN
open Go Go.Ev Go.Proofs Go.Ev.SM
variable [SyO]
set_option maxRecDepth 100000000 in
theorem cmp_runs : Nat.beq (Bc (allB (pB cmpC) r61) 1 0) 1 = true := by kernel_rfl
set_option maxRecDepth 100000000 in
theorem chk_runs : Nat.beq (Bc (allB (pB chkC) r61) 1 0) 1 = true := by kernel_rfl
set_option maxRecDepth 100000000 in
theorem fits_runs : Nat.beq (Bc (allB (pB fitsC) r61) 1 0) 1 = true := by kernel_rfl
set_option maxRecDepth 100000000 in
theorem enc_runs : Nat.beq (Bc (allB (pB encC) r61) 1 0) 1 = true := by kernel_rfl
set_option maxRecDepth 100000000 in
theorem dec_runs : Nat.beq (Bc (allB (pB decC) r61) 1 0) 1 = true := by kernel_rfl
end Go.Proofs.MN
end
