/-
  A part of the proof that pliantlaw16.MeanGoto returns true and leaves its arguments alone. Conditions: those of the card in the last text.
-/
import Derived.Test.YtdmcanlbncbemaaGreatDoorG26
set_option linter.unusedSimpArgs false
set_option linter.unusedVariables false
set_option linter.unusedSectionVars false
noncomputable section
namespace Go.Proofs.MN
open Go Go.Ev Go.Proofs Go.Ev.SM
set_option maxRecDepth 100000000 in
theorem chkF_run : Nat.beq (Bc (chkB false) 1 0) 1 = true := by kernel_rfl
set_option maxRecDepth 100000000 in
theorem chkT_run : Nat.beq (Bc (chkB true) 1 0) 1 = true := by kernel_rfl
set_option maxRecDepth 100000000 in
theorem two_runs : Nat.beq (Bc (simB clTwo1) (Bc (simB clTwo2) 1 0) 0) 1 = true := by kernel_rfl
set_option maxRecDepth 100000000 in
theorem tab_runs : Nat.beq (Bc (simB (clTab rF)) (Bc (simB (clTab rT)) (Bc (simB (clTab wF)) (Bc (simB (clTab wT)) 1 0) 0) 0) 0) 1 = true := by kernel_rfl
set_option maxRecDepth 100000000 in
theorem new_runs : Nat.beq (Bc (newB rF 155) (Bc (newB rT 160) (Bc (newB wF 335) (Bc (newB wT 340) 1 0) 0) 0) 0) 1 = true := by kernel_rfl
set_option maxRecDepth 100000000 in
theorem put_runs : Nat.beq (Bc (simB (clPut rF)) (Bc (simB (clPut rT)) 1 0) 0) 1 = true := by kernel_rfl
end Go.Proofs.MN
end
