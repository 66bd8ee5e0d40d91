/-
  A part of the proof that pliantlaw16.MeanGoto returns true and leaves its arguments alone. Conditions: those of the card in the last text.
-/
import Derived.Test.YtdmcanlbncbemaaGreatDoorG14
set_option linter.unusedSimpArgs false
set_option linter.unusedVariables false
set_option linter.unusedSectionVars false
noncomputable section
namespace Go.Proofs.MN
open Go Go.Ev Go.Proofs Go.Ev.SM
def cmp1C (x : Nat) : Clm := pureC 150 [vl (nN (Nat.add x 2)), T15, vl (nV 1), T15] (tup [nV 1, nV 0])
set_option maxRecDepth 100000000 in
theorem cmp1_runs : Nat.beq (Bc (allB (pB cmp1C) r60) 1 0) 1 = true := by kernel_rfl
end Go.Proofs.MN
end
