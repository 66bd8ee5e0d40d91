/-
 A part of the proof that pliantlaw15.RtsStacks returns true and leaves its arguments alone. Conditions: those of the card in the last text.
-/
import Derived.KernelRfl
import Derived.Test.YtgdejggelcpokaaGreatDoorProg
import Derived.Test.YtgdejggelcpokaaGreatDoorG10
set_option linter.unusedSimpArgs false
set_option linter.unusedVariables false
set_option linter.unusedSectionVars false
noncomputable section
namespace Go.Proofs.RS
open Go Go.Ev Go.Proofs
theorem sane_run:retTrue NG (ev Tb0 sp0 100000 (.call 6 []) Hpow)=true:=by kernel_rfl
end Go.Proofs.RS
end
