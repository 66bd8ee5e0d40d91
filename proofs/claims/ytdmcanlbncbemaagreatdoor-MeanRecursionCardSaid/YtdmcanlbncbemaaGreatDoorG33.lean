/-
  A part of the proof that pliantlaw16.MeanRecursion returns true and leaves its arguments alone. Conditions: those of the card in the last text.
-/
import Derived.JoinedOf
import Derived.KernelRfl
import Derived.ProofKit
import Derived.Test.YtdmcanlbncbemaaGreatDoorRows
import Derived.WalkKit
set_option linter.unusedSimpArgs false
set_option linter.unusedVariables false
set_option linter.unusedSectionVars false
noncomputable section
namespace Go.Proofs.YtdmcanlbncbemaaGreatDoor.meanRecursion
open Go.ChangeShapes Go.WideShapes
abbrev sB1 : ChangeSpec := (OpenSpec.ofChange Rows.meanRecursionSpec).bare
theorem f_veiled : (Rows.meanRecursionRow.veiled == (Tryz.f5.params.toList ++ sB1.plain.varTypes Tryz.prog ++ Tryz.f5.resultTypes.toList).any (Tryz.prog.veiledRec ·)) = true := by kernel_rfl
theorem f_fits : Rows.meanRecursionRow.veiledFits Tryz.prog Tryz.f5.params.toList (Tryz.f5.params.toList ++ sB1.plain.varTypes Tryz.prog ++ Tryz.f5.resultTypes.toList) = true := by kernel_rfl
end Go.Proofs.YtdmcanlbncbemaaGreatDoor.meanRecursion
end
