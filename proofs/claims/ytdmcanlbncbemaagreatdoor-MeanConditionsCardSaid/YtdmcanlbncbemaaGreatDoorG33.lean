/-
  A part of the proof that pliantlaw16.MeanConditions returns true and leaves its arguments alone. Conditions: those of the card in the last text.
-/
import Derived.JoinedOf
import Derived.KernelRfl
import Derived.ProofKit
import Derived.Test.YtdmcanlbncbemaaGreatDoorRows
import Derived.WalkKit
set_option linter.unusedSimpArgs false
set_option linter.unusedVariables false
set_option linter.unusedSectionVars false
noncomputable section
namespace Go.Proofs.YtdmcanlbncbemaaGreatDoor.meanConditions
open Go.ChangeShapes Go.WideShapes
abbrev sB1 : ChangeSpec := (OpenSpec.ofChange Rows.meanConditionsSpec).bare
theorem f_veiled : (Rows.meanConditionsRow.veiled == (Tryz.f3.params.toList ++ sB1.plain.varTypes Tryz.prog ++ Tryz.f3.resultTypes.toList).any (Tryz.prog.veiledRec ·)) = true := by kernel_rfl
theorem f_fits : Rows.meanConditionsRow.veiledFits Tryz.prog Tryz.f3.params.toList (Tryz.f3.params.toList ++ sB1.plain.varTypes Tryz.prog ++ Tryz.f3.resultTypes.toList) = true := by kernel_rfl
theorem f_inPlace : (Rows.meanConditionsRow.inPlace == Tryz.prog.inPlace 3) = true := by kernel_rfl
end Go.Proofs.YtdmcanlbncbemaaGreatDoor.meanConditions
end
