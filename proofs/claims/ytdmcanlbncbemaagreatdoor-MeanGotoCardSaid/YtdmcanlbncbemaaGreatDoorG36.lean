/-
  A part of the proof that pliantlaw16.MeanGoto returns true and leaves its arguments alone. Conditions: those of the card in the last text.
-/
import Derived.JoinedOf
import Derived.KernelRfl
import Derived.ProofKit
import Derived.Test.YtdmcanlbncbemaaGreatDoorRows
import Derived.WalkKit
set_option linter.unusedSimpArgs false
set_option linter.unusedVariables false
set_option linter.unusedSectionVars false
noncomputable section
namespace Go.Proofs.YtdmcanlbncbemaaGreatDoor.meanGoto
open Go.ChangeShapes Go.WideShapes
abbrev sB1 : ChangeSpec := (OpenSpec.ofChange Rows.meanGotoSpec).bare
theorem f_veiled : (Rows.meanGotoRow.veiled == (Tryz.f4.params.toList ++ sB1.plain.varTypes Tryz.prog ++ Tryz.f4.resultTypes.toList).any (Tryz.prog.veiledRec ·)) = true := by kernel_rfl
theorem f_fits : Rows.meanGotoRow.veiledFits Tryz.prog Tryz.f4.params.toList (Tryz.f4.params.toList ++ sB1.plain.varTypes Tryz.prog ++ Tryz.f4.resultTypes.toList) = true := by kernel_rfl
theorem f_inPlace : (Rows.meanGotoRow.inPlace == Tryz.prog.inPlace 4) = true := by kernel_rfl
end Go.Proofs.YtdmcanlbncbemaaGreatDoor.meanGoto
end
