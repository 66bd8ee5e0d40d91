/-
  A part of the proof that pliantlaw16.MeanConditions returns true and leaves its arguments alone. Conditions: those of the card in the last text.
-/
import Derived.JoinedOf
import Derived.KernelRfl
import Derived.ProofKit
import Derived.Test.YtdmcanlbncbemaaGreatDoorRows
import Derived.WalkKit
set_option linter.unusedSimpArgs false
set_option linter.unusedVariables false
set_option linter.unusedSectionVars false
noncomputable section
namespace Go.Proofs.YtdmcanlbncbemaaGreatDoor.meanConditions
open Go.ChangeShapes Go.WideShapes
abbrev sB : ChangeSpec := (OpenSpec.ofChange Rows.meanConditionsSpec).bare
theorem f_mapsRowed : mapsRowed Tryz.prog = true := by kernel_rfl
theorem f_params : (Tryz.f3.params.all (Tryz.prog.readableRec ·)) = true := by kernel_rfl
theorem f_maps : (Rows.meanConditionsRow.maps == (Tryz.f3.params.toList ++ sB.plain.varTypes Tryz.prog).any (Tryz.prog.mapsRec ·)) = true := by kernel_rfl
theorem f_ifaces : (Rows.meanConditionsRow.ifaces == (Tryz.f3.params.toList ++ sB.plain.varTypes Tryz.prog).any (Tryz.prog.ifacesRec ·)) = true := by kernel_rfl
theorem f_loops : (Rows.meanConditionsRow.loops == (Tryz.f3.params.toList ++ sB.plain.varTypes Tryz.prog).any (Tryz.prog.loopsFrom ·)) = true := by kernel_rfl
theorem f_wide : (Rows.meanConditionsRow.wideKeys == (Tryz.f3.params.toList ++ sB.plain.varTypes Tryz.prog ++ Tryz.f3.resultTypes.toList).any (Tryz.prog.wideKeysFrom ·)) = true := by kernel_rfl
theorem f_results : (Tryz.f3.resultTypes.all (fun t => Tryz.prog.readableRec t && decide (t < Tryz.prog.types.size))) = true := by kernel_rfl
theorem f_ifacesOut : (Rows.meanConditionsRow.ifacesOut == Tryz.f3.resultTypes.toList.any (Tryz.prog.ifacesRec ·)) = true := by kernel_rfl
theorem f_loopsOut : (Rows.meanConditionsRow.loopsOut == Tryz.f3.resultTypes.toList.any (Tryz.prog.loopsFrom ·)) = true := by kernel_rfl
theorem f_plainKeys : (Rows.meanConditionsRow.plainKeys == Tryz.prog.plainKeys) = true := by kernel_rfl
end Go.Proofs.YtdmcanlbncbemaaGreatDoor.meanConditions
end
