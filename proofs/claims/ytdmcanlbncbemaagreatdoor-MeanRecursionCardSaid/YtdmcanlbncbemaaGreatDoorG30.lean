/-
  A part of the proof that pliantlaw16.MeanRecursion returns true and leaves its arguments alone. Conditions: those of the card in the last text.
-/
import Derived.JoinedOf
import Derived.KernelRfl
import Derived.ProofKit
import Derived.Test.YtdmcanlbncbemaaGreatDoorRows
import Derived.WalkKit
set_option linter.unusedSimpArgs false
set_option linter.unusedVariables false
set_option linter.unusedSectionVars false
noncomputable section
namespace Go.Proofs.YtdmcanlbncbemaaGreatDoor.meanRecursion
open Go.ChangeShapes Go.WideShapes
abbrev sB : ChangeSpec := (OpenSpec.ofChange Rows.meanRecursionSpec).bare
theorem f_wf : Rows.meanRecursionRow.wf (OpenSpec.ofChange sB) = true := by kernel_rfl
theorem f_mapsRowed : mapsRowed Tryz.prog = true := by kernel_rfl
theorem f_params : (Tryz.f5.params.all (Tryz.prog.readableRec ·)) = true := by kernel_rfl
theorem f_maps : (Rows.meanRecursionRow.maps == (Tryz.f5.params.toList ++ sB.plain.varTypes Tryz.prog).any (Tryz.prog.mapsRec ·)) = true := by kernel_rfl
theorem f_ifaces : (Rows.meanRecursionRow.ifaces == (Tryz.f5.params.toList ++ sB.plain.varTypes Tryz.prog).any (Tryz.prog.ifacesRec ·)) = true := by kernel_rfl
theorem f_loops : (Rows.meanRecursionRow.loops == (Tryz.f5.params.toList ++ sB.plain.varTypes Tryz.prog).any (Tryz.prog.loopsFrom ·)) = true := by kernel_rfl
theorem f_wide : (Rows.meanRecursionRow.wideKeys == (Tryz.f5.params.toList ++ sB.plain.varTypes Tryz.prog ++ Tryz.f5.resultTypes.toList).any (Tryz.prog.wideKeysFrom ·)) = true := by kernel_rfl
theorem f_results : (Tryz.f5.resultTypes.all (fun t => Tryz.prog.readableRec t && decide (t < Tryz.prog.types.size))) = true := by kernel_rfl
theorem f_ifacesOut : (Rows.meanRecursionRow.ifacesOut == Tryz.f5.resultTypes.toList.any (Tryz.prog.ifacesRec ·)) = true := by kernel_rfl
theorem f_loopsOut : (Rows.meanRecursionRow.loopsOut == Tryz.f5.resultTypes.toList.any (Tryz.prog.loopsFrom ·)) = true := by kernel_rfl
theorem f_plainKeys : (Rows.meanRecursionRow.plainKeys == Tryz.prog.plainKeys) = true := by kernel_rfl
end Go.Proofs.YtdmcanlbncbemaaGreatDoor.meanRecursion
end
