/-
  A part of the proof that pliantlaw15.RtsReads returns true and leaves its arguments alone. Conditions: those of the card in the last text.
-/
import Derived.Test.YtgdejggelcpokaaGreatDoorG39
set_option linter.unusedSimpArgs false
set_option linter.unusedVariables false
set_option linter.unusedSectionVars false

noncomputable section
namespace Go.Proofs.YtgdejggelcpokaaGreatDoor.rtsReads
open Go.ChangeShapes Go.WideShapes Go.ChangeAt Go.RowKit Go.Deep
abbrev sB : ChangeSpec := (OpenSpec.ofChange Rows.rtsReadsSpec).bare
theorem f_mapsRowed : mapsRowed Tryz.prog = true := by kernel_rfl
theorem f_params : (Tryz.f5.params.all (Tryz.prog.readableRec ·)) = true := by kernel_rfl
theorem f_inPlace : (Rows.rtsReadsRow.inPlace == Tryz.prog.inPlace 5) = true := by kernel_rfl
theorem f_unf : (Rows.rtsReadsRow.unfollowed == Tryz.prog.unfollowed 5) = true := by kernel_rfl
theorem f_rec : (Rows.rtsReadsRow.recurses == Tryz.prog.recurses 5) = true := by kernel_rfl
theorem f_named : (Rows.rtsReadsRow.named == Tryz.prog.varsNamed 5) = true := by kernel_rfl
theorem f_maps : (Rows.rtsReadsRow.maps == (Tryz.f5.params.toList ++ sB.plain.varTypes Tryz.prog).any (Tryz.prog.mapsRec ·)) = true := by kernel_rfl
theorem f_ifaces : (Rows.rtsReadsRow.ifaces == (Tryz.f5.params.toList ++ sB.plain.varTypes Tryz.prog).any (Tryz.prog.ifacesRec ·)) = true := by kernel_rfl
theorem f_loops : (Rows.rtsReadsRow.loops == (Tryz.f5.params.toList ++ sB.plain.varTypes Tryz.prog).any (Tryz.prog.loopsFrom ·)) = true := by kernel_rfl
theorem f_wide : (Rows.rtsReadsRow.wideKeys == (Tryz.f5.params.toList ++ sB.plain.varTypes Tryz.prog ++ Tryz.f5.resultTypes.toList).any (Tryz.prog.wideKeysFrom ·)) = true := by kernel_rfl
theorem f_results : (Tryz.f5.resultTypes.all (fun t => Tryz.prog.readableRec t && decide (t < Tryz.prog.types.size))) = true := by kernel_rfl
theorem f_ifacesOut : (Rows.rtsReadsRow.ifacesOut == Tryz.f5.resultTypes.toList.any (Tryz.prog.ifacesRec ·)) = true := by kernel_rfl
theorem f_loopsOut : (Rows.rtsReadsRow.loopsOut == Tryz.f5.resultTypes.toList.any (Tryz.prog.loopsFrom ·)) = true := by kernel_rfl
theorem f_plainKeys : (Rows.rtsReadsRow.plainKeys == Tryz.prog.plainKeys) = true := by kernel_rfl
theorem f_heard : Tryz.prog.stopsHeard = true := by kernel_rfl
theorem f_mayEnter : Tryz.prog.mayEnter = true := by kernel_rfl
theorem f_veiled : (Rows.rtsReadsRow.veiled == (Tryz.f5.params.toList ++ sB.plain.varTypes Tryz.prog ++ Tryz.f5.resultTypes.toList).any (Tryz.prog.veiledRec ·)) = true := by kernel_rfl
theorem f_fits : Rows.rtsReadsRow.veiledFits Tryz.prog Tryz.f5.params.toList (Tryz.f5.params.toList ++ sB.plain.varTypes Tryz.prog ++ Tryz.f5.resultTypes.toList) = true := by kernel_rfl
theorem closed : joinedFacts Tryz.prog 5 Tryz.f5 sB Rows.rtsReadsRow = true := by
  unfold joinedFacts
  rw [f_laid, f_mapsRowed, f_params, f_inPlace, f_unf, f_rec, f_named, f_maps, f_ifaces, f_loops, f_wide, f_results, f_ifacesOut, f_loopsOut, f_plainKeys, f_heard, f_mayEnter, f_veiled, f_fits]
  kernel_rfl
end Go.Proofs.YtgdejggelcpokaaGreatDoor.rtsReads
end
