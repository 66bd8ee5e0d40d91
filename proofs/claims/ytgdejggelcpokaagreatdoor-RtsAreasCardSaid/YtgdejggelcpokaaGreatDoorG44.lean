/-
 A part of the proof that pliantlaw15.RtsAreas returns true and leaves its arguments alone. Conditions: those of the card in the last text.
-/
import Derived.Test.YtgdejggelcpokaaGreatDoorG43
set_option linter.unusedSimpArgs false
set_option linter.unusedVariables false
set_option linter.unusedSectionVars false
noncomputable section
namespace Go.Proofs.YtgdejggelcpokaaGreatDoor.rtsAreas
open Go.ChangeShapes Go.WideShapes Go.ChangeAt Go.RowKit Go.Deep
abbrev sB:ChangeSpec:=(OpenSpec.ofChange Rows.rtsAreasSpec).bare
theorem f_mapsRowed:mapsRowed Tryz.prog=true:=by kernel_rfl
theorem f_params:(Tryz.f4.params.all (Tryz.prog.readableRec ·))=true:=by kernel_rfl
theorem f_inPlace:(Rows.rtsAreasRow.inPlace == Tryz.prog.inPlace 4)=true:=by kernel_rfl
theorem f_unf:(Rows.rtsAreasRow.unfollowed == Tryz.prog.unfollowed 4)=true:=by kernel_rfl
theorem f_rec:(Rows.rtsAreasRow.recurses == Tryz.prog.recurses 4)=true:=by kernel_rfl
theorem f_named:(Rows.rtsAreasRow.named == Tryz.prog.varsNamed 4)=true:=by kernel_rfl
theorem f_maps:(Rows.rtsAreasRow.maps == (Tryz.f4.params.toList++sB.plain.varTypes Tryz.prog).any (Tryz.prog.mapsRec ·))=true:=by kernel_rfl
theorem f_ifaces:(Rows.rtsAreasRow.ifaces == (Tryz.f4.params.toList++sB.plain.varTypes Tryz.prog).any (Tryz.prog.ifacesRec ·))=true:=by kernel_rfl
theorem f_loops:(Rows.rtsAreasRow.loops == (Tryz.f4.params.toList++sB.plain.varTypes Tryz.prog).any (Tryz.prog.loopsFrom ·))=true:=by kernel_rfl
theorem f_wide:(Rows.rtsAreasRow.wideKeys == (Tryz.f4.params.toList++sB.plain.varTypes Tryz.prog++Tryz.f4.resultTypes.toList).any (Tryz.prog.wideKeysFrom ·))=true:=by kernel_rfl
theorem f_results:(Tryz.f4.resultTypes.all (fun t=>Tryz.prog.readableRec t && decide (t<Tryz.prog.types.size)))=true:=by kernel_rfl
theorem f_ifacesOut:(Rows.rtsAreasRow.ifacesOut == Tryz.f4.resultTypes.toList.any (Tryz.prog.ifacesRec ·))=true:=by kernel_rfl
theorem f_loopsOut:(Rows.rtsAreasRow.loopsOut == Tryz.f4.resultTypes.toList.any (Tryz.prog.loopsFrom ·))=true:=by kernel_rfl
theorem f_plainKeys:(Rows.rtsAreasRow.plainKeys == Tryz.prog.plainKeys)=true:=by kernel_rfl
theorem f_heard:Tryz.prog.stopsHeard=true:=by kernel_rfl
theorem f_mayEnter:Tryz.prog.mayEnter=true:=by kernel_rfl
theorem f_veiled:(Rows.rtsAreasRow.veiled == (Tryz.f4.params.toList++sB.plain.varTypes Tryz.prog++Tryz.f4.resultTypes.toList).any (Tryz.prog.veiledRec ·))=true:=by kernel_rfl
theorem f_fits:Rows.rtsAreasRow.veiledFits Tryz.prog Tryz.f4.params.toList (Tryz.f4.params.toList++sB.plain.varTypes Tryz.prog++Tryz.f4.resultTypes.toList)=true:=by kernel_rfl
theorem closed:joinedFacts Tryz.prog 4 Tryz.f4 sB Rows.rtsAreasRow=true:=by
 unfold joinedFacts
 rw [f_laid,f_mapsRowed,f_params,f_inPlace,f_unf,f_rec,f_named,f_maps,f_ifaces,f_loops,f_wide,f_results,f_ifacesOut,f_loopsOut,f_plainKeys,f_heard,f_mayEnter,f_veiled,f_fits]
 kernel_rfl
end Go.Proofs.YtgdejggelcpokaaGreatDoor.rtsAreas
end
