/-
 A part of the proof that pliantlaw15.RtsStacks returns true and leaves its arguments alone. Conditions: those of the card in the last text.
-/
import Derived.Test.YtgdejggelcpokaaGreatDoorG43
set_option linter.unusedSimpArgs false
set_option linter.unusedVariables false
set_option linter.unusedSectionVars false
noncomputable section
namespace Go.Proofs.YtgdejggelcpokaaGreatDoor.rtsStacks
open Go.ChangeShapes Go.WideShapes Go.ChangeAt Go.RowKit Go.Deep
abbrev sB:ChangeSpec:=(OpenSpec.ofChange Rows.rtsStacksSpec).bare
theorem f_mapsRowed:mapsRowed Tryz.prog=true:=by kernel_rfl
theorem f_params:(Tryz.f3.params.all (Tryz.prog.readableRec ·))=true:=by kernel_rfl
theorem f_inPlace:(Rows.rtsStacksRow.inPlace == Tryz.prog.inPlace 3)=true:=by kernel_rfl
theorem f_unf:(Rows.rtsStacksRow.unfollowed == Tryz.prog.unfollowed 3)=true:=by kernel_rfl
theorem f_rec:(Rows.rtsStacksRow.recurses == Tryz.prog.recurses 3)=true:=by kernel_rfl
theorem f_named:(Rows.rtsStacksRow.named == Tryz.prog.varsNamed 3)=true:=by kernel_rfl
theorem f_maps:(Rows.rtsStacksRow.maps == (Tryz.f3.params.toList++sB.plain.varTypes Tryz.prog).any (Tryz.prog.mapsRec ·))=true:=by kernel_rfl
theorem f_ifaces:(Rows.rtsStacksRow.ifaces == (Tryz.f3.params.toList++sB.plain.varTypes Tryz.prog).any (Tryz.prog.ifacesRec ·))=true:=by kernel_rfl
theorem f_loops:(Rows.rtsStacksRow.loops == (Tryz.f3.params.toList++sB.plain.varTypes Tryz.prog).any (Tryz.prog.loopsFrom ·))=true:=by kernel_rfl
theorem f_wide:(Rows.rtsStacksRow.wideKeys == (Tryz.f3.params.toList++sB.plain.varTypes Tryz.prog++Tryz.f3.resultTypes.toList).any (Tryz.prog.wideKeysFrom ·))=true:=by kernel_rfl
theorem f_results:(Tryz.f3.resultTypes.all (fun t=>Tryz.prog.readableRec t && decide (t<Tryz.prog.types.size)))=true:=by kernel_rfl
theorem f_ifacesOut:(Rows.rtsStacksRow.ifacesOut == Tryz.f3.resultTypes.toList.any (Tryz.prog.ifacesRec ·))=true:=by kernel_rfl
theorem f_loopsOut:(Rows.rtsStacksRow.loopsOut == Tryz.f3.resultTypes.toList.any (Tryz.prog.loopsFrom ·))=true:=by kernel_rfl
theorem f_plainKeys:(Rows.rtsStacksRow.plainKeys == Tryz.prog.plainKeys)=true:=by kernel_rfl
theorem f_heard:Tryz.prog.stopsHeard=true:=by kernel_rfl
theorem f_mayEnter:Tryz.prog.mayEnter=true:=by kernel_rfl
theorem f_veiled:(Rows.rtsStacksRow.veiled == (Tryz.f3.params.toList++sB.plain.varTypes Tryz.prog++Tryz.f3.resultTypes.toList).any (Tryz.prog.veiledRec ·))=true:=by kernel_rfl
theorem f_fits:Rows.rtsStacksRow.veiledFits Tryz.prog Tryz.f3.params.toList (Tryz.f3.params.toList++sB.plain.varTypes Tryz.prog++Tryz.f3.resultTypes.toList)=true:=by kernel_rfl
theorem closed:joinedFacts Tryz.prog 3 Tryz.f3 sB Rows.rtsStacksRow=true:=by
 unfold joinedFacts
 rw [f_laid,f_mapsRowed,f_params,f_inPlace,f_unf,f_rec,f_named,f_maps,f_ifaces,f_loops,f_wide,f_results,f_ifacesOut,f_loopsOut,f_plainKeys,f_heard,f_mayEnter,f_veiled,f_fits]
 kernel_rfl
end Go.Proofs.YtgdejggelcpokaaGreatDoor.rtsStacks
end
