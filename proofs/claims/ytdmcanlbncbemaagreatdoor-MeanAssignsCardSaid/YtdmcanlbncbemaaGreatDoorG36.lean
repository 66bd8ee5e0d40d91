/-
 A part of the proof that pliantlaw16.MeanAssigns returns true and leaves its arguments alone. Conditions: those of the card in the last text.
-/
import Derived.JoinedOf
import Derived.KernelRfl
import Derived.ProofKit
import Derived.Test.YtdmcanlbncbemaaGreatDoorRows
import Derived.WalkKit
set_option linter.unusedVariables false
set_option maxRecDepth 100000
set_option maxHeartbeats 8000000
noncomputable section
namespace Go.Proofs.YtdmcanlbncbemaaGreatDoor.meanAssigns
open Go.ChangeShapes Go.WideShapes
abbrev sB:ChangeSpec:=(OpenSpec.ofChange Rows.meanAssignsSpec).bare
theorem f_mapsRowed:mapsRowed Tryz.prog=true:=by kernel_rfl
theorem f_params:(Tryz.f6.params.all (Tryz.prog.readableRec ·))=true:=by kernel_rfl
theorem f_maps:(Rows.meanAssignsRow.maps==(Tryz.f6.params.toList++sB.plain.varTypes Tryz.prog).any (Tryz.prog.mapsRec ·))=true:=by kernel_rfl
theorem f_ifaces:(Rows.meanAssignsRow.ifaces==(Tryz.f6.params.toList++sB.plain.varTypes Tryz.prog).any (Tryz.prog.ifacesRec ·))=true:=by kernel_rfl
theorem f_loops:(Rows.meanAssignsRow.loops==(Tryz.f6.params.toList++sB.plain.varTypes Tryz.prog).any (Tryz.prog.loopsFrom ·))=true:=by kernel_rfl
theorem f_wide:(Rows.meanAssignsRow.wideKeys==(Tryz.f6.params.toList++sB.plain.varTypes Tryz.prog++Tryz.f6.resultTypes.toList).any (Tryz.prog.wideKeysFrom ·))=true:=by kernel_rfl
theorem f_results:(Tryz.f6.resultTypes.all (λt=>Tryz.prog.readableRec t&&decide (t<Tryz.prog.types.size)))=true:=by kernel_rfl
theorem f_ifacesOut:(Rows.meanAssignsRow.ifacesOut==Tryz.f6.resultTypes.toList.any (Tryz.prog.ifacesRec ·))=true:=by kernel_rfl
theorem f_loopsOut:(Rows.meanAssignsRow.loopsOut==Tryz.f6.resultTypes.toList.any (Tryz.prog.loopsFrom ·))=true:=by kernel_rfl
theorem f_plainKeys:(Rows.meanAssignsRow.plainKeys==Tryz.prog.plainKeys)=true:=by kernel_rfl
end Go.Proofs.YtdmcanlbncbemaaGreatDoor.meanAssigns
end
