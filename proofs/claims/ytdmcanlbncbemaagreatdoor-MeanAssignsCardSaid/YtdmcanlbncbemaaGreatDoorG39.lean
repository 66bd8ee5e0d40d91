/-
 A part of the proof that pliantlaw16.MeanAssigns returns true and leaves its arguments alone. Conditions: those of the card in the last text.
-/
import Derived.JoinedOf
import Derived.KernelRfl
import Derived.ProofKit
import Derived.Test.YtdmcanlbncbemaaGreatDoorRows
import Derived.WalkKit
set_option linter.unusedVariables false
set_option maxRecDepth 100000
set_option maxHeartbeats 8000000
noncomputable section
namespace Go.Proofs.YtdmcanlbncbemaaGreatDoor.meanAssigns
open Go.ChangeShapes Go.WideShapes
abbrev sB1:ChangeSpec:=(OpenSpec.ofChange Rows.meanAssignsSpec).bare
theorem f_veiled:(Rows.meanAssignsRow.veiled==(Tryz.f6.params.toList++sB1.plain.varTypes Tryz.prog++Tryz.f6.resultTypes.toList).any (Tryz.prog.veiledRec ·))=true:=by kernel_rfl
theorem f_fits:Rows.meanAssignsRow.veiledFits Tryz.prog Tryz.f6.params.toList (Tryz.f6.params.toList++sB1.plain.varTypes Tryz.prog++Tryz.f6.resultTypes.toList)=true:=by kernel_rfl
theorem f_inPlace:(Rows.meanAssignsRow.inPlace==Tryz.prog.inPlace 6)=true:=by kernel_rfl
end Go.Proofs.YtdmcanlbncbemaaGreatDoor.meanAssigns
end
