/-
 A part of the proof that pliantlaw16.MeanAssigns returns true and leaves its arguments alone. Conditions: those of the card in the last text.
-/
import Derived.Test.YtdmcanlbncbemaaGreatDoorG43
set_option linter.unusedVariables false
set_option maxRecDepth 100000
set_option maxHeartbeats 8000000
noncomputable section
namespace Go.Proofs.YtdmcanlbncbemaaGreatDoor.meanAssigns
theorem tie_n:varsNamedLaterB Tryz.prog (varsId Tryz.prog) tied=true:=by
 rw[vars_id]
 unfold varsNamedLaterB Program.callsLaidAlone
 rw[named_elem]
 kernel_rfl
end Go.Proofs.YtdmcanlbncbemaaGreatDoor.meanAssigns
end
