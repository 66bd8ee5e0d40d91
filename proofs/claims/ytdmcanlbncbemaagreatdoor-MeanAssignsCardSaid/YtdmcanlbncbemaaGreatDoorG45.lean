/-
 A part of the proof that pliantlaw16.MeanAssigns returns true and leaves its arguments alone. Conditions: those of the card in the last text.
-/
import Derived.Test.YtdmcanlbncbemaaGreatDoorG43
set_option linter.unusedVariables false
set_option maxRecDepth 100000
set_option maxHeartbeats 8000000
noncomputable section
namespace Go.Proofs.YtdmcanlbncbemaaGreatDoor.meanAssigns
theorem tie_done (os:Os) (tape:Tape):varsDone Tryz.prog 400 627 os tape=true:=by kernel_rfl
theorem tie_vals (os:Os) (tape:Tape):(DataW.laidRun Tryz.prog (varsWorld Tryz.prog 400 627 os tape).memory 8 ((tied.filter λx=>x.2.handleName?.isNone).map (·.1))).map (·.1)=some (tied.filter λx=>x.2.handleName?.isNone):=by kernel_rfl
end Go.Proofs.YtdmcanlbncbemaaGreatDoor.meanAssigns
end
