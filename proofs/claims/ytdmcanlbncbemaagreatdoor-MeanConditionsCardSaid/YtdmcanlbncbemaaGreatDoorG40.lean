/-
  A part of the proof that pliantlaw16.MeanConditions returns true and leaves its arguments alone. Conditions: those of the card in the last text.
-/
import Derived.Test.YtdmcanlbncbemaaGreatDoorG37
set_option linter.unusedSimpArgs false
set_option linter.unusedVariables false
set_option linter.unusedSectionVars false
noncomputable section
namespace Go.Proofs.YtdmcanlbncbemaaGreatDoor.meanConditions
theorem tie_once (os : Os) (tape : Tape) : (DataW.laidRun Tryz.prog (varsWorld Tryz.prog 400 627 os tape).memory 8 ((tied.filter fun x => x.2.handleName?.isNone).map (·.1))).map (fun x => nodupBits 1024 x.2 0) = some true := by kernel_rfl
theorem tie_rows (os : Os) (tape : Tape) : (DataW.laidRun Tryz.prog (varsWorld Tryz.prog 400 627 os tape).memory 8 ((tied.filter fun x => x.2.handleName?.isNone).map (·.1))).map (fun x => laidRowsB Tryz.prog (varsWorld Tryz.prog 400 627 os tape).memory x.2) = some true := by kernel_rfl
theorem tie_handle (os : Os) (tape : Tape) : (tied.filter fun x => x.2.handleName?.isSome).all (handleAtB Tryz.prog (varsWorld Tryz.prog 400 627 os tape).memory) = true := by kernel_rfl
end Go.Proofs.YtdmcanlbncbemaaGreatDoor.meanConditions
end
