/-
 A part of the proof that pliantlaw16.MeanAssigns returns true and leaves its arguments alone. Conditions: those of the card in the last text.
-/
import Derived.Test.YtdmcanlbncbemaaGreatDoorG22
set_option linter.unusedVariables false
set_option maxRecDepth 100000
set_option maxHeartbeats 8000000
noncomputable section
namespace Go.Proofs.CA
open Go Go.Ev
set_option maxRecDepth 100000000
theorem ru0:Nat.beq (Bc (eK 0) 1 0) 1=true:=by kernel_rfl
theorem ru1:Nat.beq (Bc (eK 1) 1 0) 1=true:=by kernel_rfl
theorem ru2:Nat.beq (Bc (eK 2) 1 0) 1=true:=by kernel_rfl
theorem ru3:Nat.beq (Bc (eK 3) 1 0) 1=true:=by kernel_rfl
theorem ru4:Nat.beq (Bc (eK 4) 1 0) 1=true:=by kernel_rfl
theorem ru5:Nat.beq (Bc (eK 5) 1 0) 1=true:=by kernel_rfl
theorem ru6:Nat.beq (Bc (eK 6) 1 0) 1=true:=by kernel_rfl
theorem ru7:Nat.beq (Bc (eK 7) 1 0) 1=true:=by kernel_rfl
theorem ru8:Nat.beq (Bc (eK 8) 1 0) 1=true:=by kernel_rfl
end Go.Proofs.CA
end
