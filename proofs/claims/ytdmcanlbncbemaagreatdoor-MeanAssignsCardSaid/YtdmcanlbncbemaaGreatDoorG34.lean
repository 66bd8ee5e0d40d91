/-
 A part of the proof that pliantlaw16.MeanAssigns returns true and leaves its arguments alone. Conditions: those of the card in the last text.
-/
import Derived.Test.YtdmcanlbncbemaaGreatDoorG22
set_option linter.unusedVariables false
set_option maxRecDepth 100000
set_option maxHeartbeats 8000000
noncomputable section
namespace Go.Proofs.CA
open Go Go.Ev
set_option maxRecDepth 100000000
theorem ak7:Nat.beq (Bc (eK 72) 1 0) 1=true:=by kernel_rfl
theorem ak6:Nat.beq (Bc (eK 73) 1 0) 1=true:=by kernel_rfl
theorem ak5:Nat.beq (Bc (eK 74) 1 0) 1=true:=by kernel_rfl
theorem ak4:Nat.beq (Bc (eK 75) 1 0) 1=true:=by kernel_rfl
theorem ak3:Nat.beq (Bc (eK 76) 1 0) 1=true:=by kernel_rfl
theorem ak2:Nat.beq (Bc (eK 77) 1 0) 1=true:=by kernel_rfl
theorem ak1:Nat.beq (Bc (eK 78) 1 0) 1=true:=by kernel_rfl
theorem ak0:Nat.beq (Bc (eK 79) 1 0) 1=true:=by kernel_rfl
theorem akZ:Nat.beq (Bc (eK 80) 1 0) 1=true:=by kernel_rfl
end Go.Proofs.CA
end
