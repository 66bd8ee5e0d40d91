/-
 A part of the proof that pliantlaw16.MeanAssigns returns true and leaves its arguments alone. Conditions: those of the card in the last text.
-/
import Derived.Test.YtdmcanlbncbemaaGreatDoorG22
set_option linter.unusedVariables false
set_option maxRecDepth 100000
set_option maxHeartbeats 8000000
noncomputable section
namespace Go.Proofs.CA
open Go Go.Ev
set_option maxRecDepth 100000000
theorem alD:Nat.beq (Bc (eK 45) 1 0) 1=true:=by kernel_rfl
theorem alC:Nat.beq (Bc (eK 46) 1 0) 1=true:=by kernel_rfl
theorem alB:Nat.beq (Bc (eK 47) 1 0) 1=true:=by kernel_rfl
theorem alA:Nat.beq (Bc (eK 48) 1 0) 1=true:=by kernel_rfl
theorem alz:Nat.beq (Bc (eK 49) 1 0) 1=true:=by kernel_rfl
theorem aly:Nat.beq (Bc (eK 50) 1 0) 1=true:=by kernel_rfl
theorem alx:Nat.beq (Bc (eK 51) 1 0) 1=true:=by kernel_rfl
theorem alw:Nat.beq (Bc (eK 52) 1 0) 1=true:=by kernel_rfl
theorem alu:Nat.beq (Bc (eK 53) 1 0) 1=true:=by kernel_rfl
end Go.Proofs.CA
end
