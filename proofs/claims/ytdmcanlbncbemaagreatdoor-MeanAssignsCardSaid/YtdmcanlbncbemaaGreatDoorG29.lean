/-
 A part of the proof that pliantlaw16.MeanAssigns returns true and leaves its arguments alone. Conditions: those of the card in the last text.
-/
import Derived.Test.YtdmcanlbncbemaaGreatDoorG22
set_option linter.unusedVariables false
set_option maxRecDepth 100000
set_option maxHeartbeats 8000000
noncomputable section
namespace Go.Proofs.CA
open Go Go.Ev
set_option maxRecDepth 100000000
theorem alV:Nat.beq (Bc (eK 27) 1 0) 1=true:=by kernel_rfl
theorem alU:Nat.beq (Bc (eK 28) 1 0) 1=true:=by kernel_rfl
theorem alT:Nat.beq (Bc (eK 29) 1 0) 1=true:=by kernel_rfl
theorem alS:Nat.beq (Bc (eK 30) 1 0) 1=true:=by kernel_rfl
theorem alR:Nat.beq (Bc (eK 31) 1 0) 1=true:=by kernel_rfl
theorem alQ:Nat.beq (Bc (eK 32) 1 0) 1=true:=by kernel_rfl
theorem alP:Nat.beq (Bc (eK 33) 1 0) 1=true:=by kernel_rfl
theorem alO:Nat.beq (Bc (eK 34) 1 0) 1=true:=by kernel_rfl
theorem alN:Nat.beq (Bc (eK 35) 1 0) 1=true:=by kernel_rfl
end Go.Proofs.CA
end
