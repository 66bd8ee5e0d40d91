/-
 A part of the proof that pliantlaw16.MeanAssigns returns true and leaves its arguments alone. Conditions: those of the card in the last text.
-/
import Derived.Test.YtdmcanlbncbemaaGreatDoorG22
set_option linter.unusedVariables false
set_option maxRecDepth 100000
set_option maxHeartbeats 8000000
noncomputable section
namespace Go.Proofs.CA
open Go Go.Ev
set_option maxRecDepth 100000000
theorem ale:Nat.beq (Bc (eK 63) 1 0) 1=true:=by kernel_rfl
theorem ald:Nat.beq (Bc (eK 64) 1 0) 1=true:=by kernel_rfl
theorem alc:Nat.beq (Bc (eK 65) 1 0) 1=true:=by kernel_rfl
theorem alb:Nat.beq (Bc (eK 66) 1 0) 1=true:=by kernel_rfl
theorem ala:Nat.beq (Bc (eK 67) 1 0) 1=true:=by kernel_rfl
theorem ak_:Nat.beq (Bc (eK 68) 1 0) 1=true:=by kernel_rfl
theorem ak':Nat.beq (Bc (eK 69) 1 0) 1=true:=by kernel_rfl
theorem ak9:Nat.beq (Bc (eK 70) 1 0) 1=true:=by kernel_rfl
theorem ak8:Nat.beq (Bc (eK 71) 1 0) 1=true:=by kernel_rfl
end Go.Proofs.CA
end
