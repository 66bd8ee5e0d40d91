/-
 A part of the proof that pliantlaw16.MeanAssigns returns true and leaves its arguments alone. Conditions: those of the card in the last text.
-/
import Derived.Test.YtdmcanlbncbemaaGreatDoorG22
set_option linter.unusedVariables false
set_option maxRecDepth 100000
set_option maxHeartbeats 8000000
noncomputable section
namespace Go.Proofs.CA
open Go Go.Ev
set_option maxRecDepth 100000000
theorem al5:Nat.beq (Bc (eK 18) 1 0) 1=true:=by kernel_rfl
theorem al4:Nat.beq (Bc (eK 19) 1 0) 1=true:=by kernel_rfl
theorem al3:Nat.beq (Bc (eK 20) 1 0) 1=true:=by kernel_rfl
theorem al2:Nat.beq (Bc (eK 21) 1 0) 1=true:=by kernel_rfl
theorem al0:Nat.beq (Bc (eK 22) 1 0) 1=true:=by kernel_rfl
theorem alZ:Nat.beq (Bc (eK 23) 1 0) 1=true:=by kernel_rfl
theorem alY:Nat.beq (Bc (eK 24) 1 0) 1=true:=by kernel_rfl
theorem alX:Nat.beq (Bc (eK 25) 1 0) 1=true:=by kernel_rfl
theorem alW:Nat.beq (Bc (eK 26) 1 0) 1=true:=by kernel_rfl
end Go.Proofs.CA
end
