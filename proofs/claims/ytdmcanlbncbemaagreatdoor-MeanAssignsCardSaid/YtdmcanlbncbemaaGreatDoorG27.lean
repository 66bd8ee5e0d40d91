/-
 A part of the proof that pliantlaw16.MeanAssigns returns true and leaves its arguments alone. Conditions: those of the card in the last text.
-/
import Derived.Test.YtdmcanlbncbemaaGreatDoorG22
set_option linter.unusedVariables false
set_option maxRecDepth 100000
set_option maxHeartbeats 8000000
noncomputable section
namespace Go.Proofs.CA
open Go Go.Ev
set_option maxRecDepth 100000000
theorem ru9:Nat.beq (Bc (eK 9) 1 0) 1=true:=by kernel_rfl
theorem amb:Nat.beq (Bc (eK 10) 1 0) 1=true:=by kernel_rfl
theorem ama:Nat.beq (Bc (eK 11) 1 0) 1=true:=by kernel_rfl
theorem al_:Nat.beq (Bc (eK 12) 1 0) 1=true:=by kernel_rfl
theorem al':Nat.beq (Bc (eK 13) 1 0) 1=true:=by kernel_rfl
theorem al9:Nat.beq (Bc (eK 14) 1 0) 1=true:=by kernel_rfl
theorem al8:Nat.beq (Bc (eK 15) 1 0) 1=true:=by kernel_rfl
theorem al7:Nat.beq (Bc (eK 16) 1 0) 1=true:=by kernel_rfl
theorem al6:Nat.beq (Bc (eK 17) 1 0) 1=true:=by kernel_rfl
end Go.Proofs.CA
end
