/-
 A part of the proof that pliantlaw16.MeanAssigns returns true and leaves its arguments alone. Conditions: those of the card in the last text.
-/
import Derived.Test.YtdmcanlbncbemaaGreatDoorG22
set_option linter.unusedVariables false
set_option maxRecDepth 100000
set_option maxHeartbeats 8000000
noncomputable section
namespace Go.Proofs.CA
open Go Go.Ev
set_option maxRecDepth 100000000
theorem alM:Nat.beq (Bc (eK 36) 1 0) 1=true:=by kernel_rfl
theorem alL:Nat.beq (Bc (eK 37) 1 0) 1=true:=by kernel_rfl
theorem alK:Nat.beq (Bc (eK 38) 1 0) 1=true:=by kernel_rfl
theorem alJ:Nat.beq (Bc (eK 39) 1 0) 1=true:=by kernel_rfl
theorem alI:Nat.beq (Bc (eK 40) 1 0) 1=true:=by kernel_rfl
theorem alH:Nat.beq (Bc (eK 41) 1 0) 1=true:=by kernel_rfl
theorem alG:Nat.beq (Bc (eK 42) 1 0) 1=true:=by kernel_rfl
theorem alF:Nat.beq (Bc (eK 43) 1 0) 1=true:=by kernel_rfl
theorem alE:Nat.beq (Bc (eK 44) 1 0) 1=true:=by kernel_rfl
end Go.Proofs.CA
end
