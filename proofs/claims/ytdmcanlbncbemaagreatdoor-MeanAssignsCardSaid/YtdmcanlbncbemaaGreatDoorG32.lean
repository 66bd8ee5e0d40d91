/-
 A part of the proof that pliantlaw16.MeanAssigns returns true and leaves its arguments alone. Conditions: those of the card in the last text.
-/
import Derived.Test.YtdmcanlbncbemaaGreatDoorG22
set_option linter.unusedVariables false
set_option maxRecDepth 100000
set_option maxHeartbeats 8000000
noncomputable section
namespace Go.Proofs.CA
open Go Go.Ev
set_option maxRecDepth 100000000
theorem alr:Nat.beq (Bc (eK 54) 1 0) 1=true:=by kernel_rfl
theorem alq:Nat.beq (Bc (eK 55) 1 0) 1=true:=by kernel_rfl
theorem aln:Nat.beq (Bc (eK 56) 1 0) 1=true:=by kernel_rfl
theorem alk:Nat.beq (Bc (eK 57) 1 0) 1=true:=by kernel_rfl
theorem alj:Nat.beq (Bc (eK 58) 1 0) 1=true:=by kernel_rfl
theorem ali:Nat.beq (Bc (eK 59) 1 0) 1=true:=by kernel_rfl
theorem alh:Nat.beq (Bc (eK 60) 1 0) 1=true:=by kernel_rfl
theorem alg:Nat.beq (Bc (eK 61) 1 0) 1=true:=by kernel_rfl
theorem alf:Nat.beq (Bc (eK 62) 1 0) 1=true:=by kernel_rfl
end Go.Proofs.CA
end
