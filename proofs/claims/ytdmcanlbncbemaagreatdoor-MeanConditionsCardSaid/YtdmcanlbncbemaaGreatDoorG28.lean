/-
  A part of the proof that pliantlaw16.MeanConditions returns true and leaves its arguments alone. Conditions: those of the card in the last text.
-/
import Derived.Test.YtdmcanlbncbemaaGreatDoorG27
set_option linter.unusedSimpArgs false
set_option linter.unusedVariables false
set_option linter.unusedSectionVars false
noncomputable section
namespace Go.Proofs.CN
open Go Go.Ev Go.Proofs Go.Ev.SM Go.Proofs.MN
set_option maxRecDepth 100000000 in
theorem jF0 : Nat.beq (Bc (runJ false 0) 1 0) 1 = true := by kernel_rfl
set_option maxRecDepth 100000000 in
theorem jF1 : Nat.beq (Bc (runJ false 1) 1 0) 1 = true := by kernel_rfl
set_option maxRecDepth 100000000 in
theorem jF2 : Nat.beq (Bc (runJ false 2) 1 0) 1 = true := by kernel_rfl
set_option maxRecDepth 100000000 in
theorem jF3 : Nat.beq (Bc (runJ false 3) 1 0) 1 = true := by kernel_rfl
set_option maxRecDepth 100000000 in
theorem jF4 : Nat.beq (Bc (runJ false 4) 1 0) 1 = true := by kernel_rfl
set_option maxRecDepth 100000000 in
theorem jF5 : Nat.beq (Bc (runJ false 5) 1 0) 1 = true := by kernel_rfl
set_option maxRecDepth 100000000 in
theorem jF6 : Nat.beq (Bc (runJ false 6) 1 0) 1 = true := by kernel_rfl
set_option maxRecDepth 100000000 in
theorem jF7 : Nat.beq (Bc (runJ false 7) 1 0) 1 = true := by kernel_rfl
set_option maxRecDepth 100000000 in
theorem jT0 : Nat.beq (Bc (runJ true 0) 1 0) 1 = true := by kernel_rfl
set_option maxRecDepth 100000000 in
theorem jT1 : Nat.beq (Bc (runJ true 1) 1 0) 1 = true := by kernel_rfl
set_option maxRecDepth 100000000 in
theorem jT2 : Nat.beq (Bc (runJ true 2) 1 0) 1 = true := by kernel_rfl
set_option maxRecDepth 100000000 in
theorem jT3 : Nat.beq (Bc (runJ true 3) 1 0) 1 = true := by kernel_rfl
set_option maxRecDepth 100000000 in
theorem jT4 : Nat.beq (Bc (runJ true 4) 1 0) 1 = true := by kernel_rfl
set_option maxRecDepth 100000000 in
theorem jT5 : Nat.beq (Bc (runJ true 5) 1 0) 1 = true := by kernel_rfl
set_option maxRecDepth 100000000 in
theorem jT6 : Nat.beq (Bc (runJ true 6) 1 0) 1 = true := by kernel_rfl
set_option maxRecDepth 100000000 in
theorem jT7 : Nat.beq (Bc (runJ true 7) 1 0) 1 = true := by kernel_rfl
end Go.Proofs.CN
end
