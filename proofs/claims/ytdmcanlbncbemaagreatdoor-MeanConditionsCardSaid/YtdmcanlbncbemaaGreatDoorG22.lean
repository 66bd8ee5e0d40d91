/-
  A part of the proof that pliantlaw16.MeanConditions returns true and leaves its arguments alone. Conditions: those of the card in the last text.
-/
import Derived.Test.YtdmcanlbncbemaaGreatDoorG21
set_option linter.unusedSimpArgs false
set_option linter.unusedVariables false
set_option linter.unusedSectionVars false
noncomputable section
namespace Go.Proofs.CN
open Go Go.Ev Go.Proofs Go.Ev.SM Go.Proofs.MN
set_option maxRecDepth 100000000 in
theorem r0FF0 : Nat.beq (Bc (runW ⟨0, false, false, false, 0⟩ false 0 false) 1 0) 1 = true := by kernel_rfl
set_option maxRecDepth 100000000 in
theorem r0FF1 : Nat.beq (Bc (runW ⟨0, false, false, false, 0⟩ false 1 false) 1 0) 1 = true := by kernel_rfl
set_option maxRecDepth 100000000 in
theorem r0FF2 : Nat.beq (Bc (runW ⟨0, false, false, false, 0⟩ false 2 false) 1 0) 1 = true := by kernel_rfl
set_option maxRecDepth 100000000 in
theorem r0FF3 : Nat.beq (Bc (runW ⟨0, false, false, false, 0⟩ false 3 false) 1 0) 1 = true := by kernel_rfl
set_option maxRecDepth 100000000 in
theorem r0FF4 : Nat.beq (Bc (runW ⟨0, false, false, false, 0⟩ false 4 false) 1 0) 1 = true := by kernel_rfl
set_option maxRecDepth 100000000 in
theorem r0FF5 : Nat.beq (Bc (runW ⟨0, false, false, false, 0⟩ false 5 false) 1 0) 1 = true := by kernel_rfl
set_option maxRecDepth 100000000 in
theorem r0FT1 : Nat.beq (Bc (runW ⟨0, false, true, false, 0⟩ false 1 false) 1 0) 1 = true := by kernel_rfl
set_option maxRecDepth 100000000 in
theorem r0FT2 : Nat.beq (Bc (runW ⟨0, false, true, false, 0⟩ false 2 false) 1 0) 1 = true := by kernel_rfl
set_option maxRecDepth 100000000 in
theorem r0FT3 : Nat.beq (Bc (runW ⟨0, false, true, false, 0⟩ false 3 false) 1 0) 1 = true := by kernel_rfl
set_option maxRecDepth 100000000 in
theorem r0FT4 : Nat.beq (Bc (runW ⟨0, false, true, false, 0⟩ false 4 false) 1 0) 1 = true := by kernel_rfl
set_option maxRecDepth 100000000 in
theorem r0FT5 : Nat.beq (Bc (runW ⟨0, false, true, false, 0⟩ false 5 false) 1 0) 1 = true := by kernel_rfl
set_option maxRecDepth 100000000 in
theorem z0F : Nat.beq (Bc (run0 ⟨0, true, false, false, 0⟩ false) 1 0) 1 = true := by kernel_rfl
set_option maxRecDepth 100000000 in
theorem r0TF0 : Nat.beq (Bc (runW ⟨0, false, false, false, 0⟩ true 0 false) 1 0) 1 = true := by kernel_rfl
set_option maxRecDepth 100000000 in
theorem r0TF1 : Nat.beq (Bc (runW ⟨0, false, false, false, 0⟩ true 1 false) 1 0) 1 = true := by kernel_rfl
set_option maxRecDepth 100000000 in
theorem r0TF2 : Nat.beq (Bc (runW ⟨0, false, false, false, 0⟩ true 2 false) 1 0) 1 = true := by kernel_rfl
set_option maxRecDepth 100000000 in
theorem r0TF3 : Nat.beq (Bc (runW ⟨0, false, false, false, 0⟩ true 3 false) 1 0) 1 = true := by kernel_rfl
set_option maxRecDepth 100000000 in
theorem r0TF4 : Nat.beq (Bc (runW ⟨0, false, false, false, 0⟩ true 4 false) 1 0) 1 = true := by kernel_rfl
set_option maxRecDepth 100000000 in
theorem r0TF5 : Nat.beq (Bc (runW ⟨0, false, false, false, 0⟩ true 5 false) 1 0) 1 = true := by kernel_rfl
set_option maxRecDepth 100000000 in
theorem r0TT1 : Nat.beq (Bc (runW ⟨0, false, true, false, 0⟩ true 1 false) 1 0) 1 = true := by kernel_rfl
set_option maxRecDepth 100000000 in
theorem r0TT2 : Nat.beq (Bc (runW ⟨0, false, true, false, 0⟩ true 2 false) 1 0) 1 = true := by kernel_rfl
set_option maxRecDepth 100000000 in
theorem r0TT3 : Nat.beq (Bc (runW ⟨0, false, true, false, 0⟩ true 3 false) 1 0) 1 = true := by kernel_rfl
set_option maxRecDepth 100000000 in
theorem r0TT4 : Nat.beq (Bc (runW ⟨0, false, true, false, 0⟩ true 4 false) 1 0) 1 = true := by kernel_rfl
set_option maxRecDepth 100000000 in
theorem r0TT5 : Nat.beq (Bc (runW ⟨0, false, true, false, 0⟩ true 5 false) 1 0) 1 = true := by kernel_rfl
set_option maxRecDepth 100000000 in
theorem z0T : Nat.beq (Bc (run0 ⟨0, true, false, false, 0⟩ true) 1 0) 1 = true := by kernel_rfl
end Go.Proofs.CN
end
