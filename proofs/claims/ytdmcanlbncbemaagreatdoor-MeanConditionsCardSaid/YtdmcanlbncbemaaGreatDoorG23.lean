/-
  A part of the proof that pliantlaw16.MeanConditions returns true and leaves its arguments alone. Conditions: those of the card in the last text.
-/
import Derived.Test.YtdmcanlbncbemaaGreatDoorG21
set_option linter.unusedSimpArgs false
set_option linter.unusedVariables false
set_option linter.unusedSectionVars false
noncomputable section
namespace Go.Proofs.CN
open Go Go.Ev Go.Proofs Go.Ev.SM Go.Proofs.MN
set_option maxRecDepth 100000000 in
theorem r1FF0 : Nat.beq (Bc (runW ⟨1, false, false, false, 0⟩ false 0 false) 1 0) 1 = true := by kernel_rfl
set_option maxRecDepth 100000000 in
theorem r1FF1 : Nat.beq (Bc (runW ⟨1, false, false, false, 0⟩ false 1 false) 1 0) 1 = true := by kernel_rfl
set_option maxRecDepth 100000000 in
theorem r1FF2 : Nat.beq (Bc (runW ⟨1, false, false, false, 0⟩ false 2 false) 1 0) 1 = true := by kernel_rfl
set_option maxRecDepth 100000000 in
theorem r1FF3 : Nat.beq (Bc (runW ⟨1, false, false, false, 0⟩ false 3 false) 1 0) 1 = true := by kernel_rfl
set_option maxRecDepth 100000000 in
theorem r1FF4 : Nat.beq (Bc (runW ⟨1, false, false, false, 0⟩ false 4 false) 1 0) 1 = true := by kernel_rfl
set_option maxRecDepth 100000000 in
theorem r1FF5 : Nat.beq (Bc (runW ⟨1, false, false, false, 0⟩ false 5 false) 1 0) 1 = true := by kernel_rfl
set_option maxRecDepth 100000000 in
theorem r1FT1 : Nat.beq (Bc (runW ⟨1, false, false, false, 0⟩ false 1 true) 1 0) 1 = true := by kernel_rfl
set_option maxRecDepth 100000000 in
theorem r1FT2 : Nat.beq (Bc (runW ⟨1, false, false, false, 0⟩ false 2 true) 1 0) 1 = true := by kernel_rfl
set_option maxRecDepth 100000000 in
theorem r1FT3 : Nat.beq (Bc (runW ⟨1, false, false, false, 0⟩ false 3 true) 1 0) 1 = true := by kernel_rfl
set_option maxRecDepth 100000000 in
theorem r1FT4 : Nat.beq (Bc (runW ⟨1, false, false, false, 0⟩ false 4 true) 1 0) 1 = true := by kernel_rfl
set_option maxRecDepth 100000000 in
theorem r1FT5 : Nat.beq (Bc (runW ⟨1, false, false, false, 0⟩ false 5 true) 1 0) 1 = true := by kernel_rfl
set_option maxRecDepth 100000000 in
theorem r1TF0 : Nat.beq (Bc (runW ⟨1, false, false, false, 0⟩ true 0 false) 1 0) 1 = true := by kernel_rfl
set_option maxRecDepth 100000000 in
theorem r1TF1 : Nat.beq (Bc (runW ⟨1, false, false, false, 0⟩ true 1 false) 1 0) 1 = true := by kernel_rfl
set_option maxRecDepth 100000000 in
theorem r1TF2 : Nat.beq (Bc (runW ⟨1, false, false, false, 0⟩ true 2 false) 1 0) 1 = true := by kernel_rfl
set_option maxRecDepth 100000000 in
theorem r1TF3 : Nat.beq (Bc (runW ⟨1, false, false, false, 0⟩ true 3 false) 1 0) 1 = true := by kernel_rfl
set_option maxRecDepth 100000000 in
theorem r1TF4 : Nat.beq (Bc (runW ⟨1, false, false, false, 0⟩ true 4 false) 1 0) 1 = true := by kernel_rfl
set_option maxRecDepth 100000000 in
theorem r1TF5 : Nat.beq (Bc (runW ⟨1, false, false, false, 0⟩ true 5 false) 1 0) 1 = true := by kernel_rfl
set_option maxRecDepth 100000000 in
theorem r1TT1 : Nat.beq (Bc (runW ⟨1, false, false, false, 0⟩ true 1 true) 1 0) 1 = true := by kernel_rfl
set_option maxRecDepth 100000000 in
theorem r1TT2 : Nat.beq (Bc (runW ⟨1, false, false, false, 0⟩ true 2 true) 1 0) 1 = true := by kernel_rfl
set_option maxRecDepth 100000000 in
theorem r1TT3 : Nat.beq (Bc (runW ⟨1, false, false, false, 0⟩ true 3 true) 1 0) 1 = true := by kernel_rfl
set_option maxRecDepth 100000000 in
theorem r1TT4 : Nat.beq (Bc (runW ⟨1, false, false, false, 0⟩ true 4 true) 1 0) 1 = true := by kernel_rfl
set_option maxRecDepth 100000000 in
theorem r1TT5 : Nat.beq (Bc (runW ⟨1, false, false, false, 0⟩ true 5 true) 1 0) 1 = true := by kernel_rfl
end Go.Proofs.CN
end
