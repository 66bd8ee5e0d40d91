/-
  A part of the proof that pliantlaw16.MeanConditions returns true and leaves its arguments alone. Conditions: those of the card in the last text.
-/
import Derived.Test.YtdmcanlbncbemaaGreatDoorG21
set_option linter.unusedSimpArgs false
set_option linter.unusedVariables false
set_option linter.unusedSectionVars false
noncomputable section
namespace Go.Proofs.CN
open Go Go.Ev Go.Proofs Go.Ev.SM Go.Proofs.MN
set_option maxRecDepth 100000000 in
theorem r2FF0 : Nat.beq (Bc (runW ⟨2, false, false, false, 0⟩ false 0 false) 1 0) 1 = true := by kernel_rfl
set_option maxRecDepth 100000000 in
theorem r2FF1 : Nat.beq (Bc (runW ⟨2, false, false, false, 0⟩ false 1 false) 1 0) 1 = true := by kernel_rfl
set_option maxRecDepth 100000000 in
theorem r2FF2 : Nat.beq (Bc (runW ⟨2, false, false, false, 0⟩ false 2 false) 1 0) 1 = true := by kernel_rfl
set_option maxRecDepth 100000000 in
theorem r2FF3 : Nat.beq (Bc (runW ⟨2, false, false, false, 0⟩ false 3 false) 1 0) 1 = true := by kernel_rfl
set_option maxRecDepth 100000000 in
theorem r2FF4 : Nat.beq (Bc (runW ⟨2, false, false, false, 0⟩ false 4 false) 1 0) 1 = true := by kernel_rfl
set_option maxRecDepth 100000000 in
theorem r2FF5 : Nat.beq (Bc (runW ⟨2, false, false, false, 0⟩ false 5 false) 1 0) 1 = true := by kernel_rfl
set_option maxRecDepth 100000000 in
theorem r2FT1 : Nat.beq (Bc (runW ⟨2, false, false, false, 0⟩ false 1 true) 1 0) 1 = true := by kernel_rfl
set_option maxRecDepth 100000000 in
theorem r2FT2 : Nat.beq (Bc (runW ⟨2, false, false, false, 0⟩ false 2 true) 1 0) 1 = true := by kernel_rfl
set_option maxRecDepth 100000000 in
theorem r2FT3 : Nat.beq (Bc (runW ⟨2, false, false, false, 0⟩ false 3 true) 1 0) 1 = true := by kernel_rfl
set_option maxRecDepth 100000000 in
theorem r2FT4 : Nat.beq (Bc (runW ⟨2, false, false, false, 0⟩ false 4 true) 1 0) 1 = true := by kernel_rfl
set_option maxRecDepth 100000000 in
theorem r2FT5 : Nat.beq (Bc (runW ⟨2, false, false, false, 0⟩ false 5 true) 1 0) 1 = true := by kernel_rfl
set_option maxRecDepth 100000000 in
theorem r2TF0 : Nat.beq (Bc (runW ⟨2, false, false, false, 0⟩ true 0 false) 1 0) 1 = true := by kernel_rfl
set_option maxRecDepth 100000000 in
theorem r2TF1 : Nat.beq (Bc (runW ⟨2, false, false, false, 0⟩ true 1 false) 1 0) 1 = true := by kernel_rfl
set_option maxRecDepth 100000000 in
theorem r2TF2 : Nat.beq (Bc (runW ⟨2, false, false, false, 0⟩ true 2 false) 1 0) 1 = true := by kernel_rfl
set_option maxRecDepth 100000000 in
theorem r2TF3 : Nat.beq (Bc (runW ⟨2, false, false, false, 0⟩ true 3 false) 1 0) 1 = true := by kernel_rfl
set_option maxRecDepth 100000000 in
theorem r2TF4 : Nat.beq (Bc (runW ⟨2, false, false, false, 0⟩ true 4 false) 1 0) 1 = true := by kernel_rfl
set_option maxRecDepth 100000000 in
theorem r2TF5 : Nat.beq (Bc (runW ⟨2, false, false, false, 0⟩ true 5 false) 1 0) 1 = true := by kernel_rfl
set_option maxRecDepth 100000000 in
theorem r2TT1 : Nat.beq (Bc (runW ⟨2, false, false, false, 0⟩ true 1 true) 1 0) 1 = true := by kernel_rfl
set_option maxRecDepth 100000000 in
theorem r2TT2 : Nat.beq (Bc (runW ⟨2, false, false, false, 0⟩ true 2 true) 1 0) 1 = true := by kernel_rfl
set_option maxRecDepth 100000000 in
theorem r2TT3 : Nat.beq (Bc (runW ⟨2, false, false, false, 0⟩ true 3 true) 1 0) 1 = true := by kernel_rfl
set_option maxRecDepth 100000000 in
theorem r2TT4 : Nat.beq (Bc (runW ⟨2, false, false, false, 0⟩ true 4 true) 1 0) 1 = true := by kernel_rfl
set_option maxRecDepth 100000000 in
theorem r2TT5 : Nat.beq (Bc (runW ⟨2, false, false, false, 0⟩ true 5 true) 1 0) 1 = true := by kernel_rfl
set_option maxRecDepth 100000000 in
theorem c1F : Nat.beq (Bc (run0 ⟨1, false, false, true, 0⟩ false) 1 0) 1 = true := by kernel_rfl
set_option maxRecDepth 100000000 in
theorem c1TF0 : Nat.beq (Bc (runW ⟨1, false, false, true, 0⟩ true 0 false) 1 0) 1 = true := by kernel_rfl
set_option maxRecDepth 100000000 in
theorem c1TF1 : Nat.beq (Bc (runW ⟨1, false, false, true, 0⟩ true 1 false) 1 0) 1 = true := by kernel_rfl
set_option maxRecDepth 100000000 in
theorem c1TF2 : Nat.beq (Bc (runW ⟨1, false, false, true, 0⟩ true 2 false) 1 0) 1 = true := by kernel_rfl
set_option maxRecDepth 100000000 in
theorem c1TF3 : Nat.beq (Bc (runW ⟨1, false, false, true, 0⟩ true 3 false) 1 0) 1 = true := by kernel_rfl
set_option maxRecDepth 100000000 in
theorem c1TF4 : Nat.beq (Bc (runW ⟨1, false, false, true, 0⟩ true 4 false) 1 0) 1 = true := by kernel_rfl
set_option maxRecDepth 100000000 in
theorem c1TF5 : Nat.beq (Bc (runW ⟨1, false, false, true, 0⟩ true 5 false) 1 0) 1 = true := by kernel_rfl
set_option maxRecDepth 100000000 in
theorem c1TT1 : Nat.beq (Bc (runW ⟨1, false, false, true, 0⟩ true 1 true) 1 0) 1 = true := by kernel_rfl
set_option maxRecDepth 100000000 in
theorem c1TT2 : Nat.beq (Bc (runW ⟨1, false, false, true, 0⟩ true 2 true) 1 0) 1 = true := by kernel_rfl
set_option maxRecDepth 100000000 in
theorem c1TT3 : Nat.beq (Bc (runW ⟨1, false, false, true, 0⟩ true 3 true) 1 0) 1 = true := by kernel_rfl
set_option maxRecDepth 100000000 in
theorem c1TT4 : Nat.beq (Bc (runW ⟨1, false, false, true, 0⟩ true 4 true) 1 0) 1 = true := by kernel_rfl
set_option maxRecDepth 100000000 in
theorem c1TT5 : Nat.beq (Bc (runW ⟨1, false, false, true, 0⟩ true 5 true) 1 0) 1 = true := by kernel_rfl
end Go.Proofs.CN
end
