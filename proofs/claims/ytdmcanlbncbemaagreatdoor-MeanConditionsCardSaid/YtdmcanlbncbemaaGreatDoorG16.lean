/-
  A part of the proof that pliantlaw16.MeanConditions returns true and leaves its arguments alone. Conditions: those of the card in the last text.
-/
import Derived.Test.YtdmcanlbncbemaaGreatDoorG15
set_option linter.unusedSimpArgs false
set_option linter.unusedVariables false
set_option linter.unusedSectionVars false
noncomputable section
namespace Go.Proofs.CN
open Go Go.Ev Go.Proofs Go.Ev.SM Go.Proofs.MN
set_option maxRecDepth 100000000 in
theorem toU_0 : Nat.beq (Bc (toB shZ false T31 v3 0) 1 0) 1 = true := by kernel_rfl
set_option maxRecDepth 100000000 in
theorem toU_1 : Nat.beq (Bc (allS (toU 1) true [0]) 1 0) 1 = true := by kernel_rfl
set_option maxRecDepth 100000000 in
theorem toU_2 : Nat.beq (Bc (allS (toU 2) true [0, 1]) 1 0) 1 = true := by kernel_rfl
set_option maxRecDepth 100000000 in
theorem toU_3 : Nat.beq (Bc (allS (toU 3) true [0, 1, 2]) 1 0) 1 = true := by kernel_rfl
set_option maxRecDepth 100000000 in
theorem toU_4 : Nat.beq (Bc (allS (toU 4) true [0, 1, 2, 3]) 1 0) 1 = true := by kernel_rfl
set_option maxRecDepth 100000000 in
theorem toU_5 : Nat.beq (Bc (allS (toU 5) true [0, 1, 2, 3, 4]) 1 0) 1 = true := by kernel_rfl
set_option maxRecDepth 100000000 in
theorem toN_5 : Nat.beq (Bc (allS (toN 5) true [0, 1, 2, 3, 4]) 1 0) 1 = true := by kernel_rfl
set_option maxRecDepth 100000000 in
theorem toN_6 : Nat.beq (Bc (allS (toN 6) true [0, 1, 2, 3, 4, 5]) 1 0) 1 = true := by kernel_rfl
set_option maxRecDepth 100000000 in
theorem toF_0 : Nat.beq (Bc (toB shZ false T15 v3 0) 1 0) 1 = true := by kernel_rfl
set_option maxRecDepth 100000000 in
theorem toF_1 : Nat.beq (Bc (allS (toF 1) false [0]) 1 0) 1 = true := by kernel_rfl
set_option maxRecDepth 100000000 in
theorem toF_2 : Nat.beq (Bc (allS (toF 2) false [0, 1]) 1 0) 1 = true := by kernel_rfl
set_option maxRecDepth 100000000 in
theorem toF_3 : Nat.beq (Bc (allS (toF 3) false [0, 1, 2]) 1 0) 1 = true := by kernel_rfl
set_option maxRecDepth 100000000 in
theorem toF_4 : Nat.beq (Bc (allS (toF 4) false [0, 1, 2, 3]) 1 0) 1 = true := by kernel_rfl
set_option maxRecDepth 100000000 in
theorem toF_5 : Nat.beq (Bc (allS (toF 5) false [0, 1, 2, 3, 4]) 1 0) 1 = true := by kernel_rfl
set_option maxRecDepth 100000000 in
theorem toS_0 : Nat.beq (Bc (toB shZ false (tyC 1) v3S 0) 1 0) 1 = true := by kernel_rfl
set_option maxRecDepth 100000000 in
theorem toS_1 : Nat.beq (Bc (allS (toS 1) true [0]) 1 0) 1 = true := by kernel_rfl
set_option maxRecDepth 100000000 in
theorem toS_2 : Nat.beq (Bc (allS (toS 2) true [0, 1]) 1 0) 1 = true := by kernel_rfl
set_option maxRecDepth 100000000 in
theorem toS_3 : Nat.beq (Bc (allS (toS 3) true [0, 1, 2]) 1 0) 1 = true := by kernel_rfl
set_option maxRecDepth 100000000 in
theorem toS_4 : Nat.beq (Bc (allS (toS 4) true [0, 1, 2, 3]) 1 0) 1 = true := by kernel_rfl
set_option maxRecDepth 100000000 in
theorem toS_5 : Nat.beq (Bc (allS (toS 5) true [0, 1, 2, 3, 4]) 1 0) 1 = true := by kernel_rfl
end Go.Proofs.CN
end
