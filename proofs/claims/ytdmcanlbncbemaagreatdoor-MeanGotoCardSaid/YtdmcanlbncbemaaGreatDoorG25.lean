/-
  A part of the proof that pliantlaw16.MeanGoto returns true and leaves its arguments alone. Conditions: those of the card in the last text.
-/
import Derived.Test.YtdmcanlbncbemaaGreatDoorG20
set_option linter.unusedSimpArgs false
set_option linter.unusedVariables false
set_option linter.unusedSectionVars false
noncomputable section
namespace Go.Proofs.MN
open Go Go.Ev Go.Proofs Go.Ev.SM
set_option maxRecDepth 100000000 in
theorem stepF_0_0 (d : Nat) : ([1, 2, 3, 4, 5, 6, 7, 8, 9, 10, 11, 12, 13, 14, 15, 16, 17] : List Nat).map (fun e => gStepR wF e 0 (uD d e 0)) = ([1, 2, 3, 4, 5, 6, 7, 8, 9, 10, 11, 12, 13, 14, 15, 16, 17] : List Nat).map (fun e => some (uD d e 0)) := by kernel_rfl
set_option maxRecDepth 100000000 in
theorem stepF_0_1 (d : Nat) : ([18, 19, 20, 21, 22, 23, 24, 25, 26, 27, 28, 29, 30, 31, 32, 33, 34] : List Nat).map (fun e => gStepR wF e 0 (uD d e 0)) = ([18, 19, 20, 21, 22, 23, 24, 25, 26, 27, 28, 29, 30, 31, 32, 33, 34] : List Nat).map (fun e => some (uD d e 0)) := by kernel_rfl
set_option maxRecDepth 100000000 in
theorem stepF_0_2 (d : Nat) : ([35, 36, 37, 38, 39, 40, 41, 42, 43, 44, 45, 46, 47, 48, 49] : List Nat).map (fun e => gStepR wF e 0 (uD d e 0)) = ([35, 36, 37, 38, 39, 40, 41, 42, 43, 44, 45, 46, 47, 48, 49] : List Nat).map (fun e => some (uD d e 0)) := by kernel_rfl
set_option maxRecDepth 100000000 in
theorem stepF_1_0 (d : Nat) : ([1, 2, 3, 4, 5, 6, 7, 8, 9, 10, 11, 12, 13, 14, 15, 16, 17] : List Nat).map (fun e => gStepR wF e 1 (uD d e 1)) = ([1, 2, 3, 4, 5, 6, 7, 8, 9, 10, 11, 12, 13, 14, 15, 16, 17] : List Nat).map (fun e => some (uD d e 1)) := by kernel_rfl
set_option maxRecDepth 100000000 in
theorem stepF_1_1 (d : Nat) : ([18, 19, 20, 21, 22, 23, 24, 25, 26, 27, 28, 29, 30, 31, 32, 33, 34] : List Nat).map (fun e => gStepR wF e 1 (uD d e 1)) = ([18, 19, 20, 21, 22, 23, 24, 25, 26, 27, 28, 29, 30, 31, 32, 33, 34] : List Nat).map (fun e => some (uD d e 1)) := by kernel_rfl
set_option maxRecDepth 100000000 in
theorem stepF_1_2 (d : Nat) : ([35, 36, 37, 38, 39, 40, 41, 42, 43, 44, 45, 46, 47, 48, 49] : List Nat).map (fun e => gStepR wF e 1 (uD d e 1)) = ([35, 36, 37, 38, 39, 40, 41, 42, 43, 44, 45, 46, 47, 48, 49] : List Nat).map (fun e => some (uD d e 1)) := by kernel_rfl
set_option maxRecDepth 100000000 in
theorem stepF_2_0 (d : Nat) : ([1, 2, 3, 4, 5, 6, 7, 8, 9, 10, 11, 12, 13, 14, 15, 16, 17] : List Nat).map (fun e => gStepR wF e 2 (uD d e 2)) = ([1, 2, 3, 4, 5, 6, 7, 8, 9, 10, 11, 12, 13, 14, 15, 16, 17] : List Nat).map (fun e => some (uD d e 2)) := by kernel_rfl
set_option maxRecDepth 100000000 in
theorem stepF_2_1 (d : Nat) : ([18, 19, 20, 21, 22, 23, 24, 25, 26, 27, 28, 29, 30, 31, 32, 33, 34] : List Nat).map (fun e => gStepR wF e 2 (uD d e 2)) = ([18, 19, 20, 21, 22, 23, 24, 25, 26, 27, 28, 29, 30, 31, 32, 33, 34] : List Nat).map (fun e => some (uD d e 2)) := by kernel_rfl
set_option maxRecDepth 100000000 in
theorem stepF_2_2 (d : Nat) : ([35, 36, 37, 38, 39, 40, 41, 42, 43, 44, 45, 46, 47, 48, 49] : List Nat).map (fun e => gStepR wF e 2 (uD d e 2)) = ([35, 36, 37, 38, 39, 40, 41, 42, 43, 44, 45, 46, 47, 48, 49] : List Nat).map (fun e => some (uD d e 2)) := by kernel_rfl
set_option maxRecDepth 100000000 in
theorem stepT_0_0 (d : Nat) : ([1, 2, 3, 4, 5, 6, 7, 8, 9, 10, 11, 12, 13, 14, 15, 16, 17] : List Nat).map (fun e => gStepR wT e 0 (uD d e 0)) = ([1, 2, 3, 4, 5, 6, 7, 8, 9, 10, 11, 12, 13, 14, 15, 16, 17] : List Nat).map (fun e => some (uD d e 0)) := by kernel_rfl
set_option maxRecDepth 100000000 in
theorem stepT_0_1 (d : Nat) : ([18, 19, 20, 21, 22, 23, 24, 25, 26, 27, 28, 29, 30, 31, 32, 33, 34] : List Nat).map (fun e => gStepR wT e 0 (uD d e 0)) = ([18, 19, 20, 21, 22, 23, 24, 25, 26, 27, 28, 29, 30, 31, 32, 33, 34] : List Nat).map (fun e => some (uD d e 0)) := by kernel_rfl
set_option maxRecDepth 100000000 in
theorem stepT_0_2 (d : Nat) : ([35, 36, 37, 38, 39, 40, 41, 42, 43, 44, 45, 46, 47, 48, 49] : List Nat).map (fun e => gStepR wT e 0 (uD d e 0)) = ([35, 36, 37, 38, 39, 40, 41, 42, 43, 44, 45, 46, 47, 48, 49] : List Nat).map (fun e => some (uD d e 0)) := by kernel_rfl
set_option maxRecDepth 100000000 in
theorem stepT_1_0 (d : Nat) : ([1, 2, 3, 4, 5, 6, 7, 8, 9, 10, 11, 12, 13, 14, 15, 16, 17] : List Nat).map (fun e => gStepR wT e 1 (uD d e 1)) = ([1, 2, 3, 4, 5, 6, 7, 8, 9, 10, 11, 12, 13, 14, 15, 16, 17] : List Nat).map (fun e => some (uD d e 1)) := by kernel_rfl
set_option maxRecDepth 100000000 in
theorem stepT_1_1 (d : Nat) : ([18, 19, 20, 21, 22, 23, 24, 25, 26, 27, 28, 29, 30, 31, 32, 33, 34] : List Nat).map (fun e => gStepR wT e 1 (uD d e 1)) = ([18, 19, 20, 21, 22, 23, 24, 25, 26, 27, 28, 29, 30, 31, 32, 33, 34] : List Nat).map (fun e => some (uD d e 1)) := by kernel_rfl
set_option maxRecDepth 100000000 in
theorem stepT_1_2 (d : Nat) : ([35, 36, 37, 38, 39, 40, 41, 42, 43, 44, 45, 46, 47, 48, 49] : List Nat).map (fun e => gStepR wT e 1 (uD d e 1)) = ([35, 36, 37, 38, 39, 40, 41, 42, 43, 44, 45, 46, 47, 48, 49] : List Nat).map (fun e => some (uD d e 1)) := by kernel_rfl
set_option maxRecDepth 100000000 in
theorem stepT_2_0 (d : Nat) : ([1, 2, 3, 4, 5, 6, 7, 8, 9, 10, 11, 12, 13, 14, 15, 16, 17] : List Nat).map (fun e => gStepR wT e 2 (uD d e 2)) = ([1, 2, 3, 4, 5, 6, 7, 8, 9, 10, 11, 12, 13, 14, 15, 16, 17] : List Nat).map (fun e => some (uD d e 2)) := by kernel_rfl
set_option maxRecDepth 100000000 in
theorem stepT_2_1 (d : Nat) : ([18, 19, 20, 21, 22, 23, 24, 25, 26, 27, 28, 29, 30, 31, 32, 33, 34] : List Nat).map (fun e => gStepR wT e 2 (uD d e 2)) = ([18, 19, 20, 21, 22, 23, 24, 25, 26, 27, 28, 29, 30, 31, 32, 33, 34] : List Nat).map (fun e => some (uD d e 2)) := by kernel_rfl
set_option maxRecDepth 100000000 in
theorem stepT_2_2 (d : Nat) : ([35, 36, 37, 38, 39, 40, 41, 42, 43, 44, 45, 46, 47, 48, 49] : List Nat).map (fun e => gStepR wT e 2 (uD d e 2)) = ([35, 36, 37, 38, 39, 40, 41, 42, 43, 44, 45, 46, 47, 48, 49] : List Nat).map (fun e => some (uD d e 2)) := by kernel_rfl
end Go.Proofs.MN
end
