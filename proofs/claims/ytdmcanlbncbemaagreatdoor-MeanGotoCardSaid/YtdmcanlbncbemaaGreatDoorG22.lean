/-
  A part of the proof that pliantlaw16.MeanGoto returns true and leaves its arguments alone. Conditions: those of the card in the last text.
-/
import Derived.Test.YtdmcanlbncbemaaGreatDoorG20
set_option linter.unusedSimpArgs false
set_option linter.unusedVariables false
set_option linter.unusedSectionVars false
noncomputable section
namespace Go.Proofs.MN
open Go Go.Ev Go.Proofs Go.Ev.SM
set_option maxRecDepth 100000000 in
theorem deepF_0 (x c : Nat) (z : Int) (B : Blk) : ([1, 2, 3, 4, 5, 6, 7, 8, 9, 10, 11, 12, 13, 14, 15, 16, 17] : List Nat).map (fun e => gDeep rF (nV (-1)) e x c (nV z) B) = ([1, 2, 3, 4, 5, 6, 7, 8, 9, 10, 11, 12, 13, 14, 15, 16, 17] : List Nat).map (fun e => some (nV z, gS rF (Nat.succ e) x c, B)) := by kernel_rfl
set_option maxRecDepth 100000000 in
theorem deepF_1 (x c : Nat) (z : Int) (B : Blk) : ([18, 19, 20, 21, 22, 23, 24, 25, 26, 27, 28, 29, 30, 31, 32, 33, 34] : List Nat).map (fun e => gDeep rF (nV (-1)) e x c (nV z) B) = ([18, 19, 20, 21, 22, 23, 24, 25, 26, 27, 28, 29, 30, 31, 32, 33, 34] : List Nat).map (fun e => some (nV z, gS rF (Nat.succ e) x c, B)) := by kernel_rfl
set_option maxRecDepth 100000000 in
theorem deepF_2 (x c : Nat) (z : Int) (B : Blk) : ([35, 36, 37, 38, 39, 40, 41, 42, 43, 44, 45, 46, 47, 48, 49] : List Nat).map (fun e => gDeep rF (nV (-1)) e x c (nV z) B) = ([35, 36, 37, 38, 39, 40, 41, 42, 43, 44, 45, 46, 47, 48, 49] : List Nat).map (fun e => some (nV z, gS rF (Nat.succ e) x c, B)) := by kernel_rfl
set_option maxRecDepth 100000000 in
theorem deepT_0 (x c : Nat) (z : Int) (B : Blk) : ([1, 2, 3, 4, 5, 6, 7, 8, 9, 10, 11, 12, 13, 14, 15, 16, 17] : List Nat).map (fun e => gDeep rT (nV (-1)) e x c (nV z) B) = ([1, 2, 3, 4, 5, 6, 7, 8, 9, 10, 11, 12, 13, 14, 15, 16, 17] : List Nat).map (fun e => some (nV z, gS rT (Nat.succ e) x c, B)) := by kernel_rfl
set_option maxRecDepth 100000000 in
theorem deepT_1 (x c : Nat) (z : Int) (B : Blk) : ([18, 19, 20, 21, 22, 23, 24, 25, 26, 27, 28, 29, 30, 31, 32, 33, 34] : List Nat).map (fun e => gDeep rT (nV (-1)) e x c (nV z) B) = ([18, 19, 20, 21, 22, 23, 24, 25, 26, 27, 28, 29, 30, 31, 32, 33, 34] : List Nat).map (fun e => some (nV z, gS rT (Nat.succ e) x c, B)) := by kernel_rfl
set_option maxRecDepth 100000000 in
theorem deepT_2 (x c : Nat) (z : Int) (B : Blk) : ([35, 36, 37, 38, 39, 40, 41, 42, 43, 44, 45, 46, 47, 48, 49] : List Nat).map (fun e => gDeep rT (nV (-1)) e x c (nV z) B) = ([35, 36, 37, 38, 39, 40, 41, 42, 43, 44, 45, 46, 47, 48, 49] : List Nat).map (fun e => some (nV z, gS rT (Nat.succ e) x c, B)) := by kernel_rfl
end Go.Proofs.MN
end
