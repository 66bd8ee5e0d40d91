/-
  THE CARD: for every slice of pairs that pliantlaw25.TasksCycles is handed the call returns true and the argument reads behind it as it read before.
  Conditions: what is read is of bulk at most 1048576 (the second form); the listed package variables read as the row lists them (tied to the program text by the tie that stands here in parts).
-/
import Derived.Test.YtdaglpleolagnaaGreatDoorCards
import Derived.Test.YtdaglpleolagnaaGreatDoorG32
import Derived.Test.YtdaglpleolagnaaGreatDoorG41
set_option linter.unusedSimpArgs false
set_option linter.unusedVariables false

noncomputable section
namespace Go.Proofs.YtdaglpleolagnaaGreatDoor.tasksCycles
theorem cardUpto : Rows.TasksCyclesUptoCardSaid :=
  Claim7.holds_tied_plain_at .later [] _ _ _ _ saidUpto (fun _ h => by cases h) row_wf (fun _ h => by cases h) row_tie rfl ⟨rfl, rfl⟩ row_main rfl plain row_goes
#print axioms cardUpto
end Go.Proofs.YtdaglpleolagnaaGreatDoor.tasksCycles
end
