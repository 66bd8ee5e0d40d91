/-
  A part of the proof that pliantlaw25.TasksCycles returns true and leaves its argument alone. Conditions: those of the card in the last text.
-/
import Derived.JoinedOf
import Derived.KernelRfl
import Derived.Test.YtdaglpleolagnaaGreatDoorRows
set_option linter.unusedSimpArgs false
set_option linter.unusedVariables false

noncomputable section
namespace Go.Proofs.YtdaglpleolagnaaGreatDoor
open Go
/-! ### The program's layout, in parts -/
theorem lay_0 : ((List.range 150).all fun i => rowFine Tryz.prog (0 + i)) = true := by kernel_rfl
theorem lay_1 : ((List.range 150).all fun i => rowFine Tryz.prog (150 + i)) = true := by kernel_rfl
theorem lay_2 : ((List.range 150).all fun i => rowFine Tryz.prog (300 + i)) = true := by kernel_rfl
theorem lay_3 : ((List.range 150).all fun i => rowFine Tryz.prog (450 + i)) = true := by kernel_rfl
theorem lay_4 : ((List.range 150).all fun i => rowFine Tryz.prog (600 + i)) = true := by kernel_rfl
theorem lay_5 : ((List.range 148).all fun i => rowFine Tryz.prog (750 + i)) = true := by kernel_rfl
theorem lay_g : (Tryz.prog.globals.all fun g => decide (g.type < Tryz.prog.types.size)) = true := by kernel_rfl
theorem lay_f : (Tryz.prog.funcs.all fun f => f.params.all fun t => decide (t < Tryz.prog.types.size)) = true := by
  rw [← Array.all_toList]
  kernel_rfl
theorem lay_size : Tryz.prog.types.size = 898 := by kernel_rfl
theorem lay_get (t : Nat) (h : t < 898) : rowFine Tryz.prog t = true := by
  by_cases h0 : t < 150
  · have := List.all_eq_true.1 lay_0 (t - 0) (List.mem_range.2 (by omega))
    simpa [show 0 + (t - 0) = t from by omega] using this
  by_cases h1 : t < 300
  · have := List.all_eq_true.1 lay_1 (t - 150) (List.mem_range.2 (by omega))
    simpa [show 150 + (t - 150) = t from by omega] using this
  by_cases h2 : t < 450
  · have := List.all_eq_true.1 lay_2 (t - 300) (List.mem_range.2 (by omega))
    simpa [show 300 + (t - 300) = t from by omega] using this
  by_cases h3 : t < 600
  · have := List.all_eq_true.1 lay_3 (t - 450) (List.mem_range.2 (by omega))
    simpa [show 450 + (t - 450) = t from by omega] using this
  by_cases h4 : t < 750
  · have := List.all_eq_true.1 lay_4 (t - 600) (List.mem_range.2 (by omega))
    simpa [show 600 + (t - 600) = t from by omega] using this
  have := List.all_eq_true.1 lay_5 (t - 750) (List.mem_range.2 (by omega))
  simpa [show 750 + (t - 750) = t from by omega] using this
theorem f_laid : laidOutB Tryz.prog = true := by
  unfold laidOutB
  rw [lay_g, lay_f, lay_size, Bool.and_true, Bool.and_true]
  exact List.all_eq_true.2 fun t ht => lay_get t (List.mem_range.1 ht)
end Go.Proofs.YtdaglpleolagnaaGreatDoor
end
