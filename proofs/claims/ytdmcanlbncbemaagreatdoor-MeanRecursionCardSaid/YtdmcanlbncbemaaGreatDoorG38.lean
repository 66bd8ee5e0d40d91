/-
  A part of the proof that pliantlaw16.MeanRecursion returns true and leaves its arguments alone. Conditions: those of the card in the last text.
-/
import Derived.Test.YtdmcanlbncbemaaGreatDoorG29
import Derived.Test.YtdmcanlbncbemaaGreatDoorG30
import Derived.Test.YtdmcanlbncbemaaGreatDoorG31
import Derived.Test.YtdmcanlbncbemaaGreatDoorG32
import Derived.Test.YtdmcanlbncbemaaGreatDoorG33
import Derived.Test.YtdmcanlbncbemaaGreatDoorG34
import Derived.Test.YtdmcanlbncbemaaGreatDoorG35
import Derived.Test.YtdmcanlbncbemaaGreatDoorG37
set_option linter.unusedSimpArgs false
set_option linter.unusedVariables false
set_option linter.unusedSectionVars false
noncomputable section
namespace Go.Proofs.YtdmcanlbncbemaaGreatDoor.meanRecursion
open Go.ChangeShapes Go.WideShapes Go.ChangeAt Go.RowKit Go.Deep
theorem f_named : (Rows.meanRecursionRow.named == Tryz.prog.varsNamed 5) = true := by rw [named5]; kernel_rfl
theorem closed : joinedFacts Tryz.prog 5 Tryz.f5 sB Rows.meanRecursionRow = true := by
  unfold joinedFacts
  rw [f_laid, f_mapsRowed, f_params, f_inPlace, f_unf, f_rec, f_named, f_maps, f_ifaces, f_loops, f_wide, f_results, f_ifacesOut, f_loopsOut, f_plainKeys, f_heard, f_mayEnter, f_veiled, f_fits]
  kernel_rfl
theorem said : Rows.MeanRecursionSaid :=
  OpenClaim.holds_of_cond 5 Tryz.f5 rfl rfl rfl rfl rfl rfl rfl ⟨rfl, rfl, rfl, rfl, rfl⟩ rfl rfl rfl rfl rfl (by kernel_rfl) Tryz.func5 closed
    (of_decide_eq_true (by kernel_rfl)) (by unfold Func.isWrapper; first | (rw [if_pos (by decide +kernel)]; kernel_rfl) | (rw [if_neg (by decide +kernel)]; exact ⟨rfl, rfl⟩))
    (fun os started H enc _ F => by rw [OpenClaim.pre_eq_preRow]; exact lifted os started H enc F)
end Go.Proofs.YtdmcanlbncbemaaGreatDoor.meanRecursion
end
