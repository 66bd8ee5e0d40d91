/-
  A part of the proof that pliantlaw25.TasksCycles returns true and leaves its argument alone. Conditions: those of the card in the last text.
-/
import Derived.LaidOnce
import Derived.Test.YtdaglpleolagnaaGreatDoorRows
set_option linter.unusedSimpArgs false
set_option linter.unusedVariables false

noncomputable section
namespace Go.Proofs.YtdaglpleolagnaaGreatDoor.tasksCycles
/-- What the row lists, but for the pinned table. -/
noncomputable abbrev tied : List (String × DataW Unit) := [("unicode/utf8.acceptRanges", Rows.laid_unicode_utf8_acceptRanges), ("pliant/picture.punched", Rows.laid_pliant_picture_punched), ("strconv.ErrSyntax", Rows.laid_strconv_ErrSyntax), ("strconv.ErrRange", Rows.laid_strconv_ErrRange), ("internal/strconv.uint64pow10", Rows.laid_internal_strconv_uint64pow10), ("math/bits.deBruijn32tab", Rows.laid_math_bits_deBruijn32tab), ("math/bits.deBruijn64tab", Rows.laid_math_bits_deBruijn64tab), ("pliant/core.shapes", Rows.laid_pliant_core_shapes), ("pliant/core.operands", Rows.laid_pliant_core_operands), ("errors.errorType", Rows.laid_errors_errorType)]
abbrev tiedKinds : List LaidKind := [.data, .data, .sentinel, .sentinel, .data, .data, .data, .data, .data, .handle]
end Go.Proofs.YtdaglpleolagnaaGreatDoor.tasksCycles
end

noncomputable section
namespace Go.Proofs.YtdaglpleolagnaaGreatDoor.tasksCycles
theorem worded_list (w : String) : Tryz.prog.worded w = Tryz.prog.funcs.toList.any fun fn => fn.body.isNone && fn.name == w := by unfold Program.worded; rw [Array.any_toList]
theorem tie_w : Tryz.prog.worded (varsWordLater true) = true := by rw [worded_list]; kernel_rfl
theorem tie_w' : Tryz.prog.worded (varsWordLater !true) = false := by rw [worded_list]; kernel_rfl
theorem tie_root : Tryz.prog.worded rootWordLater = true := by rw [worded_list]; kernel_rfl
end Go.Proofs.YtdaglpleolagnaaGreatDoor.tasksCycles
end

noncomputable section
namespace Go.Proofs.YtdaglpleolagnaaGreatDoor.tasksCycles
theorem tie_k : tied.map (fun x => Tryz.prog.kindOfLater x.1) = tiedKinds.map some := by kernel_rfl
end Go.Proofs.YtdaglpleolagnaaGreatDoor.tasksCycles
end
