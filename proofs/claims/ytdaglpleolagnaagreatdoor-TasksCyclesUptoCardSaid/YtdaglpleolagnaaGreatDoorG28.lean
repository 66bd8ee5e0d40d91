/-
  A part of the proof that pliantlaw25.TasksCycles returns true and leaves its argument alone. Conditions: those of the card in the last text.
-/
import Derived.Below
import Derived.Deep.DeepHandedRow
import Derived.Deep.DeepWitnessRowRef
import Derived.Deep.Slices
import Derived.LaidHandle
import Derived.LaidLaws
import Derived.OpenShut
import Derived.ProofKit
import Derived.WalkKit
import Derived.Test.YtdaglpleolagnaaGreatDoorG26
set_option linter.unusedSimpArgs false
set_option linter.unusedVariables false

noncomputable section
set_option linter.unusedSimpArgs false
set_option linter.unusedVariables false
namespace Go.Proofs.YtdaglpleolagnaaGreatDoor.tasksCycles
open Go.ChangeShapes Go.WideShapes Go.ChangeAt Go.RowKit Go.Deep
/-! ### The witness: a world in which the listed variables read as listed -/
def flat : Nat → DataW Unit → List Value
  | 0, _ => []
  | n + 1, .agg ps => ps.flatMap (flat n)
  | _ + 1, .lit (.int k z) => [.int k z]
  | _ + 1, _ => []
def setRow (b : Nat) (cs : Array Value) (h : Array Obj) : Array Obj := h.modify b fun
  | .cells _ t frozen => .cells cs t frozen
  | o => o
def laidRows (n : Nat) (h : Array Obj) : Array Obj :=
  let h := setRow 0 ⟨flat 4 Rows.laid_pliant_core_shapes⟩ h
  let h := setRow 1 ⟨flat 4 Rows.laid_pliant_core_operands⟩ h
  let h := setRow 3 #[.iface 603 (.pointer (some ⟨n, 0, none⟩))] h
  let h := setRow 4 #[.iface 603 (.pointer (some ⟨n + 1, 0, none⟩))] h
  let h := setRow 5 ⟨flat 4 Rows.laid_internal_strconv_uint64pow10⟩ h
  let h := setRow 6 ⟨flat 4 Rows.laid_unicode_utf8_first⟩ h
  let h := setRow 7 ⟨flat 4 Rows.laid_unicode_utf8_acceptRanges⟩ h
  let h := setRow 8 ⟨flat 4 Rows.laid_math_bits_deBruijn32tab⟩ h
  let h := setRow 9 ⟨flat 4 Rows.laid_math_bits_deBruijn64tab⟩ h
  let h := setRow 11 ⟨flat 4 Rows.laid_pliant_picture_punched⟩ h
  h
noncomputable def laidWorld (os : Os) : World :=
  let w0 := World.holding Tryz.prog os ⟨#[.cells #[.string ⟨#[105, 110, 118, 97, 108, 105, 100, 32, 115, 121, 110, 116, 97, 120]⟩] 605, .cells #[.string ⟨#[118, 97, 108, 117, 101, 32, 111, 117, 116, 32, 111, 102, 32, 114, 97, 110, 103, 101]⟩] 605], #[], []⟩
  { w0 with heap := setRow 10 #[.iface 737 (.agg #[typeHandle Tryz.prog 218])] (laidRows (World.settled Tryz.prog os).heap.size w0.heap) }
noncomputable abbrev witW (os : Os) : World := ((laidWorld os).forCall (fun _ _ => 0) ⟨#[], #[.slice none 0 0], []⟩)
end Go.Proofs.YtdaglpleolagnaaGreatDoor.tasksCycles
end
