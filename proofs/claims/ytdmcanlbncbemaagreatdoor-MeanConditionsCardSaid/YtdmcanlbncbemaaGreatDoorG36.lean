/-
  A part of the proof that pliantlaw16.MeanConditions returns true and leaves its arguments alone. Conditions: those of the card in the last text.
-/
import Derived.Test.YtdmcanlbncbemaaGreatDoorG11
import Derived.Test.YtdmcanlbncbemaaGreatDoorG29
import Derived.Test.YtdmcanlbncbemaaGreatDoorG30
import Derived.Test.YtdmcanlbncbemaaGreatDoorG31
import Derived.Test.YtdmcanlbncbemaaGreatDoorG32
import Derived.Test.YtdmcanlbncbemaaGreatDoorG33
import Derived.Test.YtdmcanlbncbemaaGreatDoorG34
import Derived.Test.YtdmcanlbncbemaaGreatDoorG35
set_option linter.unusedSimpArgs false
set_option linter.unusedVariables false
set_option linter.unusedSectionVars false
noncomputable section
namespace Go.Proofs.YtdmcanlbncbemaaGreatDoor.meanConditions
open Go
open Go.Proofs.MN (fnT NF fn_all map_range_eq)
theorem flatMap_congr' {α β : Type} {f g : α → List β} : ∀ {l : List α}, (∀ x ∈ l, f x = g x) → l.flatMap f = l.flatMap g := by
  intro l
  induction l with
  | nil => intro _; rfl
  | cons a l ih => intro h; rw [List.flatMap_cons, List.flatMap_cons, h a (by simp), ih fun x hx => h x (by simp [hx])]
theorem filterMap_congr' {α β : Type} {f g : α → Option β} : ∀ {l : List α}, (∀ x ∈ l, f x = g x) → l.filterMap f = l.filterMap g := by
  intro l
  induction l with
  | nil => intro _; rfl
  | cons a l ih => intro h; rw [List.filterMap_cons, List.filterMap_cons, h a (by simp), ih fun x hx => h x (by simp [hx])]
theorem fn_get (f : Nat) (h : f < NF) : Tryz.prog.funcs[f]? = fnT.get f := map_range_eq fn_all h
theorem cl_all : (CL3.all fun g => Nat.blt g NF) = true := by kernel_rfl
theorem cl_lt (g : Nat) (h : g ∈ CL3) : g < NF := Eq.mp Nat.blt_eq (List.all_eq_true.1 cl_all g h)
noncomputable def gnF (g : Nat) : List Nat := ((fnT.get g).bind (·.body)).elim [] Code.globalsNamed
theorem gn_all : CL3.flatMap gnF = [12, 13, 9, 9, 9, 8, 10, 11, 2, 4, 5, 8, 3, 6, 6, 6, 7] := by kernel_rfl
theorem en_all : (CL3.filterMap fun g => (fnT.get g).bind fun fn => if fn.body.isNone then entryReads.lookup fn.name else none) = ["internal/bytealg.MaxLen"] := by kernel_rfl
theorem named3 : Tryz.prog.varsNamed 3 = ["unicode/utf8.first", "unicode/utf8.acceptRanges", "internal/bytealg.MaxLen", "pliant/picture.punched", "strconv.ErrSyntax", "strconv.ErrRange", "internal/strconv.uint64pow10", "math/bits.deBruijn32tab", "math/bits.deBruijn64tab", "pliant/core.shapes", "pliant/core.operands", "errors.errorType"] := by
  unfold Program.varsNamed
  rw [closure3, flatMap_congr' (g := gnF) (fun x hx => congrArg (fun o : Option Func => (o.bind (·.body)).elim [] Code.globalsNamed) (fn_get x (cl_lt x hx))),
    filterMap_congr' (g := fun g => (fnT.get g).bind fun fn => if fn.body.isNone then entryReads.lookup fn.name else none) (fun x hx => congrArg (fun o : Option Func => o.bind fun fn => if fn.body.isNone then entryReads.lookup fn.name else none) (fn_get x (cl_lt x hx))), gn_all, en_all]
  kernel_rfl
end Go.Proofs.YtdmcanlbncbemaaGreatDoor.meanConditions
end
noncomputable section
namespace Go.Proofs.YtdmcanlbncbemaaGreatDoor.meanConditions
open Go.ChangeShapes Go.WideShapes Go.ChangeAt Go.RowKit Go.Deep
theorem f_named : (Rows.meanConditionsRow.named == Tryz.prog.varsNamed 3) = true := by rw [named3]; kernel_rfl
theorem closed : joinedFacts Tryz.prog 3 Tryz.f3 sB Rows.meanConditionsRow = true := by
  unfold joinedFacts
  rw [f_laid, f_mapsRowed, f_params, f_inPlace, f_unf, f_rec, f_named, f_maps, f_ifaces, f_loops, f_wide, f_results, f_ifacesOut, f_loopsOut, f_plainKeys, f_heard, f_mayEnter, f_veiled, f_fits]
  kernel_rfl
theorem said : Rows.MeanConditionsSaid :=
  OpenClaim.holds_of_cond 3 Tryz.f3 rfl rfl rfl rfl rfl rfl rfl ⟨rfl, rfl, rfl, rfl, rfl⟩ rfl rfl rfl rfl rfl (by kernel_rfl) Tryz.func3 closed
    (of_decide_eq_true (by kernel_rfl)) (by unfold Func.isWrapper; first | (rw [if_pos (by decide +kernel)]; kernel_rfl) | (rw [if_neg (by decide +kernel)]; exact ⟨rfl, rfl⟩))
    (fun os started H enc _ F => by rw [OpenClaim.pre_eq_preRow]; exact lifted os started H enc F)
end Go.Proofs.YtdmcanlbncbemaaGreatDoor.meanConditions
end
