/-
  A part of the proof that pliantlaw25.TasksCycles returns true and leaves its argument alone. Conditions: those of the card in the last text.
-/
import Derived.Test.YtdaglpleolagnaaGreatDoorG33
set_option linter.unusedSimpArgs false
set_option linter.unusedVariables false

noncomputable section
namespace Go.Proofs.YtdaglpleolagnaaGreatDoor.tasksCycles
/-- The places of a list at which a test says yes, in order, counted from 'k'. -/
def spots {α : Type} (p : α → Bool) : List α → Nat → List Nat
  | [], _ => []
  | a :: r, k => bif p a then k :: spots p r (k + 1) else spots p r (k + 1)
theorem spots_range {α : Type} (p : α → Bool) (a : Array α) : ∀ (l : List α) (k : Nat), (∀ i, l[i]? = a[k + i]?) →
    (List.range' k l.length).filter (fun i => (a[i]?).any p) = spots p l k
  | [], k, _ => rfl
  | x :: r, k, h => by
    have h0 : a[k]? = some x := by have := h 0; simpa using this.symm
    have ht := spots_range p a r (k + 1) (fun i => by have := h (i + 1); rw [List.getElem?_cons_succ] at this; rw [this]; congr 1; omega)
    rw [List.length_cons, List.range'_succ, List.filter_cons, h0, ht]
    simp only [spots, Option.any_some]
    by_cases hp : p x = true
    · rw [if_pos hp, hp]; rfl
    · rw [if_neg hp, Bool.eq_false_iff.2 hp]; rfl
theorem funcs_spots (nm : String) : (List.range Tryz.prog.funcs.size).filter (fun i => (Tryz.prog.funcs[i]?).any (·.name == nm)) = spots (fun fn : Func => fn.name == nm) Tryz.prog.funcs.toList 0 := by
  rw [List.range_eq_range', ← Array.length_toList]
  exact spots_range (fun fn : Func => fn.name == nm) Tryz.prog.funcs Tryz.prog.funcs.toList 0 (fun i => by simp)
theorem named_of {nm : String} {n : Nat} (h : spots (fun fn : Func => fn.name == nm) Tryz.prog.funcs.toList 0 = [n]) : Tryz.prog.funcNamed nm = some n := by
  unfold Program.funcNamed
  rw [funcs_spots, h]
theorem named_vars : Tryz.prog.funcNamed "gosem.cut.vars" = some 828 := named_of (by kernel_rfl)
theorem named_elem : Tryz.prog.funcNamed "(internal/reflectlite.rtype).Elem" = some 806 := named_of (by kernel_rfl)
theorem tie_g : (Tryz.prog.funcNamed "gosem.cut.vars").isSome = true := by rw [named_vars]; rfl
theorem vars_id : varsId Tryz.prog = 828 := by unfold varsId; rw [named_vars]; rfl
end Go.Proofs.YtdaglpleolagnaaGreatDoor.tasksCycles
end
