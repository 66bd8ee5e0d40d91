/-
  A part of the proof that pliantlaw25.TasksCycles returns true and leaves its argument alone. Conditions: those of the card in the last text.
-/
import Derived.JoinedOf
import Derived.KernelRfl
import Derived.Test.YtdaglpleolagnaaGreatDoorRows
import Derived.Test.YtdaglpleolagnaaGreatDoorG23
set_option linter.unusedSimpArgs false
set_option linter.unusedVariables false

noncomputable section
namespace Go.Proofs.YtdaglpleolagnaaGreatDoor
open Go Go.Ev
open Go.Proofs.K25 (CL closure3 fn_get fnT NF NT undT map_range_eq und_all)
/-! ### The row's closed facts, the heavy ones by tables -/
theorem flatMap_congr' {α β : Type} {f g : α → List β} : ∀ {l : List α}, (∀ x ∈ l, f x = g x) → l.flatMap f = l.flatMap g := by
  intro l
  induction l with
  | nil => intro _; rfl
  | cons a l ih => intro h; rw [List.flatMap_cons, List.flatMap_cons, h a (by simp), ih fun x hx => h x (by simp [hx])]
theorem filterMap_congr' {α β : Type} {f g : α → Option β} : ∀ {l : List α}, (∀ x ∈ l, f x = g x) → l.filterMap f = l.filterMap g := by
  intro l
  induction l with
  | nil => intro _; rfl
  | cons a l ih => intro h; rw [List.filterMap_cons, List.filterMap_cons, h a (by simp), ih fun x hx => h x (by simp [hx])]
theorem all_congr' {α : Type} {f g : α → Bool} : ∀ {l : List α}, (∀ x ∈ l, f x = g x) → l.all f = l.all g := by
  intro l
  induction l with
  | nil => intro _; rfl
  | cons a l ih => intro h; rw [List.all_cons, List.all_cons, h a (by simp), ih fun x hx => h x (by simp [hx])]
theorem cl_all : (CL.all fun g => Nat.blt g NF) = true := by kernel_rfl
theorem cl_lt (g : Nat) (h : g ∈ CL) : g < NF := (blt_iff _ _).1 (List.all_eq_true.1 cl_all g h)
theorem f_inPlace : (Rows.tasksCyclesUptoRow.inPlace == Tryz.prog.inPlace 3) = true := by
  unfold Program.inPlace
  rw [closure3, filterMap_congr' (g := fun g => (fnT.get g).bind fun fn => if fn.ours || fn.body.isNone || fn.name == "runtime.NumGoroutine" then some fn.name else none) (fun x hx => congrArg (fun o : Option Func => o.bind fun fn => if fn.ours || fn.body.isNone || fn.name == "runtime.NumGoroutine" then some fn.name else none) (fn_get x (cl_lt x hx)))]
  kernel_rfl
theorem unf3 : Tryz.prog.unfollowed 3 = true := by
  unfold Program.unfollowed
  rw [closure3]
  refine List.any_eq_true.2 ⟨79, List.elem_iff.1 (show List.elem 79 CL = true by kernel_rfl), ?_⟩
  rw [fn_get 79 (by decide)]
  kernel_rfl
theorem f_unf : (Rows.tasksCyclesUptoRow.unfollowed == Tryz.prog.unfollowed 3) = true := by rw [unf3]; kernel_rfl
theorem f_rec : (Rows.tasksCyclesUptoRow.recurses == Tryz.prog.recurses 3) = true := by
  unfold Program.recurses
  rw [unf3, Bool.true_or]; kernel_rfl
theorem f_named : (Rows.tasksCyclesUptoRow.named == Tryz.prog.varsNamed 3) = true := by
  unfold Program.varsNamed
  rw [closure3, flatMap_congr' (g := fun g => ((fnT.get g).bind (·.body)).elim [] Code.globalsNamed) (fun x hx => congrArg (fun o : Option Func => (o.bind (·.body)).elim [] Code.globalsNamed) (fn_get x (cl_lt x hx))),
    filterMap_congr' (g := fun g => (fnT.get g).bind fun fn => if fn.body.isNone then entryReads.lookup fn.name else none) (fun x hx => congrArg (fun o : Option Func => o.bind fun fn => if fn.body.isNone then entryReads.lookup fn.name else none) (fn_get x (cl_lt x hx)))]
  kernel_rfl
theorem types_size : Tryz.prog.types.size = 898 := by kernel_rfl
theorem und_get (t : Nat) (h : t < NT) : Tryz.prog.underlying t = undT.get t := map_range_eq und_all h
theorem f_plainKeys : (Rows.tasksCyclesUptoRow.plainKeys == Tryz.prog.plainKeys) = true := by
  unfold Program.plainKeys
  rw [types_size, all_congr' (g := fun t => match undT.get t with
    | some (.map k _) => (match Tryz.prog.underlying k with | some (.array _ _) | some (.struct _) => false | _ => true)
    | _ => true) (fun x hx => by
      rw [und_get x (show x < NT from List.mem_range.1 hx)]
      generalize undT.get x = o
      cases o with
      | none => rfl
      | some d => cases d with
        | map k e =>
          simp only []
          generalize Tryz.prog.underlying k = o2
          cases o2 with
          | none => rfl
          | some d2 => cases d2 <;> rfl
        | _ => rfl)]
  kernel_rfl
set_option maxRecDepth 100000 in
theorem f_mapsRowed : mapsRowed Tryz.prog = true := by
  unfold mapsRowed
  rw [types_size, all_congr' (g := fun t => match undT.get t with | some (.map _ e) => decide (e < 898) | _ => true) (fun x hx => by
      rw [und_get x (show x < NT from List.mem_range.1 hx)]
      generalize undT.get x = o
      cases o with
      | none => rfl
      | some d => cases d <;> rfl)]
  kernel_rfl
theorem f_heard : Tryz.prog.stopsHeard = true := by
  unfold Program.stopsHeard
  rw [← Array.all_toList]
  kernel_rfl
theorem later3 : Tryz.prog.laysLater = false := by
  unfold Program.laysLater
  rw [← Array.any_toList]
  kernel_rfl
theorem reflect3 : Tryz.prog.bearsReflect = false := by kernel_rfl
theorem f_mayEnter : Tryz.prog.mayEnter = true := by
  unfold Program.mayEnter
  rw [later3, reflect3]
  kernel_rfl
end Go.Proofs.YtdaglpleolagnaaGreatDoor
end
