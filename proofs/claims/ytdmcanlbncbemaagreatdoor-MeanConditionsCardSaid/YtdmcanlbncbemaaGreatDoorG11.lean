/-
  A part of the proof that pliantlaw16.MeanConditions returns true and leaves its arguments alone. Conditions: those of the card in the last text.
-/
import Derived.KernelRfl
import Derived.Test.YtdmcanlbncbemaaGreatDoorProg
import Derived.Test.YtdmcanlbncbemaaGreatDoorG07
import Derived.Test.YtdmcanlbncbemaaGreatDoorG10
set_option linter.unusedSimpArgs false
set_option linter.unusedVariables false
set_option linter.unusedSectionVars false
noncomputable section
namespace Go.Proofs.MN
open Go Go.Ev Go.Proofs
theorem map_range_eq {α : Type} {f g : Nat → α} {n : Nat} (h : (List.range n).map f = (List.range n).map g) {i : Nat} (hi : i < n) : f i = g i := by
  have h2 : ((List.range n).map f)[i]? = ((List.range n).map g)[i]? := by rw [h]
  simpa [hi] using h2
theorem fn_all : (List.range NF).map (fun i => Tryz.prog.funcs[i]?) = (List.range NF).map (fun i => fnT.get i) := by kernel_rfl
theorem ty_all : (List.range NT).map (fun i => Tryz.prog.info? i) = (List.range NT).map (fun i => tyT.get i) := by kernel_rfl
theorem und_all : (List.range NT).map (fun i => Tryz.prog.underlying i) = (List.range NT).map (fun i => undT.get i) := by kernel_rfl
def allU (v : Value) : List Value → Nat → Bool
  | [], n => Nat.beq n 0
  | x :: l, n => Bc (Nat.beq n 0) false (Bc (sameU8 x v) (allU v l (Nat.pred n)) false)
theorem allU_eq {v : Value} : ∀ {l : List Value} {n : Nat}, allU v l n = true → l = List.replicate n v := by
  intro l
  induction l with
  | nil => intro n h; have := (beq_iff _ _).1 h; subst this; rfl
  | cons x l ih =>
    intro n h
    unfold allU at h
    cases h0 : Nat.beq n 0 with
    | true => rw [h0, Bc_t] at h; cases h
    | false =>
      rw [h0, Bc_f] at h
      cases hs : sameU8 x v with
      | false => rw [hs, Bc_f] at h; cases h
      | true =>
        rw [hs, Bc_t] at h
        have e := sameU8_eq hs
        subst e
        cases n with
        | zero => cases h0
        | succ n => rw [List.replicate_succ]; exact congrArg _ (ih (n := n) h)
noncomputable def zMem : List Value := ((Tryz.t199.zero).getD (.bool true)).cells.toList
theorem zMem_all : allU (.int .u8 0) zMem 65536 = true := by kernel_rfl
theorem zMem_eq : zMem = List.replicate 65536 (.int .u8 0) := allU_eq zMem_all
theorem info199 : Tryz.prog.info? 199 = some Tryz.t199 := by kernel_rfl
theorem info197 : Tryz.prog.info? 197 = some Tryz.t197 := by kernel_rfl
theorem info198 : Tryz.prog.info? 198 = some Tryz.t198 := by kernel_rfl
theorem zMem_all197 : allU (.int .u8 0) (((Tryz.t197.zero).getD (.bool true)).cells.toList) 65536 = true := by kernel_rfl
theorem zMem_all198 : allU (.int .u8 0) (((Tryz.t198.zero).getD (.bool true)).cells.toList) 65536 = true := by kernel_rfl
theorem zMem_eq197 : ((Tryz.t197.zero).getD (.bool true)).cells.toList = List.replicate 65536 (.int .u8 0) := allU_eq zMem_all197
theorem zMem_eq198 : ((Tryz.t198.zero).getD (.bool true)).cells.toList = List.replicate 65536 (.int .u8 0) := allU_eq zMem_all198
theorem zero199 : Tryz.t199.zero = some ((Tryz.t199.zero).getD (.bool true)) := rfl
end Go.Proofs.MN
end
