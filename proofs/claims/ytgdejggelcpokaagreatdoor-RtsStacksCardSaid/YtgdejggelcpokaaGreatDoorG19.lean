/-
 A part of the proof that pliantlaw15.RtsStacks returns true and leaves its arguments alone. Conditions: those of the card in the last text.
-/
import Derived.KernelRfl
import Derived.Test.YtgdejggelcpokaaGreatDoorProg
import Derived.Test.YtgdejggelcpokaaGreatDoorG10
set_option linter.unusedSimpArgs false
set_option linter.unusedVariables false
set_option linter.unusedSectionVars false
noncomputable section
namespace Go.Proofs.RS
open Go Go.Ev Go.Proofs
theorem map_range_eq {α:Type} {f g:Nat→α} {n:Nat} (h:(List.range n).map f=(List.range n).map g) {i:Nat} (hi:i<n):f i=g i:=by
 have h2:((List.range n).map f)[i]?=((List.range n).map g)[i]?:=by rw [h]
 simpa [hi] using h2
theorem fn_all:(List.range NF).map (fun i=>Tryz.prog.funcs[i]?)=(List.range NF).map (fun i=>fnT.get i):=by kernel_rfl
theorem ty_all:(List.range NT).map (fun i=>Tryz.prog.info? i)=(List.range NT).map (fun i=>tyT.get i):=by kernel_rfl
theorem und_all:(List.range NT).map (fun i=>Tryz.prog.underlying i)=(List.range NT).map (fun i=>undT.get i):=by kernel_rfl
end Go.Proofs.RS
end
