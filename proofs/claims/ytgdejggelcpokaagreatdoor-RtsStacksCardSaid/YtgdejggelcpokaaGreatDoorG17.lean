/-
 A part of the proof that pliantlaw15.RtsStacks returns true and leaves its arguments alone. Conditions: those of the card in the last text.
-/
import Derived.KernelRfl
import Derived.Test.YtgdejggelcpokaaGreatDoorProg
import Derived.Test.YtgdejggelcpokaaGreatDoorG10
import Derived.Test.YtgdejggelcpokaaGreatDoorG11
set_option linter.unusedSimpArgs false
set_option linter.unusedVariables false
set_option linter.unusedSectionVars false
noncomputable section
namespace Go.Proofs.RS
open Go Go.Ev Go.Proofs
def allU (v:Value):List Value→Nat→Bool
 | [],n=>Nat.beq n 0
 | x::l,n=>Bc (Nat.beq n 0) false (Bc (sameU8 x v) (allU v l (Nat.pred n)) false)
theorem allU_eq {v:Value}:∀ {l:List Value} {n:Nat},allU v l n=true→l=List.replicate n v:=by
 intro l
 induction l with
 | nil=>intro n h;have:=(beq_iff _ _).1 h;subst this;rfl
 | cons x l ih =>
  intro n h
  unfold allU at h
  cases h0:Nat.beq n 0 with
  | true=>rw [h0,Bc_t] at h;cases h
  | false =>
   rw [h0,Bc_f] at h
   cases hs:sameU8 x v with
   | false=>rw [hs,Bc_f] at h;cases h
   | true =>
    rw [hs,Bc_t] at h
    have e:=sameU8_eq hs
    subst e
    cases n with
    | zero=>cases h0
    | succ n=>rw [List.replicate_succ];exact congrArg _ (ih (n:=n) h)
noncomputable def zMem:List Value:=((Tryz.t171.zero).getD (.bool true)).cells.toList
theorem zMem_all:allU (.int .u8 0) zMem 65536=true:=by kernel_rfl
theorem zMem_eq:zMem=List.replicate 65536 (.int .u8 0):=allU_eq zMem_all
theorem info171:Tryz.prog.info? 171=some Tryz.t171:=by kernel_rfl
theorem info169:Tryz.prog.info? 169=some Tryz.t169:=by kernel_rfl
theorem info170:Tryz.prog.info? 170=some Tryz.t170:=by kernel_rfl
theorem zMem_all169:allU (.int .u8 0) (((Tryz.t169.zero).getD (.bool true)).cells.toList) 65536=true:=by kernel_rfl
theorem zMem_all170:allU (.int .u8 0) (((Tryz.t170.zero).getD (.bool true)).cells.toList) 65536=true:=by kernel_rfl
theorem zMem_eq169:((Tryz.t169.zero).getD (.bool true)).cells.toList=List.replicate 65536 (.int .u8 0):=allU_eq zMem_all169
theorem zMem_eq170:((Tryz.t170.zero).getD (.bool true)).cells.toList=List.replicate 65536 (.int .u8 0):=allU_eq zMem_all170
theorem zero171:Tryz.t171.zero=some ((Tryz.t171.zero).getD (.bool true)):=rfl
theorem lnew_comp:kcomp Tb0 Tryz.f40.ntmps ((Tryz.f40.body).getD .skip)=.seq (.reg [⟨some 0,none,.mv (.const (.pointer none))⟩]) (.seq (.reg [⟨some 1,none,.build zMem []⟩,⟨some 2,none,.box 171 (.tmp 1)⟩,⟨some 0,none,.mv (.tmp 2)⟩]) .ret):=by kernel_rfl
end Go.Proofs.RS
end
