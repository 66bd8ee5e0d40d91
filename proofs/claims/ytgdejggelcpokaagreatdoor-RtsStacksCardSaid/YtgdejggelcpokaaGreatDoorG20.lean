/-
 A part of the proof that pliantlaw15.RtsStacks returns true and leaves its arguments alone. Conditions: those of the card in the last text.
-/
import Derived.Test.YtgdejggelcpokaaGreatDoorG17
import Derived.Test.YtgdejggelcpokaaGreatDoorG19
set_option linter.unusedSimpArgs false
set_option linter.unusedVariables false
set_option linter.unusedSectionVars false
noncomputable section
namespace Go.Proofs.RS
open Go Go.Ev Go.Proofs
theorem okS_all:(okSL.all fun t=>!Tryz.prog.stoodInHeld t && !Tryz.prog.eqGuardType Tryz.prog.depth t)=true:=by kernel_rfl
theorem lies_all:(lies102.all fun x=>liesAt Tryz.prog Tryz.prog.depth x.1 (x.2.1 / Tryz.prog.cellsOf x.1) x.2.2 102 1)=true:=by kernel_rfl
theorem nog_all : ((List.range NF).all fun i => match fnT.get i with | some fn => !(fn.name == "runtime.NumGoroutine") | none => true) = true := by kernel_rfl
theorem mixed_ok:Tryz.prog.follows .mixedOrders=true:=by kernel_rfl
theorem bc_some {α:Type} {b:Bool} {x:Option α} {a:α} (h:Bc b x none=some a):b=true∧x=some a:=by
 cases b with
 | true=>exact ⟨rfl,h⟩
 | false=>cases h
theorem okS_ok (t:Nat) (h:t∈okSL):Tryz.prog.stoodInHeld t=false∧Tryz.prog.eqGuardType Tryz.prog.depth t=false:=by
 have h2:=List.all_eq_true.1 okS_all t h
 generalize Tryz.prog.stoodInHeld t=a at h2
 generalize Tryz.prog.eqGuardType Tryz.prog.depth t=b at h2
 cases a <;> cases b <;> first | exact ⟨rfl,rfl⟩ | cases h2
theorem nog_ok (f : Nat) (fn : Func) (h1 : f < NF) (h2 : fnT.get f = some fn) : (fn.name == "runtime.NumGoroutine") = false := by
 have h3:=List.all_eq_true.1 nog_all f (List.mem_range.2 h1)
 rw [h2] at h3
 simp only [] at h3
 generalize (fn.name == "runtime.NumGoroutine") = a at h3
 cases a
 ·rfl
 ·cases h3
theorem lies_ok (u ty n o:Nat) (h:(ty,n,o)∈liesF u):liesAt Tryz.prog Tryz.prog.depth ty (n / Tryz.prog.cellsOf ty) o u 1=true:=by
 unfold liesF at h
 cases hb:Nat.beq u 102 with
 | false=>rw [hb,Bc_f] at h;cases h
 | true =>
  rw [hb,Bc_t] at h
  have hu:=(beq_iff _ _).1 hb
  rw [hu]
  have h3:=List.all_eq_true.1 lies_all (ty,n,o) h
  simp only [] at h3
  exact h3
theorem uni_ok (t n:Nat) (v:Value) (h:uniF t=some (n,v)):flatV 10 v=true∧oneC v=true∧∃ i z,Tryz.prog.info? t=some i∧i.zero=some z∧z.cells.toList=List.replicate n v:=by
 have h171:t=169∨t=170∨t=171:=by
  unfold uniF at h
  cases h1:Nat.beq t 169 with
  | true=>exact .inl ((beq_iff _ _).1 h1)
  | false =>
   rw [h1,Bc_f] at h
   cases h2:Nat.beq t 170 with
   | true=>exact .inr (.inl ((beq_iff _ _).1 h2))
   | false =>
    rw [h2,Bc_f] at h
    cases h3:Nat.beq t 171 with
    | true=>exact .inr (.inr ((beq_iff _ _).1 h3))
    | false=>rw [h3,Bc_f] at h;cases h
 rcases h171 with rfl | rfl | rfl
 ·cases h;exact ⟨rfl,rfl,Tryz.t169,_,info169,rfl,zMem_eq169⟩
 ·cases h;exact ⟨rfl,rfl,Tryz.t170,_,info170,rfl,zMem_eq170⟩
 ·cases h;exact ⟨rfl,rfl,Tryz.t171,_,info171,zero171,zMem_eq⟩
theorem tb_ok:TbOk Tryz.prog Tb0 where
 und:=fun t d h=>by
  obtain ⟨h1,h2⟩:=bc_some h
  exact (map_range_eq und_all ((blt_iff _ _).1 h1)).trans h2
 info:=fun t d h=>by
  obtain ⟨h1,h2⟩:=bc_some h
  exact (map_range_eq ty_all ((blt_iff _ _).1 h1)).trans h2
 fn:=fun t d h=>by
  obtain ⟨h1,h2⟩:=bc_some h
  exact (map_range_eq fn_all ((blt_iff _ _).1 h1)).trans h2
 okS:=fun t h=>okS_ok t h
 mixed:=mixed_ok
 lies:=fun u ty n o h=>lies_ok u ty n o h
 uni:=uni_ok
 nog:=fun f fn h=>nog_ok f fn ((blt_iff _ _).1 (bc_some h).1) (bc_some h).2
end Go.Proofs.RS
end
