/-
 A part of the proof that pliantlaw15.RtsStacks returns true and leaves its arguments alone. Conditions: those of the card in the last text.
-/
import Derived.KernelRfl
import Derived.Test.YtgdejggelcpokaaGreatDoorG00
import Derived.Test.YtgdejggelcpokaaGreatDoorG10
import Derived.Test.YtgdejggelcpokaaGreatDoorG11
set_option linter.unusedSimpArgs false
set_option linter.unusedVariables false
set_option linter.unusedSectionVars false
noncomputable section
namespace Go.Proofs.RS
open Go Go.Ev Go.Proofs
noncomputable def get_body:Code:=(Tryz.f110.body).getD .skip
def get_r0:List CO:=[
 oN 4 (.mv (oK 0))]
def get_r1:List CO:=[
 oN 5 (.mv (oK 0))]
def get_r2:List CO:=[
 oN 8 (.mv (.tmp 0)),
 oN 9 (.mv (.tmp 1)),
 oN 10 (.mv (.tmp 1)),
 oN 11 (.bin .add (.tmp 10) (oK 4)),
 oN 12 (.slL 1 (.tmp 8) (some (.tmp 9)) (some (.tmp 11)) none),
 oN 13 (.len 1 (.tmp 12)),
 oN 14 (.mv (oK 0))]
def get_r3:List CO:=[
 oN 15 (.bin .lss (.tmp 14) (.tmp 13))]
def get_r4:List CO:=[
 oN 16 (.iaS 1 (.tmp 12) (.tmp 14)),
 oN 17 (.ld1 (.tmp 16)),
 oN 7 (.mv (.tmp 17))]
def get_r5:List CO:=[
 oN 18 (.mv (.tmp 5)),
 oN 19 (.bin .shl (.tmp 18) (.const (.int .u64 (8)))),
 oN 20 (.mv (.tmp 7)),
 oN 21 (.cInt .i64 (.tmp 20)),
 oN 22 (.bin .or (.tmp 19) (.tmp 21)),
 oN 5 (.mv (.tmp 22))]
def get_r6:List CO:=[
 oN 23 (.bin .add (.tmp 14) (oK 1)),
 oN 14 (.mv (.tmp 23))]
noncomputable def get_l7:KC :=
 (.seq (.reg get_r3)
 (.seq (.cond (.tmp 15) .skip
  (.exit 0))
 (.seq (.block 1 (.seq (.reg get_r4)
  (.reg get_r5)))
 (.reg get_r6))))
def get_r8:List CO:=[
 oN 24 (.mv (.tmp 5)),
 oN 4 (.mv (.tmp 24))]
noncomputable def get_k:KC :=
 (.seq (.reg get_r0)
 (.seq (.reg get_r1)
 (.seq (.seq (.reg get_r2)
 (.block 0 (.loop get_body.sr.sr.sl.sr.bl.lp get_l7)))
 (.seq (.reg get_r8)
 .ret))))
theorem get_comp:kcomp Tb0 Tryz.f110.ntmps get_body=get_k:=by kernel_rfl
theorem get_some:Tryz.f110.body=some get_body:=rfl
noncomputable def set_body:Code:=(Tryz.f109.body).getD .skip
def set_r0:List CO:=[
 oN 7 (.mv (oK 0))]
def set_r1:List CO:=[
 oN 8 (.bin .lss (.tmp 7) (oK 4))]
def set_r2:List CO:=[
 oN 9 (.mv (.tmp 7)),
 oN 6 (.mv (.tmp 9))]
def set_r3:List CO:=[
 oN 10 (.mv (.tmp 0)),
 oN 11 (.mv (.tmp 1)),
 oN 12 (.mv (.tmp 6)),
 oN 13 (.bin .add (.tmp 11) (.tmp 12)),
 oN 14 (.mv (.tmp 2)),
 oN 15 (.mv (.tmp 6)),
 oN 16 (.bin .mul (oK 8) (.tmp 15)),
 oN 17 (.bin .sub (oK 24) (.tmp 16)),
 oN 18 (.bin .shr (.tmp 14) (.tmp 17)),
 oN 19 (.cInt .u8 (.tmp 18)),
 oN 20 (.iaS 1 (.tmp 10) (.tmp 13)),
 oU (.st 1 (.tmp 20) (.tmp 19))]
def set_r4:List CO:=[
 oN 21 (.bin .add (.tmp 7) (oK 1)),
 oN 7 (.mv (.tmp 21))]
noncomputable def set_l5:KC :=
 (.seq (.reg set_r1)
 (.seq (.cond (.tmp 8) .skip
  (.exit 0))
 (.seq (.block 1 (.seq (.reg set_r2)
  (.reg set_r3)))
 (.reg set_r4))))
noncomputable def set_k:KC :=
 (.seq (.reg set_r0)
 (.block 0 (.loop set_body.sr.bl.lp set_l5)))
theorem set_comp:kcomp Tb0 Tryz.f109.ntmps set_body=set_k:=by kernel_rfl
theorem set_some:Tryz.f109.body=some set_body:=rfl
noncomputable def upp_body:Code:=(Tryz.f156.body).getD .skip
def upp_r0:List CO:=[
 oN 2 (.mv (oK 0))]
def upp_r1:List CO:=[
 oN 3 (.mv (.tmp 0)),
 oN 4 (.bin .add (.tmp 3) (oK 7)),
 oN 5 (.bin .andNot (.tmp 4) (oK 7)),
 oN 2 (.mv (.tmp 5))]
noncomputable def upp_k:KC :=
 (.seq (.reg upp_r0)
 (.seq (.reg upp_r1)
 .ret))
theorem upp_comp:kcomp Tb0 Tryz.f156.ntmps upp_body=upp_k:=by kernel_rfl
theorem upp_some:Tryz.f156.body=some upp_body:=rfl
noncomputable def hend_body:Code:=(Tryz.f111.body).getD .skip
def hend_r0:List CO:=[
 oN 2 (.mv (oK 0))]
def hend_r1:List CO:=[
 oN 3 (.mv (.tmp 0)),
 oN 4 (.call (.func 110) [(.tmp 3),(oK 0)]),
 oN 5 (.bin .add (oK 8) (.tmp 4)),
 oN 2 (.mv (.tmp 5))]
noncomputable def hend_k:KC :=
 (.seq (.reg hend_r0)
 (.seq (.reg hend_r1)
 .ret))
theorem hend_comp:kcomp Tb0 Tryz.f111.ntmps hend_body=hend_k:=by kernel_rfl
theorem hend_some:Tryz.f111.body=some hend_body:=rfl
noncomputable def uend_body:Code:=(Tryz.f108.body).getD .skip
def uend_r0:List CO:=[
 oN 1 (.box 195 (.tmp 0)),
 oN 2 (.mv (oK 0))]
def uend_r1:List CO:=[
 oN 3 (.fa 0 (.tmp 1)),
 oN 4 (.ld1 (.tmp 3)),
 oN 5 (.bin .add (.tmp 4) (oK 8)),
 oN 6 (.fa 1 (.tmp 1)),
 oN 7 (.ld1 (.tmp 6)),
 oN 8 (.call (.func 156) [(.tmp 7)]),
 oN 9 (.bin .add (.tmp 5) (.tmp 8)),
 oN 2 (.mv (.tmp 9))]
noncomputable def uend_k:KC :=
 (.seq (.reg uend_r0)
 (.seq (.draw #[0,1,3,0,8,24,63,127] uend_r1)
 .ret))
theorem uend_comp:kcomp Tb0 Tryz.f108.ntmps uend_body=uend_k:=by kernel_rfl
theorem uend_some:Tryz.f108.body=some uend_body:=rfl
noncomputable def pce_body:Code:=(Tryz.f107.body).getD .skip
def pce_r0:List CO:=[
 oN 1 (.box 195 (.tmp 0)),
 oN 2 (.alloc (blkL [.int .i64 (0),.int .i64 (0)] 200 0))]
def pce_r1:List CO:=[
 oN 3 (.fa 0 (.tmp 1)),
 oN 4 (.ld1 (.tmp 3)),
 oN 5 (.bin .add (.tmp 4) (oK 8)),
 oN 6 (.fa 1 (.tmp 1)),
 oN 7 (.ld1 (.tmp 6)),
 oN 8 (.build [.int .i64 (0),.int .i64 (0)] [(0,1,(.tmp 5)),(1,1,(.tmp 7))]),
 oU (.st 2 (.tmp 2) (.tmp 8))]
noncomputable def pce_k:KC :=
 (.seq (.reg pce_r0)
 (.seq (.reg pce_r1)
 .ret))
theorem pce_comp:kcomp Tb0 Tryz.f107.ntmps pce_body=pce_k:=by kernel_rfl
theorem pce_some:Tryz.f107.body=some pce_body:=rfl
noncomputable def uni_body:Code:=(Tryz.f106.body).getD .skip
def uni_r0:List CO:=[
 oN 1 (.box 191 (.tmp 0)),
 oN 2 (.mv (.const (.nilFunc)))]
def uni_r1:List CO:=[
 oN 3 (.mkF (.func 155) [] [(.tmp 1)]),
 oN 2 (.mv (.tmp 3))]
noncomputable def uni_k:KC :=
 (.seq (.reg uni_r0)
 (.seq (.reg uni_r1)
 .ret))
theorem uni_comp:kcomp Tb0 Tryz.f106.ntmps uni_body=uni_k:=by kernel_rfl
theorem uni_some:Tryz.f106.body=some uni_body:=rfl
noncomputable def uni1_body:Code:=(Tryz.f155.body).getD .skip
def uni1_r0:List CO:=[
 oN 3 (.mv (oK 8))]
def uni1_r1:List CO:=[
 oN 5 (.mv (.tmp 3)),
 oN 6 (.ld1 (.tmp 1)),
 oN 7 (.call (.func 111) [(.tmp 6)]),
 oN 8 (.bin .lss (.tmp 5) (.tmp 7))]
def uni1_r2:List CO:=[
 oN 9 (.mv (.tmp 3)),
 oN 10 (.ld1 (.tmp 1)),
 oN 11 (.mv (.tmp 3)),
 oN 12 (.call (.func 110) [(.tmp 10),(.tmp 11)]),
 oN 13 (.ld1 (.tmp 1)),
 oN 14 (.mv (.tmp 3)),
 oN 15 (.bin .add (.tmp 14) (oK 4)),
 oN 16 (.call (.func 110) [(.tmp 13),(.tmp 15)]),
 oN 17 (.build [.int .i64 (0),.int .i64 (0),.int .i64 (0)] [(0,1,(.tmp 9)),(1,1,(.tmp 12)),(2,1,(.tmp 16))]),
 oN 4 (.alloc (blkL [.int .i64 (0),.int .i64 (0),.int .i64 (0)] 195 0)),
 oU (.st 3 (.tmp 4) (.tmp 17))]
def uni1_r3:List CO:=[
 oN 18 (.mv (.tmp 0)),
 oN 19 (.ldN 3 (.tmp 4)),
 oN 20 (.call (.tmp 18) [(.tmp 19)]),
 oN 21 (.un .not (.tmp 20))]
def uni1_r4:List CO:=[
 oN 22 (.ldN 3 (.tmp 4)),
 oN 23 (.call (.func 108) [(.tmp 22)]),
 oN 3 (.mv (.tmp 23))]
noncomputable def uni1_l5:KC :=
 (.seq (.seq (.reg uni1_r1)
 (.cond (.tmp 8) .skip
  (.exit 0)))
 (.block 1 (.seq (.draw #[0,0,0,6,0,0,32,126,255,0,1023] uni1_r2)
  (.seq (.seq (.reg uni1_r3)
  (.cond (.tmp 21) .ret
   .skip))
  (.reg uni1_r4)))))
noncomputable def uni1_k:KC :=
 (.seq (.reg uni1_r0)
 (.block 0 (.loop uni1_body.sr.bl.lp uni1_l5)))
theorem uni1_comp:kcomp Tb0 Tryz.f155.ntmps uni1_body=uni1_k:=by kernel_rfl
theorem uni1_some:Tryz.f155.body=some uni1_body:=rfl
noncomputable def byt_body:Code:=(Tryz.f196.body).getD .skip
def byt_r0:List CO:=[
 oN 3 (.box 195 (.tmp 1)),
 oN 4 (.mv (.const (.slice none 0 0)))]
def byt_r1:List CO:=[
 oN 6 (.fa 0 (.tmp 3)),
 oN 7 (.ld1 (.tmp 6)),
 oN 8 (.bin .add (.tmp 7) (oK 8)),
 oN 5 (.mv (.tmp 8))]
def byt_r2:List CO:=[
 oN 9 (.mv (.tmp 0)),
 oN 10 (.mv (.tmp 5)),
 oN 11 (.ldN 3 (.tmp 3)),
 oN 12 (.call (.func 108) [(.tmp 11)]),
 oN 13 (.ldN 3 (.tmp 3)),
 oN 14 (.call (.func 108) [(.tmp 13)]),
 oN 15 (.slL 1 (.tmp 9) (some (.tmp 10)) (some (.tmp 12)) (some (.tmp 14))),
 oN 4 (.mv (.tmp 15))]
noncomputable def byt_k:KC :=
 (.seq (.reg byt_r0)
 (.seq (.reg byt_r1)
 (.seq (.draw #[0,0,0,4,0,28,63,127] byt_r2)
 .ret)))
theorem byt_comp:kcomp Tb0 Tryz.f196.ntmps byt_body=byt_k:=by kernel_rfl
theorem byt_some:Tryz.f196.body=some byt_body:=rfl
noncomputable def hed_body:Code:=(Tryz.f112.body).getD .skip
def hed_r0:List CO:=[
 oN 3 (.box 195 (.tmp 1))]
def hed_r1:List CO:=[
 oN 4 (.mv (.tmp 0)),
 oN 5 (.fa 0 (.tmp 3)),
 oN 6 (.ld1 (.tmp 5)),
 oN 7 (.fa 1 (.tmp 3)),
 oN 8 (.ld1 (.tmp 7)),
 oN 9 (.call (.func 109) [(.tmp 4),(.tmp 6),(.tmp 8)])]
def hed_r2:List CO:=[
 oN 10 (.mv (.tmp 0)),
 oN 11 (.fa 0 (.tmp 3)),
 oN 12 (.ld1 (.tmp 11)),
 oN 13 (.bin .add (.tmp 12) (oK 4)),
 oN 14 (.fa 2 (.tmp 3)),
 oN 15 (.ld1 (.tmp 14)),
 oN 16 (.call (.func 109) [(.tmp 10),(.tmp 13),(.tmp 15)])]
noncomputable def hed_k:KC :=
 (.seq (.reg hed_r0)
 (.seq (.reg hed_r1)
 (.reg hed_r2)))
theorem hed_comp:kcomp Tb0 Tryz.f112.ntmps hed_body=hed_k:=by kernel_rfl
theorem hed_some:Tryz.f112.body=some hed_body:=rfl
end Go.Proofs.RS
end
noncomputable section
namespace Go.Ev
section
def Hp.isFn:Hp→Bool | .fn _ _=>true | .mk _ _=>false
theorem fn_room {H:Hp} (h:H.isFn=true):H.room=true:=by cases H with | mk=>cases h | fn=>rfl
theorem fn_wf {H:Hp} (h:H.isFn=true):H.wf:=by cases H with | mk=>cases h | fn=>trivial
theorem isFn_push (H:Hp) (x:Blk):(H.push x).isFn=H.isFn:=by cases H <;> rfl
theorem isFn_put (H:Hp) (b:Nat) (x:Blk):(H.put b x).isFn=H.isFn:=by cases H <;> rfl
theorem alloc_bsl {H:Hp} (hf:H.isFn=true) (L:List Value) (ty len:Nat):alloc1 (blkL L ty 0) H (fun i=>mkSlV (some (i,0)) len len false) 0 0=.val (.slice (some ⟨H.nx,0,none⟩) len (2*len)) (H.push (blkL L ty 0)) 0 0:=by
 rw [alloc1_room (fn_room hf)];rfl
theorem exFill_some (l:List Value) (k:List Value→R):exFill (some l) k=k l:=rfl
end
def Lo (k:Nat) (t t':T Value):Prop:=∀ j,j<k→t'.get j=t.get j
theorem putT_lo {d i j:Nat} (hj:j<i) (hi:i<2 ^ d) (t:T Value) (v:Value):(putT d t (some i) v).get j=t.get j:=by
 rw [get_putT hi (by omega),if_neg (by omega)]
theorem exUn_not (b:Bool) (H:Hp):exUn .not (.bool b) H=.val (.bool (!b)) H 0 0:=by cases b <;> rfl
theorem callV_func (f:FuncId) (args:List Value):callV (.func (.func f) #[] #[]) args=.call f args:=by
 show R.call f ([]++(args++[]))=_
 simp
theorem alloc_ptr {H:Hp} (hf:H.isFn=true) (x:Blk):alloc1 x H ptrTo 0 0=.val (.pointer (some ⟨H.nx,0,none⟩)) (H.push x) 0 0:=by rw [alloc1_room (fn_room hf)];rfl
section
variable {tb:Tb} {sp:Nat→List Value→Hp→Option (Value×Hp×Nat×Nat)} {e:Env}
theorem WOR.mono {d:Nat} {H:Hp} {K K':T Value→Prop} (hk:∀ t',K' t'→K t'):∀ {cos:List CO} {t:T Value},WOR e d H K' cos t→WOR e d H K cos t:=by
 intro cos
 induction cos with
 | nil=>intro t h;exact hk t h
 | cons o cos ih =>
  intro t h
  rw [WOR] at h ⊢
  cases hg:wants t o.guard with
  | true =>
   rw [hg] at h
   revert h
   cases run o.op t H with
   | val v H' r w=>exact fun h=>⟨h.1,h.2.1,h.2.2.1,ih h.2.2.2⟩
   | _=>exact fun h=>h.elim
  | false=>rw [hg] at h;exact ih h
theorem WK.reg_rr {cx:Cx} {cos:List CO} {t:T Value} {ds:List Deferred} {H:Hp} {K:Ex→T Value→List Deferred→Hp→Prop} (K':T Value→Prop) (h:WOR e cx.d H K' cos t) (hk:∀ t',K' t'→K .normal t' ds H):WK tb sp e cx (.reg cos) t ds H K:=WK.reg_r (h.mono hk)
theorem WOG.mono {tb:Tb} {d:Nat} {K K':T Value→Hp→Prop} (hk:∀ t' H',K' t' H'→K t' H'):∀ {cos:List CO} {t:T Value} {H:Hp},WOG tb sp e d K' cos t H→WOG tb sp e d K cos t H:=by
 intro cos
 induction cos with
 | nil=>intro t H h;rw [WOG] at *;exact hk t H h
 | cons o cos ih =>
  intro t H h
  rw [WOG] at h ⊢
  cases hg:wants t o.guard with
  | true =>
   rw [hg] at h
   revert h
   cases run o.op t H with
   | val v H' r w=>exact fun h=>⟨h.1,h.2.1,ih h.2.2⟩
   | call f args=>exact fun h=>h.mono fun v H1 _ hh=>by rw [WOGk] at *;exact ih hh
   | _=>exact fun h=>h.elim
  | false=>rw [hg] at h;exact ih h
theorem WK.reg_gg {tb:Tb} {cx:Cx} {cos:List CO} {t:T Value} {ds:List Deferred} {H:Hp} {K:Ex→T Value→List Deferred→Hp→Prop} (K':T Value→Hp→Prop) (h:WOG tb sp e cx.d K' cos t H) (hk:∀ t' H',K' t' H'→K .normal t' ds H'):WK tb sp e cx (.reg cos) t ds H K:=WK.reg_g (h.mono hk)
structure Kept (H H':Hp):Prop where
 fn:H'.isFn=true
 nx:H.nx≤H'.nx
 old:∀ b,b<H.nx→H'.blk b=H.blk b
theorem Kept.refl {H:Hp} (h:H.isFn=true):Kept H H:=⟨h,Nat.le_refl _,fun _ _=>rfl⟩
theorem Kept.trans {H H1 H2:Hp} (h:Kept H H1) (g:Kept H1 H2):Kept H H2:=⟨g.fn,Nat.le_trans h.nx g.nx,fun b hb=>(g.old b (Nat.lt_of_lt_of_le hb h.nx)).trans (h.old b hb)⟩
end
def Env.sub (e:Env) (N0 nx:Nat):Env:=⟨nx,fun b=>b<N0∧(b<e.n0→e.Rd b),fun _=>False⟩
end Go.Ev
end
noncomputable section
namespace Go.Ev
inductive Cl where
 | p | q | l
def Env.subL (e:Env) (N0 nx:Nat):Env:=⟨nx,fun b=>b<e.n0→e.Rd b,fun b=>N0≤b⟩
section
variable (tb:Tb) (sp:Nat→List Value→Hp→Option (Value×Hp×Nat×Nat)) (e:Env) (N0:Nat)
mutual
def WOC (d:Nat) (K:T Value→Hp→Prop):List CO→List Cl→T Value→Hp→Prop
 | [],_,t,H=>K t H
 | _::_,[],_,_=>False
 | o::cos,c::cl,t,H=>(match wants t o.guard with
  | true=>(match run o.op t H with
   | .val v H1 r w=>(match c with
    | .p=>r=0∧w=0∧H1=H∧WOC d K cos cl (putT d t o.dst v) H1
    | .q=>e.ok r 0 H1∧w=0∧H.nx≤H1.nx∧(∀ b,r.testBit b=true→b<N0)∧WOC d K cos cl (putT d t o.dst v) H1
    | .l=>e.ok r w H1∧H.nx≤H1.nx∧(∀ b,w.testBit b=true→N0≤b)∧WOC d K cos cl (putT d t o.dst v) H1)
   | .call f args=>(match c with
    | .p=>False
    | .q=>EC tb sp (e.sub N0 H.nx) f args H (WOCk d K cos cl t o.dst)
    | .l=>EC tb sp (e.subL N0 H.nx) f args H (WOCk d K cos cl t o.dst))
   | _=>False)
  | false=>WOC d K cos cl (putT d t o.dst U) H)
def WOCk (d:Nat) (K:T Value→Hp→Prop) (cos:List CO) (cl:List Cl) (t:T Value) (dst:Option Tmp):Value→Hp→Prop:=fun v H1=>WOC d K cos cl (putT d t dst v) H1
end
end
section
variable {tb:Tb} {sp:Nat→List Value→Hp→Option (Value×Hp×Nat×Nat)} {e:Env} {N0:Nat}
theorem Chk.ord {B:Array Nat} {i:Nat} {R W:Nat→Prop} {A:List En} {ps:List Nat} (hA:∀ en∈A,en.i∈ps) (h:ps.all (fun j=>(B.getD i 0).testBit j)=true):Chk B i R W A:=fun en hm=>.inl (List.all_eq_true.1 h _ (hA en hm))
theorem ps_cons {A:List En} {ps:List Nat} {i:Nat} {R W:Nat→Prop} (hA:∀ en∈A,en.i∈ps):∀ en∈(⟨i,R,W⟩::A:List En),en.i∈i::ps:=fun en hm=>by
 rcases List.mem_cons.1 hm with rfl | hm
 ·exact List.mem_cons_self
 ·exact List.mem_cons_of_mem _ (hA en hm)
end
end Go.Ev
end
noncomputable section
namespace Go.Ev
inductive C4 where
 | p | q | l | x | u | y | z
def chkC4 (B:Array Nat):Nat→List Nat→List Nat→List Nat→List C4→Bool
 | _,_,_,_,[]=>true
 | i,ps,qs,xs,c::cl=>(match c with
  | .p=>chkC4 B (i+1) ps qs xs cl
  | .q=>xs.all (fun j=>(B.getD i 0).testBit j) && chkC4 B (i+1) (i::ps) (i::qs) xs cl
  | .l=>ps.all (fun j=>(B.getD i 0).testBit j) && chkC4 B (i+1) (i::ps) (i::qs) xs cl
  | .x=>ps.all (fun j=>(B.getD i 0).testBit j) && chkC4 B (i+1) (i::ps) (i::qs) (i::xs) cl
  | .u=>xs.all (fun j=>(B.getD i 0).testBit j) && chkC4 B (i+1) (i::ps) qs xs cl
  | .y=>qs.all (fun j=>(B.getD i 0).testBit j) && chkC4 B (i+1) (i::ps) (i::qs) (i::xs) cl
  | .z=>qs.all (fun j=>(B.getD i 0).testBit j) && chkC4 B (i+1) (i::ps) (i::qs) (i::xs) cl)
def Env.subX (e:Env) (nx:Nat):Env:=⟨nx,fun b=>b<e.n0→e.Rd b,fun b=>b<e.n0→e.Wr b⟩
section
variable (tb:Tb) (sp:Nat→List Value→Hp→Option (Value×Hp×Nat×Nat)) (e:Env) (N0:Nat) (Us:Nat→Prop)
mutual
def WOX (d:Nat) (K:T Value→Hp→Prop):List CO→List C4→T Value→Hp→Prop
 | [],_,t,H=>K t H
 | _::_,[],_,_=>False
 | o::cos,c::cl,t,H=>(match wants t o.guard with
  | true=>(match run o.op t H with
   | .val v H1 r w=>(match c with
    | .p=>r=0∧w=0∧H1=H∧WOX d K cos cl (putT d t o.dst v) H1
    | .q=>e.ok r 0 H1∧w=0∧H.nx≤H1.nx∧(∀ b,r.testBit b=true→b<N0)∧WOX d K cos cl (putT d t o.dst v) H1
    | .l=>e.ok r w H1∧H.nx≤H1.nx∧(∀ b,w.testBit b=true→N0≤b)∧WOX d K cos cl (putT d t o.dst v) H1
    | .x=>e.ok r w H1∧H.nx≤H1.nx∧WOX d K cos cl (putT d t o.dst v) H1
    | .u=>e.ok r 0 H1∧w=0∧H1=H∧(∀ b,r.testBit b=true→b<N0∧Us b)∧WOX d K cos cl (putT d t o.dst v) H1
    | .y=>e.ok r w H1∧H1.nx=H.nx∧r=0∧(∀ b,w.testBit b=true→¬ Us b)∧WOX d K cos cl (putT d t o.dst v) H1
    | .z=>e.ok r w H1∧H.nx≤H1.nx∧(∀ b,w.testBit b=true∨(H.nx≤b∧b<H1.nx)→¬ Us b)∧WOX d K cos cl (putT d t o.dst v) H1)
   | .call f args=>(match c with
    | .p=>False
    | .q=>EC tb sp (e.sub N0 H.nx) f args H (WOXk d K cos cl t o.dst)
    | .l=>EC tb sp (e.subL N0 H.nx) f args H (WOXk d K cos cl t o.dst)
    | .x=>EC tb sp (e.subX H.nx) f args H (WOXk d K cos cl t o.dst)
    | _=>False)
   | _=>False)
  | false=>WOX d K cos cl (putT d t o.dst U) H)
def WOXk (d:Nat) (K:T Value→Hp→Prop) (cos:List CO) (cl:List C4) (t:T Value) (dst:Option Tmp):Value→Hp→Prop:=fun v H1=>WOX d K cos cl (putT d t dst v) H1
end
end
section
variable {tb:Tb} {sp:Nat→List Value→Hp→Option (Value×Hp×Nat×Nat)} {e:Env} {N0:Nat} {Us:Nat→Prop}
def TameX (N0 nx:Nat) (xs:List Nat) (A:List En):Prop:=∀ en∈A,en.i∈xs∨((∀ b,en.W b→N0≤b∧b<nx)∧∀ b,en.R b→b<nx)
theorem TameX.mono {nx nx':Nat} {xs:List Nat} {A:List En} (h:TameX N0 nx xs A) (hn:nx≤nx'):TameX N0 nx' xs A:=fun en hm =>
 (h en hm).imp id fun h=>⟨fun b hb=>⟨(h.1 b hb).1,Nat.lt_of_lt_of_le (h.1 b hb).2 hn⟩,fun b hb=>Nat.lt_of_lt_of_le (h.2 b hb) hn⟩
theorem TameX.chk {nx:Nat} {xs:List Nat} {A:List En} {B:Array Nat} {i:Nat} {R W:Nat→Prop} (h:TameX N0 nx xs A) (hx:xs.all (fun j=>(B.getD i 0).testBit j)=true) (hN:N0≤nx) (hR:∀ b,R b→b<N0∨nx≤b) (hW:∀ b,W b→nx≤b):Chk B i R W A:=by
 intro en hm
 rcases h en hm with h | ⟨h1,h2⟩
 ·exact .inl (List.all_eq_true.1 hx _ h)
 refine .inr ⟨fun b hb=>⟨fun hr=>?_,fun hw=>?_⟩,fun b hw hr=>?_⟩
 ·have:=h1 b hb
  rcases hR b hr with h | h <;> omega
 ·have:=h1 b hb;have:=hW b hw;omega
 ·have:=h2 b hr;have:=hW b hw;omega
theorem TameX.cons {nx nx':Nat} {xs:List Nat} {A:List En} {i:Nat} {R W:Nat→Prop} (h:TameX N0 nx xs A) (hn:nx≤nx') (hR:∀ b,R b→b<nx') (hW:∀ b,W b→N0≤b∧b<nx'):TameX N0 nx' xs (⟨i,R,W⟩::A):=by
 intro en hm
 rcases List.mem_cons.1 hm with rfl | hm
 ·exact .inr ⟨hW,hR⟩
 ·exact h.mono hn en hm
theorem TameX.alone {nx nx':Nat} {xs:List Nat} {A:List En} {i:Nat} {R W:Nat→Prop} (h:TameX N0 nx xs A) (hn:nx≤nx'):TameX N0 nx' (i::xs) (⟨i,R,W⟩::A):=by
 intro en hm
 rcases List.mem_cons.1 hm with rfl | hm
 ·exact .inl List.mem_cons_self
 ·exact (h.mono hn en hm).imp (List.mem_cons_of_mem _) id
theorem TameX.more {nx:Nat} {xs:List Nat} {A:List En} (i:Nat) (h:TameX N0 nx xs A):TameX N0 nx (i::xs) A:=fun en hm=>(h en hm).imp (List.mem_cons_of_mem _) id
def Reads (Us:Nat→Prop) (qs:List Nat) (A:List En):Prop:=∀ en∈A,en.i∈qs∨((∀ b,en.R b→Us b)∧∀ b,¬ en.W b)
theorem Reads.cons {qs:List Nat} {A:List En} {i:Nat} {R W:Nat→Prop} (h:Reads Us qs A):Reads Us (i::qs) (⟨i,R,W⟩::A):=fun en hm=>by
 rcases List.mem_cons.1 hm with rfl | hm
 ·exact .inl List.mem_cons_self
 ·exact (h en hm).imp (List.mem_cons_of_mem _) id
theorem Reads.more {qs:List Nat} {A:List En} (i:Nat) (h:Reads Us qs A):Reads Us (i::qs) A:=fun en hm=>(h en hm).imp (List.mem_cons_of_mem _) id
theorem WD.of_wox {cx:Cx} {B:Array Nat} {K:T Value→Hp→Prop} {ds:List Deferred} (he:e.n0≤N0):∀ {cos:List CO} {cl:List C4} {ps qs xs:List Nat} {i:Nat} {t:T Value} {H:Hp} {A:List En},N0≤H.nx→TameX N0 H.nx xs A→(∀ en∈A,en.i∈ps)→Reads Us qs A→chkC4 B i ps qs xs cl=true→WOX tb sp e N0 Us cx.d K cos cl t H →
 WD tb sp e cx B cos i t ds H A (fun t' ds' H'=>ds'=ds∧K t' H'):=by
 intro cos
 induction cos with
 | nil=>intro cl ps qs xs i t H A _ _ _ _ _ h;rw [WOX] at h;exact WD.nil ⟨rfl,h⟩
 | cons o cos ih =>
  intro cl ps qs xs i t H A hN hA hps hqs hcl h
  cases cl with
  | nil=>rw [WOX] at h;exact h.elim
  | cons c cl =>
  rw [WOX] at h
  have hps':∀ en∈A,en.i∈i::ps:=fun en hm=>List.mem_cons_of_mem _ (hps en hm)
  cases hg:wants t o.guard with
  | false =>
   rw [hg] at h
   refine WD.skip hg ?_
   cases c with
   | p=>exact ih hN hA hps hqs (by simpa only [chkC4] using hcl) h
   | q=>exact ih hN hA hps' (hqs.more i) (by simp only [chkC4,Bool.and_eq_true] at hcl;exact hcl.2) h
   | l=>exact ih hN hA hps' (hqs.more i) (by simp only [chkC4,Bool.and_eq_true] at hcl;exact hcl.2) h
   | x=>exact ih hN (hA.more i) hps' (hqs.more i) (by simp only [chkC4,Bool.and_eq_true] at hcl;exact hcl.2) h
   | u=>exact ih hN hA hps' hqs (by simp only [chkC4,Bool.and_eq_true] at hcl;exact hcl.2) h
   | y=>exact ih hN (hA.more i) hps' (hqs.more i) (by simp only [chkC4,Bool.and_eq_true] at hcl;exact hcl.2) h
   | z=>exact ih hN (hA.more i) hps' (hqs.more i) (by simp only [chkC4,Bool.and_eq_true] at hcl;exact hcl.2) h
  | true =>
   rw [hg] at h
   refine WD.cons hg ?_
   revert h
   cases run o.op t H with
   | val v H1 r w =>
    cases c with
    | p =>
     rintro ⟨rfl,rfl,rfl,h⟩
     exact ⟨.zero _ _,Nat.le_refl _,.inl ⟨rfl,rfl,rfl,ih hN hA hps hqs (by simpa only [chkC4] using hcl) h⟩⟩
    | q =>
     rintro ⟨h1,rfl,h2,h3,h4⟩
     simp only [chkC4,Bool.and_eq_true] at hcl
     refine ⟨h1,h2,.inr ⟨fun b=>b<N0,fun b=>H.nx≤b∧b<H1.nx,h3,fun b hb=>?_,hA.chk hcl.1 hN (fun b hb=>.inl hb) (fun b hb=>hb.1),ih (Nat.le_trans hN h2) (hA.cons h2 (fun b hb=>?_) fun b hb=>⟨Nat.le_trans hN hb.1,hb.2⟩) (ps_cons hps) hqs.cons hcl.2 h4⟩⟩
     ·rcases hb with hb | hb
      ·simp at hb
      ·exact hb
     ·exact Nat.lt_of_lt_of_le hb (Nat.le_trans hN h2)
    | l =>
     rintro ⟨h1,h2,h3,h4⟩
     simp only [chkC4,Bool.and_eq_true] at hcl
     refine ⟨h1,h2,.inr ⟨fun b=>r.testBit b=true,fun b=>w.testBit b=true∨(H.nx≤b∧b<H1.nx),fun b hb=>hb,fun b hb=>hb,Chk.ord hps hcl.1,ih (Nat.le_trans hN h2) (hA.cons h2 (fun b hb=>h1.lt b (.inl hb)) fun b hb=>?_) (ps_cons hps) hqs.cons hcl.2 h4⟩⟩
     rcases hb with hb | hb
     ·exact ⟨h3 b hb,h1.lt b (.inr hb)⟩
     ·exact ⟨Nat.le_trans hN hb.1,hb.2⟩
    | x =>
     rintro ⟨h1,h2,h4⟩
     simp only [chkC4,Bool.and_eq_true] at hcl
     exact ⟨h1,h2,.inr ⟨fun b=>r.testBit b=true,fun b=>w.testBit b=true∨(H.nx≤b∧b<H1.nx),fun b hb=>hb,fun b hb=>hb,Chk.ord hps hcl.1,ih (Nat.le_trans hN h2) (hA.alone h2) (ps_cons hps) hqs.cons hcl.2 h4⟩⟩
    | u =>
     rintro ⟨h1,rfl,rfl,h3,h4⟩
     simp only [chkC4,Bool.and_eq_true] at hcl
     refine ⟨h1,Nat.le_refl _,.inr ⟨fun b=>b<N0∧Us b,fun _=>False,h3,fun b hb=>?_,hA.chk hcl.1 hN (fun b hb=>.inl hb.1) (fun b hb=>hb.elim),ih hN (hA.cons (Nat.le_refl _) (fun b hb=>Nat.lt_of_lt_of_le hb.1 hN) fun b hb=>hb.elim) (ps_cons hps) ?_ hcl.2 h4⟩⟩
     ·rcases hb with hb | hb
      ·simp at hb
      ·omega
     ·intro en hm
      rcases List.mem_cons.1 hm with rfl | hm
      ·exact .inr ⟨fun b hb=>hb.2,fun b hb=>hb⟩
      ·exact hqs en hm
    | y =>
     rintro ⟨h1,h2,rfl,h3,h4⟩
     simp only [chkC4,Bool.and_eq_true] at hcl
     refine ⟨h1,by omega,.inr ⟨fun _=>False,fun b=>¬ Us b,fun b hb=>by simp at hb,fun b hb=>?_,fun en hm=>?_,ih (by omega) (hA.alone (by omega)) (ps_cons hps) hqs.cons hcl.2 h4⟩⟩
     ·rcases hb with hb | hb
      ·exact h3 b hb
      ·omega
     ·rcases hqs en hm with hq | ⟨hq1,hq2⟩
      ·exact .inl (List.all_eq_true.1 hcl.1 _ hq)
      ·exact .inr ⟨fun b hb=>absurd hb (hq2 b),fun b hb hr=>hb (hq1 b hr)⟩
    | z =>
     rintro ⟨h1,h2,h3,h4⟩
     simp only [chkC4,Bool.and_eq_true] at hcl
     refine ⟨h1,h2,.inr ⟨fun b=>r.testBit b=true,fun b=>w.testBit b=true∨(H.nx≤b∧b<H1.nx),fun b hb=>hb,fun b hb=>hb,fun en hm=>?_,ih (Nat.le_trans hN h2) (hA.alone h2) (ps_cons hps) hqs.cons hcl.2 h4⟩⟩
     rcases hqs en hm with hq | ⟨hq1,hq2⟩
     ·exact .inl (List.all_eq_true.1 hcl.1 _ hq)
     ·exact .inr ⟨fun b hb=>absurd hb (hq2 b),fun b hb hr=>h3 b hb (hq1 b hr)⟩
   | call f args =>
    cases c with
    | p=>exact fun h=>h.elim
    | q =>
     intro h
     simp only [chkC4,Bool.and_eq_true] at hcl
     refine ⟨e.sub N0 H.nx,Nat.le_trans he hN,rfl,fun b hb hr=>hr.2 hb,fun b _ hw=>hw.elim,EC.mono h fun v H1 hle hk R W hR hW=>?_⟩
     rw [WOXk] at hk
     have hR':∀ b,R b→b<N0∨H.nx≤b:=fun b hb=>by
      rcases (hR b).1 hb with h | h
      ·exact .inl h.2.1
      ·exact .inr h.1
     have hW':∀ b,W b→H.nx≤b∧b<H1.nx:=fun b hb=>by
      rcases (hW b).1 hb with h | h
      ·exact h.2.elim
      ·exact h
     refine ⟨hA.chk hcl.1 hN hR' (fun b hb=>(hW' b hb).1),ih (Nat.le_trans hN hle) (hA.cons hle (fun b hb=>?_) fun b hb=>⟨Nat.le_trans hN (hW' b hb).1,(hW' b hb).2⟩) (ps_cons hps) hqs.cons hcl.2 hk⟩
     rcases (hR b).1 hb with h | h
     ·exact Nat.lt_of_lt_of_le h.1 hle
     ·exact h.2
    | l =>
     intro h
     simp only [chkC4,Bool.and_eq_true] at hcl
     refine ⟨e.subL N0 H.nx,Nat.le_trans he hN,rfl,fun b hb hr=>hr hb,fun b hb hw=>?_,EC.mono h fun v H1 hle hk R W hR hW=>?_⟩
     ·have hw':N0≤b:=hw
      omega
     rw [WOXk] at hk
     refine ⟨Chk.ord hps hcl.1,ih (Nat.le_trans hN hle) (hA.cons hle (fun b hb=>?_) fun b hb=>?_) (ps_cons hps) hqs.cons hcl.2 hk⟩
     ·rcases (hR b).1 hb with h | h
      ·exact Nat.lt_of_lt_of_le h.1 hle
      ·exact h.2
     ·rcases (hW b).1 hb with h | h
      ·exact ⟨h.2,Nat.lt_of_lt_of_le h.1 hle⟩
      ·exact ⟨Nat.le_trans hN h.1,h.2⟩
    | x =>
     intro h
     simp only [chkC4,Bool.and_eq_true] at hcl
     refine ⟨e.subX H.nx,Nat.le_trans he hN,rfl,fun b hb hr=>hr hb,fun b hb hw=>hw hb,EC.mono h fun v H1 hle hk R W hR hW=>?_⟩
     rw [WOXk] at hk
     exact ⟨Chk.ord hps hcl.1,ih (Nat.le_trans hN hle) (hA.alone hle) (ps_cons hps) hqs.cons hcl.2 hk⟩
    | u=>exact fun h=>h.elim
    | y=>exact fun h=>h.elim
    | z=>exact fun h=>h.elim
   | _=>exact fun h=>h.elim
theorem WK.draw_x {cx:Cx} {B:Array Nat} {cos:List CO} {t:T Value} {ds:List Deferred} {H:Hp} {K:Ex→T Value→List Deferred→Hp→Prop} (cl:List C4) (K':T Value→Hp→Prop) (he:e.n0≤H.nx) (hc:chkC4 B 0 [] [] [] cl=true)
 (h:WOX tb sp e H.nx Us cx.d K' cos cl t H) (hk:∀ t' H',K' t' H'→K .normal t' ds H'):WK tb sp e cx (.draw B cos) t ds H K:=by
 refine WK.draw ?_
 obtain ⟨N,t',ds',H',r,w,h1,h2,h3,rfl,h4⟩:=WD.of_wox (B:=B) (ds:=ds) (i:=0) (A:=[]) (ps:=[]) (qs:=[]) (xs:=[]) he (Nat.le_refl _) (fun en hm=>by cases hm) (fun en hm=>by cases hm) (fun en hm=>by cases hm) hc h
 exact ⟨N,t',_,H',r,w,h1,h2,h3,hk _ _ h4⟩
end
end Go.Ev
end
noncomputable section
namespace Go.Ds
open Go.Ev
abbrev Str:=List UInt8
abbrev Entry:=Str×Str
abbrev DS:=List Entry
theorem eqBs_iff:∀ {a b:Str},eqBs a b=true↔a=b
 | [],[]=>by simp [eqBs]
 | [],_::_=>by simp [eqBs]
 | _::_,[]=>by simp [eqBs]
 | a::x,b::y=>by
  unfold eqBs
  cases h:Nat.beq a.toNat b.toNat with
  | true =>
   have hab:a=b:=UInt8.toNat_inj.1 (Nat.eq_of_beq_eq_true h)
   show eqBs x y=true↔_
   rw [eqBs_iff,hab];simp
  | false =>
   have hab:a≠b:=fun e=>by rw [e] at h;simp at h
   show false=true↔_
   simp [hab]
theorem eqBs_self (a:Str):eqBs a a=true:=eqBs_iff.2 rfl
theorem ltBs_cons (a b:UInt8) (x y:Str):ltBs (a::x) (b::y)=true↔a.toNat<b.toNat∨a=b∧ltBs x y=true:=by
 show Bc (Nat.blt a.toNat b.toNat) true (Bc (Nat.beq a.toNat b.toNat) (ltBs x y) false)=true↔_
 cases h:Nat.blt a.toNat b.toNat with
 | true =>
  have h1:a.toNat<b.toNat:=by rw [Nat.blt_eq] at h;exact h
  show true=true↔_
  simp [h1]
 | false =>
  have h1:¬ a.toNat<b.toNat:=fun g=>by rw [← Nat.blt_eq,h] at g;cases g
  cases h2:Nat.beq a.toNat b.toNat with
  | true =>
   have hab:a=b:=UInt8.toNat_inj.1 (Nat.eq_of_beq_eq_true h2)
   show ltBs x y=true↔_
   simp [hab]
  | false =>
   have hab:a≠b:=fun e=>by rw [e] at h2;simp at h2
   show false=true↔_
   simp [h1,hab]
theorem ltBs_trans:∀ {a b c:Str},ltBs a b=true→ltBs b c=true→ltBs a c=true
 | [],_::_,_::_,_,_=>rfl
 | [],[],_,h,_=>by simp [ltBs] at h
 | _::_,[],_,h,_=>by simp [ltBs] at h
 | _,_::_,[],_,h=>by simp [ltBs] at h
 | a::x,b::y,c::z,h,g=>by
  rw [ltBs_cons] at h g ⊢
  rcases h with h | ⟨rfl,h⟩ <;> rcases g with g | ⟨rfl,g⟩
  ·exact .inl (by omega)
  ·exact .inl h
  ·exact .inl g
  ·exact .inr ⟨rfl,ltBs_trans h g⟩
theorem ltBs_tri:∀ a b:Str,ltBs a b=true∨a=b∨ltBs b a=true
 | [],[]=>.inr (.inl rfl)
 | [],_::_=>.inl rfl
 | _::_,[]=>.inr (.inr rfl)
 | a::x,b::y=>by
  rw [ltBs_cons,ltBs_cons]
  rcases Nat.lt_trichotomy a.toNat b.toNat with h | h | h
  ·exact .inl (.inl h)
  ·have hab:a=b:=UInt8.toNat_inj.1 h
   subst hab
   rcases ltBs_tri x y with h | h | h
   ·exact .inl (.inr ⟨rfl,h⟩)
   ·exact .inr (.inl (by rw [h]))
   ·exact .inr (.inr (.inr ⟨rfl,h⟩))
  ·exact .inr (.inr (.inl h))
def Sorted (d:DS):Prop:=d.Pairwise fun a b=>ltBs a.1 b.1=true
def pos:DS→Str→Nat
 | [],_=>0
 | r::d,k=>if ltBs r.1 k then pos d k+1 else 0
def without (d:DS) (k:Str):DS:=d.filter fun r=>!eqBs r.1 k
theorem split {k:Str}:∀ {d:DS},Sorted d→∃ L R,d=L++R∧pos d k=L.length∧(∀ r∈L,ltBs r.1 k=true) ∧
 ((∃ r R',R=r::R'∧r.1=k∧∀ x∈R',ltBs k x.1=true)∨∀ x∈R,ltBs k x.1=true)
 | [],_=>⟨[],[],rfl,rfl,fun r h=>by simp at h,.inr fun x h=>by simp at h⟩
 | r::d,h=>by
  have hr:=(List.pairwise_cons.1 h).1
  obtain ⟨L,R,h1,h2,h3,h4⟩:=split (k:=k) (List.pairwise_cons.1 h).2
  cases hk:ltBs r.1 k with
  | true =>
   refine ⟨r::L,R,by rw [h1];rfl,?_,?_,h4⟩
   ·unfold pos;rw [if_pos hk,h2];rfl
   ·intro x hx
    rcases List.mem_cons.1 hx with rfl | hx
    ·exact hk
    ·exact h3 x hx
  | false =>
   refine ⟨[],r::d,rfl,?_,fun x hx=>by simp at hx,?_⟩
   ·unfold pos;rw [hk];rfl
   ·rcases ltBs_tri r.1 k with g | g | g
    ·rw [g] at hk;cases hk
    ·exact .inl ⟨r,d,rfl,g,fun x hx=>g▸hr x hx⟩
    ·refine .inr fun x hx=>?_
     rcases List.mem_cons.1 hx with rfl | hx
     ·exact g
     ·exact ltBs_trans g (hr x hx)
end Go.Ds
end
noncomputable section
namespace Go.Ev
open Go.Ds
abbrev vN (z:Int):Value:=.int .i64 z
abbrev vS (s:List UInt8):Value:=.string ⟨⟨s⟩⟩
def RowG (H:Hp) (b ty op:Nat) (L:List Value):Prop:=∃ t lo hi,H.blk b=.cells t L.length ty op lo hi∧∀ (i:Nat) v,L[i]?=some v→t.get i=v
theorem RowG.alive {H:Hp} {b ty op:Nat} {L:List Value} (h:RowG H b ty op L):alive H b:=by
 obtain ⟨t,lo,hi,h,_⟩:=h;exact (alive_iff H b).2 (by rw [h];simp)
theorem RowG.lt {H:Hp} {b ty op:Nat} {L:List Value} (h:RowG H b ty op L):b<H.nx:=h.alive.1
theorem RowG.of_blk {H H':Hp} {b ty op:Nat} {L:List Value} (h:RowG H b ty op L) (e:H'.blk b=H.blk b):RowG H' b ty op L:=by
 obtain ⟨t,lo,hi,h1,h2⟩:=h;exact ⟨t,lo,hi,e.trans h1,h2⟩
theorem exLd1_rowG {H:Hp} {b ty op o:Nat} {L:List Value} {v:Value} (h:RowG H b ty op L) (hv:L[o]?=some v):exLd1 (.pointer (some ⟨b,o,none⟩)) H=.val v H (bit b) 0:=by
 obtain ⟨t,lo,hi,h1,h2⟩:=h
 have hlt:o<L.length:=by
  rcases Nat.lt_or_ge o L.length with h' | h'
  ·exact h'
  ·rw [List.getElem?_eq_none h'] at hv;cases hv
 show (match rd1 H b o with | some x=>R.val x H (bit b) 0 | none=>.fail)=_
 have:rd1 H b o=some v:=by
  unfold rd1;rw [h1];simp only []
  rw [(blt_iff o L.length).2 hlt,Bc_t,h2 o v hv]
 rw [this]
theorem exLdN_rowG {H:Hp} {b ty op o k:Nat} {L:List Value} (h:RowG H b ty op L) (hle:o+k≤L.length):exLdN k (.pointer (some ⟨b,o,none⟩)) H=.val (.agg ⟨(L.drop o).take k⟩) H (bit b) 0:=by
 obtain ⟨t,lo,hi,h1,h2⟩:=h
 have:rdN H b o k=some ((L.drop o).take k):=by
  unfold rdN;rw [h1];simp only []
  rw [(ble_iff _ _).2 hle,Bc_t,rdL_list h2 k o hle]
 show (match rdN H b o k with | some l=>R.val (.agg ⟨l⟩) H (bit b) 0 | none=>.fail)=_
 rw [this]
inductive RowR (e:Env) (H:Hp) (w:Nat) {α:Type} (Q:α→List Value→Prop):Value→List α→Prop
 | nil (c:Nat):RowR e H w Q (.slice none 0 c) []
 | odd (b o s:Nat):RowR e H w Q (.slice (some ⟨b,o,some s⟩) 0 0) []
 | inRow (b o c ty op:Nat) (l:List α) (cells:List Value) (h:RowG H b ty op cells) (hr:b<e.n0→e.Rd b) (hb:o+l.length*w≤cells.length)
  (hc:∀ (i:Nat) x,l[i]?=some x→o+i*w+w≤cells.length∧Q x ((cells.drop (o+i*w)).take w)):RowR e H w Q (.slice (some ⟨b,o,none⟩) l.length c) l
structure ElR (e:Env) (H:Hp) (w:Nat) (v:Value) (i b o:Nat) (vs:List Value):Prop where
 addr:exIaS w v (vN i) H=.val (.pointer (some ⟨b,o,none⟩)) H 0 0
 ld:exLdN w (.pointer (some ⟨b,o,none⟩)) H=.val (.agg ⟨vs⟩) H (bit b) 0
 ld1:∀ (j:Nat) x,vs[j]?=some x→exLd1 (.pointer (some ⟨b,o+j,none⟩)) H=.val x H (bit b) 0
 len:vs.length=w
 ok:e.ok (bit b) 0 H
theorem RowR.el {e:Env} {H:Hp} {w:Nat} {α:Type} {Q:α→List Value→Prop} {v:Value} {l:List α} (h:RowR e H w Q v l) {i:Nat} {x:α} (hx:l[i]?=some x) :
 ∃ b o vs,ElR e H w v i b o vs∧Q x vs:=by
 cases h with
 | nil=>simp at hx
 | odd=>simp at hx
 | inRow b o c ty op l cells h hr hbd hc =>
  have hlt:i<l.length:=by
   rcases Nat.lt_or_ge i l.length with h' | h'
   ·exact h'
   ·rw [List.getElem?_eq_none h'] at hx;cases hx
  obtain ⟨h1,h2⟩:=hc i x hx
  refine ⟨b,o+i*w,(cells.drop (o+i*w)).take w,⟨?_,exLdN_rowG h h1,fun j y hy=>?_,?_,.read h.lt hr⟩,h2⟩
  ·rw [exIaS_int (by omega) (by omega)];simp
  ·refine exLd1_rowG h ?_
   rw [List.getElem?_take] at hy
   split at hy
   ·rw [List.getElem?_drop] at hy;exact hy
   ·cases hy
  ·rw [List.length_take,List.length_drop];omega
theorem RowR.mono {e:Env} {H H':Hp} {w:Nat} {α:Type} {Q Q':α→List Value→Prop} {v:Value} {l:List α} (h:RowR e H w Q v l) (hb:∀ b,b<H.nx→H'.blk b=H.blk b) (hq:∀ x vs,Q x vs→Q' x vs):RowR e H' w Q' v l:=by
 cases h with
 | nil=>exact .nil _
 | odd=>exact .odd _ _ _
 | inRow b o c ty op l cells h hr hbd hc=>exact .inRow b o c ty op l cells (h.of_blk (hb b h.lt)) hr hbd fun i x hx=>⟨(hc i x hx).1,hq _ _ (hc i x hx).2⟩
theorem RowR.env {e e':Env} {H:Hp} {w:Nat} {α:Type} {Q Q':α→List Value→Prop} {v:Value} {l:List α} (h:RowR e H w Q v l) (hq:∀ x vs,Q x vs→Q' x vs) (he:∀ b,b<H.nx→(b<e.n0→e.Rd b)→b<e'.n0→e'.Rd b):RowR e' H w Q' v l:=by
 cases h with
 | nil=>exact .nil _
 | odd=>exact .odd _ _ _
 | inRow b o c ty op l cells h hr hbd hc=>exact .inRow b o c ty op l cells h (he b h.lt hr) hbd fun i x hx=>⟨(hc i x hx).1,hq _ _ (hc i x hx).2⟩
theorem exLen_str (s:List UInt8) (H:Hp):exLen 0 (vS s) H=.val (vN s.length) H 0 0:=rfl
end Go.Ev
end
