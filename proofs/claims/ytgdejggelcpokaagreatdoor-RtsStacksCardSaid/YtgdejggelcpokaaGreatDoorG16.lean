/-
 A part of the proof that pliantlaw15.RtsStacks returns true and leaves its arguments alone. Conditions: those of the card in the last text.
-/
import Derived.KernelRfl
import Derived.Lib.SliceRun
import Derived.Lib.SlicesDelete
import Derived.Shelf.Spec.SlicesInsertGrow
import Derived.Sort.Grow
import Derived.Sort.Row
import Derived.Test.YtgdejggelcpokaaGreatDoorCheckedLc
import Derived.Test.YtgdejggelcpokaaGreatDoorG09
import Derived.Test.YtgdejggelcpokaaGreatDoorG10
import Derived.Test.YtgdejggelcpokaaGreatDoorG11
import Derived.Test.YtgdejggelcpokaaGreatDoorG13
set_option linter.unusedSimpArgs false
set_option linter.unusedVariables false
set_option linter.unusedSectionVars false
noncomputable section
namespace Go.Proofs.RS
open Go Go.Ev Go.Proofs Go.Ds
theorem exEq_str (neg:Bool) (a b:Str) (H:Hp):exEq neg (.one .s) (vS a) (vS b) H=.val (.bool (Bc neg (!eqBs a b) (eqBs a b))) H 0 0:=rfl
end Go.Proofs.RS
end
noncomputable section
namespace Go.Proofs.RS
open Go Go.Ev Go.Proofs
noncomputable def zero_body:Code:=(Tryz.f153.body).getD .skip
def zero_r0:List CO:=[
 ⟨(some 2),none,.mv (.const (.bool false))⟩]
def zero_r1:List CO:=[
 ⟨(some 5),none,.mv (.tmp 0)⟩,
 ⟨(some 6),none,.len 1 (.tmp 5)⟩,
 ⟨(some 7),none,.mv (.const (.int .i64 (0)))⟩]
def zero_r2:List CO:=[
 ⟨(some 8),none,.bin .lss (.tmp 7) (.tmp 6)⟩]
def zero_r3:List CO:=[
 ⟨(some 9),none,.iaS 1 (.tmp 5) (.tmp 7)⟩,
 ⟨(some 10),none,.ld1 (.tmp 9)⟩,
 ⟨(some 4),none,.mv (.tmp 10)⟩]
def zero_r4:List CO:=[
 ⟨(some 11),none,.mv (.tmp 4)⟩,
 ⟨(some 12),none,.eq true (.one .i) (.tmp 11) (.const (.int .u8 (0)))⟩]
def zero_r5:List CO:=[
 ⟨(some 2),none,.mv (.const (.bool false))⟩]
def zero_r6:List CO:=[
 ⟨(some 13),none,.bin .add (.tmp 7) (.const (.int .i64 (1)))⟩,
 ⟨(some 7),none,.mv (.tmp 13)⟩]
noncomputable def zero_l7:KC :=
 (.seq (.reg zero_r2)
 (.seq (.cond (.tmp 8) .skip
  (.exit 0))
 (.seq (.block 1 (.seq (.reg zero_r3)
  (.seq (.reg zero_r4)
  (.cond (.tmp 12) (.seq (.reg zero_r5)
   .ret)
   .skip))))
 (.reg zero_r6))))
def zero_r8:List CO:=[
 ⟨(some 2),none,.mv (.const (.bool true))⟩]
noncomputable def zero_k:KC :=
 (.seq (.reg zero_r0)
 (.seq (.seq (.reg zero_r1)
 (.block 0 (.loop zero_body.sr.sl.sr.bl.lp zero_l7)))
 (.seq (.reg zero_r8)
 .ret)))
theorem zero_comp:kcomp Tb0 Tryz.f153.ntmps zero_body=zero_k:=by kernel_rfl
theorem zero_some:Tryz.f153.body=some zero_body:=rfl
end Go.Proofs.RS
end
noncomputable section
namespace Go.Ev
def spOr (a b:Option (Value×Hp×Nat×Nat)):Option (Value×Hp×Nat×Nat):=match a with | some x=>some x | none=>b
section
variable {tb:Tb} {sp:Nat→List Value→Hp→Option (Value×Hp×Nat×Nat)} {e:Env}
theorem EC.of_sp {f:FuncId} {args:List Value} {H H':Hp} {v:Value} {r w:Nat} {K:Value→Hp→Prop} (h:sp f args H=some (v,H',r,w)) (hok:e.ok r w H') (hn:H.nx≤H'.nx) (hk:K v H'):EC tb sp e f args H K:=by
 refine ⟨1,v,H',r,w,?_,hok,hn,hk⟩
 show evTask tb sp (ev tb sp 0) (.call f args) H=_
 simp only [evTask,h]
end
end Go.Ev
end
noncomputable section
namespace Go.Ev
open Go.Proofs Go.Proofs.RS
def insL (i:Nat) (L V:List Value):List Value:=L.take (i*2)++(V++L.drop (i*2))
def delL (i:Nat) (L:List Value):List Value:=L.take (i*2)++L.drop ((i+1)*2)
def spIns (args:List Value) (H:Hp):Option (Value×Hp×Nat×Nat):=match args with
 | [.slice (some ⟨b,0,none⟩) n c,.int .i64 (.ofNat i),.slice (some ⟨b2,0,none⟩) 1 _]=>(match H.blk b,H.blk b2 with
  | .cells t k ty op lo hi,.cells t2 k2 _ op2 lo2 hi2 =>
   Bc (Nat.beq k (n*2) && Nat.beq ty 77 && Nat.ble i n && Nat.ble n 1000000 && ((Nat.beq op 3 && Nat.beq c (2*n+1)) || (Nat.beq op 0 && Nat.beq c (2*n))) && Nat.beq lo 0 && Nat.beq hi 0 && (!Nat.beq b b2) && Nat.beq k2 2 && Nat.beq op2 0 && Nat.beq lo2 0 && Nat.beq hi2 0 && H.room)
    (some (.slice (some ⟨H.nx,0,none⟩) (n+1) (2*(n+1)+1),(H.put b .no).push (blkL (insL i (rdL t (n*2) 0) (rdL t2 2 0)) 77 3),bit b2,bit b)) none
  | _,_=>none)
 | _=>none
def spDel (args:List Value) (H:Hp):Option (Value×Hp×Nat×Nat):=match args with
 | [.slice (some ⟨b,0,none⟩) n c,.int .i64 (.ofNat i),.int .i64 (.ofNat j)]=>(match H.blk b with
  | .cells t k ty op lo hi =>
   Bc (Nat.beq k (n*2) && Nat.beq ty 77 && Nat.blt i n && Nat.ble n 1000000 && Nat.beq op 3 && Nat.beq c (2*n+1) && Nat.beq lo 0 && Nat.beq hi 0 && Nat.beq j (i+1) && H.room)
    (some (.slice (some ⟨H.nx,0,none⟩) (n-1) (2*(n-1)+1),(H.put b .no).push (blkL (delL i (rdL t (n*2) 0)) 77 3),0,bit b)) none
  | _=>none)
 | _=>none
def spInsN (args:List Value) (H:Hp):Option (Value×Hp×Nat×Nat):=match args with
 | [.slice none 0 0,.int .i64 (.ofNat 0),.slice (some ⟨b2,0,none⟩) 1 _]=>(match H.blk b2 with
  | .cells t2 k2 _ op2 lo2 hi2 =>
   Bc (Nat.beq k2 2 && Nat.beq op2 0 && Nat.beq lo2 0 && Nat.beq hi2 0 && H.room)
    (some (.slice (some ⟨H.nx,0,none⟩) 1 3,H.push (blkL (rdL t2 2 0) 77 3),bit b2,0)) none
  | _=>none)
 | _=>none
def spInsert (args:List Value) (H:Hp):Option (Value×Hp×Nat×Nat):=spOr (spIns args H) (spInsN args H)
end Go.Ev
end
noncomputable section
namespace Go.Proofs.RS
open Go Go.Ev Go.Proofs Go.Ds
structure SpK (sp:Nat→List Value→Hp→Option (Value×Hp×Nat×Nat)):Prop where
 none:∀ f args H,f≠6→f≠118→f≠120→f≠198→f≠312→f≠153→f≠40→sp f args H=none
 ins:∀ args H,sp 118 args H=spInsert args H
 del:∀ args H,sp 120 args H=spDel args H
theorem SpK.no {sp:Nat→List Value→Hp→Option (Value×Hp×Nat×Nat)} (S:SpK sp) (f:Nat) (h:f≠6∧f≠118∧f≠120∧f≠198∧f≠312∧f≠153∧f≠40):∀ args H,sp f args H=Option.none:=fun args H=>S.none f args H h.1 h.2.1 h.2.2.1 h.2.2.2.1 h.2.2.2.2.1 h.2.2.2.2.2.1 h.2.2.2.2.2.2
section
variable {sp:Nat→List Value→Hp→Option (Value×Hp×Nat×Nat)} {e:Env}
theorem exExt_tup (l:List Value) (i:Nat) (v:Value) (h:l[i]?=some v) (H:Hp):exExt (.tuple ⟨l⟩) i H=.val v H 0 0:=by
 show (match l[i]? with | some x=>R.v x H | none=>.fail)=_
 rw [h];rfl
end
theorem zeros_get (t:T Value):∀ (k i:Nat),zeros t k i=true→∀ j,i≤j→j<i+k→t.get j=.int .u8 0:=by
 intro k
 induction k with
 | zero=>intro i _ j h1 h2;omega
 | succ k ih =>
  intro i h j h1 h2
  unfold zeros at h
  cases hs:sameU8 (t.get i) (.int .u8 0) with
  | false=>rw [hs,Bc_f] at h;cases h
  | true =>
   rw [hs,Bc_t] at h
   by_cases e:j=i
   ·rw [e];exact sameU8_eq hs
   ·exact ih (i+1) h j (by omega) (by omega)
section
variable {sp:Nat→List Value→Hp→Option (Value×Hp×Nat×Nat)} {e:Env}
set_option maxRecDepth 10000 in
set_option maxHeartbeats 4000000 in
theorem zero_ok (hs:∀ args H,sp 153 args H=none) {H:Hp} {b o n c k ty op lo hi:Nat} {t:T Value} (hb:H.blk b=.cells t k ty op lo hi) (hle:o+n≤k) (hn:n<4294967296) (hz:∀ j,o≤j→j<o+n→t.get j=.int .u8 0) (hr:b<e.n0→e.Rd b):EC Tb0 sp e 153 [.slice (some ⟨b,o,none⟩) n c] H fun v H'=>v=.bool true∧H'=H:=by
 refine EC.intro (fn:=Tryz.f153) (c:=zero_body) (hs _ _) (by rfl) zero_some zero_comp (by show 1≤14;decide) ?_
 have g0:(enterT Tryz.f153 [.slice (some ⟨b,o,none⟩) n c]).get 0=.slice (some ⟨b,o,none⟩) n c:=by rw [enterT_get (by show 1≤14;decide) (by show 0<14;decide)];rfl
 revert g0
 generalize enterT Tryz.f153 [.slice (some ⟨b,o,none⟩) n c]=t0
 intro g0
 show WK Tb0 sp e ⟨4,14,none,false⟩ zero_k t0 [] H _
 unfold zero_k
 have hlt:b<H.nx:=((alive_iff H b).2 (by rw [hb];simp)).1
 have hok:e.ok (bit b) 0 H:=.read hlt hr
 have k0:exLen 1 (.slice (some ⟨b,o,none⟩) n c) H=.val (vN n) H 0 0:=rfl
 refine WK.seq (WK.reg_rr (fun t'=>t'.get 0=.slice (some ⟨b,o,none⟩) n c) ?_ ?_)
 ·simp (config:={ maxSteps:=1000000 }) only [zero_r0,g0,WOR,WOG,WOC,WOGk,WOCk,wants_none',wants_some,wantsV_U,wantsV_tt,wantsV_tf,wantsV_ft,wantsV_ff,run,evalO_tmp,evalO_const,evalO_func,evalL,callV_func,Rv_eq,Ro_some,ok_zero,true_and,and_true,get_putT (d:=4),exLen_str,binV_geq,binV_leq,binV_lss,binV_gtr,exEq_int,exEq_str,exPick_t,exPick_f,Bool.not_true,Bool.not_false,Bc_t,Bc_f,Nat.reducePow,Nat.reduceLT,Nat.reduceEqDiff,Nat.reduceAdd,if_false,reduceIte,and_self,exFa_ptr,putT_none,Nat.zero_add,Nat.add_zero,Nat.le_refl,exUn_not]
 intro t1 g0
 refine WK.seq (WK.seq (WK.reg_rr (fun t'=>t'.get 5=.slice (some ⟨b,o,none⟩) n c∧t'.get 6=vN n∧t'.get 7=vN (0:Nat)) ?_ ?_))
 ·simp (config:={ maxSteps:=1000000 }) only [zero_r1,g0,k0,WOR,WOG,WOC,WOGk,WOCk,wants_none',wants_some,wantsV_U,wantsV_tt,wantsV_tf,wantsV_ft,wantsV_ff,run,evalO_tmp,evalO_const,evalO_func,evalL,callV_func,Rv_eq,Ro_some,ok_zero,true_and,and_true,get_putT (d:=4),exLen_str,binV_geq,binV_leq,binV_lss,binV_gtr,exEq_int,exEq_str,exPick_t,exPick_f,Bool.not_true,Bool.not_false,Bc_t,Bc_f,Nat.reducePow,Nat.reduceLT,Nat.reduceEqDiff,Nat.reduceAdd,if_false,reduceIte,and_self,exFa_ptr,putT_none,Nat.zero_add,Nat.add_zero,Nat.le_refl,exUn_not]
  rfl
 rintro t2 ⟨g5,g6,g7⟩
 refine WK.block (WK.loop_ind (fun m t' ds' H'=>ds'=[]∧H'=H∧∃ i:Nat,m=n-i∧i≤n∧t'.get 5=.slice (some ⟨b,o,none⟩) n c∧t'.get 6=vN n∧t'.get 7=vN i) ?_ n t2 [] H ⟨rfl,rfl,0,by omega,by omega,g5,g6,g7⟩)
 clear g5 g6 g7
 rintro m t3 ds H3 ⟨rfl,rfl,i,rfl,hi,g5,g6,g7⟩
 unfold zero_l7
 refine WK.seq (WK.reg_rr (fun t'=>t'.get 8=.bool (decide ((i:Int)<(n:Int)))∧Lo 8 t3 t') ?_ ?_)
 ·simp (config:={ maxSteps:=1000000 }) only [zero_r2,g6,g7,WOR,WOG,WOC,WOGk,WOCk,wants_none',wants_some,wantsV_U,wantsV_tt,wantsV_tf,wantsV_ft,wantsV_ff,run,evalO_tmp,evalO_const,evalO_func,evalL,callV_func,Rv_eq,Ro_some,ok_zero,true_and,and_true,get_putT (d:=4),exLen_str,binV_geq,binV_leq,binV_lss,binV_gtr,exEq_int,exEq_str,exPick_t,exPick_f,Bool.not_true,Bool.not_false,Bc_t,Bc_f,Nat.reducePow,Nat.reduceLT,Nat.reduceEqDiff,Nat.reduceAdd,if_false,reduceIte,and_self,exFa_ptr,putT_none,Nat.zero_add,Nat.add_zero,Nat.le_refl,exUn_not]
  intro j hj
  simp (disch:=omega) only [putT_lo (d:=4)]
 rintro t4 ⟨h8,hlo⟩
 have f5:=(hlo 5 (by omega)).trans g5
 have f6:=(hlo 6 (by omega)).trans g6
 have f7:=(hlo 7 (by omega)).trans g7
 by_cases hlt':i<n
 case neg =>
  refine WK.seq (WK.cond (v:=false) (by rw [evalO_tmp,h8,decide_eq_false (by omega)];rfl) (WK.exit ?_))
  show WK Tb0 sp e ⟨4,14,none,false⟩ _ t4 [] H3 _
  refine WK.seq (WK.reg_rr (fun t'=>t'.get 2=.bool true) ?_ ?_)
  ·simp (config:={ maxSteps:=1000000 }) only [zero_r8,WOR,WOG,WOC,WOGk,WOCk,wants_none',wants_some,wantsV_U,wantsV_tt,wantsV_tf,wantsV_ft,wantsV_ff,run,evalO_tmp,evalO_const,evalO_func,evalL,callV_func,Rv_eq,Ro_some,ok_zero,true_and,and_true,get_putT (d:=4),exLen_str,binV_geq,binV_leq,binV_lss,binV_gtr,exEq_int,exEq_str,exPick_t,exPick_f,Bool.not_true,Bool.not_false,Bc_t,Bc_f,Nat.reducePow,Nat.reduceLT,Nat.reduceEqDiff,Nat.reduceAdd,if_false,reduceIte,and_self,exFa_ptr,putT_none,Nat.zero_add,Nat.add_zero,Nat.le_refl,exUn_not]
  intro t5 h4
  refine WK.ret ⟨.inr rfl,rfl,[.bool true],0,?_,.zero _ _,rfl,rfl⟩
  show resL Tb0 14 t5 _ [.tmp 2]=_
  simp only [resL,h4];rfl
 refine WK.seq (WK.cond (v:=true) (by rw [evalO_tmp,h8,decide_eq_true (by omega)];rfl) (WK.skip ?_))
 have m1:exIaS 1 (.slice (some ⟨b,o,none⟩) n c) (vN i) H3=.val (.pointer (some ⟨b,o+i,none⟩)) H3 0 0:=by
  rw [exIaS_int (by omega) (by omega)];simp
 have m2:exLd1 (.pointer (some ⟨b,o+i,none⟩)) H3=.val (.int .u8 0) H3 (bit b) 0:=by
  show (match rd1 H3 b (o+i) with | some x=>R.val x H3 (bit b) 0 | none=>.fail)=_
  have:rd1 H3 b (o+i)=some (.int .u8 0):=by
   unfold rd1;rw [hb];simp only []
   rw [(blt_iff _ _).2 (by omega),Bc_t,hz (o+i) (by omega) (by omega)]
  rw [this]
 have m3:exEq true (.one .i) (.int .u8 0) (.int .u8 0) H3=.val (.bool false) H3 0 0:=rfl
 refine WK.seq (WK.block (WK.seq (WK.reg_rr (fun t'=>t'.get 4=.int .u8 0∧t'.get 5=.slice (some ⟨b,o,none⟩) n c∧t'.get 6=vN n∧t'.get 7=vN i) ?_ ?_)))
 ·simp (config:={ maxSteps:=1000000 }) only [zero_r3,f5,f6,f7,m1,m2,hok,WOR,WOG,WOC,WOGk,WOCk,wants_none',wants_some,wantsV_U,wantsV_tt,wantsV_tf,wantsV_ft,wantsV_ff,run,evalO_tmp,evalO_const,evalO_func,evalL,callV_func,Rv_eq,Ro_some,ok_zero,true_and,and_true,get_putT (d:=4),exLen_str,binV_geq,binV_leq,binV_lss,binV_gtr,exEq_int,exEq_str,exPick_t,exPick_f,Bool.not_true,Bool.not_false,Bc_t,Bc_f,Nat.reducePow,Nat.reduceLT,Nat.reduceEqDiff,Nat.reduceAdd,if_false,reduceIte,and_self,exFa_ptr,putT_none,Nat.zero_add,Nat.add_zero,Nat.le_refl,exUn_not]
 rintro t5 ⟨h4,f5,f6,f7⟩
 refine WK.seq (WK.reg_rr (fun t'=>t'.get 12=.bool false∧t'.get 5=.slice (some ⟨b,o,none⟩) n c∧t'.get 6=vN n∧t'.get 7=vN i) ?_ ?_)
 ·simp (config:={ maxSteps:=1000000 }) only [zero_r4,h4,f5,f6,f7,m3,WOR,WOG,WOC,WOGk,WOCk,wants_none',wants_some,wantsV_U,wantsV_tt,wantsV_tf,wantsV_ft,wantsV_ff,run,evalO_tmp,evalO_const,evalO_func,evalL,callV_func,Rv_eq,Ro_some,ok_zero,true_and,and_true,get_putT (d:=4),exLen_str,binV_geq,binV_leq,binV_lss,binV_gtr,exEq_int,exEq_str,exPick_t,exPick_f,Bool.not_true,Bool.not_false,Bc_t,Bc_f,Nat.reducePow,Nat.reduceLT,Nat.reduceEqDiff,Nat.reduceAdd,if_false,reduceIte,and_self,exFa_ptr,putT_none,Nat.zero_add,Nat.add_zero,Nat.le_refl,exUn_not]
 rintro t6 ⟨h12,f5,f6,f7⟩
 refine WK.cond (v:=false) (by rw [evalO_tmp,h12];rfl) (WK.skip ?_)
 show WK Tb0 sp e ⟨4,14,none,false⟩ (.reg zero_r6) t6 [] H3 _
 have hwr:wrapF .i64 ((i:Int)+1)=((i+1:Nat):Int):=by rw [wrapF_i64 (by omega) (by omega)];omega
 refine WK.reg_rr (fun t'=>t'.get 5=.slice (some ⟨b,o,none⟩) n c∧t'.get 6=vN n∧t'.get 7=vN (i+1:Nat)) ?_ ?_
 ·simp (config:={ maxSteps:=1000000 }) only [zero_r6,f5,f6,f7,binV_add,hwr,WOR,WOG,WOC,WOGk,WOCk,wants_none',wants_some,wantsV_U,wantsV_tt,wantsV_tf,wantsV_ft,wantsV_ff,run,evalO_tmp,evalO_const,evalO_func,evalL,callV_func,Rv_eq,Ro_some,ok_zero,true_and,and_true,get_putT (d:=4),exLen_str,binV_geq,binV_leq,binV_lss,binV_gtr,exEq_int,exEq_str,exPick_t,exPick_f,Bool.not_true,Bool.not_false,Bc_t,Bc_f,Nat.reducePow,Nat.reduceLT,Nat.reduceEqDiff,Nat.reduceAdd,if_false,reduceIte,and_self,exFa_ptr,putT_none,Nat.zero_add,Nat.add_zero,Nat.le_refl,exUn_not]
 rintro t7 ⟨d5,d6,d7⟩
 exact ⟨n-(i+1),by omega,rfl,rfl,i+1,rfl,by omega,d5,d6,d7⟩
end
end Go.Proofs.RS
end
