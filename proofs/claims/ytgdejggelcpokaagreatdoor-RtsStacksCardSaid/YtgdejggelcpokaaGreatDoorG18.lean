/-
 A part of the proof that pliantlaw15.RtsStacks returns true and leaves its arguments alone. Conditions: those of the card in the last text.
-/
import Derived.Test.YtgdejggelcpokaaGreatDoorG16
import Derived.Test.YtgdejggelcpokaaGreatDoorG17
set_option linter.unusedSimpArgs false
set_option linter.unusedVariables false
set_option linter.unusedSectionVars false
noncomputable section
namespace Go.Ev
def SameBlk (x y:Blk):Prop:=x=y∨∃ t1 t2 n ty op lo hi,x=.cells t1 n ty op lo hi∧y=.cells t2 n ty op lo hi∧∀ i,i<n→t1.get i=t2.get i
theorem SameBlk.orel {x y:Blk} (h:SameBlk x y) {β:Mp} {m:Bm} {o:Obj} (hr:ORel β m x o):ORel β m y o:=by
 rcases h with rfl | ⟨t1,t2,n,ty,op,lo,hi,rfl,rfl,hg⟩
 ·exact hr
 ·obtain ⟨cs,fr,h1,h2,h3,h4,h5,h6,h7⟩:=hr
  exact ⟨cs,fr,h1,h2,h3,h4,h5,fun i hi=>by rw [← hg i hi];exact h6 i hi,h7⟩
theorem SameBlk.dead {x y:Blk} (h:SameBlk x y):x=.no↔y=.no:=by
 rcases h with rfl | ⟨t1,t2,n,ty,op,lo,hi,rfl,rfl,hg⟩
 ·exact Iff.rfl
 ·exact ⟨fun h=>(by cases h),fun h=>(by cases h)⟩
theorem Post.same {β β':Mp} {H H1 H2:Hp} {w:Nat} {W W':World} (q:Post β β' H H1 w W W') (hn:H2.nx=H1.nx) (hb:∀ b,SameBlk (H1.blk b) (H2.blk b)):Post β β' H H2 w W W':=by
 have ha:∀ b,alive H2 b↔alive H1 b:=fun b=>by
  rw [alive_iff,alive_iff]
  exact not_congr (hb b).dead.symm
 refine ⟨q.le,fun b m h1 h2=>by rw [hn];exact q.only b m h1 h2,fun b h1 h2=>?_,q.frame,q.size,q.dom,fun b m h1 h2 h3=>?_,fun b c mb mc h1 h2 h3 h4=>q.inj b c mb mc h1 h2 ((ha b).1 h3) ((ha c).1 h4),q.env⟩
 ·obtain ⟨m,e,o,ho,hr⟩:=q.rel b h1 ((ha b).1 h2)
  exact ⟨m,e,o,ho,(hb b).orel hr⟩
 ·rcases q.new b m h1 h2 h3 with h | ⟨c,mc,a1,a2,a3,a4,a5⟩
  ·exact .inl h
  ·exact .inr ⟨c,mc,a1,a2,a3,a4,fun h=>a5 ((ha c).1 h)⟩
section
variable {P:Program} {tb:Tb} (ok:TbOk P tb) (hlp:LpOk P tb) {sp:Nat→List Value→Hp→Option (Value×Hp×Nat×Nat)} (hsp:SpOk P tb.ng sp)
include ok hlp hsp
theorem ec_task {f:FuncId} {args:List Value} {H H2:Hp} {v:Value} {b:Nat} (hw:H.wf) {K:Value→Hp→Prop} (h:EC tb sp ⟨H.nx,fun c=>c=b,fun _=>False⟩ f args H K)
 (hK:∀ v' H',K v' H'→v'=v∧Can H H2 0∧H2.nx=H'.nx∧∀ b,SameBlk (H'.blk b) (H2.blk b)) :
 ∃ r w,TaskOk P tb.ng (.call f args) H (.k (.ret v H2 r w))∧(∀ c,c<H.nx→r.testBit c=true→c=b)∧(∀ c,c<H.nx→w.testBit c=false):=by
 obtain ⟨N,v',H',r,w,hev,hok,hn,hk⟩:=h
 obtain ⟨rfl,hcan,hnx,hs⟩:=hK _ _ hk
 have t:=ev_ok ok hlp hsp N (.call f args) H hw
 rw [hev] at t
 have hwl:∀ c,c<H.nx→w.testBit c=false:=fun c hc=>by
  cases hh:w.testBit c with
  | false=>rfl
  | true=>exact (hok.wr c hc hh).elim
 refine ⟨r,w,⟨⟨hcan.wf,hcan.mono,fun c h1 h2=>hcan.keep c h1 (by simp),fun c h1 h2=>by rw [hwl c h1] at h2;cases h2⟩,fun β W hg p=>?_⟩,fun c hc hh=>hok.rd c hc hh,hwl⟩
 intro args' hl
 have p':Pre β H H' r w W:=⟨p.rel,p.inj,fun c h1 h2=>p.fresh c h1 (by rw [hnx];exact h2),p.dom⟩
 rcases t.2 β W hg p' args' hl with ⟨h1,h2⟩ | ⟨x,W',h1,β',y,h2,h3,h4⟩
 ·refine .inl ⟨h1,callsIn_wide.2 ((callsIn_wide.1 h2).mono fun e W' hR=>?_)⟩
  obtain ⟨β',y,h2,h3,h4⟩:=hR
  exact ⟨β',y,h2,h3,h4.same hnx hs⟩
 ·exact .inr ⟨x,W',h1,β',y,h2,h3,h4.same hnx hs⟩
omit ok hlp hsp in
theorem TaskOk.more {ng:Nat} {f:FuncId} {args:List Value} {H H':Hp} {v:Value} {r w r':Nat} (h:TaskOk P ng (.call f args) H (.k (.ret v H' r w))) (hr:∀ c,alive H c→r.testBit c=true→r'.testBit c=true) (hw:∀ c,c<H.nx→w.testBit c=false) (hcan:Can H H' 0) :
 TaskOk P ng (.call f args) H (.k (.ret v H' r' 0)):=by
 refine ⟨hcan,fun β W hg p=>?_⟩
 intro args' hl
 have p':Pre β H H' r w W:=by
  refine ⟨fun b hb ha=>p.rel b ?_ ha,fun b c mb mc h1 h2 ha=>?_,p.fresh,p.dom⟩
  ·rcases hb with hb | hb
   ·exact .inl (hr b ha hb)
   ·rw [hw b ha.1] at hb;cases hb
  ·rw [hw b ha.1] at h1;cases h1
 have fin:∀ {e W'},RetP β H H' w W v e W'→RetP β H H' 0 W v e W':=fun {e W'} hR=>by
  obtain ⟨β',y,h2,h3,q⟩:=hR
  refine ⟨β',y,h2,h3,⟨q.le,q.only,fun b hb ha=>q.rel b (hb.imp id fun h=>by simp at h) ha,fun rb o h1 h2=>q.frame rb o h1 fun b m hb hwb=>?_,q.size,q.dom,fun b m h1 h2 h3=>?_,fun b c mb mc h1 h2=>q.inj b c mb mc (h1.imp id fun h=>by simp at h) (h2.imp id fun h=>by simp at h),q.env⟩⟩
  ·rw [hw b hb] at hwb;cases hwb
  ·rcases q.new b m h1 h2 h3 with h | ⟨c,mc,a1,a2,_⟩
   ·exact .inl h
   ·rw [hw c a1] at a2;cases a2
 rcases h.2 β W hg p' args' hl with ⟨h1,h2⟩ | ⟨x,W',h1,h2⟩
 ·exact .inl ⟨h1,callsIn_wide.2 ((callsIn_wide.1 h2).mono fun e W' hR=>fin hR)⟩
 ·exact .inr ⟨x,W',h1,fin h2⟩
end
end Go.Ev
namespace Go.Proofs.RS
open Go Go.Ev Go.Proofs
def spNo:Nat→List Value→Hp→Option (Value×Hp×Nat×Nat):=fun _ _ _=>none
theorem spNo_ok (P:Program) (ng:Nat):SpOk P ng spNo:=fun f args H v H' r w _ h=>by cases h
theorem spZero_ok {P:Program} (ok:TbOk P Tb0) (hlp:LpOk P Tb0) {args:List Value} {H H':Hp} {v:Value} {r w:Nat} (hw:H.wf) (h:spZero args H=some (v,H',r,w)):TaskOk P NG (.call 153 args) H (.k (.ret v H' r w)):=by
 unfold spZero at h
 split at h
 ·rename_i b o n c
  split at h
  ·rename_i t k ty op lo hi hb
   cases hc:(Nat.ble (o+n) k && Nat.blt n 4294967296) with
   | false=>rw [hc,Bc_f] at h;cases h
   | true =>
    rw [hc,Bc_t] at h
    cases hz:zeros t n o with
    | false=>rw [hz,Bc_f] at h;cases h
    | true =>
     rw [hz,Bc_t] at h
     simp only [Option.some.injEq,Prod.mk.injEq] at h
     obtain ⟨rfl,rfl,rfl,rfl⟩:=h
     simp only [Bool.and_eq_true,ble_iff,blt_iff] at hc
     obtain ⟨r,w,ht,hr,hwl⟩:=ec_task (H2:=H) (v:=.bool true) ok hlp (spNo_ok P Tb0.ng) hw (zero_ok (e:=⟨H.nx,fun c=>c=b,fun _=>False⟩) (fun _ _=>rfl) hb hc.1 hc.2 (zeros_get t n o hz) (fun _=>rfl))
      fun v' H' hk=>⟨hk.1,Can.refl hw,by rw [hk.2],fun b=>by rw [hk.2];exact .inl rfl⟩
     exact ht.more (fun c ha hh=>(bit_iff b c).2 (hr c ha.1 hh)) hwl (Can.refl hw)
  ·cases h
 ·cases h
theorem room_box {H:Hp} (hr:H.room=true) (vs:List Value) (ty:Nat):exFill (cellsO (.agg ⟨vs⟩)) (fun l=>alloc1 (blkL l ty 0) H ptrTo 0 0)=.val (.pointer (some ⟨H.nx,0,none⟩)) (H.push (blkL vs ty 0)) 0 0:=alloc1_room hr _ _ _ _
section
variable {sp:Nat→List Value→Hp→Option (Value×Hp×Nat×Nat)} {e:Env}
set_option maxRecDepth 10000 in
theorem lnew_ok (hs:∀ args H,sp 40 args H=none) {H:Hp} (hr:H.room=true):EC Tb0 sp e 40 [] H fun v H'=>v=.pointer (some ⟨H.nx,0,none⟩)∧H'=H.push (blkL zMem 171 0):=by
 refine EC.intro (fn:=Tryz.f40) (c:=(Tryz.f40.body).getD .skip) (hs _ _) (by rfl) rfl lnew_comp (by show 0≤3;decide) ?_
 generalize enterT Tryz.f40 []=t0
 show WK Tb0 sp e ⟨2,3,none,false⟩ _ t0 [] H _
 have hb:=room_box hr zMem 171
 have hf:∀ (t:T Value) (k:List Value→R),exFill (fillL t zMem []) k=k zMem:=fun _ _=>rfl
 have hnx:H.nx≤(H.push (blkL zMem 171 0)).nx:=by rw [nx_push];omega
 refine WK.seq (WK.reg_rr (fun t'=>True) ?_ ?_)
 ·simp (config:={ maxSteps:=1000000 }) only [WOR,WOG,WOC,WOGk,WOCk,wants_none',wants_some,wantsV_U,wantsV_tt,wantsV_tf,wantsV_ft,wantsV_ff,run,evalO_tmp,evalO_const,evalO_func,evalL,callV_func,Rv_eq,Ro_some,ok_zero,true_and,and_true,get_putT (d:=2),exLen_str,binV_geq,binV_leq,binV_lss,binV_gtr,exEq_int,exEq_str,exPick_t,exPick_f,Bool.not_true,Bool.not_false,Bc_t,Bc_f,Nat.reducePow,Nat.reduceLT,Nat.reduceEqDiff,Nat.reduceAdd,if_false,reduceIte,and_self,exFa_ptr,putT_none,Nat.zero_add,Nat.add_zero,Nat.le_refl,exUn_not]
 intro t1 _
 refine WK.seq (WK.reg_gg (fun t' H'=>t'.get 0=.pointer (some ⟨H.nx,0,none⟩)∧H'=H.push (blkL zMem 171 0)) ?_ ?_)
 ·simp (config:={ maxSteps:=1000000 }) only [hb,hf,hnx,WOR,WOG,WOC,WOGk,WOCk,wants_none',wants_some,wantsV_U,wantsV_tt,wantsV_tf,wantsV_ft,wantsV_ff,run,evalO_tmp,evalO_const,evalO_func,evalL,callV_func,Rv_eq,Ro_some,ok_zero,true_and,and_true,get_putT (d:=2),exLen_str,binV_geq,binV_leq,binV_lss,binV_gtr,exEq_int,exEq_str,exPick_t,exPick_f,Bool.not_true,Bool.not_false,Bc_t,Bc_f,Nat.reducePow,Nat.reduceLT,Nat.reduceEqDiff,Nat.reduceAdd,if_false,reduceIte,and_self,exFa_ptr,putT_none,Nat.zero_add,Nat.add_zero,Nat.le_refl,exUn_not]
 rintro t2 H2 ⟨g0,rfl⟩
 refine WK.ret ⟨.inr rfl,rfl,[.pointer (some ⟨H.nx,0,none⟩)],0,?_,.zero _ _,rfl,rfl⟩
 show resL Tb0 3 t2 _ [.tmp 0]=_
 simp only [resL,g0];rfl
end
theorem spNew_ok {P:Program} (ok:TbOk P Tb0) (hlp:LpOk P Tb0) {args:List Value} {H H':Hp} {v:Value} {r w:Nat} (hw:H.wf) (h:spNew args H=some (v,H',r,w)):TaskOk P NG (.call 40 args) H (.k (.ret v H' r w)):=by
 unfold spNew at h
 split at h
 ·rw [alloc1_eq] at h
  by_cases hr:H.room=true
  case neg=>rw [if_neg hr] at h;cases h
  rw [if_pos hr] at h
  simp only [Option.some.injEq,Prod.mk.injEq] at h
  obtain ⟨rfl,rfl,rfl,rfl⟩:=h
  have hc:Go.Ev.Can H (H.push (.cells (.e (.int .u8 0)) 65536 171 0 0 0)) 0:=can_push hr
  obtain ⟨r,w,ht,h1,hwl⟩:=ec_task (b:=H.nx) (H2:=H.push (.cells (.e (.int .u8 0)) 65536 171 0 0 0)) (v:=.pointer (some ⟨H.nx,0,none⟩)) ok hlp (spNo_ok P Tb0.ng) hw (lnew_ok (e:=⟨H.nx,fun c=>c=H.nx,fun _=>False⟩) (fun _ _=>rfl) hr)
   fun v' H' hk=>⟨hk.1,hc,by rw [hk.2,nx_push,nx_push],fun b=>by
    rw [hk.2,blk_push _ hr,blk_push _ hr]
    by_cases hb:b=H.nx
    ·rw [if_pos hb,if_pos hb]
     obtain ⟨t,h1,h2⟩:=blkL_eq zMem 171 0
     rw [h1]
     have hl:zMem.length=65536:=by rw [zMem_eq,List.length_replicate]
     rw [hl]
     refine .inr ⟨t,_,_,_,_,_,_,rfl,rfl,fun i hi=>h2 i _ ?_⟩
     rw [zMem_eq,List.getElem?_replicate,if_pos hi];rfl
    ·rw [if_neg hb,if_neg hb];exact .inl rfl⟩
  exact ht.more (fun c ha hh=>absurd (h1 c ha.1 hh) (Nat.ne_of_lt ha.1)) hwl hc
 ·cases h
end Go.Proofs.RS
end
