/-
 A part of the proof that pliantlaw15.RtsStacks returns true and leaves its arguments alone. Conditions: those of the card in the last text.
-/
import Derived.KernelRfl
import Derived.Test.YtgdejggelcpokaaGreatDoorG10
import Derived.Test.YtgdejggelcpokaaGreatDoorG11
import Derived.Test.YtgdejggelcpokaaGreatDoorG13
import Derived.Test.YtgdejggelcpokaaGreatDoorG15
import Derived.Test.YtgdejggelcpokaaGreatDoorG16
import Derived.Test.YtgdejggelcpokaaGreatDoorG18
import Derived.Test.YtgdejggelcpokaaGreatDoorG20
set_option linter.unusedSimpArgs false
set_option linter.unusedVariables false
set_option linter.unusedSectionVars false
noncomputable section
namespace Go.Proofs.RS
open Go Go.Ev Go.Proofs
open Go.RowKit (Below)
theorem lp_ok:LpOk Tryz.prog Tb0:=LpOk.none fun _ _=>rfl
theorem noEsc_run (x:Value) (W:World):(callFunc 198 #[x]).run Tryz.prog W=.ok (.value x) W:=by
 have h:=run_callFunc_extern (e:=Extern.AbiNoEscape.same) Tryz.func198 (by kernel_rfl) (by kernel_rfl) (by kernel_rfl) (by kernel_rfl) #[x] W
 rw [h];rfl
theorem sp_ok:SpOk Tryz.prog NG sp0:=by
 intro f args H v H' r w hw h
 unfold sp0 at h
 cases h0:Nat.beq f 153 with
 | true =>
  rw [h0,Bc_t] at h
  rw [(beq_iff _ _).1 h0]
  exact spZero_ok tb_ok lp_ok hw h
 | false =>
 rw [h0,Bc_f] at h
 cases h3:Nat.beq f 40 with
 | true =>
  rw [h3,Bc_t] at h
  rw [(beq_iff _ _).1 h3]
  exact spNew_ok tb_ok lp_ok hw h
 | false =>
 rw [h3,Bc_f] at h
 cases h1:Nat.beq f 198 with
 | true =>
  rw [h1,Bc_t] at h
  have hf:=(beq_iff _ _).1 h1
  rw [hf]
  exact spNoEsc_ok noEsc_run hw h
 | false =>
  rw [h1,Bc_f] at h
  cases h2:Nat.beq f 312 with
  | true =>
   rw [h2,Bc_t] at h
   have hf:=(beq_iff _ _).1 h2
   rw [hf]
   exact spMake_ok (ps:=Tryz.f312.params) (t:=45) (by kernel_rfl) Tryz.func312 (by kernel_rfl) (by kernel_rfl) (by kernel_rfl) (by kernel_rfl) h
  | false=>rw [h2,Bc_f] at h;cases h
theorem blk_pow (b:Nat):Hpow.blk b=if b=5 then g5 else .no:=by
 unfold Hpow
 rw [blk_mk]
 by_cases h:b<NG
 ·rw [if_pos h]
  have h':b<11:=h
  by_cases h5:b=5
  ·subst h5;rfl
  ·rw [if_neg h5]
   have:∀ k,k<11→k≠5→(T.set 20 (T.e Blk.no) 5 g5).get k=.no:=by
    intro k hk hne
    match k,hk with
    | 0,_=>rfl
    | 1,_=>rfl
    | 2,_=>rfl
    | 3,_=>rfl
    | 4,_=>rfl
    | 5,_=>exact absurd rfl hne
    | 6,_=>rfl
    | 7,_=>rfl
    | 8,_=>rfl
    | 9,_=>rfl
    | 10,_=>rfl
   exact this b h' h5
 ·rw [if_neg h,if_neg]
  rintro rfl
  exact h (by decide)
theorem g5_cells:∃ t,g5=.cells t 20 391 0 0 21∧∀ (i:Nat) v,pow10[i]?=some v→t.get i=v:=by
 obtain ⟨t,h1,h2⟩:=blkL_eq pow10 391 0
 refine ⟨t,?_,h2⟩
 show frB false 0 21 (blkL pow10 391 0)=_
 rw [h1];rfl
theorem pow10_int (i:Nat) (hi:i<20):∃ n,pow10[i]?=some (.int .u64 n):=by
 match i,hi with
 | 0,_=>exact ⟨_,rfl⟩
 | 1,_=>exact ⟨_,rfl⟩
 | 2,_=>exact ⟨_,rfl⟩
 | 3,_=>exact ⟨_,rfl⟩
 | 4,_=>exact ⟨_,rfl⟩
 | 5,_=>exact ⟨_,rfl⟩
 | 6,_=>exact ⟨_,rfl⟩
 | 7,_=>exact ⟨_,rfl⟩
 | 8,_=>exact ⟨_,rfl⟩
 | 9,_=>exact ⟨_,rfl⟩
 | 10,_=>exact ⟨_,rfl⟩
 | 11,_=>exact ⟨_,rfl⟩
 | 12,_=>exact ⟨_,rfl⟩
 | 13,_=>exact ⟨_,rfl⟩
 | 14,_=>exact ⟨_,rfl⟩
 | 15,_=>exact ⟨_,rfl⟩
 | 16,_=>exact ⟨_,rfl⟩
 | 17,_=>exact ⟨_,rfl⟩
 | 18,_=>exact ⟨_,rfl⟩
 | 19,_=>exact ⟨_,rfl⟩
 | i+20,h=>exact absurd h (by omega)
theorem g5_any {β β':Mp} {m:Bm} {W:World} (h:BOk β W g5 m):BOk β' W g5 m:=by
 obtain ⟨o,ho,hr⟩:=h
 obtain ⟨t,hg,ht⟩:=g5_cells
 rw [hg] at hr ⊢
 obtain ⟨cs,fr,h1,h2,h3,h4,h5,h6,h7⟩:=hr
 refine ⟨o,ho,cs,fr,h1,h2,h3,h4,h5,fun i hi=>?_,h7⟩
 obtain ⟨a,v',b,c⟩:=h6 i hi
 obtain ⟨n,hn⟩:=pow10_int i hi
 rw [ht i _ hn] at a c ⊢
 cases c
 exact ⟨a,_,b,.int _ _⟩
theorem sane_calls {β:Mp} {m:Bm} (hg:GRel NG β) (h5:β 5=some m) (W:World) (hb:BOk β W g5 m) (hd:∀ b m,β b=some m→m.rb<W.heap.size):Calls Tryz.prog 6 #[] W fun e W'=>e=.returned (.bool true)∧Below W.heap.size W W':=by
 obtain ⟨H',r,w,hev,hw⟩:=retTrue_inv sane_run
 let βp:Mp:=fun b=>if b<NG then β b else none
 have hgp:GRel NG βp:=fun g hlt=>by
  obtain ⟨m,h1,h2⟩:=hg g hlt
  exact ⟨m,by show (if g<NG then β g else none)=_;rw [if_pos hlt];exact h1,h2⟩
 have hal:∀ b,alive Hpow b→b=5:=fun b ha=>by
  have:=ha.2
  rw [blk_pow] at this
  by_cases e:b=5
  ·exact e
  ·rw [if_neg e] at this;exact absurd rfl this
 have p:Pre βp Hpow H' r w W:=by
  refine ⟨fun b _ ha=>?_,fun b c mb mc _ _ ha hc _ _ _=>by rw [hal b ha,hal c hc],fun b hb _=>?_,fun b m' e=>?_⟩
  ·have e:=hal b ha;subst e
   refine ⟨m,by show (if 5<NG then β 5 else none)=_;rw [if_pos (by decide)];exact h5,?_⟩
   rw [blk_pow,if_pos rfl]
   exact g5_any hb
  ·have hb':NG≤b:=hb
   show (if b<NG then β b else none)=none
   rw [if_neg (by omega)]
  ·have e':(if b<NG then β b else none)=some m':=e
   split at e'
   ·exact hd b m' e'
   ·cases e'
 refine (ev_calls tb_ok lp_ok sp_ok (args':=#[]) (H:=Hpow) (by show NG≤1048576;decide) hev (by kernel_rfl) hgp (LRel.nil _) p).mono fun e W' hR=>?_
 obtain ⟨β',v',rfl,hv,q⟩:=hR
 cases hv
 refine ⟨rfl,q.env.1,q.env.2.1,q.env.2.2,q.size,fun k hk=>?_⟩
 cases ho:W.heap[k]? with
 | none=>have:=Array.getElem?_eq_none_iff.1 ho;omega
 | some o =>
  exact q.frame k o ho fun b m hb hwb=>by
   have hb':b<NG:=hb
   rw [hw b hb'] at hwb;cases hwb
open Classical in
noncomputable def spSane (args:List Value) (H:Hp):Option (Value×Hp×Nat×Nat) :=
 if args=[]∧H.blk 5=g5 then some (.bool true,H,bit 5,0) else none
theorem spSane_at {H:Hp} (h:H.blk 5=g5):spSane [] H=some (.bool true,H,bit 5,0):=by
 unfold spSane;rw [if_pos ⟨rfl,h⟩]
theorem spSane_ok {args:List Value} {H:Hp} {v:Value} {H':Hp} {r w:Nat} (hw:H.wf) (h:spSane args H=some (v,H',r,w)):TaskOk Tryz.prog NG (.call 6 args) H (.k (.ret v H' r w)):=by
 unfold spSane at h
 split at h
 ·rename_i hc
  obtain ⟨rfl,h5⟩:=hc
  simp only [Option.some.injEq,Prod.mk.injEq] at h
  obtain ⟨rfl,rfl,rfl,rfl⟩:=h
  refine ⟨Can.refl hw,fun β W hg p=>?_⟩
  intro args' hl
  have e0:=hl.nil_inv
  have ea:args' = #[]:=by obtain ⟨l⟩:=args';simp at e0;subst e0;rfl
  subst ea
  have ha:alive H 5:=(alive_iff H 5).2 (by rw [h5];obtain ⟨t,hg,_⟩:=g5_cells;rw [hg];simp)
  obtain ⟨m,hm,hb⟩:=p.rel 5 (.inl ((bit_iff 5 5).2 rfl)) ha
  rw [h5] at hb
  refine .inl ⟨hasBody_inv tb_ok (by kernel_rfl) _ _,callsIn_wide.2 ((sane_calls hg hm W hb p.dom).mono fun e W' hR=>?_)⟩
  obtain ⟨rfl,hB⟩:=hR
  refine ⟨β,.bool true,rfl,.bool true,?_⟩
  refine ⟨Mp.le.refl _,(fun b m h h'=>by rw [h'] at h;cases h),fun b hb ha=>?_,fun rb o ho _=>?_,hB.size,fun b m e=>Nat.lt_of_lt_of_le (p.dom b m e) hB.size,(fun b m _ h h'=>by rw [h] at h';cases h'),fun b c mb mc hb _ ha=>?_,⟨hB.os,hB.tape,hB.output⟩⟩
  ·have:=ha.1
   rcases hb with hb | hb
   ·omega
   ·simp at hb
  ·have hlt:rb<W.heap.size:=by
    rcases Nat.lt_or_ge rb W.heap.size with h' | h'
    ·exact h'
    ·rw [Array.getElem?_eq_none h'] at ho;cases ho
   rw [hB.block rb hlt];exact ho
  ·have:=ha.1
   rcases hb with hb | hb
   ·omega
   ·simp at hb
 ·cases h
end Go.Proofs.RS
end
noncomputable section
namespace Go.Proofs.RS
open Go Go.Ev Go.Proofs
noncomputable def spL (f:Nat) (args:List Value) (H:Hp):Option (Value×Hp×Nat×Nat):=Bc (Nat.beq f 6) (spSane args H) (sp0 f args H)
theorem beq_no {a b:Nat} (h:a≠b):Nat.beq a b=false:=by
 cases hh:Nat.beq a b with
 | false=>rfl
 | true=>exact absurd ((beq_iff _ _).1 hh) h
structure SpK0 (sp:Nat→List Value→Hp→Option (Value×Hp×Nat×Nat)):Prop where
 no:∀ (f:Nat),f≠6∧f≠118∧f≠120∧f≠198∧f≠312∧f≠153∧f≠40→∀ args H,sp f args H=none
theorem spL_k:SpK0 spL:=⟨fun f h args H=>by obtain ⟨h1,_,_,h4,h5,h6,h7⟩:=h;unfold spL sp0;rw [beq_no h1,beq_no h4,beq_no h5,beq_no h6,beq_no h7];rfl⟩
theorem spL_ok:SpOk Tryz.prog NG spL:=by
 intro f args H v H' r w hw h
 unfold spL at h
 cases h1:Nat.beq f 6 with
 | true =>
  rw [h1,Bc_t] at h
  rw [(beq_iff _ _).1 h1]
  exact spSane_ok hw h
 | false=>rw [h1,Bc_f] at h;exact sp_ok f args H v H' r w hw h
end Go.Proofs.RS
end
noncomputable section
namespace Go.Ev
section
variable {tb:Tb} {sp:Nat→List Value→Hp→Option (Value×Hp×Nat×Nat)} {e:Env}
variable {cx:Cx} {t:T Value} {ds:List Deferred} {H:Hp} {K:Ex→T Value→List Deferred→Hp→Prop}
theorem kcomp_rangef {c:Code} {nt:Nat} {f:Operand} {ps:Array Tmp} {a b:Code} {ka kb:KC} (hc:kcomp tb nt c=.rangef f ps a b ka kb):c=.rangeFunc f ps a b∧kcomp tb nt a=ka∧kcomp tb nt b=kb:=by
 cases c <;> simp only [kcomp,reduceCtorEq,KC.rangef.injEq] at hc
 case rangeFunc f' ps' a' b' =>
  obtain ⟨rfl,rfl,rfl,rfl,rfl,rfl⟩:=hc
  exact ⟨rfl,rfl,rfl⟩
 all_goals first
  | (exfalso;revert hc;split <;> first | (intro hc;cases hc;done) | (generalize drawOk _ _=b;cases b <;> intro hc <;> cases hc))
  | (exfalso;revert hc;generalize okO tb nt _=b;cases b <;> intro hc <;> cases hc)
  | (exfalso;revert hc;generalize tb.hk nt _=b;cases b <;> intro hc <;> cases hc)
theorem WK.rangef {f:Operand} {ps:Array Tmp} {a b:Code} {ka kb:KC} {g:FuncId} {args:List Value} (hrn:cx.rnd=none) (hok:(okO tb cx.nt f && ps.toList.all (fun p=>Nat.blt p cx.nt))=true) (hf:H.isFn=true)
 (hcall:callV (evalO t f) [.func (.yield (H.nx+1)) #[] #[]]=.call g args) (hb:hasBody tb g=true) (hn:e.n0≤H.nx)
 (h:EC tb sp e g args ((H.push (.obj (.deferred (some [])))).push (.loop true none cx.nt t ps.toList a b H.nx)) fun _ H1 =>
  ∃ rd pd nt' t' ps' a' b' db' ex,H1.blk (H.nx+1)=.loop rd pd nt' t' ps' a' b' db'∧exOf rd pd=some ex∧K ex t ({ target:=.collected H.nx,args:=#[] }::ds) (H1.put (H.nx+1) .no)) :
 WK tb sp e cx (.rangef f ps a b ka kb) t ds H K:=by
 intro c hc
 obtain ⟨rfl,_,_⟩:=kcomp_rangef hc
 obtain ⟨N,v,H1,r,w,h1,h2,h3,rd,pd,nt',t',ps',a',b',db',ex,h4,h5,h6⟩:=h
 have hnx:H1.nx ≥ H.nx+2:=by
  rw [nx_push,nx_push] at h3;exact h3
 refine ⟨N,ex,t,_,_,r,Nat.lor w (bit (H.nx+1)),?_,?_,?_,h6⟩
 ·simp only [evCC,evRange,hrn]
  rw [hok,Bc_t,alloc1_room (fn_room hf)]
  simp only []
  rw [alloc1_room (fn_room (by rw [isFn_push];exact hf))]
  simp only [nx_push]
  rw [hcall]
  simp only []
  rw [hb,Bc_t,h1]
  simp only [afterRange]
  rw [h4]
  simp only []
  rw [h5]
 ·have h7:e.ok 0 (bit (H.nx+1)) H1:=.write (by omega) fun h=>by omega
  have h8:=h2.lor h7 (Nat.le_refl _)
  rw [lor_zero'] at h8
  exact ⟨h8.rd,h8.wr,fun b hb=>by rw [nx_put];exact h8.lt b hb⟩
 ·rw [nx_put];omega
def ER (tb:Tb) (sp:Nat→List Value→Hp→Option (Value×Hp×Nat×Nat)) (e:Env) (l:Nat) (args:List Value) (H:Hp) (K:Value→Hp→Prop):Prop :=
 ∃ N v H' r w,ev tb sp N (.round l args) H=.k (.ret v H' r w)∧e.ok r w H'∧H.nx≤H'.nx∧K v H'
theorem ER.mono {l:Nat} {args:List Value} {K K':Value→Hp→Prop} (h:ER tb sp e l args H K) (hk:∀ v H',H.nx≤H'.nx→K v H'→K' v H'):ER tb sp e l args H K' :=
 let ⟨N,v,H',r,w,h1,h2,h3,h4⟩:=h;⟨N,v,H',r,w,h1,h2,h3,hk _ _ h3 h4⟩
theorem WO.round {o:CO} {cos:List CO} {l:Nat} {args:List Value} {K:T Value→List Deferred→Hp→Prop} (hg:wants t o.guard=true) (hr:run o.op t H=.round l args)
 (h:ER tb sp e l args H fun v H1=>WO tb sp e cx cos (putT cx.d t o.dst v) ds H1 K):WO tb sp e cx (o::cos) t ds H K:=by
 obtain ⟨N1,v,H1,r1,w1,b1,a1,a2,N,t',ds',H',r,w,h1,h2,h3,h4⟩:=h
 refine ⟨max N1 N,t',ds',H',Nat.lor r1 r,Nat.lor w1 w,fun i acc r0 w0=>?_,a1.lor h2 h3,Nat.le_trans a2 h3,h4⟩
 simp only [evOps,hg,Bc_t,hr,stepR]
 rw [ev_up (Nat.le_max_left N1 N) b1 (fun h=>h)]
 simp only [afterCall]
 obtain ⟨acc',h5⟩:=h1 (Nat.succ i) ((i,r1,Nat.lor w1 (rng H H1))::acc) (Nat.lor r0 r1) (Nat.lor w0 w1)
 exact ⟨acc',by rw [evOps_up (Nat.le_max_right N1 N) h5,lor_assoc',lor_assoc']⟩
def jOf:Ex→Option (Option Code)
 | .normal=>some none
 | .ret=>some (some .ret)
 | .exit id=>some (some (.exit id))
 | .goto id=>some (some (.goto id))
 | .panic _=>none
theorem ER.intro {l nt db:Nat} {args:List Value} {lt:T Value} {ps:List Tmp} {a b:Code} {ka kb:KC} {K:Value→Hp→Prop} (hb:H.blk l=.loop true none nt lt ps a b db) (hps:setPs (dep nt) nt ps args lt=some t)
 (hka:kcomp tb nt a=ka) (hkb:kcomp tb nt b=kb) (hl:e.n0≤l) (hlt:l<H.nx)
 (h:WK tb sp e ⟨dep nt,nt,some l,false⟩ ka t [] H fun x t1 ds1 H1=>x=.normal∧ds1=[]∧H1.blk l=.loop true none nt lt ps a b db ∧
  WK tb sp e ⟨dep nt,nt,some l,false⟩ kb t1 [] (H1.put l (.loop false none nt lt ps a b db)) fun x t2 _ H2=>H2.blk l=.loop false none nt lt ps a b db ∧
   ∃ j,jOf x=some j∧K (.bool j.isNone) (H2.put l (.loop j.isNone j nt lt ps a b db))):ER tb sp e l args H K:=by
 obtain ⟨N1,x1,t1,ds1,H1,r1,w1,a1,a2,a3,rfl,rfl,a4,a5⟩:=h a hka
 obtain ⟨N2,x2,t2,ds2,H2,r2,w2,b1,b2,b3,b4,j,b5,b6⟩:=a5 b hkb
 rw [nx_put] at b3
 have hlt1:l<H1.nx:=by omega
 have hlt2:l<H2.nx:=by omega
 refine ⟨max N1 N2+1,_,_,Nat.lor (Nat.lor (bit l) r1) r2,Nat.lor (Nat.lor w1 (bit l)) (Nat.lor w2 (bit l)),?_,?_,by rw [nx_put];omega,b6⟩
 ·show evTask tb sp (ev tb sp (max N1 N2)) (.round l args) H=_
  simp only [evTask,evRound,hb]
  rw [hps]
  simp only []
  rw [evCC_up (Nat.le_max_left N1 N2) a1]
  simp only []
  rw [a4]
  simp only []
  rw [evCC_up (Nat.le_max_right N1 N2) b1]
  simp only [endRound]
  rw [b4]
  cases x2 <;> simp only [jOf,Option.some.injEq,reduceCtorEq] at b5 <;> subst b5 <;> rfl
 ·have c1:e.ok (bit l) 0 H:=.read hlt fun h=>by omega
  have c2:=c1.lor a2 a3
  have c3:e.ok 0 (bit l) H1:=.write hlt1 fun h=>by omega
  have c4:=c2.lor c3 (Nat.le_refl _)
  rw [lor_zero',zero_lor'] at c4
  have c5:e.ok r2 w2 H2:=b2
  have c6:e.ok 0 (bit l) H2:=.write hlt2 fun h=>by omega
  have c7:=c5.lor c6 (Nat.le_refl _)
  rw [lor_zero'] at c7
  have c8:=c4.lor c7 (by omega)
  exact ⟨c8.rd,c8.wr,fun b hb=>by rw [nx_put];exact c8.lt b hb⟩
def LeavesR (tb:Tb) (e:Env) (fn:Func) (K:Value→Hp→Prop):Ex→T Value→List Deferred→Hp→Prop:=fun x t ds H =>
 Leaves tb e fn K x t ds H∨((x=.normal∨x=.ret)∧∃ db,ds=[{ target:=.collected db,args:=#[] }]∧H.blk db=.obj (.deferred (some []))∧e.n0≤db∧db<H.nx ∧
  ∃ l r,resL tb fn.ntmps t (H.put db .no) fn.results.toList=some (l,r)∧e.ok r 0 (H.put db .no)∧K (resV l) (H.put db .no))
theorem EC.introR {f:FuncId} {fn:Func} {c:Code} {k:KC} {args:List Value} {K:Value→Hp→Prop} (hs:sp f args H=none) (hf:tb.fn f=some fn) (hb:fn.body=some c) (hk:kcomp tb fn.ntmps c=k) (hn:args.length≤fn.ntmps)
 (h:WK tb sp e (cxOf fn) k (enterT fn args) [] H (LeavesR tb e fn K)):EC tb sp e f args H K:=by
 obtain ⟨N,x,t,ds,H',r,w,h1,h2,h3,hx⟩:=h c hk
 have hn':=(ble_iff args.length fn.ntmps).2 hn
 rcases hx with ⟨hx,rfl,l,r2,h4,h5,h6⟩ | ⟨hx,db,rfl,hdb,hge,hlt,l,r2,h4,h5,h6⟩
 ·refine ⟨max N 1+1,resV l,H',Nat.lor r r2,Nat.lor w 0,?_,h2.lor h5 (Nat.le_refl _),h3,h6⟩
  show evTask tb sp (ev tb sp (max N 1)) (.call f args) H=_
  simp only [evTask,hs,evCall,hf,hb]
  rw [hn',Bc_t]
  have hu:ev tb sp (max N 1) (.unwind fn.ntmps fn.results.toList t [] .returning) H'=.k (.ret (resV l) H' r2 0):=by
   refine ev_up (Nat.le_max_right N 1) ?_ (fun h=>h)
   show evUnwind tb (ev tb sp 0) fn.ntmps fn.results.toList t [] .returning H'=_
   simp only [evUnwind,h4]
  have h1':=evCC_up (Nat.le_max_left N 1) h1
  show afterBody (ev tb sp (max N 1)) fn (evCC tb (ev tb sp (max N 1)) (cxOf fn) c (enterT fn args) [] H)=_
  rw [h1']
  rcases hx with rfl | rfl
  ·simp only [afterBody,hu,KR.join,Fz_eq]
  ·simp only [afterBody,hu,KR.join,Fz_eq]
 ·have hw2:e.ok 0 (bit db) H':=.write hlt fun h=>by omega
  have hw3:=h2.lor hw2 (Nat.le_refl _)
  rw [lor_zero'] at hw3
  have hw4:e.ok r (Nat.lor w (bit db)) (H'.put db .no):=⟨hw3.rd,hw3.wr,fun b hb=>by rw [nx_put];exact hw3.lt b hb⟩
  refine ⟨max N 2+1,resV l,H'.put db .no,Nat.lor r (Nat.lor 0 r2),Nat.lor w (Nat.lor (bit db) 0),?_,?_,by rw [nx_put];exact h3,h6⟩
  ·show evTask tb sp (ev tb sp (max N 2)) (.call f args) H=_
   simp only [evTask,hs,evCall,hf,hb]
   rw [hn',Bc_t]
   have hu1:ev tb sp 1 (.unwind fn.ntmps fn.results.toList t [] .returning) (H'.put db .no)=.k (.ret (resV l) (H'.put db .no) r2 0):=by
    show evUnwind tb (ev tb sp 0) fn.ntmps fn.results.toList t [] .returning (H'.put db .no)=_
    simp only [evUnwind,h4]
   have hu:ev tb sp (max N 2) (.unwind fn.ntmps fn.results.toList t [{ target:=.collected db,args:=#[] }] .returning) H'=.k (.ret (resV l) (H'.put db .no) (Nat.lor 0 r2) (Nat.lor (bit db) 0)):=by
    refine ev_up (Nat.le_max_right N 2) ?_ (fun h=>h)
    show evUnwind tb (ev tb sp 1) fn.ntmps fn.results.toList t [{ target:=.collected db,args:=#[] }] .returning H'=_
    simp only [evUnwind,hdb,hu1,KR.join,Fz_eq]
   have h1':=evCC_up (Nat.le_max_left N 2) h1
   show afterBody (ev tb sp (max N 2)) fn (evCC tb (ev tb sp (max N 2)) (cxOf fn) c (enterT fn args) [] H)=_
   rw [h1']
   rcases hx with rfl | rfl
   ·simp only [afterBody,hu,KR.join,Fz_eq]
   ·simp only [afterBody,hu,KR.join,Fz_eq]
  ·have:=hw4.lor h5 (Nat.le_refl _)
   rw [lor_zero'] at this
   rw [zero_lor',lor_zero']
   exact this
theorem EC.r2 {f:FuncId} {fn:Func} {c:Code} {k:KC} {a0 a1:Value} {K:Value→Hp→Prop} (hf:tb.fn f=some fn) (hb:fn.body=some c) (hk:kcomp tb fn.ntmps c=k) (hs:sp f [a0,a1] H=none) (hn:2≤fn.ntmps) (h:∀ t0:T Value,t0.get 0=a0→t0.get 1=a1→WK tb sp e (cxOf fn) k t0 [] H (LeavesR tb e fn K)):EC tb sp e f [a0,a1] H K:=EC.introR hs hf hb hk hn (h _ (enterT_get (args:=[a0,a1]) hn (by omega)) (enterT_get (args:=[a0,a1]) hn (by omega)))
end
theorem lst_eq {β:Mp} {xs ys:List Value} (h1:xs.length=ys.length) (h2:∀ (i:Nat) (v v':Value),xs[i]?=some v→ys[i]?=some v'→VRel β v v') (h:∀ v∈xs,∀ v',VRel β v v'→v'=v):ys=xs:=by
 apply List.ext_getElem?
 intro i
 by_cases hi:i<xs.length
 ·have e1:xs[i]?=some xs[i]:=List.getElem?_eq_getElem hi
  have e2:ys[i]?=some (ys[i]'(by omega)):=List.getElem?_eq_getElem (by omega)
  rw [e1,e2]
  exact congrArg some (h _ (List.getElem_mem hi) _ (h2 i _ _ e1 e2))
 ·rw [List.getElem?_eq_none (by omega),List.getElem?_eq_none (by omega)]
theorem VRel.flat_eq {β:Mp}:∀ (n:Nat) (v v':Value),flatV n v=true→VRel β v v'→v'=v:=by
 intro n
 induction n with
 | zero=>intro v v' h;simp [flatV] at h
 | succ n ih =>
  intro v v' h hv
  cases hv with
  | ptr b o m h'=>simp [flatV] at h
  | sl b o l c c' m h' hc=>simp [flatV] at h
  | slX b o s a'=>simp [flatV] at h
  | map b m h'=>simp [flatV] at h
  | yield l m h'=>simp [flatV] at h
  | func f xs ys cs cs' h1 h2 h3 h4 =>
   simp [flatV] at h
   obtain ⟨rfl,rfl⟩:=h
   have e1:ys=[]:=List.length_eq_zero_iff.1 (by simpa using h1.symm)
   have e2:cs'=[]:=List.length_eq_zero_iff.1 (by simpa using h3.symm)
   rw [e1,e2]
  | iface t v v' h'=>rw [ih v v' (by simpa [flatV] using h) h']
  | agg xs ys h0 h1 h2 =>
   have h':xs.all (fun v=>flatV n v && oneC v)=true:=by simpa [flatV] using h
   rw [lst_eq h1 h2 fun v hm v' hr=>ih v v' (by have:=List.all_eq_true.1 h' v hm;simp only [Bool.and_eq_true] at this;exact this.1) hr]
  | tuple xs ys h1 h2 =>
   have h':xs.all (flatV n)=true:=by simpa [flatV] using h
   rw [lst_eq h1 h2 fun v hm v' hr=>ih v v' (List.all_eq_true.1 h' v hm) hr]
  | _=>rfl
def E0 (ng:Nat):Hp:=.fn (fun _=>.no) ng
theorem E0_no (ng b:Nat):(E0 ng).blk b=.no:=by
 unfold E0
 show Bc (Nat.blt b ng) Blk.no Blk.no=Blk.no
 cases Nat.blt b ng <;> rfl
def retV (x:TR):Option Value:=match x with | .k (.ret v _ _ _)=>some v | _=>none
theorem retV_inv {x:TR} {v:Value} (h:retV x=some v):∃ H r w,x=.k (.ret v H r w):=by
 unfold retV at h
 split at h
 ·cases h;exact ⟨_,_,_,rfl⟩
 ·cases h
section
variable {P:Program} {tb:Tb} (ok:TbOk P tb) (hlp:LpOk P tb) {sp:Nat→List Value→Hp→Option (Value×Hp×Nat×Nat)} (hsp:SpOk P tb.ng sp)
include ok hlp hsp
theorem closed_ok {f:FuncId} {args:List Value} {v:Value} {H':Hp} {r w N:Nat} (h:ev tb sp N (.call f args) (E0 tb.ng)=.k (.ret v H' r w)) (ha:args.all (flatV 10)=true) (hv:flatV 10 v=true) {H:Hp} (hw:H.wf) :
 TaskOk P tb.ng (.call f args) H (.k (.ret v H 0 0)):=by
 have t:=ev_ok ok hlp hsp N (.call f args) (E0 tb.ng) trivial
 rw [h] at t
 refine ⟨Can.refl hw,fun β W hg p=>?_⟩
 intro args' hl
 have hdead:∀ b,¬ alive (E0 tb.ng) b:=fun b ha=>ha.2 (E0_no _ _)
 have hargs:args'.toList=args:=lst_eq hl.1 hl.2 fun v hm v' hr=>VRel.flat_eq 10 v v' (List.all_eq_true.1 ha v hm) hr
 let β0:Mp:=fun b=>if b<tb.ng then β b else none
 have hle:Mp.le β0 β:=fun b m e=>by
  have e':(if b<tb.ng then β b else none)=some m:=e
  split at e'
  ·exact e'
  ·cases e'
 have g0:GRel tb.ng β0:=fun g hlt=>by
  obtain ⟨m,e1,e2⟩:=hg g hlt
  exact ⟨m,by show (if g<tb.ng then β g else none)=_;rw [if_pos hlt];exact e1,e2⟩
 have p0:Pre β0 (E0 tb.ng) H' r w W:=by
  refine ⟨fun b _ ha=>absurd ha (hdead b),fun b c mb mc _ _ ha=>absurd ha (hdead b),fun b h1 _=>?_,fun b m e=>p.dom b m (hle b m e)⟩
  have h1':tb.ng≤b:=h1
  show (if b<tb.ng then β b else none)=none
  rw [if_neg (by omega)]
 have hl0:LRel β0 args args'.toList:=by
  rw [hargs]
  refine ⟨rfl,fun i v v' h1 h2=>?_⟩
  rw [h1] at h2;cases h2
  exact VRel.flat β0 10 v (List.all_eq_true.1 ha v (List.mem_of_getElem? h1))
 have hpost:∀ e W',RetP β0 (E0 tb.ng) H' w W v e W'→RetP β H H 0 W v e W':=by
  rintro e W' ⟨β',v',rfl,h2,q⟩
  have e1:=VRel.flat_eq 10 v v' hv h2
  subst e1
  refine ⟨β,v',rfl,VRel.flat β 10 _ hv,.refl _,fun b m h1 h2=>?_,fun b h1 h2=>?_,fun rb o h1 _=>q.frame rb o h1 fun b m h3 h4 h5=>?_,q.size,fun b m e=>Nat.lt_of_lt_of_le (p.dom b m e) q.size,fun b m h1 h2 h3=>?_,fun b c mb mc h1 h2 h3 h4=>?_,q.env⟩
  ·rw [h1] at h2;cases h2
  ·rcases h1 with h1 | h1
   ·have:=h2.1;omega
   ·simp at h1
  ·have hc:Can (E0 tb.ng) H' w:=t.1
   exact absurd (hc.wal b h3 h4) (hdead b)
  ·rw [h3] at h2;cases h2
  ·rcases h1 with h1 | h1
   ·have:=h3.1;omega
   ·simp at h1
 rcases t.2 β0 W g0 p0 args' hl0 with ⟨h1,h2⟩ | ⟨x,W',h1,hR⟩
 ·exact .inl ⟨h1,callsIn_wide.2 ((callsIn_wide.1 h2).mono hpost)⟩
 ·exact .inr ⟨x,W',h1,hpost _ _ hR⟩
end
end Go.Ev
end
