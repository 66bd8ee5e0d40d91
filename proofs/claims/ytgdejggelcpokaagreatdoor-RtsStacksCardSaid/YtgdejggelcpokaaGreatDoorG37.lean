/-
 A part of the proof that pliantlaw15.RtsStacks returns true and leaves its arguments alone. Conditions: those of the card in the last text.
-/
import Derived.KernelRfl
import Derived.Test.YtgdejggelcpokaaGreatDoorG10
import Derived.Test.YtgdejggelcpokaaGreatDoorG11
import Derived.Test.YtgdejggelcpokaaGreatDoorG36
set_option linter.unusedSimpArgs false
set_option linter.unusedVariables false
set_option linter.unusedSectionVars false
noncomputable section
namespace Go.Proofs.RS
open Go Go.Ev Go.Proofs
theorem rdB_row {H:Hp} {b ty op:Nat} {L:List Value} (h:rdB (H.blk b)=some (L,ty,op,0,0)):Row H b ty op L:=by
 unfold rdB at h
 split at h
 ·rename_i t n ty' op' lo hi hb
  simp only [Option.some.injEq,Prod.mk.injEq] at h
  obtain ⟨rfl,rfl,rfl,rfl,rfl⟩:=h
  refine ⟨t,by rw [hb,rdL_len],fun i v hv=>?_⟩
  have hi:i<(rdL t n 0).length:=by
   rcases Nat.lt_or_ge i (rdL t n 0).length with h' | h'
   ·exact h'
   ·rw [List.getElem?_eq_none h'] at hv;cases hv
  rw [rdL_len] at hi
  rw [rdL_get t n 0 i hi,Nat.zero_add] at hv
  exact Option.some.inj hv
 ·cases h
theorem wOk_ok {n0:Nat} {x:TR} (h:wOk n0 x=true) {v:Value} {H:Hp} {r w:Nat} (e:x=.k (.ret v H r w)):(envS n0).ok r w H:=by
 subst e
 simp only [wOk,Bool.and_eq_true] at h
 obtain ⟨⟨h1,h2⟩,h3⟩:=h
 have h1':Nat.land w (2 ^ n0-1)=0:=(beq_iff _ _).1 h1
 have h2':r<2 ^ H.nx:=(blt_iff _ _).1 h2
 have h3':w<2 ^ H.nx:=(blt_iff _ _).1 h3
 refine ⟨fun _ _ _=>trivial,fun b hb hw=>?_,fun b hb=>?_⟩
 ·have h4:(w &&& (2 ^ n0-1)).testBit b=(0:Nat).testBit b:=by
   show (Nat.land w (2 ^ n0-1)).testBit b=_
   rw [h1']
  rw [Nat.testBit_and,Nat.testBit_two_pow_sub_one,hw] at h4
  simp at h4
  have hb':b<n0:=hb
  omega
 ·rcases Nat.lt_or_ge b H.nx with h | h
  ·exact h
  ·have hlt:∀ z,z<2 ^ H.nx→z.testBit b=false:=fun z hz=>Nat.testBit_lt_two_pow (Nat.lt_of_lt_of_le hz (Nat.pow_le_pow_right (by decide) h))
   rcases hb with hb | hb
   ·rw [hlt r h2'] at hb;cases hb
   ·rw [hlt w h3'] at hb;cases hb
theorem EC.of_run {tb:Tb} {sp:Nat→List Value→Hp→Option (Value×Hp×Nat×Nat)} {N n0:Nat} {f:FuncId} {args:List Value} {H:Hp} {v:Value} {H':Hp} {r w:Nat} {K:Value→Hp→Prop} (h:ev tb sp N (.call f args) H=.k (.ret v H' r w)) (hok:wOk n0 (ev tb sp N (.call f args) H)=true) (hn:H.nx≤H'.nx) (hK:K v H'):EC tb sp (envS n0) f args H K :=
 ⟨N,v,H',r,w,h,wOk_ok hok h,hn,hK⟩
theorem EC.of_sp {tb:Tb} {sp:Nat→List Value→Hp→Option (Value×Hp×Nat×Nat)} {e:Env} {f:FuncId} {args:List Value} {H:Hp} {v:Value} {H':Hp} {r w:Nat} {K:Value→Hp→Prop} (h:sp f args H=some (v,H',r,w)) (hok:e.ok r w H') (hn:H.nx≤H'.nx) (hK:K v H'):EC tb sp e f args H K :=
 ⟨1,v,H',r,w,by show evTask tb sp (ev tb sp 0) (.call f args) H=_;simp only [evTask,h],hok,hn,hK⟩
structure Start (H7 hA hB hC hD hE H8 hM:Hp) (r7 w7 r8 w8:Nat):Prop where
 run7:ev Tb0 spL 1000 (.call 7 []) H0=.k (.ret (.tuple #[pV,inV]) H7 r7 w7)
 ok7:wOk 13 (ev Tb0 spL 1000 (.call 7 []) H0)=true
 nx7:H7.nx=23
 alA:alloc1 (blkL [.slice none 0 0,.int .i64 (0),.slice none 0 0,.slice none 0 0,.slice none 0 0,.slice none 0 0] 29 0) H7 ptrTo 0 0=.val (.pointer (some ⟨23,0,none⟩)) hA 0 0
 alB:alloc1 (blkL [.slice none 0 0,.slice none 0 0,.int .i64 (0)] 32 0) hA ptrTo 0 0=.val (.pointer (some ⟨24,0,none⟩)) hB 0 0
 stC:exSt 6 (.pointer (some ⟨23,0,none⟩)) pV hB=.val U hC 0 (bit 23)
 stD:exSt 3 (.pointer (some ⟨24,0,none⟩)) inV hC=.val U hD 0 (bit 24)
 ldD:exLd1 (.pointer (some ⟨24,1,none⟩)) hD=.val (.slice (some ⟨22,0,none⟩) 2 4) hD (bit 24) 0
 stE:exSt 1 (.pointer (some ⟨22,1,none⟩)) (.slice none 0 0) hD=.val U hE 0 (bit 22)
 ldE:exLdN 6 (.pointer (some ⟨23,0,none⟩)) hE=.val pV hE (bit 23) 0
 ldF:exLdN 3 (.pointer (some ⟨24,0,none⟩)) hE=.val inV hE (bit 24) 0
 nxs:hA.nx=24∧hB.nx=25∧hC.nx=25∧hD.nx=25∧hE.nx=25
 run8:ev Tb0 spL 100000 (.call 8 [pV,inV]) hE=.k (.ret (.tuple #[.pointer (some ⟨76,0,none⟩),.int .i64 0]) H8 r8 w8)
 mM:hM=H8.push (.obj (.map #[] 0))
 look:(wOk 13 (ev Tb0 spL 100000 (.call 8 [pV,inV]) hE),H8.nx,hM.isFn,(List.range 13).map hM.blk,[76,93,95,80,79,89].map fun b=>rdB (hM.blk b))=(true,101,true,(List.range 13).map H0.blk,[some (stL,104,0,0,0),some ([.pointer (some ⟨80,0,none⟩),.pointer none],108,2,0,0),some ([.pointer none,.pointer (some ⟨89,0,none⟩)],109,2,0,0),
  some ([vN 2,.pointer (some ⟨79,0,none⟩)],117,0,0,0),some ([vS [],vN 0],176,0,0,0),some ([vN 3,.slice none 0 0,vS []],120,0,0,0)])
set_option maxRecDepth 100000 in
theorem start  : Start (trH (T7)) (hA) (hB) (hC) (hD) (hE) (trH (T8)) (hM) (trR (T7)) (trW (T7)) (trR (T8)) (trW (T8)) :=
 @Start.mk (trH (T7)) (hA) (hB) (hC) (hD) (hE) (trH (T8)) (hM) (trR (T7)) (trW (T7)) (trR (T8)) (trW (T8))
  run7 ok7 nx7 alA alB stC stD ldD stE ldE ldF nxs run8 mM8 look8
end Go.Proofs.RS
end
noncomputable section
namespace Go.Ev
open Go.Proofs.RS
def mOk (n0 r w:Nat) (H H':Hp):Bool:=Nat.beq (Nat.land w (Nat.sub (Nat.pow 2 n0) 1)) 0 && Nat.blt r (Nat.pow 2 H'.nx) && Nat.blt w (Nat.pow 2 H'.nx) && Nat.ble H.nx H'.nx
theorem mOk_ok {n0 r w:Nat} {H H':Hp} (h:mOk n0 r w H H'=true):(envS n0).ok r w H'∧H.nx≤H'.nx:=by
 simp only [mOk,Bool.and_eq_true] at h
 obtain ⟨⟨⟨h1,h2⟩,h3⟩,h4⟩:=h
 exact ⟨wOk_ok (x:=.k (.ret U H' r w)) (v:=U) (by simp only [wOk,h1,h2,h3];rfl) rfl,(ble_iff _ _).1 h4⟩
def runL (d:Nat):List CO→T Value→Hp→Option (T Value×Hp×Nat×Nat)
 | [],t,H=>some (t,H,0,0)
 | o::cos,t,H=>(match wants t o.guard with
  | false=>runL d cos (putT d t o.dst U) H
  | true=>(match run o.op t H with
   | .val v H' r w=>(match runL d cos (putT d t o.dst v) H' with
    | some (t2,H2,r2,w2)=>some (t2,H2,Nat.lor r r2,Nat.lor w w2)
    | none=>none)
   | _=>none))
structure HoleS where
 t:T Value
 ds:List Deferred
 H:Hp
 f:FuncId
 args:List Value
 o:CO
 B:List CO
 pend:List Code
section
variable (tb:Tb) (rec:Rec) (n0:Nat) (cx:Cx)
def goH:List Bool→Code→T Value→List Deferred→Hp→List Code→Option (Code×T Value×List Deferred×Hp×List Code)
 | [],c,t,ds,H,pend=>some (c,t,ds,H,pend)
 | false::p,c,t,ds,H,pend=>(match c with
  | .seq a b=>goH p a t ds H (b::pend)
  | _=>none)
 | true::p,c,t,ds,H,pend=>(match c with
  | .seq a b=>(match evCC tb rec cx a t ds H with
   | .mk .normal t' ds' H' r w=>Bc (mOk n0 r w H H') (goH p b t' ds' H' pend) none
   | _=>none)
  | _=>none)
def holeR (j:Nat) (x:Option (Code×T Value×List Deferred×Hp×List Code)):Option HoleS:=match x with
 | some (.region _ ops false,t,ds,H,pend)=>(match (compOs tb cx.nt ops ops.toList).drop j with
  | o::B=>(match runL cx.d ((compOs tb cx.nt ops ops.toList).take j) t H with
   | some (t',H',r,w)=>Bc (mOk n0 r w H H' && wants t' o.guard) (match run o.op t' H' with
    | .call f args=>some ⟨t',ds,H',f,args,o,B,pend⟩
    | _=>none) none
   | none=>none)
  | []=>none)
 | _=>none
def unwH (fn:Func) (t:T Value) (ds:List Deferred) (H:Hp):Option (Value×Hp):=match rec (.unwind fn.ntmps fn.results.toList t ds .returning) H with
 | .k (.ret v H' r w)=>Bc (mOk n0 r w H H') (some (v,H')) none
 | _=>none
def pendH (fn:Func):List Code→T Value→List Deferred→Hp→Option (Value×Hp)
 | [],t,ds,H=>unwH rec n0 fn t ds H
 | c::cs,t,ds,H=>(match evCC tb rec cx c t ds H with
  | .mk x t' ds' H' r w=>Bc (mOk n0 r w H H') (match x with
   | .normal=>pendH fn cs t' ds' H'
   | .ret=>unwH rec n0 fn t' ds' H'
   | _=>none) none
  | .fail=>none)
def endH (fn:Func) (s:HoleS) (v:Value) (H3:Hp):Option (Value×Hp):=match runL cx.d s.B (putT cx.d s.t s.o.dst v) H3 with
 | some (t,H,r,w)=>Bc (mOk n0 r w H3 H) (pendH tb rec n0 cx fn s.pend t s.ds H) none
 | none=>none
end
section
variable {tb:Tb} {sp:Nat→List Value→Hp→Option (Value×Hp×Nat×Nat)} {n0:Nat}
theorem WC.run {e:Env} {cx:Cx} {c:Code} {t:T Value} {ds:List Deferred} {H:Hp} {K:Ex→T Value→List Deferred→Hp→Prop} {N:Nat} {x:Ex} {t':T Value} {ds':List Deferred} {H':Hp} {r w:Nat} (h:evCC tb (ev tb sp N) cx c t ds H=.mk x t' ds' H' r w) (ho:e.ok r w H'∧H.nx≤H'.nx) (hk:K x t' ds' H'):WC tb sp e cx c t ds H K :=
 ⟨N,x,t',ds',H',r,w,h,ho.1,ho.2,hk⟩
theorem WC.seq {e:Env} {cx:Cx} {a b:Code} {t:T Value} {ds:List Deferred} {H:Hp} {K:Ex→T Value→List Deferred→Hp→Prop} (h:WC tb sp e cx a t ds H fun x t1 ds1 H1=>match x with | .normal=>WC tb sp e cx b t1 ds1 H1 K | y=>K y t1 ds1 H1):WC tb sp e cx (.seq a b) t ds H K:=by
 obtain ⟨N,x1,t1,ds1,H1,r1,w1,h1,h2,h3,h4⟩:=h
 cases x1 with
 | normal =>
  obtain ⟨N2,x2,t2,ds2,H2,r2,w2,g1,g2,g3,g4⟩:=h4
  refine ⟨max N N2,x2,t2,ds2,H2,Nat.lor r1 r2,Nat.lor w1 w2,?_,h2.lor g2 g3,Nat.le_trans h3 g3,g4⟩
  simp only [evCC]
  rw [evCC_up (Nat.le_max_left N N2) h1]
  show CR.join r1 w1 (evCC tb (ev tb sp (max N N2)) cx b t1 ds1 H1)=_
  rw [evCC_up (Nat.le_max_right N N2) g1];rfl
 | _ =>
  refine ⟨N,_,t1,ds1,H1,r1,w1,?_,h2,h3,h4⟩
  simp only [evCC];rw [h1];rfl
def contP (tb:Tb) (sp:Nat→List Value→Hp→Option (Value×Hp×Nat×Nat)) (e:Env) (cx:Cx) (K:Ex→T Value→List Deferred→Hp→Prop):List Code→Ex→T Value→List Deferred→Hp→Prop
 | [],x,t,ds,H=>K x t ds H
 | c::cs,x,t,ds,H=>match x with | .normal=>WC tb sp e cx c t ds H (contP tb sp e cx K cs) | y=>K y t ds H
theorem contP_not {e:Env} {cx:Cx} {K:Ex→T Value→List Deferred→Hp→Prop} {pend:List Code} {x:Ex} (hx:x≠.normal) {t:T Value} {ds:List Deferred} {H:Hp} (h:contP tb sp e cx K pend x t ds H):K x t ds H:=by
 cases pend with
 | nil=>exact h
 | cons c cs=>cases x <;> first | exact h | exact absurd rfl hx
theorem contP_of {e:Env} {cx:Cx} {K:Ex→T Value→List Deferred→Hp→Prop} {pend:List Code} {x:Ex} (hx:x≠.normal) {t:T Value} {ds:List Deferred} {H:Hp} (h:K x t ds H):contP tb sp e cx K pend x t ds H:=by
 cases pend with
 | nil=>exact h
 | cons c cs=>cases x <;> first | exact h | exact absurd rfl hx
theorem goH_ok {N:Nat} {cx:Cx} {K:Ex→T Value→List Deferred→Hp→Prop}:∀ {p:List Bool} {c:Code} {t:T Value} {ds:List Deferred} {H:Hp} {pend:List Code} {c':Code} {t':T Value} {ds':List Deferred} {H':Hp} {pend':List Code},
 goH tb (ev tb sp N) n0 cx p c t ds H pend=some (c',t',ds',H',pend')→WC tb sp (envS n0) cx c' t' ds' H' (contP tb sp (envS n0) cx K pend')→WC tb sp (envS n0) cx c t ds H (contP tb sp (envS n0) cx K pend):=by
 intro p
 induction p with
 | nil =>
  intro c t ds H pend c' t' ds' H' pend' h hk
  simp only [goH,Option.some.injEq,Prod.mk.injEq] at h
  obtain ⟨rfl,rfl,rfl,rfl,rfl⟩:=h
  exact hk
 | cons b p ih =>
  intro c t ds H pend c' t' ds' H' pend' h hk
  cases b with
  | false =>
   simp only [goH] at h
   split at h
   ·rename_i a b
    refine WC.seq ((ih h hk).mono fun x t1 ds1 H1 _ hh=>?_)
    cases x with
    | normal=>exact hh
    | _=>exact contP_of (fun h=>by cases h) (contP_not (fun h=>by cases h) hh)
   ·cases h
  | true =>
   simp only [goH] at h
   split at h
   ·rename_i a b
    split at h
    ·rename_i t1 ds1 H1 r w hev
     cases hm:mOk n0 r w H H1 with
     | false=>rw [hm,Bc_f] at h;cases h
     | true =>
      rw [hm,Bc_t] at h
      exact WC.seq (WC.run hev (mOk_ok hm) (ih h hk))
    ·cases h
   ·cases h
theorem evOps_runL {rec:Rec} {cx:Cx} {B:List CO} {ds:List Deferred}:∀ {A:List CO} {t:T Value} {H:Hp} {t':T Value} {H':Hp} {r w:Nat},runL cx.d A t H=some (t',H',r,w) →
 ∀ (i:Nat) (acc:Acc) (r0 w0:Nat),∃ i' acc',evOps rec cx (A++B) i t ds H acc r0 w0=evOps rec cx B i' t' ds H' acc' (Nat.lor r0 r) (Nat.lor w0 w):=by
 intro A
 induction A with
 | nil =>
  intro t H t' H' r w h i acc r0 w0
  simp only [runL,Option.some.injEq,Prod.mk.injEq] at h
  obtain ⟨rfl,rfl,rfl,rfl⟩:=h
  exact ⟨i,acc,by rw [lor_zero',lor_zero'];rfl⟩
 | cons o A ih =>
  intro t H t' H' r w h i acc r0 w0
  simp only [runL] at h
  rw [List.cons_append]
  cases hg:wants t o.guard with
  | false =>
   rw [hg] at h
   simp only at h
   obtain ⟨i',acc',e⟩:=ih h (Nat.succ i) acc r0 w0
   refine ⟨i',acc',?_⟩
   simp only [evOps,hg,Bc_f]
   exact e
  | true =>
   rw [hg] at h
   simp only at h
   split at h
   ·rename_i v H1 r1 w1 hr
    split at h
    ·rename_i t2 H2 r2 w2 h2
     simp only [Option.some.injEq,Prod.mk.injEq] at h
     obtain ⟨rfl,rfl,rfl,rfl⟩:=h
     obtain ⟨i',acc',e⟩:=ih h2 (Nat.succ i) ((i,r1,Nat.lor w1 (rng H H1))::acc) (Nat.lor r0 r1) (Nat.lor w0 w1)
     refine ⟨i',acc',?_⟩
     simp only [evOps,hg,Bc_t,hr,stepR]
     rw [e,lor_assoc',lor_assoc']
    ·cases h
   ·cases h
theorem WO.runL {e:Env} {cx:Cx} {A B:List CO} {t:T Value} {ds:List Deferred} {H:Hp} {t':T Value} {H':Hp} {r w:Nat} {K:T Value→List Deferred→Hp→Prop} (h:Go.Ev.runL cx.d A t H=some (t',H',r,w)) (ho:e.ok r w H'∧H.nx≤H'.nx) (hk:WO tb sp e cx B t' ds H' K):WO tb sp e cx (A++B) t ds H K:=by
 obtain ⟨N,t2,ds2,H2,r2,w2,h1,h2,h3,h4⟩:=hk
 refine ⟨N,t2,ds2,H2,Nat.lor r r2,Nat.lor w w2,fun i acc r0 w0=>?_,ho.1.lor h2 h3,Nat.le_trans ho.2 h3,h4⟩
 obtain ⟨i',acc',e1⟩:=evOps_runL (rec:=ev tb sp N) (B:=B) (ds:=ds) h i acc r0 w0
 obtain ⟨acc2,e2⟩:=h1 i' acc' (Nat.lor r0 r) (Nat.lor w0 w)
 exact ⟨acc2,by rw [e1,e2,lor_assoc',lor_assoc']⟩
theorem WC.reg {e:Env} {cx:Cx} {id:Nat} {ops:Array Oper} {t:T Value} {ds:List Deferred} {H:Hp} {K:Ex→T Value→List Deferred→Hp→Prop} (h:WO tb sp e cx (compOs tb cx.nt ops ops.toList) t ds H (K .normal)):WC tb sp e cx (.region id ops false) t ds H K:=WK.reg h _ rfl
def LeavesU (tb:Tb) (sp:Nat→List Value→Hp→Option (Value×Hp×Nat×Nat)) (e:Env) (fn:Func) (K:Value→Hp→Prop):Ex→T Value→List Deferred→Hp→Prop:=fun x t ds H =>
 (x=.normal∨x=.ret)∧∃ N v H' r w,ev tb sp N (.unwind fn.ntmps fn.results.toList t ds .returning) H=.k (.ret v H' r w)∧e.ok r w H'∧H.nx≤H'.nx∧K v H'
theorem EC.introU {e:Env} {f:FuncId} {fn:Func} {c:Code} {args:List Value} {H:Hp} {K:Value→Hp→Prop} (hs:sp f args H=none) (hf:tb.fn f=some fn) (hb:fn.body=some c) (hn:args.length≤fn.ntmps)
 (h:WC tb sp e (cxOf fn) c (enterT fn args) [] H (LeavesU tb sp e fn K)):EC tb sp e f args H K:=by
 obtain ⟨N,x,t,ds,H',r,w,h1,h2,h3,hx,N2,v,H2,r2,w2,h4,h5,h6,h7⟩:=h
 refine ⟨max N N2+1,v,H2,Nat.lor r r2,Nat.lor w w2,?_,h2.lor h5 h6,Nat.le_trans h3 h6,h7⟩
 show evTask tb sp (ev tb sp (max N N2)) (.call f args) H=_
 simp only [evTask,hs,evCall,hf,hb]
 rw [(ble_iff args.length fn.ntmps).2 hn,Bc_t]
 have hu:=ev_up (tb:=tb) (sp:=sp) (Nat.le_max_right N N2) h4 (fun h=>h)
 have h1':=evCC_up (Nat.le_max_left N N2) h1
 show afterBody (ev tb sp (max N N2)) fn (evCC tb (ev tb sp (max N N2)) (cxOf fn) c (enterT fn args) [] H)=_
 rw [h1']
 rcases hx with rfl | rfl
 ·simp only [afterBody,hu,KR.join,Fz_eq]
 ·simp only [afterBody,hu,KR.join,Fz_eq]
theorem unwH_ok {N:Nat} {fn:Func} {t:T Value} {ds:List Deferred} {H:Hp} {v:Value} {H':Hp} {x:Ex} (hx:x=.normal∨x=.ret) (h:unwH (ev tb sp N) n0 fn t ds H=some (v,H')):LeavesU tb sp (envS n0) fn (fun v' H2=>v'=v∧H2=H') x t ds H:=by
 unfold unwH at h
 split at h
 ·rename_i v1 H1 r w hev
  cases hm:mOk n0 r w H H1 with
  | false=>rw [hm,Bc_f] at h;cases h
  | true =>
   rw [hm,Bc_t] at h
   simp only [Option.some.injEq,Prod.mk.injEq] at h
   obtain ⟨rfl,rfl⟩:=h
   exact ⟨hx,N,v1,H1,r,w,hev,(mOk_ok hm).1,(mOk_ok hm).2,rfl,rfl⟩
 ·cases h
theorem pendH_ok {N:Nat} {cx:Cx} {fn:Func} {v:Value} {H':Hp}:∀ {pend:List Code} {t:T Value} {ds:List Deferred} {H:Hp},pendH tb (ev tb sp N) n0 cx fn pend t ds H=some (v,H') →
 contP tb sp (envS n0) cx (LeavesU tb sp (envS n0) fn fun v' H2=>v'=v∧H2=H') pend .normal t ds H:=by
 intro pend
 induction pend with
 | nil=>intro t ds H h;exact unwH_ok (.inl rfl) h
 | cons c cs ih =>
  intro t ds H h
  simp only [pendH] at h
  split at h
  ·rename_i x t1 ds1 H1 r w hev
   cases hm:mOk n0 r w H H1 with
   | false=>rw [hm,Bc_f] at h;cases h
   | true =>
    rw [hm,Bc_t] at h
    refine WC.run hev (mOk_ok hm) ?_
    cases x with
    | normal=>exact ih h
    | ret =>
     have:=unwH_ok (n0:=n0) (x:=.ret) (.inr rfl) h
     cases cs <;> exact this
    | _=>cases h
  ·cases h
theorem EC.hole {N:Nat} {f:FuncId} {fn:Func} {c:Code} {args:List Value} {H:Hp} {p:List Bool} {j:Nat} {s:HoleS} (hs:sp f args H=none) (hf:tb.fn f=some fn) (hb:fn.body=some c) (hn:args.length≤fn.ntmps)
 (h1:holeR tb n0 (cxOf fn) j (goH tb (ev tb sp N) n0 (cxOf fn) p c (enterT fn args) [] H [])=some s) {v3:Value} {H3:Hp} (he:EC tb sp (envS n0) s.f s.args s.H fun v' H'=>v'=v3∧H'=H3) {v:Value} {H':Hp} (h2:endH tb (ev tb sp N) n0 (cxOf fn) fn s v3 H3=some (v,H')) :
 EC tb sp (envS n0) f args H fun v' H2=>v'=v∧H2=H':=by
 refine EC.introU hs hf hb hn ?_
 unfold holeR at h1
 split at h1
 ·rename_i id ops t ds H1 pend hgo
  refine goH_ok (K:=LeavesU tb sp (envS n0) fn fun v' H2=>v'=v∧H2=H') (pend:=[]) hgo (WC.reg ?_)
  split at h1
  ·rename_i o B hdrop
   split at h1
   ·rename_i t' H2 r w hrun
    cases hm:mOk n0 r w H1 H2 && wants t' o.guard with
    | false=>rw [hm,Bc_f] at h1;cases h1
    | true =>
     rw [hm,Bc_t] at h1
     rw [Bool.and_eq_true] at hm
     split at h1
     ·rename_i f3 args3 hcall
      have h1:=Option.some.inj h1
      subst h1
      have hsplit:compOs tb (cxOf fn).nt ops ops.toList=(compOs tb (cxOf fn).nt ops ops.toList).take j++o::B:=by rw [← hdrop,List.take_append_drop]
      rw [hsplit]
      refine WO.runL hrun (mOk_ok hm.1) (WO.cons hm.2 ?_)
      rw [hcall]
      refine EC.mono he fun v' H' _ hh=>?_
      obtain ⟨rfl,rfl⟩:=hh
      unfold endH at h2
      split at h2
      ·rename_i t4 H4 r4 w4 hrun4
       cases hm4:mOk n0 r4 w4 H' H4 with
       | false=>rw [hm4,Bc_f] at h2;cases h2
       | true =>
        rw [hm4,Bc_t] at h2
        have:=WO.runL (tb:=tb) (sp:=sp) (cx:=cxOf fn) (B:=[]) (ds:=ds) hrun4 (mOk_ok hm4) (WO.nil (pendH_ok h2))
        rwa [List.append_nil] at this
      ·cases h2
     ·cases h1
   ·cases h1
  ·cases h1
 ·cases h1
end
end Go.Ev
end
noncomputable section
namespace Go.Proofs.RS
open Go Go.Ev Go.Proofs
noncomputable def frm_body:Code:=(Tryz.f138.body).getD .skip
def frm_r16:List CO:=[
 oN 74 (.bin .lss (.tmp 73) (.tmp 72))]
def frm_r17:List CO:=[
 oN 75 (.iaS 1 (.tmp 71) (.tmp 73)),
 oN 76 (.ld1 (.tmp 75)),
 oN 7 (.mv (.tmp 76))]
def frm_r18:List CO:=[
 oN 77 (.mv (.tmp 7)),
 oN 78 (.call (.func 174) [(.tmp 77),(oK 8)]),
 oN 79 (.call (.func 135) [(.tmp 78),(oK 100)])]
def frm_r19:List CO:=[
 oN 80 (.bin .add (.tmp 73) (oK 1)),
 oN 73 (.mv (.tmp 80))]
noncomputable def frm_l20:KC :=
 (.seq (.reg frm_r16)
 (.seq (.cond (.tmp 74) .skip
  (.exit 4))
 (.seq (.block 5 (.seq (.reg frm_r17)
  (.reg frm_r18)))
 (.reg frm_r19))))
def codeAt:List Bool→Code→Code
 | [],c=>c
 | false::p,.seq a _=>codeAt p a
 | true::p,.seq _ b=>codeAt p b
 | _,_=>.skip
noncomputable def frm_k:KC:=.block 4 (.loop frm_body.sr.sr.sr.sr.sr.sr.bl.lp frm_l20)
theorem frm_comp:kcomp Tb0 Tryz.f138.ntmps (codeAt [true,true,true,true,true,true] frm_body)=frm_k:=by kernel_rfl
theorem frm_some:Tryz.f138.body=some frm_body:=rfl
noncomputable def mst_body:Code:=(Tryz.f135.body).getD .skip
def mst_r0:List CO:=[
 oN 4 (.mv (.tmp 0)),
 oN 5 (.un .not (.tmp 4))]
def mst_r1:List CO:=[
 oN 6 (.mv (.tmp 1)),
 oN 7 (.build [.int .i64 (0)] [(0,1,(.tmp 6))]),
 oN 8 (.mkI 280 (.tmp 7)),
 oU (.panic (.tmp 8))]
noncomputable def mst_k:KC :=
 (.seq (.reg mst_r0)
 (.cond (.tmp 5) (.reg mst_r1)
  .skip))
theorem mst_comp:kcomp Tb0 Tryz.f135.ntmps mst_body=mst_k:=by kernel_rfl
theorem mst_some:Tryz.f135.body=some mst_body:=rfl
noncomputable def siz_body:Code:=(Tryz.f174.body).getD .skip
def siz_r0:List CO:=[
 oN 4 (.mv (.const (.bool false)))]
def siz_r1:List CO:=[
 oN 5 (.mv (.tmp 0)),
 oN 6 (.mv (.tmp 1)),
 oN 7 (.call (.func 136) [(.tmp 5),(.tmp 6),(oK 65536)]),
 oN 8 (.mv (.tmp 7)),
 ⟨(some 9),(some (8,true)),.mv (.tmp 0)⟩,
 ⟨(some 10),(some (8,true)),.bin .rem (.tmp 9) (.const (.int .i64 (8)))⟩,
 ⟨(some 11),(some (8,true)),.eq false (.one .i) (.tmp 10) (.const (.int .i64 (0)))⟩,
 oN 12 (.pick (.tmp 8) (.tmp 11) (.const (.bool false))),
 oN 4 (.mv (.tmp 12))]
noncomputable def siz_k:KC :=
 (.seq (.reg siz_r0)
 (.seq (.reg siz_r1)
 .ret))
theorem siz_comp:kcomp Tb0 Tryz.f174.ntmps siz_body=siz_k:=by kernel_rfl
theorem siz_some:Tryz.f174.body=some siz_body:=rfl
noncomputable def wit_body:Code:=(Tryz.f136.body).getD .skip
def wit_r0:List CO:=[
 oN 6 (.mv (.const (.bool false)))]
def wit_r1:List CO:=[
 oN 7 (.mv (.tmp 1)),
 oN 8 (.mv (.tmp 0)),
 oN 9 (.bin .leq (.tmp 7) (.tmp 8)),
 oN 10 (.mv (.tmp 9)),
 ⟨(some 11),(some (10,true)),.mv (.tmp 0)⟩,
 ⟨(some 12),(some (10,true)),.mv (.tmp 2)⟩,
 ⟨(some 13),(some (10,true)),.bin .leq (.tmp 11) (.tmp 12)⟩,
 oN 14 (.pick (.tmp 10) (.tmp 13) (.const (.bool false))),
 oN 6 (.mv (.tmp 14))]
noncomputable def wit_k:KC :=
 (.seq (.reg wit_r0)
 (.seq (.reg wit_r1)
 .ret))
theorem wit_comp:kcomp Tb0 Tryz.f136.ntmps wit_body=wit_k:=by kernel_rfl
theorem wit_some:Tryz.f136.body=some wit_body:=rfl
end Go.Proofs.RS
end
