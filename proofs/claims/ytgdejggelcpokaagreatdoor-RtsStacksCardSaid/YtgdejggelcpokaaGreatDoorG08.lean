/-
 A part of the reckoner for the statements of a Go program: what it answers,the model answers. Holds for every program whose tables are as given.
-/
import Derived.Test.YtgdejggelcpokaaGreatDoorG07
set_option linter.unusedSimpArgs false
set_option linter.unusedVariables false
set_option linter.unusedSectionVars false
noncomputable section
namespace Go.Ev
section
variable {P:Program} {tb:Tb} {cx:Cx} {t:T Value} {ds:List Deferred} {H:Hp}
theorem hasBody_inv (ok:TbOk P tb) {g:FuncId} (h:hasBody tb g=true) (args:Array Value) (W:World):(callFunc g args).run P W=.ok (.enter g args) W:=by
 unfold hasBody at h
 split at h
 ·rename_i fn e
  have e1:=ok.fn _ _ e
  have e2:=ok.nog _ _ e
  have e3 : ¬ fn.name = "runtime.NumGoroutine" := by simpa using e2
  have e4:¬ fn.body=none:=by intro h0;simp [h0] at *
  simp [callFunc,e1,e3,e4]
 ·cases h
theorem putObj_setB (W:World) (r:Nat) (o:Obj):W.putObj r o=World.setB W r o:=rfl
theorem jump_ok {F:Fence} {Q:Exit→Act→World→Prop} {a:Act} {W:World} {rd:Bool} {pd:Option Code} {ex:Ex} (h:exOf rd pd=some ex)
 (hq:∀ e,XRel (fun _=>none) ex e→Q e a W):(match (generalizing:=false) pd with | none=>Q .normal a W | some c=>c.wpIn F 0 P Q a W):=by
 unfold exOf at h
 split at h
 ·cases rd with
  | true=>rw [Bc_t] at h;cases h;exact hq .normal trivial
  | false=>rw [Bc_f] at h;cases h
 ·cases h;exact wpIn_ret (hq .ret trivial)
 ·cases h;exact wpIn_exit (hq _ rfl)
 ·cases h;exact wpIn_goto (hq _ rfl)
 ·cases h
theorem exOf_state {rd:Bool} {pd:Option Code} {ex:Ex} (h:exOf rd pd=some ex):(if rd then LoopState.ready else if pd.isSome then .done else .busy)≠.busy:=by
 unfold exOf at h
 cases rd with
 | true=>simp
 | false =>
  split at h
  ·rw [Bc_f] at h;cases h
  all_goals first | (cases h;done) | simp
theorem xrel_none {β:Mp} {rd:Bool} {pd:Option Code} {ex:Ex} (h:exOf rd pd=some ex) {e:Exit} (hx:XRel (fun _=>none) ex e):XRel β ex e:=by
 unfold exOf at h
 split at h
 ·cases rd with
  | true=>rw [Bc_t] at h;cases h;cases e <;> first | trivial | exact hx.elim
  | false=>rw [Bc_f] at h;cases h
 all_goals first | (cases h;cases e <;> first | exact hx | exact hx.elim) | (cases h;done)
theorem code_range {rec:Rec} (ok:TbOk P tb) (hrec:RecOk P tb.ng rec) {f:Operand} {ps:Array Tmp} {x y:Code} (hw:H.wf) :
 CodeOk P tb cx (.rangeFunc f ps x y) t ds H (evRange tb rec cx f ps.toList x y t ds H):=by
 unfold evRange
 cases hrnd:cx.rnd with
 | some l=>trivial
 | none =>
  simp only []
  cases hok:(okO tb cx.nt f && ps.toList.all (fun p=>Nat.blt p cx.nt)) with
  | false=>rw [Bc_f];trivial
  | true =>
   rw [Bc_t,alloc1_eq]
   by_cases h0:H.room=true
   case neg=>rw [if_neg h0];trivial
   rw [if_pos h0]
   simp only []
   rw [alloc1_eq]
   by_cases h1:(H.push (.obj (.deferred (some [])))).room=true
   case neg=>rw [if_neg h1];trivial
   rw [if_pos h1]
   simp only []
   cases hcv:callV (evalO t f) [.func (.yield (H.push (.obj (.deferred (some [])))).nx) #[] #[]] with
   | call g args =>
    simp only []
    cases hbody:hasBody tb g with
    | false=>rw [Bc_f];trivial
    | true =>
     rw [Bc_t]
     generalize hH1:H.push (.obj (.deferred (some [])))=H1 at h1 hcv ⊢
     generalize hH2:H1.push (.loop true none cx.nt t ps.toList x y H.nx)=H2
     have c1:Can H H1 0:=by rw [← hH1];exact can_push h0
     have c2:Can H1 H2 0:=by rw [← hH2];exact can_push h1
     have hk0:=hrec (.call g args) H2 c2.wf
     have n1:H1.nx=H.nx+1:=by rw [← hH1,nx_push]
     have head:∀ (H3:Hp) (w3 r3:Nat) (β:Mp) (W:World) (a:Act) (fn:FuncId),Can H2 H3 w3→GRel tb.ng β→ARel β cx.nt t ds a→Pre β H H3 r3 w3 W →
      ∃ β1 β2 W1 W2 m1,Post β β1 H H1 0 W W1∧Pre β1 H1 H3 r3 w3 W1∧Post β1 β2 H1 H2 0 W1 W2∧Pre β2 H2 H3 r3 w3 W2∧β2 H1.nx=some m1 ∧
       (Instr.enterLoop fn a.tmps ps x y none).run P W=.ok (m1.rb,[{ target:=.collected W.heap.size,args:=#[] }]) W2 ∧
       ARel β2 cx.nt t ({ target:=.collected H.nx,args:=#[] }::ds) { a with defers:=[{ target:=.collected W.heap.size,args:=#[] }]++a.defers } ∧
       ∃ args',(∃ d:Deferred,(resolve a.eval (rangeCall f m1.rb) 0).run P W2=.ok d W2∧(invoke d.target d.args).run P W2=(callFunc g args').run P W2)∧LRel β2 args args'.toList:=by
      intro H3 w3 r3 β W a fn c3 hg ha p
      have c23:Can H1 H3 (Nat.lor 0 w3):=Can.comp c2 c3
      have p':Pre β H H3 (Nat.lor 0 r3) (Nat.lor 0 (Nat.lor 0 w3)) W:=by rw [zero_lor',zero_lor',zero_lor'];exact p
      have f0:β H.nx=none:=p.fresh H.nx (Nat.le_refl _) (Nat.lt_of_lt_of_le (by rw [n1];omega) (c23.mono))
      let m0:Bm:=⟨W.heap.size,0,0,0⟩
      have q1:Post β (β.put H.nx m0) H H1 0 W (World.pushB W (.deferred (some []))):=by
       rw [← hH1];exact post_push _ _ m0 h0 rfl f0 ⟨rfl,rfl⟩ p.dom
      have p1:Pre (β.put H.nx m0) H1 H3 (Nat.lor 0 r3) (Nat.lor 0 w3) (World.pushB W (.deferred (some []))):=by
       have:=Pre.second (r2:=r3) c1 c23 p' q1
       rw [zero_lor'];exact this
      let m1:Bm:=⟨(World.pushB W (.deferred (some []))).heap.size,0,0,0⟩
      have f1:(β.put H.nx m0) H1.nx=none:=p1.fresh H1.nx (Nat.le_refl _) (Nat.lt_of_lt_of_le (by rw [← hH2,nx_push];omega) c3.mono)
      have hdb:((β.put H.nx m0).put H1.nx m1) H.nx=some m0:=by
       rw [Mp.put_ne _ _ (by rw [n1];omega),Mp.put_same]
      have le1:Mp.le β (β.put H.nx m0):=Mp.le_put m0 f0
      have le2:Mp.le (β.put H.nx m0) ((β.put H.nx m0).put H1.nx m1):=Mp.le_put m1 f1
      have q2:Post (β.put H.nx m0) ((β.put H.nx m0).put H1.nx m1) H1 H2 0 (World.pushB W (.deferred (some [])))
       (World.pushB (World.pushB W (.deferred (some []))) (.loop { state:=.ready,pending:=none,fn,tmps:=a.tmps,params:=ps,assign:=x,body:=y,defers:=W.heap.size })):=by
       rw [← hH2]
       refine post_push _ _ m1 h1 rfl f1 ⟨a.tmps,fn,m0,.ready,rfl,hdb,ha.1.mono (le1.trans le2),rfl,rfl⟩ p1.dom
      have p2:=Pre.second (r2:=r3) c2 c3 p1 q2
      refine ⟨_,_,_,_,m1,q1,by rw [← zero_lor' r3,← zero_lor' w3];exact p1,q2,p2,Mp.put_same _ _ _,?_,⟨ha.1.mono (le1.trans le2),DsRel.cons ⟨⟨m0,hdb,rfl⟩,LRel.nil _⟩ (ha.2.mono (le1.trans le2))⟩,?_⟩
      ·rw [run_enterLoop_outer]
       have:W.heap.size+1=(World.pushB W (.deferred (some []))).heap.size:=(push_size W _).symm
       show Result.ok (W.heap.size+1,_) _=_
       rw [this];rfl
      ·simp only [Bool.and_eq_true] at hok
       have hv:=operand_ok hg ha.1 hok.1
       have hv2:=hv.mono (le1.trans le2)
       generalize hr:a.eval f=f' at hv2
       generalize evalO t f=fv at hcv hv2
       unfold callV at hcv
       cases hv2 <;> simp only [reduceCtorEq,R.call.injEq] at hcv
       rename_i f2 as as' cs cs' e1 e2 e3 e4
       obtain ⟨rfl,rfl⟩:=hcv
       refine ⟨((⟨as'⟩:Array Value) ++ #[.func (.yield m1.rb) #[] #[]])++(⟨cs'⟩:Array Value),⟨{ target:=.fn (.func f2) ⟨cs'⟩,args:=(⟨as'⟩:Array Value) ++ #[.func (.yield m1.rb) #[] #[]] },?_,?_⟩,?_⟩
       ·have hce:a.eval (.const (.func (.yield m1.rb) #[] #[]))=.func (.yield m1.rb) #[] #[]:=rfl
        simp [resolve,rangeCall,Deferred.ofValue,hr,hce]
       ·simp [invoke]
       ·have hy:VRel ((β.put H.nx m0).put H1.nx m1) (.func (.yield H1.nx) #[] #[]) (.func (.yield m1.rb) #[] #[]):=.yield H1.nx m1 (Mp.put_same _ _ _)
        have:=LRel.append (a:=as) (a':=as') ⟨e1,e2⟩ (LRel.append (LRel.cons hy (LRel.nil _)) (b:=cs) (b':=cs') ⟨e3,e4⟩)
        simpa using this
     cases hk:rec (.call g args) H2 with
     | c z=>trivial
     | k z =>
      rw [hk] at hk0
      cases z with
      | fail n=>trivial
      | drop um H3 r w=>trivial
      | panic v H3 r w =>
       obtain ⟨c3,hcall⟩:=hk0
       refine ⟨by have:=Can.comp c1 (Can.comp c2 c3);rwa [zero_lor',zero_lor'] at this,fun β W a F hg hF ha p=>?_⟩
       rw [hrnd] at hF
       have hF':F=FW:=hF
       subst hF'
       refine wpIn_rangeFunc fun fn _=>?_
       obtain ⟨β1,β2,W1,W2,m1,q1,p1,q2,p2,em,he,ha2,args',⟨d,hres,hinv⟩,hl⟩:=head H3 w r β W a fn c3 hg ha p
       have hg2:GRel tb.ng β2:=hg.mono (q1.le.trans q2.le)
       have hco:=hcall β2 W2 hg2 p2 args' hl
       have hent:=hasBody_inv ok hbody args' W2
       refine ⟨m1.rb,_,W2,d,W2,g,args',W2,he,hres,fun _ _=>trivial,by rw [hinv];exact hent,(fun h=>by cases h),?_⟩
       rcases hco with ⟨_,hc⟩ | ⟨v',W',hc,_⟩
       case inr=>rw [hent] at hc;cases hc
       refine CallsIn.mono hc fun e W3 hR=>?_
       obtain ⟨β3,v',rfl,hv',q3⟩:=hR
       refine ⟨β3,⟨v',rfl,hv'⟩,ha2.mono q3.le,?_⟩
       have c23:Can H1 H3 (Nat.lor 0 w):=Can.comp c2 c3
       have q23:=Post.comp (r1:=0) (r2:=r) c2 c3 (by rw [zero_lor',zero_lor'];exact p1) q2 q3
       have:=Post.comp (r1:=0) (r2:=r) c1 c23 (by rw [zero_lor',zero_lor',zero_lor'];exact p) q1 q23
       rw [zero_lor',zero_lor'] at this
       exact this
      | ret v H3 r w =>
       obtain ⟨c3,hcall⟩:=hk0
       simp only [afterRange]
       cases hb:H3.blk H1.nx with
       | no=>trivial
       | cells=>trivial
       | obj=>trivial
       | loop rd pd nt' t' ps' x' y' db' =>
        simp only []
        cases hex:exOf rd pd with
        | none=>trivial
        | some ex =>
         simp only []
         have hal:alive H3 H1.nx:=(alive_iff _ _).2 (by rw [hb];simp)
         have c4:Can H3 (H3.put H1.nx .no) (bit H1.nx):=can_put c3.wf .no hal
         have c34:Can H2 (H3.put H1.nx .no) (Nat.lor w (bit H1.nx)):=Can.comp c3 c4
         have c234:Can H1 (H3.put H1.nx .no) (Nat.lor 0 (Nat.lor w (bit H1.nx))):=Can.comp c2 c34
         refine ⟨by have:=Can.comp c1 c234;rwa [zero_lor',zero_lor'] at this,fun β W a F hg hF ha p=>?_⟩
         rw [hrnd] at hF
         have hF':F=FW:=hF
         subst hF'
         refine wpIn_rangeFunc fun fn _=>?_
         obtain ⟨β1,β2,W1,W2,m1,q1,p1,q2,p2,em,he,ha2,args',⟨d,hres,hinv⟩,hl⟩:=head _ _ r β W a fn c34 hg ha p
         have hg2:GRel tb.ng β2:=hg.mono (q1.le.trans q2.le)
         have p2':Pre β2 H2 (H3.put H1.nx .no) (Nat.lor r 0) (Nat.lor w (bit H1.nx)) W2:=by rw [lor_zero'];exact p2
         have hco:=hcall β2 W2 hg2 (p2'.first c4) args' hl
         have hent:=hasBody_inv ok hbody args' W2
         refine ⟨m1.rb,_,W2,d,W2,g,args',W2,he,hres,fun _ _=>trivial,by rw [hinv];exact hent,(fun h=>by cases h),?_⟩
         rcases hco with ⟨_,hc⟩ | ⟨v',W',hc,_⟩
         case inr=>rw [hent] at hc;cases hc
         refine CallsIn.mono hc fun e W3 hR=>?_
         obtain ⟨β3,v',rfl,hv',q3⟩:=hR
         have p4:Pre β3 H3 (H3.put H1.nx .no) 0 (bit H1.nx) W3:=Pre.second c3 c4 p2' q3
         obtain ⟨m,e4,o,ho,hr⟩:=p4.rel H1.nx (.inr ((bit_iff _ _).2 rfl)) hal
         have:=q3.le _ _ em
         rw [e4] at this
         cases this
         rw [hb] at hr
         obtain ⟨tmps,fn',md,st,rfl,_,_,_,hst⟩:=hr
         have hend:=run_endLoop (P:=P) ho (by show st≠.busy;rw [hst];exact exOf_state hex)
         refine ⟨pd,_,hend,?_⟩
         rw [putObj_setB]
         have q4:=post_put (o':=.loop { state:=.exhausted,pending:=pd,fn:=fn',tmps:=tmps,params:=ps'.toArray,assign:=x',body:=y',defers:=md.rb }) .no c3.wf hal e4 ho trivial p4.dom
         have q34:=Post.comp c3 c4 p2' q3 q4
         have q234:=Post.comp (r1:=0) (r2:=r) c2 c34 (by rw [zero_lor',zero_lor'];exact p1) q2 q34
         have q:=Post.comp (r1:=0) (r2:=r) c1 c234 (by rw [zero_lor',zero_lor',zero_lor'];exact p) q1 q234
         rw [zero_lor',zero_lor'] at q
         have hj:=jump_ok (P:=P) (F:=FW) (Q:=CPost β cx.nt H (H3.put H1.nx .no) (Nat.lor w (bit H1.nx)) W ex t ({ target:=.collected H.nx,args:=#[] }::ds)) (a:={ a with defers:=[{ target:=.collected W.heap.size,args:=#[] }]++a.defers }) hex fun e hx=>⟨β3,xrel_none hex hx,ha2.mono (q3.le),q⟩
         cases pd <;> exact hj
   | _=>trivial
end
section
variable {P:Program} {tb:Tb}
theorem setPs_ok {β:Mp} {d nt:Nat} (hd:nt<2 ^ d):∀ (ps:List Tmp) (as as':List Value) (t t':T Value) (tmps:Array Value),setPs d nt ps as t=some t'→LRel β as as'→TRel β nt t tmps →
 ps.length=as'.length∧TRel β nt t' ((ps.zip as').foldl (fun tmps x=>tmps.setIfInBounds x.1 x.2) tmps):=by
 intro ps
 induction ps with
 | nil =>
  intro as as' t t' tmps h hl ht
  cases as with
  | nil=>have:=hl.nil_inv;subst this;simp only [setPs,Option.some.injEq] at h;subst h;exact ⟨rfl,ht⟩
  | cons v as=>simp [setPs] at h
 | cons p ps ih =>
  intro as as' t t' tmps h hl ht
  cases as with
  | nil=>simp [setPs] at h
  | cons v as =>
   obtain ⟨v',as2,rfl,hv,hl'⟩:=hl.cons_inv
   simp only [setPs] at h
   cases hp:Nat.blt p nt with
   | false=>rw [hp,Bc_f] at h;cases h
   | true =>
    rw [hp,Bc_t] at h
    have hput:TRel β nt (T.set d t p v) (tmps.setIfInBounds p v'):=by
     have:=trel_put (a:={ tmps:=tmps,defers:=[] }) (dst:=some p) hd ht (fun i hi=>by cases hi;exact (blt_iff _ _).1 hp) hv
     exact this
    obtain ⟨h1,h2⟩:=ih as as2 _ _ _ h hl' hput
    refine ⟨by simp [h1],?_⟩
    simpa using h2
theorem round_ok {rec:Rec} {l:Nat} {args:List Value} {H:Hp} (hw:H.wf)
 (hcode:∀ (cx:Cx) c t ds H,cx.nt<2 ^ cx.d→H.wf→CodeOk P tb cx c t ds H (evCC tb rec cx c t ds H)) :
 TaskOk P tb.ng (.round l args) H (evRound tb rec l args H):=by
 unfold evRound
 cases hb:H.blk l with
 | no=>trivial
 | cells=>trivial
 | obj=>trivial
 | loop rd pd nt lt ps x y db =>
  cases rd with
  | false=>trivial
  | true =>
  cases pd with
  | some c=>trivial
  | none =>
  simp only []
  cases hs:setPs (dep nt) nt ps args lt with
  | none=>trivial
  | some t =>
   simp only []
   have ha:=hcode ⟨dep nt,nt,some l,false⟩ x t [] H (lt_dep nt) hw
   cases hea:evCC tb rec ⟨dep nt,nt,some l,false⟩ x t [] H with
   | fail=>trivial
   | mk e1 t1 ds1 H1 r1 w1 =>
    rw [hea] at ha
    cases e1 with
    | normal =>
     cases ds1 with
     | cons d ds1=>trivial
     | nil =>
      simp only []
      cases hb1:H1.blk l with
      | no=>trivial
      | cells=>trivial
      | obj=>trivial
      | loop rd1 pd1 nt1 lt1 ps1 x1 y1 db1 =>
       cases rd1 with
       | false=>trivial
       | true =>
       cases pd1 with
       | some c=>trivial
       | none =>
       simp only []
       obtain ⟨c1,k1⟩:=ha
       have hal1:alive H1 l:=(alive_iff _ _).2 (by rw [hb1];simp)
       have c2:Can H1 (H1.put l (.loop false none nt1 lt1 ps1 x1 y1 db1)) (bit l):=can_put c1.wf _ hal1
       generalize hH1':H1.put l (.loop false none nt1 lt1 ps1 x1 y1 db1)=H1' at c2 ⊢
       have hbd:=hcode ⟨dep nt,nt,some l,false⟩ y t1 [] H1' (lt_dep nt) c2.wf
       cases heb:evCC tb rec ⟨dep nt,nt,some l,false⟩ y t1 [] H1' with
       | fail=>trivial
       | mk e2 t2 ds2 H2 r2 w2 =>
        rw [heb] at hbd
        obtain ⟨c3,k3⟩:=hbd
        have main:∀ (j:Option Code) (rdd:Bool) (nt2:Nat) (lt2:T Value) (ps2:List Tmp) (x2 y2:Code) (db2:Nat),H2.blk l=.loop false none nt2 lt2 ps2 x2 y2 db2 →
         (∀ e,XRel (fun _=>none) e2 e→∀ β,XRel β e2 e) →
         (∀ (R:Ending→World→Prop) β e (a':Act) W',XRel β e2 e→(∃ v w',(Instr.endRound ((β l).elim 0 Bm.rb) j).run P W'=.ok v w'∧R (.returned v) w')→roundPost P ((β l).elim 0 Bm.rb) R e a' W') →
         TaskOk P tb.ng (.round l args) H (.k (.ret (.bool j.isNone) (H2.put l (.loop j.isNone j nt2 lt2 ps2 x2 y2 db2)) (Nat.lor (Nat.lor (bit l) r1) r2) (Nat.lor (Nat.lor w1 (bit l)) (Nat.lor w2 (bit l))))):=by
         intro j rdd nt2 lt2 ps2 x2 y2 db2 hb2 _ hpost
         have hal2:alive H2 l:=(alive_iff _ _).2 (by rw [hb2];simp)
         have c4:Can H2 (H2.put l (.loop j.isNone j nt2 lt2 ps2 x2 y2 db2)) (bit l):=can_put c3.wf _ hal2
         generalize hH3:H2.put l (.loop j.isNone j nt2 lt2 ps2 x2 y2 db2)=H3 at c4 ⊢
         have c34:Can H1' H3 (Nat.lor w2 (bit l)):=Can.comp c3 c4
         have c234:Can H1 H3 (Nat.lor (bit l) (Nat.lor w2 (bit l))):=Can.comp c2 c34
         refine ⟨by have:=Can.comp c1 c234;rwa [← lor_assoc'] at this,fun β W hg p m args' em hl=>?_⟩
         have hbit:inS (Nat.lor (Nat.lor (bit l) r1) r2) (Nat.lor (Nat.lor w1 (bit l)) (Nat.lor w2 (bit l))) l:=by
          left;rw [lor_bit,lor_bit,(bit_iff l l).2 rfl];rfl
         obtain ⟨m',em',o,ho,hr⟩:=p.rel l hbit ((alive_iff _ _).2 (by rw [hb];simp))
         rw [em] at em';cases em'
         rw [hb] at hr
         obtain ⟨tmps,fn,md,st,rfl,_,htr,_,hst⟩:=hr
         obtain ⟨hlen,htr1⟩:=setPs_ok (lt_dep nt) _ _ _ _ _ _ hs hl htr
         have hy:=run_yield (P:=P) (args:=args') ho (by show args'.size=ps.toArray.size;have:=Array.length_toList (xs:=args');simp only [List.size_toArray];omega)
         refine ⟨fn,_,x,y,hy,?_⟩
         refine roundIn_of_wpIn (n:=0) trivial ?_
         have p':Pre β H H3 (Nat.lor r1 (Nat.lor 0 (Nat.lor r2 0))) (Nat.lor w1 (Nat.lor (bit l) (Nat.lor w2 (bit l)))) W:=by
          rw [zero_lor',lor_zero',← lor_assoc' w1]
          exact p.less (fun b hb'=>by
           rcases hb' with h | h
           ·left;rw [lor_bit] at h;rw [lor_bit,lor_bit];simp only [Bool.or_eq_true] at h ⊢;rcases h with h | h <;> simp [h]
           ·exact .inr h) fun b h=>h
         have htr1':TRel β nt t ((ps.toArray.zip args').foldl (fun tmps (x:Tmp×Value)=>tmps.setIfInBounds x.1 x.2) tmps):=by
          have e:(ps.toArray.zip args').foldl (fun tmps (x:Tmp×Value)=>tmps.setIfInBounds x.1 x.2) tmps=(ps.zip args'.toList).foldl (fun tmps x=>tmps.setIfInBounds x.1 x.2) tmps:=by
           rw [← Array.foldl_toList];simp
          rw [e];exact htr1
         have w1':=k1 β W { tmps:=(ps.toArray.zip args').foldl (fun tmps (x:Tmp×Value)=>tmps.setIfInBounds x.1 x.2) tmps,defers:=[] } (FW.inRound m.rb) hg ⟨m,em,rfl⟩ ⟨htr1',DsRel.nil β⟩ (p'.first c234)
         refine wpIn_mono w1' fun e a1 W1 hc=>?_
         obtain ⟨β1,hx,ha1,q1⟩:=hc
         cases e <;> try exact hx.elim
         have p2:=Pre.second c1 c234 p' q1
         obtain ⟨m',em',o1,ho1,hr1⟩:=p2.rel l (inS_l (inS_w ((bit_iff l l).2 rfl))) hal1
         have:=q1.le _ _ em;rw [em'] at this;cases this
         rw [hb1] at hr1
         obtain ⟨tmps1,fn1,md1,st1,rfl,hmd1,htrb,hsh1,hst1⟩:=hr1
         simp only [if_true] at hst1
         subst hst1
         have hbeg:=run_beginRound (P:=P) ho1 rfl
         refine ⟨_,hbeg,?_⟩
         rw [putObj_setB]
         have q2:=post_put (H:=H1) (W:=W1) (o':=.loop { state:=.busy,pending:=none,fn:=fn1,tmps:=tmps1,params:=ps1.toArray,assign:=x1,body:=y1,defers:=md1.rb }) (.loop false none nt1 lt1 ps1 x1 y1 db1) c1.wf hal1 em' ho1
          ⟨tmps1,fn1,md1,.busy,rfl,hmd1,htrb,hsh1,rfl⟩ p2.dom
         rw [hH1'] at q2
         have p3:=Pre.second c2 c34 p2 q2
         have w2':=k3 β1 _ a1 (FW.inRound m.rb) (hg.mono q1.le) ⟨m,em',rfl⟩ ha1 (p3.first c4)
         refine wpIn_mono w2' fun e a2 W2 hc=>?_
         obtain ⟨β2,hx2,ha2,q3⟩:=hc
         have em2:β2 l=some m:=q3.le _ _ em'
         have p4:=Pre.second c3 c4 p3 q3
         obtain ⟨m',em3,o2,ho2,hr2⟩:=p4.rel l (.inr ((bit_iff l l).2 rfl)) hal2
         rw [em2] at em3;cases em3
         rw [hb2] at hr2
         obtain ⟨tmps2,fn2,md2,st2,rfl,hmd2,htrc,hsh2,hst2⟩:=hr2
         have hend:=run_endRound (P:=P) j ho2
         have:=hpost (RetP β H H3 (Nat.lor (Nat.lor w1 (bit l)) (Nat.lor w2 (bit l))) W (.bool j.isNone)) β2 e a2 W2 hx2
         rw [em2] at this
         refine this ⟨_,_,hend,β2,.bool j.isNone,rfl,.bool _,?_⟩
         rw [putObj_setB]
         have q4:=post_put (H:=H2) (W:=W2) (o':=.loop { state:=if j.isNone then .ready else .done,pending:=j,fn:=fn2,tmps:=tmps2,params:=ps2.toArray,assign:=x2,body:=y2,defers:=md2.rb }) (.loop j.isNone j nt2 lt2 ps2 x2 y2 db2) c3.wf hal2 em2 ho2
          ⟨tmps2,fn2,md2,_,rfl,hmd2,htrc,hsh2,by cases j <;> rfl⟩ p4.dom
         rw [hH3] at q4
         have q34:=Post.comp c3 c4 p3 q3 q4
         have q234:=Post.comp c2 c34 p2 q2 q34
         have q:=Post.comp c1 c234 p' q1 q234
         rw [← lor_assoc'] at q
         exact q
        unfold endRound
        simp only []
        cases hb2:H2.blk l with
        | no=>trivial
        | cells=>trivial
        | obj=>trivial
        | loop rd2 pd2 nt2 lt2 ps2 x2 y2 db2 =>
         cases rd2 with
         | true=>trivial
         | false =>
         cases pd2 with
         | some c=>trivial
         | none =>
         simp only []
         cases e2 with
         | normal =>
          exact main none true nt2 lt2 ps2 x2 y2 db2 hb2 (fun e h β=>by cases e <;> first | trivial | exact h.elim) (fun R β e a' W' hx h=>by cases e <;> first | exact h | exact hx.elim)
         | ret =>
          exact main (some .ret) true nt2 lt2 ps2 x2 y2 db2 hb2 (fun e h β=>by cases e <;> first | trivial | exact h.elim) (fun R β e a' W' hx h=>by cases e <;> first | exact h | exact hx.elim)
         | exit id =>
          refine main (some (.exit id)) true nt2 lt2 ps2 x2 y2 db2 hb2 (fun e h β=>by cases e <;> first | exact h | exact h.elim) (fun R β e a' W' hx h=>?_)
          cases e <;> try exact hx.elim
          have:id=_:=hx
          subst this;exact h
         | goto id =>
          refine main (some (.goto id)) true nt2 lt2 ps2 x2 y2 db2 hb2 (fun e h β=>by cases e <;> first | exact h | exact h.elim) (fun R β e a' W' hx h=>?_)
          cases e <;> try exact hx.elim
          have:id=_:=hx
          subst this;exact h
         | panic v=>trivial
    | _=>trivial
end
theorem LeavesInM.mono {F:Fence} {n:Nat} {P:Program} {fn:Func} {tmps:Array Value} {R R':Ending→World→Prop} (hR:∀ e W,R e W→R' e W):∀ (ds:List Deferred) (u:FrameMode) (W:World),
 LeavesInM F n P fn tmps R ds u W→LeavesInM F n P fn tmps R' ds u W:=by
 intro ds
 induction ds with
 | nil =>
  intro u W h
  cases u with
  | run=>exact h
  | returning=>obtain ⟨v,h1,h2⟩:=h;exact ⟨v,h1,hR _ _ h2⟩
  | panicking c=>exact hR _ _ h
 | cons d ds ih =>
  intro u W h
  obtain ⟨hu,h⟩:=h
  refine ⟨hu,?_⟩
  rcases h with ⟨r,w',h1,h2,h3⟩ | ⟨h1,fv,cap,f,args,h2,h3,h4,h5⟩
  ·exact .inl ⟨r,w',h1,h2,ih _ _ h3⟩
  ·refine .inr ⟨h1,fv,cap,f,args,h2,h3,h4,CallsDIn.mono h5 fun e u' w' hh=>?_⟩
   cases e with
   | returned v=>exact ih _ _ hh
   | panicked c=>exact ih _ _ hh
   | outgrown=>exact hR _ _ hh
theorem VmRel.mono {β β':Mp} (h:Mp.le β β') {m m':FrameMode} (hm:VmRel β m m'):VmRel β' m m':=by
 cases m <;> cases m' <;> first | exact hm | skip
 exact ⟨hm.1,fun i e e' a b=>let ⟨x,y⟩:=hm.2 i e e' a b;⟨x.mono h,y⟩⟩
theorem drop_rel {β:Mp}:∀ (c c':List PanicEntry),c.length=c'.length→(∀ (i:Nat) (e e':PanicEntry),c[i]?=some e→c'[i]?=some e'→VRel β e.v e'.v∧e.recovered=e'.recovered∧e.goexit=e'.goexit) →
 (c.dropWhile (!·.goexit)).length=(c'.dropWhile (!·.goexit)).length∧∀ (i:Nat) (e e':PanicEntry),(c.dropWhile (!·.goexit))[i]?=some e→(c'.dropWhile (!·.goexit))[i]?=some e'→VRel β e.v e'.v∧e.recovered=e'.recovered∧e.goexit=e'.goexit:=by
 intro c
 induction c with
 | nil=>intro c' h _;cases c' with
  | nil=>exact ⟨rfl,fun i e e' a=>by simp at a⟩
  | cons=>simp at h
 | cons x xs ih =>
  intro c' h hr
  cases c' with
  | nil=>simp at h
  | cons y ys =>
   have h0:=hr 0 x y rfl rfl
   simp only [List.dropWhile_cons]
   rw [h0.2.2]
   cases y.goexit with
   | true=>exact ⟨h,hr⟩
   | false=>exact ih ys (by simpa using h) fun i e e' a b=>hr (i+1) e e' (by simpa using a) (by simpa using b)
theorem settle_rel {β:Mp} {m m':FrameMode} (hm:VmRel β m m'):VmRel β (settleM m) (settle m'):=by
 cases m <;> cases m' <;> first | exact hm | exact hm.elim | skip
 rename_i c c'
 obtain ⟨h1,h2⟩:=hm
 cases c with
 | nil=>cases c' with
  | nil=>exact ⟨rfl,h2⟩
  | cons=>simp at h1
 | cons x xs =>
  cases c' with
  | nil=>simp at h1
  | cons y ys =>
   have h0:=h2 0 x y rfl rfl
   obtain ⟨xv,xr,xg⟩:=x
   obtain ⟨yv,yr,yg⟩:=y
   simp only at h0
   obtain ⟨hv,rfl,rfl⟩:=h0
   cases xr with
   | false=>exact ⟨h1,h2⟩
   | true =>
    have hd:=drop_rel xs ys (by simpa using h1) fun i e e' a b=>h2 (i+1) e e' (by simpa using a) (by simpa using b)
    simp only [settleM,settle]
    revert hd
    generalize xs.dropWhile (!·.goexit)=p
    generalize ys.dropWhile (!·.goexit)=q
    intro hd
    cases p with
    | nil=>cases q with
     | nil=>trivial
     | cons=>have:=hd.1;simp at this
    | cons=>cases q with
     | nil=>have:=hd.1;simp at this
     | cons=>exact hd
def resOne (tmps:Array Value):ResultVar→Sem Value
 | .tmp i=>pure (tmps.getD i undef)
 | .cell a ty=>do loadVar ty (← asAddr (tmps.getD a undef))
section
variable {P:Program} {tb:Tb}
theorem resL_ok (ok:TbOk P tb) {β:Mp} {H H':Hp} {W:World} {nt:Nat} {t:T Value} {tmps:Array Value} (ht:TRel β nt t tmps):∀ (res:List ResultVar) (l:List Value) (r rt wt:Nat),resL tb nt t H res=some (l,r) →
 (∀ b,r.testBit b=true→rt.testBit b=true)→Pre β H H' rt wt W →
 ∃ l',(res.mapM (resOne tmps)).run P W=.ok l' W∧LRel β l l':=by
 intro res
 induction res with
 | nil =>
  intro l r rt wt h _ _
  simp only [resL,Option.some.injEq,Prod.mk.injEq] at h
  obtain ⟨rfl,rfl⟩:=h
  exact ⟨[],by simp,LRel.nil _⟩
 | cons x res ih =>
  intro l r rt wt h hr p
  cases x with
  | tmp i =>
   simp only [resL] at h
   cases hi:Nat.blt i nt with
   | false=>rw [hi,Bc_f] at h;cases h
   | true =>
    rw [hi,Bc_t] at h
    cases hl:resL tb nt t H res with
    | none=>rw [hl] at h;cases h
    | some q =>
     obtain ⟨l2,r2⟩:=q
     rw [hl] at h
     simp only [Option.some.injEq,Prod.mk.injEq] at h
     obtain ⟨rfl,rfl⟩:=h
     obtain ⟨l',h1,h2⟩:=ih l2 r2 rt wt hl hr p
     exact ⟨_::l',by simp [resOne,h1],LRel.cons (trel_get ht ((blt_iff _ _).1 hi)) h2⟩
  | cell a ty =>
   simp only [resL] at h
   cases hi:Nat.blt a nt with
   | false=>rw [hi,Bc_f] at h;cases h
   | true =>
    rw [hi,Bc_t] at h
    have hv:=trel_get ht ((blt_iff _ _).1 hi)
    cases ha:asPtr (t.get a) with
    | none=>rw [ha] at h;cases h
    | some bo =>
     obtain ⟨b,o⟩:=bo
     rw [ha] at h
     rw [asPtr_inv ha] at hv
     simp only at h
     generalize hg:tmps.getD a undef=v' at hv
     cases hv with | ptr _ _ m0 e0 =>
     have hin:∀ (v:Value) l2 r2,resL tb nt t H res=some (l2,r2)→v::l2=l→Nat.lor (bit b) r2=r→(∃ v',(loadVar ty ⟨m0.rb,o+m0.sh,none⟩).run P W=.ok v' W∧VRel β v v') →
      ∃ l',((ResultVar.cell a ty::res).mapM (resOne tmps)).run P W=.ok l' W∧LRel β l l':=by
      intro v l2 r2 hl e1 e2 ⟨v',hv',hrel⟩
      subst e1 e2
      obtain ⟨l',h1,h2⟩:=ih l2 r2 rt wt hl (fun b' hb'=>hr b' (by rw [lor_bit,hb'];simp)) p
      exact ⟨v'::l',by simp [resOne,hg,asAddr,hv',h1],LRel.cons hrel h2⟩
     have hrb:∀ r2,Nat.lor (bit b) r2=r→rt.testBit b=true:=fun r2 e=>hr b (by rw [← e,lor_bit,(bit_iff b b).2 rfl];rfl)
     cases hagg:isAggT tb ty with
     | none=>rw [hagg] at h;cases h
     | some ag =>
      rw [hagg] at h
      cases ag with
      | false =>
       simp only at h
       cases h1:rd1 H b o with
       | none=>rw [h1] at h;cases h
       | some v =>
        rw [h1] at h
        simp only at h
        cases hl:resL tb nt t H res with
        | none=>rw [hl] at h;cases h
        | some q =>
         obtain ⟨l2,r2⟩:=q
         rw [hl] at h
         simp only [Option.some.injEq,Prod.mk.injEq] at h
         refine hin v l2 r2 hl h.1 h.2 ?_
         obtain ⟨t',n,ty',op,lo,hi',hb,ho,rfl⟩:=rd1_inv h1
         obtain ⟨m,cs,fr,em,hm,_,_,_,_,h4,_⟩:=cells_of p (.inl (hrb r2 h.2)) hb
         rw [e0] at em;cases em
         obtain ⟨_,x',ex,hx⟩:=h4 o ho
         have hc:W.cell? ⟨m0.rb,o+m0.sh,none⟩=some x':=by rw [cell_of hm,show o+m0.sh=m0.sh+o from by omega];exact ex
         exact ⟨x',by simp [loadVar,isAggT_f ok hagg,hc],hx⟩
      | true =>
       simp only at h
       cases hsz:szOf tb ty with
       | none=>rw [hsz] at h;cases h
       | some n =>
        rw [hsz] at h
        simp only at h
        cases h1:rdN H b o n with
        | none=>rw [h1] at h;cases h
        | some vs =>
         rw [h1] at h
         simp only at h
         cases hl:resL tb nt t H res with
         | none=>rw [hl] at h;cases h
         | some q =>
          obtain ⟨l2,r2⟩:=q
          rw [hl] at h
          simp only [Option.some.injEq,Prod.mk.injEq] at h
          refine hin (.agg ⟨vs⟩) l2 r2 hl h.1 h.2 ?_
          obtain ⟨t',k,ty',op,lo,hi',hb,ho,rfl⟩:=rdN_inv h1
          obtain ⟨m,cs,fr,em,hm,hs1,hs2,_,_,h4,_⟩:=cells_of p (.inl (hrb r2 h.2)) hb
          rw [e0] at em;cases em
          obtain ⟨i,hi',rfl⟩:=szOf_inv ok hsz
          have hlr:=lrel_row (sh:=m0.sh) ho (by omega) h4
          refine ⟨.agg ⟨rowOf cs (o+m0.sh) i.size⟩,?_,.agg _ _ (one_row ho fun j hj=>(h4 j hj).1) hlr.1 hlr.2⟩
          simp [loadVar,isAggT_t ok hagg,run_sizeOf' hi',run_row hm (show o+m0.sh+i.size≤cs.size by omega)]
theorem results_ok (ok:TbOk P tb) {β:Mp} {H H':Hp} {W:World} {nt:Nat} {t:T Value} {tmps:Array Value} {fn:Func} {l:List Value} {r rt wt:Nat} (ht:TRel β nt t tmps) (h:resL tb nt t H fn.results.toList=some (l,r))
 (hr:∀ b,r.testBit b=true→rt.testBit b=true) (p:Pre β H H' rt wt W):∃ v,(results fn tmps).run P W=.ok v W∧VRel β (resV l) v:=by
 obtain ⟨l',h1,h2⟩:=resL_ok ok ht _ _ _ _ _ h hr p
 have hres:results fn tmps=(do let vs ← fn.results.mapM (resOne tmps);pure (if h:vs.size=1 then vs[0] else .tuple vs)):=by
  unfold results
  congr 1
 rw [hres]
 have hm:(fn.results.mapM (resOne tmps)).run P W=.ok l'.toArray W:=by
  rw [Array.mapM_eq_mapM_toList]
  simp [h1]
 simp only [Sem.run_bind,hm,Result.andThen_ok,Sem.run_pure]
 refine ⟨_,rfl,?_⟩
 cases l with
 | nil=>have:=h2.nil_inv;subst this;exact .tuple [] [] rfl fun i v v' h=>by simp at h
 | cons v l =>
  obtain ⟨v',l2,rfl,hv,hl⟩:=h2.cons_inv
  cases l with
  | nil=>have:=hl.nil_inv;subst this;simpa [resV] using hv
  | cons v2 l =>
   obtain ⟨v2',l3,rfl,hv2,hl2⟩:=hl.cons_inv
   simp only [resV,List.size_toArray,List.length_cons]
   rw [dif_neg (by omega)]
   exact .tuple _ _ h2.1 h2.2
end
section
variable {P:Program} {tb:Tb}
theorem fullU_get:∀ (d i:Nat),(fullU d).get i=U:=by
 intro d
 induction d with
 | zero=>intro i;rfl
 | succ d ih =>
  intro i
  show (T.n (fullU d) (fullU d)).get i=U
  rw [T.get_n]
  split <;> exact ih _
theorem enter_rel {β:Mp} {fn:Func} {args:List Value} {args':Array Value} (hl:LRel β args args'.toList) (hn:args.length≤fn.ntmps) :
 TRel β fn.ntmps (enterT fn args) (args'++Array.replicate (fn.ntmps-args'.size) undef):=by
 have hs:args'.size=args.length:=by rw [← Array.length_toList];exact hl.1.symm
 refine ⟨by simp;omega,fun i v hv=>?_⟩
 have hi:i<fn.ntmps:=by
  rcases Nat.lt_or_ge i fn.ntmps with h | h
  ·exact h
  ·rw [Array.getElem?_eq_none (by simp;omega)] at hv;cases hv
 have hd:=lt_dep fn.ntmps
 unfold enterT
 rw [wrL_get (dep fn.ntmps) args 0 (fullU (dep fn.ntmps)) i (by omega) (by omega)]
 by_cases h:i<args.length
 ·rw [if_pos ⟨Nat.zero_le _,by omega⟩]
  rw [Array.getElem?_append_left (by omega)] at hv
  have hg:args.getD (i-0) U=args[i]:=by simp [h]
  rw [hg]
  exact hl.2 i args[i] v (by simp [h]) (by simpa using hv)
 ·rw [if_neg (by omega)]
  rw [Array.getElem?_append_right (by omega)] at hv
  rw [Array.getElem?_replicate] at hv
  split at hv
  ·cases hv;rw [fullU_get];exact vrel_U β
  ·cases hv
theorem call_enter (ok:TbOk P tb) {f:FuncId} {fn:Func} {c:Code} (e:tb.fn f=some fn) (hb:fn.body=some c) (args:Array Value) (W:World):(callFunc f args).run P W=.ok (.enter f args) W:=by
 have e1:=ok.fn _ _ e
 have e2:=ok.nog _ _ e
 have e3 : ¬ fn.name = "runtime.NumGoroutine" := by simpa using e2
 have e4:¬ fn.body=none:=by intro h0;simp [h0] at *
 simp [callFunc,e1,e3,e4]
theorem join_ok {P:Program} {ng:Nat} {H H1:Hp} {r1 w1:Nat} {x:TR} {nt:Nat} {res:List ResultVar} {t:T Value} {ds:List Deferred} {m:FrameMode} {C:Mp→World→(Ending→World→Prop)→Prop}
 (c1:Can H H1 w1) (h2:TaskOk P ng (.unwind nt res t ds m) H1 x)
 (hC:∀ (H2:Hp) (r2 w2:Nat) (v:Value) (pan:Bool),Can H1 H2 w2 →
  (∀ β W,GRel ng β→Pre β H1 H2 r2 w2 W→∀ (fn:Func) (tmps:Array Value) (ds':List Deferred) (m':FrameMode),fn.results.toList=res→TRel β nt t tmps→DsRel β ds ds'→VmRel β m m'→m'≠.run →
   LeavesInM FW 0 P fn tmps (if pan then PanP β H1 H2 w2 W v else RetP β H1 H2 w2 W v) ds' m' W) →
  ∀ β W,GRel ng β→Pre β H H2 (Nat.lor r1 r2) (Nat.lor w1 w2) W→C β W (if pan then PanP β H H2 (Nat.lor w1 w2) W v else RetP β H H2 (Nat.lor w1 w2) W v)) :
 KOk ng H (KR.join r1 w1 x) C:=by
 cases x with
 | c y=>trivial
 | k y =>
  cases y with
  | fail n=>trivial
  | drop um H' r w=>trivial
  | ret v H2 r2 w2 =>
   obtain ⟨c2,k2⟩:=h2
   simp only [KR.join,Fz_eq]
   exact ⟨Can.comp c1 c2,hC H2 r2 w2 v false c2 k2⟩
  | panic v H2 r2 w2 =>
   obtain ⟨c2,k2⟩:=h2
   exact ⟨Can.comp c1 c2,hC H2 r2 w2 v true c2 k2⟩
theorem ret_comp {β β1:Mp} {H H1 H2:Hp} {r1 r2 w1 w2:Nat} {W W1:World} {v:Value} (pan:Bool) (c1:Can H H1 w1) (c2:Can H1 H2 w2) (p:Pre β H H2 (Nat.lor r1 r2) (Nat.lor w1 w2) W) (q:Post β β1 H H1 w1 W W1) :
 ∀ e W',(if pan then PanP β1 H1 H2 w2 W1 v else RetP β1 H1 H2 w2 W1 v) e W'→(if pan then PanP β H H2 (Nat.lor w1 w2) W v else RetP β H H2 (Nat.lor w1 w2) W v) e W':=by
 intro e W' h
 cases pan with
 | false=>obtain ⟨β',v',h1,h2,h3⟩:=h;exact ⟨β',v',h1,h2,Post.comp c1 c2 p q h3⟩
 | true=>obtain ⟨β',v',h1,h2,h3⟩:=h;exact ⟨β',v',h1,h2,Post.comp c1 c2 p q h3⟩
theorem call_ok (ok:TbOk P tb) {rec:Rec} (hrec:RecOk P tb.ng rec) {f:FuncId} {args:List Value} {H:Hp} (hw:H.wf)
 (hcode:∀ (cx:Cx) c t ds H,cx.nt<2 ^ cx.d→H.wf→CodeOk P tb cx c t ds H (evCC tb rec cx c t ds H)) :
 TaskOk P tb.ng (.call f args) H (evCall tb rec f args H):=by
 unfold evCall
 cases hf:tb.fn f with
 | none=>trivial
 | some fn =>
  simp only []
  cases hb:fn.body with
  | none=>trivial
  | some c =>
   simp only []
   cases hn:Nat.ble args.length fn.ntmps with
   | false=>rw [Bc_f];trivial
   | true =>
    rw [Bc_t]
    have hn':=(ble_iff _ _).1 hn
    have hc:=hcode ⟨dep fn.ntmps,fn.ntmps,none,false⟩ c (enterT fn args) [] H (lt_dep _) hw
    cases hev:evCC tb rec ⟨dep fn.ntmps,fn.ntmps,none,false⟩ c (enterT fn args) [] H with
    | fail=>trivial
    | mk x t1 ds1 H1 r1 w1 =>
     rw [hev] at hc
     obtain ⟨c1,k1⟩:=hc
     have go:∀ m:FrameMode,m≠.run→(∀ β e (a':Act) (W':World) (R:Ending→World→Prop),XRel β x e→(∀ m',VmRel β m m'→m'≠.run→LeavesInM FW 0 P fn a'.tmps R a'.defers m' W')→bodyPostM FW 0 P fn R e a' W') →
      KOk tb.ng H (KR.join r1 w1 (rec (.unwind fn.ntmps fn.results.toList t1 ds1 m) H1)) (fun β W R=>∀ args':Array Value,LRel β args args'.toList→CallOk P f args' W R):=by
      intro m hm hbp
      refine join_ok c1 (hrec (.unwind fn.ntmps fn.results.toList t1 ds1 m) H1 c1.wf) fun H2 r2 w2 v pan c2 k2 β W hg p=>?_
      intro args' hl
      refine .inl ⟨call_enter ok hf hb args' W,callsIn_of_wp_marks (ok.fn _ _ hf) hb trivial ?_⟩
      have hT:=enter_rel (fn:=fn) hl hn'
      refine wpIn_mono (k1 β W _ FW hg rfl ⟨hT,DsRel.nil β⟩ (p.first c2)) fun e a' W' hcp=>?_
      obtain ⟨β1,hx,ha1,q⟩:=hcp
      refine hbp β1 e a' W' _ hx fun m' hmm hm'=>?_
      exact LeavesInM.mono (ret_comp pan c1 c2 p q) _ _ _ (k2 β1 W' (hg.mono q.le) (Pre.second c1 c2 p q) fn a'.tmps a'.defers m' rfl ha1.1 ha1.2 hmm hm')
     cases x with
     | normal=>exact go .returning (by simp) fun β e a' W' R hx h=>by cases e <;> first | exact h .returning trivial (by simp) | exact hx.elim
     | ret=>exact go .returning (by simp) fun β e a' W' R hx h=>by cases e <;> first | exact h .returning trivial (by simp) | exact hx.elim
     | panic v =>
      refine go (.panicking [{ v,recovered:=false }]) (by simp) fun β e a' W' R hx h=>?_
      cases e <;> try exact hx.elim
      obtain ⟨v',rfl,hv⟩:=hx
      refine h (.panicking [{ v:=v',recovered:=false }]) ⟨rfl,fun i e e' a b=>?_⟩ (by simp)
      cases i with
      | zero=>simp at a b;subst a b;exact ⟨hv,rfl,rfl⟩
      | succ i=>simp at a
     | exit id=>trivial
     | goto id=>trivial
theorem taskOk_unwind {P:Program} {ng nt:Nat} {res:List ResultVar} {t:T Value} {ds:List Deferred} {m:FrameMode} {H:Hp} {x:TR}:TaskOk P ng (.unwind nt res t ds m) H x=KOk ng H x (fun β W R=>∀ (fn:Func) (tmps:Array Value) (ds':List Deferred) (m':FrameMode),fn.results.toList=res→TRel β nt t tmps→DsRel β ds ds'→VmRel β m m'→m'≠.run→LeavesInM FW 0 P fn tmps R ds' m' W):=rfl
theorem unwind_ok (ok:TbOk P tb) {rec:Rec} (hrec:RecOk P tb.ng rec) {nt:Nat} {res:List ResultVar} {t:T Value} {ds:List Deferred} {m:FrameMode} {H:Hp} (hw:H.wf) :
 TaskOk P tb.ng (.unwind nt res t ds m) H (evUnwind tb rec nt res t ds m H):=by
 unfold evUnwind
 cases ds with
 | nil =>
  simp only []
  split
  ·cases hr:resL tb nt t H res with
   | none=>trivial
   | some q =>
    obtain ⟨l,r⟩:=q
    refine ⟨Can.refl hw,fun β W hg p fn tmps ds' m' hres ht hds hm hm'=>?_⟩
    have:=hds.nil_inv;subst this
    cases m' <;> try exact hm.elim
    subst hres
    obtain ⟨v,h1,h2⟩:=results_ok ok ht hr (fun b h=>h) p
    exact ⟨v,h1,β,v,rfl,h2,Post.refl p.dom⟩
  ·rename_i v
   refine ⟨Can.refl hw,fun β W hg p fn tmps ds' m' hres ht hds hm hm'=>?_⟩
   have:=hds.nil_inv;subst this
   cases m' <;> try exact hm.elim
   rename_i c'
   obtain ⟨h1,h2⟩:=hm
   match c',h1 with
   | [⟨v',r',g'⟩],_ =>
    obtain ⟨a,b,c⟩:=h2 0 _ _ rfl rfl
    simp only at a b c
    subst b c
    exact ⟨β,v',rfl,a,Post.refl p.dom⟩
  ·trivial
 | cons d ds =>
  simp only []
  obtain ⟨tg,dargs⟩:=d
  simp only []
  cases tg with
  | collected b =>
   simp only []
   split
   ·rename_i hb
    have hal:alive H b:=(alive_iff _ _).2 (by rw [hb];simp)
    have c1:Can H (H.put b .no) (bit b):=can_put hw .no hal
    rw [taskOk_unwind]
    refine join_ok c1 (hrec (.unwind nt res t ds m) (H.put b .no) c1.wf) fun H2 r2 w2 v pan c2 k2 β W hg p=>?_
    intro fn tmps ds' m' hres ht hds hm hm'
    obtain ⟨d',l',rfl,hd,hl⟩:=hds.cons_inv
    obtain ⟨tg',dargs'⟩:=d'
    have hd1:=hd.1
    simp only at hd1
    cases tg' <;> try exact hd1.elim
    rename_i b'
    obtain ⟨mb,em,rfl⟩:=hd1
    obtain ⟨m2,em2,o,ho,hor⟩:=p.rel b (inS_l (inS_w ((bit_iff _ _).2 rfl))) hal
    rw [em] at em2;cases em2
    rw [hb] at hor
    obtain ⟨rfl,hsh⟩:=hor
    have q1:=post_put (o':=.deferred none) .no hw hal em ho trivial p.dom
    refine ⟨hm',.inl ⟨mb.rb,_,rfl,run_takeDeferred ho,?_⟩⟩
    rw [putObj_setB]
    exact LeavesInM.mono (ret_comp pan c1 c2 p q1) _ _ _ (k2 β _ hg (Pre.second c1 c2 p q1) fn tmps l' m' hres ht hl hm hm')
   ·trivial
  | fn fv cap =>
   cases fv with
   | func f =>
    simp only []
    unfold afterDefer
    have hk:=hrec (.dcall f (dargs.toList++cap.toList) m) H hw
    split
    ·rename_i m1 H1 r w hx
     rw [hx] at hk
     obtain ⟨c1,k1⟩:=hk
     cases hset:settleM m1 with
     | run=>trivial
     | _ =>
      simp only []
      rw [← hset]
      rw [taskOk_unwind]
      refine join_ok c1 (hrec (.unwind nt res t ds (settleM m1)) H1 c1.wf) fun H2 r2 w2 v pan c2 k2 β W hg p=>?_
      intro fn tmps ds' m' hres ht hds hm hm'
      obtain ⟨d',l',rfl,hd,hl⟩:=hds.cons_inv
      obtain ⟨tg',dargs'⟩:=d'
      have hd1:=hd.1
      have hd2:=hd.2
      simp only at hd1
      cases tg' <;> try exact hd1.elim
      rename_i fv' cap'
      cases fv' <;> try exact hd1.elim
      rename_i f'
      obtain ⟨rfl,hcap⟩:=hd1
      have hargs:LRel β (dargs.toList++cap.toList) (dargs'++cap').toList:=by rw [Array.toList_append];exact LRel.append hd2 hcap
      obtain ⟨h1,h2⟩:=k1 β W (dargs'++cap') m' hg hargs hm (p.first c2)
      refine ⟨hm',.inr ⟨(fun h=>by cases h),.func f,cap',f,dargs'++cap',rfl,?_,fun _ _=>trivial,?_⟩⟩
      ·simpa [invoke] using h1
      ·refine CallsDIn.mono h2 fun e u' W' hh=>?_
       obtain ⟨β1,v',rfl,hu,q1⟩:=hh
       have hsr:=settle_rel hu
       have hne:settle u'≠.run:=by
        intro he
        rw [he,hset] at hsr
        exact hsr
       exact LeavesInM.mono (ret_comp pan c1 c2 p q1) _ _ _ (k2 β1 W' (hg.mono q1.le) (Pre.second c1 c2 p q1) fn tmps l' (settle u') hres (ht.mono q1.le) (hl.mono q1.le) hsr hne)
    ·trivial
   | _=>trivial
  | _=>trivial
end
end Go.Ev
end
