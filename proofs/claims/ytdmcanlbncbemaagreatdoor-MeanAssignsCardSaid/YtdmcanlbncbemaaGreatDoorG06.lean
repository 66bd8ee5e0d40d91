/-
 A part of the reckoner for the statements of a Go program: what it answers,the model answers. Holds for every program whose tables are as given.
-/
import Derived.Test.YtdmcanlbncbemaaGreatDoorG05
set_option linter.unusedSimpArgs false
set_option linter.unusedVariables false
set_option linter.unusedSectionVars false
set_option maxRecDepth 100000
set_option maxHeartbeats 8000000
noncomputable section
namespace Go.Ev
variable [dj]
theorem LeavesInM.mono {F:Fence} {n:Nat} {P:Program} {fn:Func} {tmps:Array Value} {R R':Ending->World->Prop} (hR:∀ e W,R e W->R' e W):∀ (ds:List Deferred) (u:FrameMode) (W:World),
 LeavesInM F n P fn tmps R ds u W->LeavesInM F n P fn tmps R' ds u W:=by
 intro ds
 induction ds with
 |nil =>
  intro u W h
  cases u with
  |run=>exact h
  |returning=>obtain⟨v,h1,h2⟩:=h;exact⟨v,h1,hR _ _ h2⟩
  |panicking c=>exact hR _ _ h
 |cons d ds ih =>
  intro u W h
  obtain⟨hu,h⟩:=h
  refine⟨hu,?_⟩
  rcases h with⟨r,w',h1,h2,h3⟩|⟨h1,fv,cap,f,args,h2,h3,h4,h5⟩
  ·exact .inl ⟨r,w',h1,h2,ih _ _ h3⟩
  ·refine .inr ⟨h1,fv,cap,f,args,h2,h3,h4,CallsDIn.mono h5 λe u' w' hh=>?_⟩
   cases e with
   |returned v=>exact ih _ _ hh
   |panicked c=>exact ih _ _ hh
   |outgrown=>exact hR _ _ hh
theorem gE.mono {β β':Mp} (h:Mp.le β β') {m m':FrameMode} (hm:gE β m m'):gE β' m m':=by
 cases m<;>cases m'<;>first|exact hm|skip
 obtain⟨x,y,old,h1,h2,h3,h4,h5⟩:=hm
 exact⟨x,y,old,h1,h2,h3,h4.mono h,h5⟩
theorem Bq:∀ (l:List PanicEntry),Af l->l.dropWhile (!·.goexit)=[]
 | [],_=>rfl
 |x::xs,h=>by
  have hx:=h x (by simp)
  simp only[List.dropWhile_cons,hx,Bool.not_false,if_true]
  exact Bq xs λy hy=>h y (List.mem_cons_of_mem _ hy)
theorem HM {β:Mp} {m m':FrameMode} (hm:gE β m m'):gE β (mW m) (settle m'):=by
 cases m<;>cases m'<;>first|exact hm|exact hm.elim|skip
 obtain⟨x,y,old,rfl,rfl,h3,h4,h5,h6,h7⟩:=hm
 obtain⟨xv,xr,xg⟩:=x
 obtain⟨yv,yr,yg⟩:=y
 simp only at h4 h5 h6 h7
 subst h5 h6 h7
 cases xr with
 |false=>exact⟨_,_,old,rfl,rfl,h3,h4,rfl,rfl,rfl⟩
 |true =>
  simp only[mW,settle,Bq old h3,List.dropWhile_nil]
  trivial
theorem HS {β:Mp} {m m':FrameMode} {v v':Value} {old:List PanicEntry} (hm:gE β m m') (ho:Af old) (hv:ai β v v'):gE β (.panicking [{ v:=v,recovered:=false }]) (raised m' ({ v:=v',recovered:=false }::old)):=by
 cases m' with
 |panicking c' =>
  cases m<;>try exact hm.elim
  obtain⟨x,y,old2,_,rfl,h3,_,_,_,h7⟩:=hm
  refine⟨_,_,old++(y::old2),rfl,rfl,λz hz=>?_,hv,rfl,rfl,rfl⟩
  rcases List.mem_append.1 hz with h|h
  ·exact ho z h
  ·rcases List.mem_cons.1 h with rfl|h
   ·exact h7
   ·exact h3 z h
 |_=>exact⟨_,_,old,rfl,rfl,ho,hv,rfl,rfl,rfl⟩
def tP (tmps:Array Value):ResultVar->Sem Value
 |.tmp i=>pure (tmps.getD i undef)
 |.cell a ty=>do loadVar ty (<-asAddr (tmps.getD a undef))
section
variable {P:Program} {tb:Tb}
theorem YI (ok:dI P tb) {β:Mp} {H H':Hp} {W:World} {nt:Nat} {t:T Value} {tmps:Array Value} (ht:jc β nt t tmps):∀ (res:List ResultVar) (l:List Value) (r rt wt:Nat),eg tb nt t H res=some (l,r) ->
 (∀ b,r.testBit b=true->rt.testBit b=true)->Pre β H H' rt wt W ->
 ∃ l',(res.mapM (tP tmps)).run P W=.ok l' W/\ak β l l':=by
 intro res
 induction res with
 |nil =>
  intro l r rt wt h _ _
  simp only[eg,Option.some.injEq,Prod.mk.injEq]at h
  obtain⟨rfl,rfl⟩:=h
  exact⟨[],by simp,ak.nil _⟩
 |cons x res ih =>
  intro l r rt wt h hr p
  cases x with
  |tmp i =>
   simp only[eg]at h
   cases hi:Nat.blt i nt with
   |false=>rw[hi,au]at h;cases h
   |true =>
    rw[hi,aj]at h
    cases hl:eg tb nt t H res with
    |none=>rw[hl]at h;cases h
    |some q =>
     obtain⟨l2,r2⟩:=q
     rw[hl]at h
     simp only[Option.some.injEq,Prod.mk.injEq]at h
     obtain⟨rfl,rfl⟩:=h
     obtain⟨l',h1,h2⟩:=ih l2 r2 rt wt hl hr p
     exact⟨_::l',by simp[tP,h1],ak.cons (jR ht ((an _ _).1 hi)) h2⟩
  |cell a ty =>
   simp only[eg]at h
   cases hi:Nat.blt a nt with
   |false=>rw[hi,au]at h;cases h
   |true =>
    rw[hi,aj]at h
    have hv:=jR ht ((an _ _).1 hi)
    cases ha:eZ (t.get a)with
    |none=>rw[ha]at h;cases h
    |some bo =>
     obtain⟨b,o⟩:=bo
     rw[ha]at h
     rw[eD ha]at hv
     simp only at h
     generalize hg:tmps.getD a undef=v' at hv
     cases hv with|ptr _ _ m0 e0 =>
     have hin:∀ (v:Value) l2 r2,eg tb nt t H res=some (l2,r2)->v::l2=l->Nat.lor (bit b) r2=r->(∃ v',(loadVar ty ⟨m0.rb,o+m0.sh,none⟩).run P W=.ok v' W/\ai β v v') ->
      ∃ l',((ResultVar.cell a ty::res).mapM (tP tmps)).run P W=.ok l' W/\ak β l l':=by
      intro v l2 r2 hl e1 e2 ⟨v',hv',Uy⟩
      subst e1 e2
      obtain⟨l',h1,h2⟩:=ih l2 r2 rt wt hl (λb' hb'=>hr b' (by rw[aM,hb'];simp)) p
      exact⟨v'::l',by simp[tP,hg,asAddr,hv',h1],ak.cons Uy h2⟩
     have hrb:∀ r2,Nat.lor (bit b) r2=r->rt.testBit b=true:=λr2 e=>hr b (by rw[<-e,aM,(aB b b).2 rfl];rfl)
     cases PB:dN tb ty with
     |none=>rw[PB]at h;cases h
     |some ag =>
      rw[PB]at h
      cases ag with
      |false =>
       simp only at h
       cases h1:OG H b o with
       |none=>rw[h1]at h;cases h
       |some v =>
        rw[h1]at h
        simp only at h
        cases hl:eg tb nt t H res with
        |none=>rw[hl]at h;cases h
        |some q =>
         obtain⟨l2,r2⟩:=q
         rw[hl]at h
         simp only[Option.some.injEq,Prod.mk.injEq]at h
         refine hin v l2 r2 hl h.1 h.2 ?_
         obtain⟨t',n,ty',op,lo,hi',hb,ho,rfl⟩:=KQ h1
         obtain⟨m,cs,fr,em,hm,_,_,_,_,h4,_⟩:=eW p (.inl (hrb r2 h.2)) hb
         rw[e0]at em;cases em
         obtain⟨_,x',ex,hx⟩:=h4 o ho
         have hc:W.cell? ⟨m0.rb,o+m0.sh,none⟩=some x':=by rw[cell_of hm,show o+m0.sh=m0.sh+o from by omega];exact ex
         exact⟨x',by simp[loadVar,sG ok PB,hc],hx⟩
      |true =>
       simp only at h
       cases hsz:eY tb ty with
       |none=>rw[hsz]at h;cases h
       |some n =>
        rw[hsz]at h
        simp only at h
        cases h1:qU H b o n with
        |none=>rw[h1]at h;cases h
        |some vs =>
         rw[h1]at h
         simp only at h
         cases hl:eg tb nt t H res with
         |none=>rw[hl]at h;cases h
         |some q =>
          obtain⟨l2,r2⟩:=q
          rw[hl]at h
          simp only[Option.some.injEq,Prod.mk.injEq]at h
          refine hin (.agg ⟨vs⟩) l2 r2 hl h.1 h.2 ?_
          obtain⟨t',k,ty',op,lo,hi',hb,ho,rfl⟩:=rN h1
          obtain⟨m,cs,fr,em,hm,hs1,hs2,_,_,h4,_⟩:=eW p (.inl (hrb r2 h.2)) hb
          rw[e0]at em;cases em
          obtain⟨i,hi',rfl⟩:=cC ok hsz
          have hlr:=jZ (sh:=m0.sh) ho (by omega) h4
          refine⟨.agg ⟨rowOf cs (o+m0.sh) i.size⟩,?_,.agg _ _ (rV ho λj hj=>(h4 j hj).1) hlr.1 hlr.2⟩
          simp[loadVar,sF ok PB,aX hi',pE hm (show o+m0.sh+i.size<=cs.size by omega)]
theorem xD (ok:dI P tb) {β:Mp} {H H':Hp} {W:World} {nt:Nat} {t:T Value} {tmps:Array Value} {fn:Func} {l:List Value} {r rt wt:Nat} (ht:jc β nt t tmps) (h:eg tb nt t H fn.results.toList=some (l,r))
 (hr:∀ b,r.testBit b=true->rt.testBit b=true) (p:Pre β H H' rt wt W):∃ v,(results fn tmps).run P W=.ok v W/\ai β (B6 l) v:=by
 obtain⟨l',h1,h2⟩:=YI ok ht _ _ _ _ _ h hr p
 have hres:results fn tmps=(do let vs <-fn.results.mapM (tP tmps);pure (if h:vs.size=1 then vs[0]else .tuple vs)):=by
  unfold results
  congr 1
 rw[hres]
 have hm:(fn.results.mapM (tP tmps)).run P W=.ok l'.toArray W:=by
  rw[Array.mapM_eq_mapM_toList]
  simp[h1]
 simp only[Sem.run_bind,hm,Result.andThen_ok,Sem.run_pure]
 refine⟨_,rfl,?_⟩
 cases l with
 |nil=>have:=h2.aL;subst this;exact .tuple [] [] rfl λi v v' h=>by simp at h
 |cons v l =>
  obtain⟨v',l2,rfl,hv,hl⟩:=h2.cons_inv
  cases l with
  |nil=>have:=hl.aL;subst this;simpa [B6] using hv
  |cons v2 l =>
   obtain⟨v2',l3,rfl,hv2,sL⟩:=hl.cons_inv
   simp only[B6,List.size_toArray,List.length_cons]
   rw[dif_neg (by omega)]
   exact .tuple _ _ h2.1 h2.2
end
end Go.Ev
end
noncomputable section
namespace Go.Ev
variable [dj]
section
variable {P:Program} {tb:Tb}
theorem Bh (d i:Nat):(VS d).get i=U:=rfl
theorem uG {β:Mp} {fn:Func} {args:List Value} {args':Array Value} (hl:ak β args args'.toList) (hn:args.length<=fn.ntmps) :
 jc β fn.ntmps (gW fn args) (args'++Array.replicate (fn.ntmps-args'.size) undef):=by
 have hs:args'.size=args.length:=by rw[<-Array.length_toList];exact hl.1.symm
 refine⟨by simp;omega,λi v hv=>?_⟩
 have hi:i<fn.ntmps:=by
  rcases Nat.lt_or_ge i fn.ntmps with h|h
  ·exact h
  ·rw[Array.getElem?_eq_none (by simp;omega)]at hv;cases hv
 have hd:=jY fn.ntmps
 unfold gW
 rw[kF (dep fn.ntmps) args 0 (VS (dep fn.ntmps)) i (by omega) (by omega)]
 by_cases h:i<args.length
 ·rw[if_pos ⟨Nat.zero_le _,by omega⟩]
  rw[Array.getElem?_append_left (by omega)]at hv
  have hg:args.getD (i-0) U=args[i]:=by simp[h]
  rw[hg]
  exact hl.2 i args[i] v (by simp[h]) (by simpa using hv)
 ·rw[if_neg (by omega)]
  rw[Array.getElem?_append_right (by omega)]at hv
  rw[Array.getElem?_replicate]at hv
  split at hv
  ·cases hv;rw[Bh];exact oo β
  ·cases hv
theorem qQ (ok:dI P tb) {f:FuncId} {fn:Func} {c:Code} (e:tb.fn f=some fn) (hb:fn.body=some c) (args:Array Value) (W:World):(callFunc f args).run P W=.ok (.enter f args) W:=by
 have e1:=ok.fn _ _ e
 have e2:=ok.nog _ _ e
 have e3 : ¬ fn.name = "runtime.NumGoroutine" := by simpa using e2
 have e4:¬ fn.body=none:=by intro h0;simp[h0]at *
 simp[callFunc,e1,e3,e4]
theorem wD {P:Program} {ng:Nat} {H H1:Hp} {r1 w1:Nat} {x:TR} {nt:Nat} {res:List ResultVar} {t:T Value} {ds:List Deferred} {m:FrameMode} {C:Mp->World->(Ending->World->Prop)->Prop}
 (c1:Can H H1 w1) (h2:aI P ng (.unwind nt res t ds m) H1 x)
 (hC:∀ (H2:Hp) (r2 w2:Nat) (v:Value) (qV:Bool),Can H1 H2 w2 ->
  (∀ β W,cX ng β->Pre β H1 H2 r2 w2 W->∀ (fn:Func) (tmps:Array Value) (ds':List Deferred) (m':FrameMode),fn.results.toList=res->jc β nt t tmps->gj β ds ds'->gE β m m'->m'≠.run ->
   LeavesInM FW 0 P fn tmps (if qV then Kf β H1 H2 w2 W v else uN β H1 H2 w2 W v) ds' m' W) ->
  ∀ β W,cX ng β->Pre β H H2 (Nat.lor r1 r2) (Nat.lor w1 w2) W->C β W (if qV then Kf β H H2 (Nat.lor w1 w2) W v else uN β H H2 (Nat.lor w1 w2) W v)) :
 KOk ng H (KR.join r1 w1 x) C:=by
 cases x with
 |c y=>trivial
 |k y =>
  cases y with
  |fail n=>trivial
  |drop um H' r w=>trivial
  |n_ v H' r w=>trivial
  |ret v H2 r2 w2 =>
   obtain⟨c2,k2⟩:=h2
   simp only[KR.join,tu]
   exact⟨Can.comp c1 c2,hC H2 r2 w2 v false c2 k2⟩
  |panic v H2 r2 w2 =>
   obtain⟨c2,k2⟩:=h2
   exact⟨Can.comp c1 c2,hC H2 r2 w2 v true c2 k2⟩
theorem rJ {β β1:Mp} {H H1 H2:Hp} {r1 r2 w1 w2:Nat} {W W1:World} {v:Value} (qV:Bool) (c1:Can H H1 w1) (c2:Can H1 H2 w2) (p:Pre β H H2 (Nat.lor r1 r2) (Nat.lor w1 w2) W) (q:Post β β1 H H1 w1 W W1) :
 ∀ e W',(if qV then Kf β1 H1 H2 w2 W1 v else uN β1 H1 H2 w2 W1 v) e W'->(if qV then Kf β H H2 (Nat.lor w1 w2) W v else uN β H H2 (Nat.lor w1 w2) W v) e W':=by
 intro e W' h
 cases qV with
 |false=>obtain⟨β',v',h1,h2,h3⟩:=h;exact⟨β',v',h1,h2,Post.comp c1 c2 p q h3⟩
 |true=>obtain⟨β',v',old,h1,h0,h2,h3⟩:=h;exact⟨β',v',old,h1,h0,h2,Post.comp c1 c2 p q h3⟩
theorem DH (ok:dI P tb) {rec:Rec} (bX:kf P tb.ng rec) {f:FuncId} {args:List Value} {H:Hp} (hw:H.wf)
 (u7:∀ (cx:Cx) c t ds H,cx.nt<8 ^ cx.d->H.wf->eA P tb cx c t ds H (cj tb rec cx c t ds H)) :
 aI P tb.ng (.call f args) H (lF tb rec f args H):=by
 unfold lF
 cases hf:tb.fn f with
 |none=>trivial
 |some fn =>
  simp only[]
  cases hb:fn.body with
  |none=>trivial
  |some c =>
   simp only[]
   cases hn:Nat.ble args.length fn.ntmps with
   |false=>rw[au];trivial
   |true =>
    rw[aj]
    have hn':=(aE _ _).1 hn
    have hc:=u7 ⟨dep fn.ntmps,fn.ntmps,none,false⟩ c (gW fn args) [] H (jY _) hw
    cases ju:cj tb rec ⟨dep fn.ntmps,fn.ntmps,none,false⟩ c (gW fn args) [] H with
    |fail=>trivial
    |mk x t1 ds1 H1 r1 w1 =>
     rw[ju]at hc
     obtain⟨c1,k1⟩:=hc
     have go:∀ m:FrameMode,m≠.run->(∀ β e (a':Act) (W':World) (R:Ending->World->Prop),GU β x e->(∀ m',gE β m m'->m'≠.run->LeavesInM FW 0 P fn a'.tmps R a'.defers m' W')->bodyPostM FW 0 P fn R e a' W') ->
      KOk tb.ng H (KR.join r1 w1 (rec (.unwind fn.ntmps fn.results.toList t1 ds1 m) H1)) (λβ W R=>∀ args':Array Value,ak β args args'.toList->lO P f args' W R):=by
      intro m hm hbp
      refine wD c1 (bX (.unwind fn.ntmps fn.results.toList t1 ds1 m) H1 c1.wf) λH2 r2 w2 v qV c2 k2 β W hg p=>?_
      intro args' hl
      refine .inl ⟨qQ ok hf hb args' W,callsIn_of_wp_marks (ok.fn _ _ hf) hb trivial ?_⟩
      have hT:=uG (fn:=fn) hl hn'
      refine wpIn_mono (k1 β W _ FW hg rfl ⟨hT,gj.nil β⟩ (p.first c2)) λe a' W' hcp=>?_
      obtain⟨β1,hx,tB,q⟩:=hcp
      refine hbp β1 e a' W' _ hx λm' hmm hm'=>?_
      exact LeavesInM.mono (rJ qV c1 c2 p q) _ _ _ (k2 β1 W' (hg.mono q.le) (Pre.second c1 c2 p q) fn a'.tmps a'.defers m' rfl tB.1 tB.2 hmm hm')
     cases x with
     |normal=>exact go .returning (by simp) λβ e a' W' R hx h=>by cases e<;>first|exact h .returning trivial (by simp)|exact hx.elim
     |ret=>exact go .returning (by simp) λβ e a' W' R hx h=>by cases e<;>first|exact h .returning trivial (by simp)|exact hx.elim
     |panic v =>
      refine go (.panicking [{ v,recovered:=false }]) (by simp) λβ e a' W' R hx h=>?_
      cases e<;>try exact hx.elim
      obtain⟨v',old,rfl,hno,hv⟩:=hx
      exact h (.panicking ({ v:=v',recovered:=false }::old)) ⟨_,_,old,rfl,rfl,hno,hv,rfl,rfl,rfl⟩ (by simp)
     |exit id=>trivial
     |goto id=>trivial
theorem kW {P:Program} {ng nt:Nat} {res:List ResultVar} {t:T Value} {ds:List Deferred} {m:FrameMode} {H:Hp} {x:TR}:aI P ng (.unwind nt res t ds m) H x=KOk ng H x (λβ W R=>∀ (fn:Func) (tmps:Array Value) (ds':List Deferred) (m':FrameMode),fn.results.toList=res->jc β nt t tmps->gj β ds ds'->gE β m m'->m'≠.run->LeavesInM FW 0 P fn tmps R ds' m' W):=rfl
theorem tG (ok:dI P tb) {rec:Rec} (bX:kf P tb.ng rec) {nt:Nat} {res:List ResultVar} {t:T Value} {ds:List Deferred} {m:FrameMode} {H:Hp} (hw:H.wf) :
 aI P tb.ng (.unwind nt res t ds m) H (fZ tb rec nt res t ds m H):=by
 unfold fZ
 cases ds with
 |nil =>
  simp only[]
  split
  ·cases hr:eg tb nt t H res with
   |none=>trivial
   |some q =>
    obtain⟨l,r⟩:=q
    refine⟨Can.refl hw,λβ W hg p fn tmps ds' m' hres ht hds hm hm'=>?_⟩
    have:=hds.aL;subst this
    cases m'<;>try exact hm.elim
    subst hres
    obtain⟨v,h1,h2⟩:=xD ok ht hr (λb h=>h) p
    exact⟨v,h1,β,v,rfl,h2,Post.refl p.dom⟩
  ·rename_i v
   refine⟨Can.refl hw,λβ W hg p fn tmps ds' m' hres ht hds hm hm'=>?_⟩
   have:=hds.aL;subst this
   cases m'<;>try exact hm.elim
   obtain⟨x,y,old,hx,rfl,h3,h4,h5,h6,h7⟩:=hm
   cases hx
   obtain⟨v',r',g'⟩:=y
   simp only at h4 h5 h7
   subst h5 h7
   exact⟨β,v',old,rfl,h3,h4,Post.refl p.dom⟩
  ·trivial
 |cons d ds =>
  simp only[]
  obtain⟨tg,dargs⟩:=d
  simp only[]
  cases tg with
  |collected b =>
   simp only[]
   split
   ·rename_i hb
    have hal:alive H b:=(aH _ _).2 (by rw[hb];simp)
    have c1:Can H (H.put b .no) (bit b):=eJ hw .no hal
    rw[kW]
    refine wD c1 (bX (.unwind nt res t ds m) (H.put b .no) c1.wf) λH2 r2 w2 v qV c2 k2 β W hg p=>?_
    intro fn tmps ds' m' hres ht hds hm hm'
    obtain⟨d',l',rfl,hd,hl⟩:=hds.cons_inv
    obtain⟨tg',dargs'⟩:=d'
    have G1:=hd.1
    simp only at G1
    cases tg'<;>try exact G1.elim
    rename_i b'
    obtain⟨mb,em,rfl⟩:=G1
    obtain⟨m2,em2,o,ho,Px⟩:=p.rel b (yo (qf ((aB _ _).2 rfl))) hal
    rw[em]at em2;cases em2
    rw[hb]at Px
    obtain⟨rfl,hsh⟩:=Px
    have q1:=jm (o':=.deferred none) .no hw hal em ho trivial p.dom
    refine⟨hm',.inl ⟨mb.rb,_,rfl,run_takeDeferred ho,?_⟩⟩
    rw[kM]
    exact LeavesInM.mono (rJ qV c1 c2 p q1) _ _ _ (k2 β _ hg (Pre.second c1 c2 p q1) fn tmps l' m' hres ht hl hm hm')
   ·trivial
  |fn fv cap =>
   cases fv with
   |func f =>
    simp only[]
    unfold nJ
    have hk:=bX (.mI f (dargs.toList++cap.toList) m) H hw
    split
    ·rename_i m1 H1 r w hx
     rw[hx]at hk
     obtain⟨c1,k1⟩:=hk
     cases hset:mW m1 with
     |run=>trivial
     |_ =>
      simp only[]
      rw[<-hset]
      rw[kW]
      refine wD c1 (bX (.unwind nt res t ds (mW m1)) H1 c1.wf) λH2 r2 w2 v qV c2 k2 β W hg p=>?_
      intro fn tmps ds' m' hres ht hds hm hm'
      obtain⟨d',l',rfl,hd,hl⟩:=hds.cons_inv
      obtain⟨tg',dargs'⟩:=d'
      have G1:=hd.1
      have hd2:=hd.2
      simp only at G1
      cases tg'<;>try exact G1.elim
      rename_i fv' cap'
      cases fv'<;>try exact G1.elim
      rename_i f'
      obtain⟨rfl,hcap⟩:=G1
      have hargs:ak β (dargs.toList++cap.toList) (dargs'++cap').toList:=by rw[Array.toList_append];exact ak.append hd2 hcap
      obtain⟨h1,h2⟩:=k1 β W (dargs'++cap') m' hg hargs hm (p.first c2)
      refine⟨hm',.inr ⟨(λh=>by cases h),.func f,cap',f,dargs'++cap',rfl,?_,λ_ _=>trivial,?_⟩⟩
      ·simpa [invoke] using h1
      ·refine CallsDIn.mono h2 λe u' W' hh=>?_
       obtain⟨β1,v',rfl,hu,q1⟩:=hh
       have Pu:=HM hu
       have hne:settle u'≠.run:=by
        intro he
        rw[he,hset]at Pu
        exact Pu
       exact LeavesInM.mono (rJ qV c1 c2 p q1) _ _ _ (k2 β1 W' (hg.mono q1.le) (Pre.second c1 c2 p q1) fn tmps l' (settle u') hres (ht.mono q1.le) (hl.mono q1.le) Pu hne)
    ·rename_i v1 H1 r w hx
     rw[hx]at hk
     obtain⟨c1,k1⟩:=hk
     rw[kW]
     refine wD c1 (bX (.unwind nt res t ds (.panicking [{ v:=v1,recovered:=false }])) H1 c1.wf) λH2 r2 w2 v qV c2 k2 β W hg p=>?_
     intro fn tmps ds' m' hres ht hds hm hm'
     obtain⟨d',l',rfl,hd,hl⟩:=hds.cons_inv
     obtain⟨tg',dargs'⟩:=d'
     have G1:=hd.1
     have hd2:=hd.2
     simp only at G1
     cases tg'<;>try exact G1.elim
     rename_i fv' cap'
     cases fv'<;>try exact G1.elim
     rename_i f'
     obtain⟨rfl,hcap⟩:=G1
     have hargs:ak β (dargs.toList++cap.toList) (dargs'++cap').toList:=by rw[Array.toList_append];exact ak.append hd2 hcap
     obtain⟨h1,h2⟩:=k1 β W (dargs'++cap') m' hg hargs hm (p.first c2)
     refine⟨hm',.inr ⟨(λh=>by cases h),.func f,cap',f,dargs'++cap',rfl,?_,λ_ _=>trivial,?_⟩⟩
     ·simpa [invoke] using h1
     ·refine CallsDIn.mono h2 λe u' W' hh=>?_
      obtain⟨β1,v',old,m0,rfl,hno,hv,hu,q1⟩:=hh
      have Pu:=HS hu hno hv
      have hne:raised u' ({ v:=v',recovered:=false }::old)≠.run:=by
       intro he
       rw[he]at Pu
       exact Pu
      exact LeavesInM.mono (rJ qV c1 c2 p q1) _ _ _ (k2 β1 W' (hg.mono q1.le) (Pre.second c1 c2 p q1) fn tmps l' _ hres (ht.mono q1.le) (hl.mono q1.le) Pu hne)
    ·trivial
   |_=>trivial
  |_=>trivial
end
end Go.Ev
end
noncomputable section
namespace Go.Ev
variable [dj]
section
variable {P:Program} {tb:Tb}
def GY (β:Mp) (c₀:Frame) (cs:List Frame) (nt:Nat) (H H':Hp) (w:Nat) (W:World) (ret:Bool) (t':T Value) (um':FrameMode):Exit->Act->List Frame->World->Prop :=
 λe a' cs' W'=>(e=if ret then .ret else .normal)/\∃ β' mm',jc β' nt t' a'.tmps/\a'.defers=[]/\cs' = { c₀ with mode:=mm' }::cs/\gE β' um' mm'/\Post β β' H H' w W W'
theorem GY.comp {β β1:Mp} {c₀:Frame} {cs:List Frame} {nt:Nat} {H H1 H2:Hp} {r1 r2 w1 w2:Nat} {W W1:World} {ret:Bool} {t':T Value} {um':FrameMode} {e:Exit} {a':Act} {cs':List Frame} {W':World}
 (c1:Can H H1 w1) (c2:Can H1 H2 w2) (p:Pre β H H2 (Nat.lor r1 r2) (Nat.lor w1 w2) W) (q:Post β β1 H H1 w1 W W1) (h:GY β1 c₀ cs nt H1 H2 w2 W1 ret t' um' e a' cs' W'):GY β c₀ cs nt H H2 (Nat.lor w1 w2) W ret t' um' e a' cs' W':=by
 obtain⟨he,β',mm',h1,h2,h3,h4,h5⟩:=h
 exact⟨he,β',mm',h1,h2,h3,h4,Post.comp c1 c2 p q h5⟩
theorem OE {β:Mp} {um mm:FrameMode} (h:gE β um mm) (c₀:Frame) (cs:List Frame) :
 (∃ v' mm',recoverD ({ c₀ with mode:=mm }::cs)=some (v',{ c₀ with mode:=mm' }::cs)/\ai β (EH um).1 v'/\gE β (EH um).2 mm') \/
 (recoverD ({ c₀ with mode:=mm }::cs)=none/\(EH um).1=.nilIface/\(EH um).2=um):=by
 cases um<;>cases mm<;>try exact h.elim
 ·exact .inr ⟨rfl,rfl,rfl⟩
 ·exact .inr ⟨rfl,rfl,rfl⟩
 ·obtain⟨x,y,old,rfl,rfl,h3,h4,h5,h6,h7⟩:=h
  obtain⟨xv,xr,xg⟩:=x
  obtain⟨yv,yr,yg⟩:=y
  simp only at h4 h5 h6 h7
  subst h5 h6 h7
  cases xr with
  |true=>exact .inr ⟨rfl,rfl,rfl⟩
  |false=>exact .inl ⟨yv,_,rfl,h4,_,_,old,rfl,rfl,h3,h4,rfl,rfl,rfl⟩
def yH:CD->Option (Hp×Nat×Nat)
 |.fail=>none
 |.mk _ _ _ H r w=>some (H,r,w)
 |.qV _ _ H r w=>some (H,r,w)
def DQ (β:Mp) (c₀:Frame) (cs:List Frame) (nt:Nat) (H H':Hp) (w:Nat) (W:World) (y:CD):Exit->Act->List Frame->World->Prop:=match y with
 |.fail=>λ_ _ _ _=>False
 |.mk ret t' um' _ _ _=>GY β c₀ cs nt H H' w W ret t' um'
 |.qV v um' _ _ _=>λe a' cs' W'=>∃ β' mm' v',e=.panic [{ v:=v',recovered:=false }]/\a'.defers=[]/\cs' = { c₀ with mode:=mm' }::cs/\gE β' um' mm'/\ai β' v v'/\Post β β' H H' w W W'
theorem DQ.comp {β β1:Mp} {c₀:Frame} {cs:List Frame} {nt:Nat} {H H1 H2:Hp} {r1 r2 w1 w2:Nat} {W W1:World} {y:CD} {e:Exit} {a':Act} {cs':List Frame} {W':World}
 (c1:Can H H1 w1) (c2:Can H1 H2 w2) (p:Pre β H H2 (Nat.lor r1 r2) (Nat.lor w1 w2) W) (q:Post β β1 H H1 w1 W W1) (h:DQ β1 c₀ cs nt H1 H2 w2 W1 y e a' cs' W'):DQ β c₀ cs nt H H2 (Nat.lor w1 w2) W y e a' cs' W':=by
 cases y with
 |fail=>exact h
 |mk=>exact GY.comp c1 c2 p q h
 |qV=>obtain⟨β',mm',v',h1,h2,h3,h4,h5,h6⟩:=h;exact⟨β',mm',v',h1,h2,h3,h4,h5,Post.comp c1 c2 p q h6⟩
theorem P9 (ok:dI P tb) {d nt:Nat} (hd:nt<8 ^ d) (ops:Array Oper):∀ (l:List Oper) (i:Nat),(∀ k,l[k]?=ops[i+k]?)->∀ (t:T Value) (um:FrameMode) (H:Hp) (r w:Nat) (y:CD)
 (H':Hp) (r' w':Nat),qK d (bV tb nt ops l) t um H r w=y->yH y=some (H',r',w')->H.wf ->
 ∃ r2 w2,r'=Nat.lor r r2/\w'=Nat.lor w w2/\Can H H' w2/\∀ β W a c₀ cs mm,cX tb.ng β->jc β nt t a.tmps->a.defers=[]->gE β um mm->Pre β H H' r2 w2 W->∀ Q:Exit->Act->List Frame->World->Prop,
  (∀ e a' cs' W',DQ β c₀ cs nt H H' w2 W y e a' cs' W'->Q e a' cs' W')->wpOpsSIn FW 0 P ops Q (List.range' i l.length) a ({ c₀ with mode:=mm }::cs) W:=by
 intro l
 induction l with
 |nil =>
  intro i _ t um H r w y H' r' w' h hy hw
  simp only[bV,qK]at h
  subst h
  cases hy
  refine⟨0,0,(aF _).symm,(aF _).symm,Can.refl hw,λβ W a c₀ cs mm _ ht hd hm p Q hQ=>?_⟩
  exact hQ .normal a _ W ⟨rfl,β,mm,ht,hd,rfl,hm,Post.refl p.dom⟩
 |cons o l ih =>
  intro i hl t um H r w y H' r' w' h hy hw
  have ho:ops[i]?=some o:=by have:=hl 0;simpa using this.symm
  have hl':∀ k,l[k]?=ops[i+1+k]?:=λk=>by
   have:=hl (k+1);simp only[List.getElem?_cons_succ]at this;rw[this];congr 1;omega
  have IV:List.range' i (o::l).length=i::List.range' (i+1) l.length:=by simp[List.range'_succ]
  rw[IV]
  simp only[bV,qK]at h
  rcases mJ (tb:=tb) (nt:=nt) (ops:=ops) (o:=o)with hc|hc
  case inr =>
   rw[hc]at h
   have gR:dn t (none:Option (Tmp×Bool))=true:=rfl
   rw[gR,aj]at h
   simp only[run]at h
   subst h;cases hy
  generalize mK tb nt ops o=c at h hc
  have dc:∀ {β:Mp} {a:Act},jc β nt t a.tmps->Region.wanted o (yielded ops a.tmps)=dn t c.guard:=λha=>om hc λj w d h1 h2 h3=>⟨jR ha h3,ha.1⟩
  have hput:∀ {β:Mp} {a:Act} {v v':Value},jc β nt t a.tmps->ai β v v'->jc β nt (eF d t c.dst v) (a.put o.dst v').tmps:=λha hv=>by
   rw[hc.dst];exact wZ hd ha hc.JI hv
  have zQ:∀ {a:Act} {v':Value},a.defers=[]->(a.put o.dst v').defers=[]:=λ{a v'} h=>by cases jv:o.dst<;>simpa [Act.put,jv] using h
  cases gR:dn t c.guard with
  |false =>
   rw[gR,au]at h
   obtain⟨r2,w2,e1,e2,hcan,gC⟩:=ih (i+1) hl' _ _ _ _ _ _ _ _ _ h hy hw
   refine⟨r2,w2,e1,e2,hcan,λβ W a c₀ cs mm hg ht hdf hm p Q hQ=>?_⟩
   simp only[wpOpsSIn,ho,dc ht,gR]
   exact⟨λf _=>trivial,gC β W _ c₀ cs mm hg (hput ht (oo β)) (zQ hdf) hm p Q hQ⟩
  |true =>
   rw[gR,aj]at h
   have hrun:=λ{β:Mp} {W:World} {a:Act} (hg:cX tb.ng β) (ha:jc β nt t a.tmps)=>B4 (P:=P) (W:=W) (o:=o) (ρ:=a.eval) (t:=t) ok hw hg.2 (λy hy=>jW hg ha (hc.qe y hy))
   rw[<-hc.op]at hrun
   cases hr:run c.op t H with
   |val v H1 r1 w1 =>
    rw[hr]at h hrun
    simp only at h
    have pX:Can H H1 w1:=by have:=DG hw c.op t;rw[hr]at this;exact this
    obtain⟨r2,w2,e1,e2,hcan,gC⟩:=ih (i+1) hl' _ _ _ _ _ _ _ _ _ h hy pX.wf
    refine⟨Nat.lor r1 r2,Nat.lor w1 w2,by rw[e1,aU],by rw[e2,aU],Can.comp pX hcan,λβ W a c₀ cs mm hg ht hdf hm p Q hQ=>?_⟩
    obtain⟨_,hx⟩:=hrun (W:=W) hg ht
    obtain⟨β1,W1,v',hres,hv,hpost⟩:=hx (p.first hcan)
    have hle:=hpost.le
    have fin:wpOpsSIn FW 0 P ops Q (List.range' (i+1) l.length) (a.put o.dst v') ({ c₀ with mode:=mm }::cs) W1 :=
     gC β1 W1 _ c₀ cs mm (hg.mono hle) (hput (ht.mono hle) hv) (zQ hdf) (hm.mono hle) (Pre.second pX hcan p hpost) Q λe a' cs' W' hh=>hQ e a' cs' W' (DQ.comp pX hcan p hpost hh)
    simp only[wpOpsSIn,ho,dc ht,gR,if_true]
    refine⟨λf _=>trivial,?_⟩
    rcases hres with hres|⟨hres,rfl⟩
    ·rw[hres];exact fin
    ·rw[hres];exact fin
   |recover =>
    rw[hr]at h hrun
    simp only at h
    obtain⟨r2,w2,e1,e2,hcan,gC⟩:=ih (i+1) hl' _ _ _ _ _ _ _ _ _ h hy hw
    refine⟨r2,w2,e1,e2,hcan,λβ W a c₀ cs mm hg ht hdf hm p Q hQ=>?_⟩
    have hs:=hrun (W:=W) hg ht
    have hs:(execOp a.eval o).run P W=.ok .recover W:=hs
    simp only[wpOpsSIn,ho,dc ht,gR,if_true]
    refine⟨λf _=>trivial,?_⟩
    rw[hs]
    simp only[]
    rcases OE hm c₀ cs with⟨v',mm',e3,hv,hm2⟩|⟨e3,e4,e5⟩
    ·rw[e3]
     exact gC β W _ c₀ cs mm' hg (hput ht hv) (zQ hdf) hm2 p Q hQ
    ·rw[e3]
     refine gC β W _ c₀ cs mm hg (hput ht ?_) (zQ hdf) (by rw[e5];exact hm) p Q hQ
     rw[e4];exact .nilIface
   |panic v =>
    rw[hr]at h hrun
    simp only at h
    subst h
    cases hy
    refine⟨0,0,(aF _).symm,(aF _).symm,Can.refl hw,λβ W a c₀ cs mm hg ht hdf hm p Q hQ=>?_⟩
    obtain⟨v',hs,hv⟩:=hrun (W:=W) hg ht
    simp only[wpOpsSIn,ho,dc ht,gR,if_true]
    refine⟨λf _=>trivial,?_⟩
    rw[hs]
    exact hQ _ a _ W ⟨β,mm,v',rfl,hdf,rfl,hm,hv,Post.refl p.dom⟩
   |_=>rw[hr]at h;subst h;cases hy
theorem fO {F:Fence} {n:Nat} {c:Code} {Q Q':Exit->Act->List Frame->World->Prop} {a:Act} {cs:List Frame} {W:World} (h:c.wpSIn F n P Q a cs W) (hq:∀ e a cs W,Q e a cs W->Q' e a cs W):c.wpSIn F n P Q' a cs W :=
 λb k h1 h2 h3 h4=>let ⟨e,a',cs',w',l,q,r⟩:=h b k h1 h2 h3 h4;⟨e,a',cs',w',l,hq _ _ _ _ q,r⟩
theorem Eb {F:Fence} {n id:Nat} {c:Code} {Q:Exit->Act->List Frame->World->Prop} {a:Act} {cs:List Frame} {W:World} (h:c.wpSIn F n P Q a cs W) (hq:∀ e a cs W,Q e a cs W->e=.normal\/e=.ret):(Code.block id c).wpSIn F n P Q a cs W:=by
 intro b k hk hro hb hr
 have h0:(lone (b.atR a (.code (.block id c)::k)) cs W).fenced P F:=fenced_calm hb hr rfl
 obtain⟨e,a₁,cs₁,w₁,hl,hQ,mA⟩:=h b (.inBlock id::k) hk hro hb hr
 rcases hq _ _ _ _ hQ with rfl|rfl
 ·exact⟨.normal,a₁,cs₁,w₁,hl,hQ,.head h0 stepR_block (StepsIn.trans mA (.one (fenced_calm hb (hl▸hr) rfl) stepR_inBlock))⟩
 ·exact⟨_,a₁,cs₁,w₁,hl,hQ,.of_steps (.one h0 stepR_block) mA⟩
def NW (P:Program) (ng nt:Nat) (c:Code) (t:T Value) (um:FrameMode) (H:Hp) (y:CD):Prop:=∀ H' r w,yH y=some (H',r,w)->Can H H' w/\∀ β W a c₀ cs mm,cX ng β->jc β nt t a.tmps->a.defers=[]->gE β um mm->Pre β H H' r w W ->
 c.wpSIn FW 0 P (DQ β c₀ cs nt H H' w W y) a ({ c₀ with mode:=mm }::cs) W
theorem aar (ok:dI P tb) {d nt:Nat} (hd:nt<8 ^ d):∀ (c:Code) (t:T Value) (um:FrameMode) (H:Hp),H.wf->NW P tb.ng nt c t um H (pZ tb d nt c t um H):=by
 intro c
 induction c with
 |skip =>
  intro t um H hw H' r w hy
  cases hy
  exact⟨Can.refl hw,λβ W a c₀ cs mm _ ht hdf hm p=>wpSIn_of_wpIn rfl (wpIn_skip ⟨rfl,β,mm,ht,hdf,rfl,hm,Post.refl p.dom⟩)⟩
 |ret =>
  intro t um H hw H' r w hy
  cases hy
  exact⟨Can.refl hw,λβ W a c₀ cs mm _ ht hdf hm p=>wpSIn_of_wpIn rfl (wpIn_ret ⟨rfl,β,mm,ht,hdf,rfl,hm,Post.refl p.dom⟩)⟩
 |region id ops draw =>
  intro t um H hw H' r w hy
  cases draw with
  |true =>
   simp only[pZ]at hy ⊢
   have bX:kf P tb.ng (λ_ _=>.k (.fail 0)):=λtk H _=>by cases tk<;>trivial
   cases ju:cj tb (λ_ _=>.k (.fail 0)) ⟨d,nt,none,false⟩ (.region id ops true) t [] H with
   |fail=>rw[ju]at hy;cases hy
   |mk x t1 ds1 H1 r1 w1 =>
    rw[ju]at hy
    cases x with
    |normal =>
     cases ds1 with
     |nil =>
      cases hy
      have aaa:Bc (ew ops (Region.before ops)) (nL tb nt d ops (Region.before ops) (aY (λ_ _=>.k (.fail 0)) ⟨d,nt,none,true⟩ (bV tb nt ops ops.toList) 0 t [] H [] 0 0)) .fail=.mk .normal t1 [] H' r w:=ju
      cases hdo:ew ops (Region.before ops)with
      |false=>rw[hdo,au]at aaa;cases aaa
      |true =>
      rw[hdo,aj]at aaa
      obtain⟨c1,k1⟩:=uS ok bX (cx:=⟨d,nt,none,false⟩) (id:=id) hd hdo aaa hw
      refine⟨c1,λβ W a c₀ cs mm hg ht hdf hm p=>wpSIn_of_wpIn rfl (wpIn_mono (k1 β W a FW hg rfl ⟨ht,by rw[hdf];exact gj.nil β⟩ p) λe a' W' hq=>?_)⟩
      obtain⟨β1,hx,tB,q1⟩:=hq
      cases e<;>try exact hx.elim
      exact⟨rfl,β1,mm,tB.1,tB.2.aL,rfl,hm.mono q1.le,q1⟩
     |cons=>cases hy
    |_=>cases hy
  |false =>
   simp only[pZ]at hy ⊢
   have hl:∀ k:Nat,ops.toList[k]?=ops[0+k]?:=λk=>by simp
   obtain⟨r2,w2,e1,e2,hcan,hk⟩:=P9 ok hd ops ops.toList 0 hl _ _ _ _ _ _ _ _ _ rfl hy hw
   rw[aK]at e1 e2
   subst e1 e2
   refine⟨hcan,λβ W a c₀ cs mm hg ht hdf hm p=>wpSIn_region ?_⟩
   have:=hk β W a c₀ cs mm hg ht hdf hm p _ (λe a' cs' W' h=>h)
   rw[List.range_eq_range']
   simpa using this
 |seq x y ihx ihy =>
  intro t um H hw H' r w hy
  have h1:=ihx t um H hw
  simp only[pZ]at hy ⊢
  cases hx:pZ tb d nt x t um H with
  |fail=>rw[hx]at hy;cases hy
  |qV v1 um1 H1 r1 w1 =>
   rw[hx]at h1 hy
   cases hy
   obtain⟨c1,k1⟩:=h1 _ _ _ rfl
   refine⟨c1,λβ W a c₀ cs mm hg ht hdf hm p=>wpSIn_seq (fO (k1 β W a c₀ cs mm hg ht hdf hm p) λe a' cs' W' hq=>?_)⟩
   have hq':=hq
   obtain⟨_,_,_,rfl,_⟩:=hq
   exact hq'
  |mk ret t1 um1 H1 r1 w1 =>
   rw[hx]at h1 hy
   obtain⟨c1,k1⟩:=h1 _ _ _ rfl
   cases ret with
   |true =>
    cases hy
    refine⟨c1,λβ W a c₀ cs mm hg ht hdf hm p=>wpSIn_seq (fO (k1 β W a c₀ cs mm hg ht hdf hm p) λe a' cs' W' hq=>?_)⟩
    have hq':=hq
    obtain⟨rfl,_⟩:=hq
    exact hq'
   |false =>
    simp only[]at hy ⊢
    have h2:=ihy t1 um1 H1 c1.wf
    cases hz:pZ tb d nt y t1 um1 H1 with
    |fail=>rw[hz]at hy;cases hy
    |mk ret2 t2 um2 H2 r2 w2 =>
     rw[hz]at h2 hy
     cases hy
     obtain⟨c2,k2⟩:=h2 _ _ _ rfl
     refine⟨Can.comp c1 c2,λβ W a c₀ cs mm hg ht hdf hm p=>wpSIn_seq (fO (k1 β W a c₀ cs mm hg ht hdf hm (p.first c2)) λe a' cs' W' hq=>?_)⟩
     obtain⟨rfl,β1,mm1,ht1,FU,rfl,Da,q1⟩:=hq
     exact fO (k2 β1 W' a' c₀ cs mm1 (hg.mono q1.le) ht1 FU Da (Pre.second c1 c2 p q1)) λe a2 cs2 W2 h=>DQ.comp (y:=.mk ret2 t2 um2 _ r2 w2) c1 c2 p q1 h
    |qV v2 um2 H2 r2 w2 =>
     rw[hz]at h2 hy
     cases hy
     obtain⟨c2,k2⟩:=h2 _ _ _ rfl
     refine⟨Can.comp c1 c2,λβ W a c₀ cs mm hg ht hdf hm p=>wpSIn_seq (fO (k1 β W a c₀ cs mm hg ht hdf hm (p.first c2)) λe a' cs' W' hq=>?_)⟩
     obtain⟨rfl,β1,mm1,ht1,FU,rfl,Da,q1⟩:=hq
     exact fO (k2 β1 W' a' c₀ cs mm1 (hg.mono q1.le) ht1 FU Da (Pre.second c1 c2 p q1)) λe a2 cs2 W2 h=>DQ.comp (y:=.qV v2 um2 _ r2 w2) c1 c2 p q1 h
 |cond c x y ihx ihy =>
  intro t um H hw H' r w hy
  simp only[pZ]at hy ⊢
  cases hok:qw tb nt c with
  |false=>rw[hok,au]at hy;cases hy
  |true =>
   rw[hok,aj]at hy
   rw[aj]
   cases hb:zC (aA t c)with
   |none=>rw[hb]at hy;cases hy
   |some b =>
    have u6:∀ {z:CD},NW P tb.ng nt (if b then x else y) t um H z->yH z=some (H',r,w)->Can H H' w/\∀ β W a c₀ cs mm,cX tb.ng β->jc β nt t a.tmps->a.defers=[]->gE β um mm->Pre β H H' r w W ->
     (Code.cond c x y).wpSIn FW 0 P (DQ β c₀ cs nt H H' w W z) a ({ c₀ with mode:=mm }::cs) W:=by
     intro z hz hyz
     obtain⟨c1,k1⟩:=hz _ _ _ hyz
     refine⟨c1,λβ W a c₀ cs mm hg ht hdf hm p=>?_⟩
     have hv:=jW (a:=a) hg ht hok
     rw[wR hb]at hv
     generalize hr:a.eval c=v' at hv
     cases hv
     exact wpSIn_cond hr (k1 β W a c₀ cs mm hg ht hdf hm p)
    rw[hb]at hy
    cases b with
    |true=>exact u6 (ihx t um H hw) hy
    |false=>exact u6 (ihy t um H hw) hy
 |block id b ih =>
  intro t um H hw H' r w hy
  have h1:=ih t um H hw
  simp only[pZ]at hy ⊢
  cases hx:pZ tb d nt b t um H with
  |fail=>rw[hx]at hy;cases hy
  |qV=>rw[hx]at hy;cases hy
  |mk ret t1 um1 H1 r1 w1 =>
   rw[hx]at h1 hy
   cases hy
   obtain⟨c1,k1⟩:=h1 _ _ _ rfl
   refine⟨c1,λβ W a c₀ cs mm hg ht hdf hm p=>Eb (k1 β W a c₀ cs mm hg ht hdf hm p) λe a' cs' W' hq=>?_⟩
   rw[hq.1]
   cases ret<;>simp
 |_=>intro t um H hw H' r w hy;cases hy
theorem We (ok:dI P tb) {f:FuncId} {args:List Value} {um:FrameMode} {H:Hp} (hw:H.wf):aI P tb.ng (.mI f args um) H (sW tb f args um H):=by
 unfold sW
 cases hf:tb.fn f with
 |none=>trivial
 |some fn =>
  simp only[]
  cases hb:fn.body with
  |none=>trivial
  |some c =>
   simp only[]
   cases hn:Nat.ble args.length fn.ntmps with
   |false=>rw[au];trivial
   |true =>
    rw[aj]
    have hn':=(aE _ _).1 hn
    have hc:=aar ok (jY fn.ntmps) c (gW fn args) um H hw
    cases ju:pZ tb (dep fn.ntmps) fn.ntmps c (gW fn args) um H with
    |fail=>trivial
    |qV v1 um1 H1 r1 w1 =>
     rw[ju]at hc
     obtain⟨c1,k1⟩:=hc _ _ _ rfl
     refine⟨c1,λβ W args' mm hg hl hm p=>⟨qQ ok hf hb args' W,callsDIn_of_wpSIn (ok.fn _ _ hf) hb trivial λc₀ cs UB=>?_⟩⟩
     have hT:=uG (fn:=fn) hl hn'
     have e0:({ c₀ with mode:=mm }:Frame)=c₀:=by subst UB;rfl
     have:=k1 β W { tmps:=args'++Array.replicate (fn.ntmps-args'.size) undef,defers:=[] } c₀ cs mm hg hT rfl hm p
     rw[e0]at this
     refine fO this λe a' cs' W' hq=>?_
     obtain⟨β1,mm1,v',rfl,FU,rfl,Da,Xw,q1⟩:=hq
     exact⟨FU,mm1,rfl,β1,v',[],um1,rfl,.nil,Xw,Da,q1⟩
    |mk ret t1 um1 H1 r1 w1 =>
     rw[ju]at hc
     obtain⟨c1,k1⟩:=hc _ _ _ rfl
     simp only[zh]
     cases hr:eg tb fn.ntmps t1 H1 fn.results.toList with
     |none=>trivial
     |some q =>
      obtain⟨l,r2⟩:=q
      refine⟨c1,λβ W args' mm hg hl hm p=>⟨qQ ok hf hb args' W,callsDIn_of_wpSIn (ok.fn _ _ hf) hb trivial λc₀ cs UB=>?_⟩⟩
      have c2:Can H1 H1 0:=Can.refl c1.wf
      have p':Pre β H H1 (Nat.lor r1 r2) (Nat.lor w1 0) W:=by rw[aF];exact p
      have hT:=uG (fn:=fn) hl hn'
      have e0:({ c₀ with mode:=mm }:Frame)=c₀:=by subst UB;rfl
      have:=k1 β W { tmps:=args'++Array.replicate (fn.ntmps-args'.size) undef,defers:=[] } c₀ cs mm hg hT rfl hm (p'.first c2)
      rw[e0]at this
      refine fO this λe a' cs' W' hq=>?_
      obtain⟨he,β1,mm1,ht1,FU,rfl,Da,q1⟩:=hq
      have p2:=Pre.second c1 c2 p' q1
      obtain⟨v,h1,h2⟩:=xD ok ht1 hr (λb h=>h) p2
      cases ret with
      |true=>subst he;exact⟨FU,mm1,rfl,v,h1,β1,v,rfl,Da,q1⟩
      |false=>subst he;exact⟨FU,mm1,rfl,v,h1,β1,v,rfl,Da,q1⟩
end
end Go.Ev
end
noncomputable section
namespace Go.Ev
variable [dj]
section
variable {P:Program} {tb:Tb}
def vP (P:Program) (tb:Tb):Prop:=∀ (cx:Cx) (b:Code) (t:T Value) (ds:List Deferred) (H:Hp) (t':T Value) (H':Hp) (r w id:Nat),tb.hk cx.nt b=true->tb.lp b t H=some (t',H',r,w,id)->cx.nt<8 ^ cx.d->H.wf ->
 Can H H' w/\∀ β W a F,cX tb.ng β->o9 β cx.eL F->pe β cx.nt t ds a->Pre β H H' r w W->uf F 0 P b (jG β cx.nt H H' w W (.exit id) t' ds) a W
theorem vP.none (h:∀ nt b,tb.hk nt b=false):vP P tb:=λcx b t ds H t' H' r w id hh=>by rw[h]at hh;cases hh
theorem aas (ok:dI P tb) (D3:vP P tb) {rec:Rec} (bX:kf P tb.ng rec):∀ (c:Code) (cx:Cx) (t:T Value) (ds:List Deferred) (H:Hp),cx.nt<8 ^ cx.d->H.wf->eA P tb cx c t ds H (cj tb rec cx c t ds H):=by
 intro c
 induction c with
 |skip=>exact λcx t ds H _ hw=>Qh hw
 |label l=>exact λcx t ds H _ hw=>JN hw l
 |ret=>exact λcx t ds H _ hw=>Wo hw
 |exit id=>exact λcx t ds H _ hw=>Qj hw id
 |goto l=>exact λcx t ds H _ hw=>Qi hw l
 |region id ops draw =>
  intro cx t ds H hd hw
  cases draw with
  |false=>exact GB bX ok hd hw
  |true=>exact Qk ok bX hd hw
 |seq a b iha ihb=>exact λcx t ds H hd hw=>Wn (iha cx t ds H hd hw) λt ds H hw=>ihb cx t ds H hd hw
 |cond c a b iha ihb =>
  intro cx t ds H hd hw
  simp only[cj]
  cases hok:qw tb cx.nt c with
  |false=>trivial
  |true =>
   rw[aj]
   cases hb:zC (aA t c)with
   |none=>trivial
   |some v =>
    cases v with
    |true=>exact Bx hok hb (iha cx t ds H hd hw)
    |false=>exact Bx hok hb (ihb cx t ds H hd hw)
 |block id b ih=>exact λcx t ds H hd hw=>JO (ih cx t ds H hd hw)
 |loop b ih =>
  intro cx t ds H hd hw
  have h:=Bw bX hd (ih cx t ds H hd hw)
  simp only[cj]
  cases hh:tb.hk cx.nt b with
  |true =>
   rw[aj]
   unfold Au
   cases hl:tb.lp b t H with
   |none=>trivial
   |some q =>
    obtain⟨t',H',r,w,id⟩:=q
    have g:=D3 cx b t ds H t' H' r w id hh hl hd hw
    exact⟨g.1,λβ W a F hg hF ha p=>oh (g.2 β W a F hg hF ha p)⟩
  |false =>
  rw[au]
  cases hy:CR.andThen (cj tb rec cx b t ds H) (λt ds H=>CR.tW (rec (.loop b cx t ds) H))with
  |fail=>trivial
  |mk x t' ds' H' r' w' =>
   rw[hy]at h
   exact⟨h.1,λβ W a F hg hF ha p=>oh (h.2 β W a F hg hF ha p)⟩
 |rangeFunc f ps a b iha ihb=>exact λcx t ds H _ hw=>JM ok bX hw
 |_=>exact λcx t ds H _ hw=>trivial
def oa (P:Program) (ng:Nat) (sp:Nat->List Value->Hp->Option (Value×Hp×Nat×Nat)):Prop :=
 ∀ f args H v H' r w,H.wf->sp f args H=some (v,H',r,w)->aI P ng (.call f args) H (.k (eO v H' r w))
theorem P6 (ok:dI P tb) (D3:vP P tb) {sp:Nat->List Value->Hp->Option (Value×Hp×Nat×Nat)} (hsp:oa P tb.ng sp) {rec:Rec} (bX:kf P tb.ng rec):kf P tb.ng (f_ tb sp rec):=by
 intro tk H hw
 have u7:∀ (cx:Cx) c t ds H,cx.nt<8 ^ cx.d->H.wf->eA P tb cx c t ds H (cj tb rec cx c t ds H):=λcx c t ds H hd hw=>aas ok D3 bX c cx t ds H hd hw
 cases tk with
 |call f args =>
  simp only[f_]
  cases hs:sp f args H with
  |none=>exact DH ok bX hw u7
  |some q =>
   obtain⟨v,H',r,w⟩:=q
   exact hsp f args H v H' r w hw hs
 |mI f args um=>exact We ok hw
 |round l args=>exact xy hw u7
 |unwind nt res t ds m=>exact tG ok bX hw
 |loop b cx t ds =>
  simp only[f_]
  cases hh:tb.hk cx.nt b with
  |true =>
   rw[aj]
   unfold Au
   cases hl:tb.lp b t H with
   |none=>trivial
   |some q =>
    obtain⟨t',H',r,w,id⟩:=q
    exact λhd=>D3 cx b t ds H t' H' r w id hh hl hd hw
  |false =>
  rw[au]
  by_cases hd:cx.nt<8 ^ cx.d
  ·have h:=Bw bX hd (u7 cx b t ds H hd hw)
   cases hy:CR.andThen (cj tb rec cx b t ds H) (λt ds H=>CR.tW (rec (.loop b cx t ds) H))with
   |fail=>trivial
   |mk x t' ds' H' r' w' =>
    rw[hy]at h
    exact λ_=>h
  ·cases hy:CR.andThen (cj tb rec cx b t ds H) (λt ds H=>CR.tW (rec (.loop b cx t ds) H))with
   |fail=>trivial
   |mk x t' ds' H' r' w'=>exact λh=>absurd h hd
theorem oW (ok:dI P tb) (D3:vP P tb) {sp:Nat->List Value->Hp->Option (Value×Hp×Nat×Nat)} (hsp:oa P tb.ng sp):∀ n,kf P tb.ng (ev tb sp n):=by
 intro n
 induction n with
 |zero=>intro tk H hw;cases tk<;>trivial
 |succ n ih=>exact P6 ok D3 hsp ih
theorem P5 (ok:dI P tb) (D3:vP P tb) {sp:Nat->List Value->Hp->Option (Value×Hp×Nat×Nat)} (hsp:oa P tb.ng sp) {n:Nat} {f:FuncId} {args:List Value} {H H':Hp} {v:Value} {r w:Nat} (hw:H.wf)
 (h:ev tb sp n (.call f args) H=.k (.ret v H' r w)) {β:Mp} {W:World} {args':Array Value} (hg:cX tb.ng β) (hl:ak β args args'.toList) (p:Pre β H H' r w W):lO P f args' W (uN β H H' w W v):=by
 have:=oW ok D3 hsp n (.call f args) H hw
 rw[h]at this
 exact this.2 β W hg p args' hl
theorem akc (ok:dI P tb) (D3:vP P tb) {sp:Nat->List Value->Hp->Option (Value×Hp×Nat×Nat)} (hsp:oa P tb.ng sp) {n:Nat} {f:FuncId} {args:List Value} {H H':Hp} {v:Value} {r w:Nat} (hw:H.wf)
 (h:ev tb sp n (.call f args) H=.k (.ret v H' r w)) (hb:kQ tb f=true) {β:Mp} {W:World} {args':Array Value} (hg:cX tb.ng β) (hl:ak β args args'.toList) (p:Pre β H H' r w W):Calls P f args' W (uN β H H' w W v):=by
 rcases P5 ok D3 hsp hw h hg hl p with⟨_,hc⟩|⟨v',W',hc,_⟩
 ·exact callsIn_wide.1 hc
 ·rw[oO ok hb args' W]at hc;cases hc
end
end Go.Ev
end
noncomputable section
namespace Go.Ev
variable [dj]
def TR.bot:TR->Prop
 |.k (.fail _)=>True
 |.c .fail=>True
 |_=>False
def RLe (rec rec':Rec):Prop:=∀ tk H,(rec tk H).bot\/rec' tk H=rec tk H
section
variable {tb:Tb} {sp:Nat->List Value->Hp->Option (Value×Hp×Nat×Nat)} {rec rec':Rec} (h:RLe rec rec')
include h
theorem tc (tk:Task) (H:Hp) {k k':Value->Hp->Nat->Nat->OR} {p p':Value->Hp->Nat->Nat->OR} (hk:∀ v H r w,k v H r w=.fail\/k' v H r w=k v H r w) (hp:∀ v H r w,p v H r w=.fail\/p' v H r w=p v H r w) :
 bt (rec tk H) k p=.fail\/bt (rec' tk H) k' p'=bt (rec tk H) k p:=by
 rcases h tk H with hb|he
 ·left
  cases hx:rec tk H with
  |c y=>rfl
  |k y=>rw[hx]at hb;cases y<;>first|rfl|exact hb.elim
 ·rw[he]
  cases hx:rec tk H with
  |c y=>exact .inl rfl
  |k y =>
   cases y with
   |ret v H r w=>exact hk v H r w
   |panic v H r w=>exact hp v H r w
   |fail n=>exact .inl rfl
   |drop u H r w=>exact .inl rfl
   |n_ v H r w=>exact .inl rfl
theorem yW (cx:Cx):∀ (l:List CO) (i:Nat) (t:T Value) (ds:List Deferred) (H:Hp) (acc:Acc) (r w:Nat),aY rec cx l i t ds H acc r w=.fail\/aY rec' cx l i t ds H acc r w=aY rec cx l i t ds H acc r w:=by
 intro l
 induction l with
 |nil=>intro i t ds H acc r w;exact .inr rfl
 |cons o l ih =>
  intro i t ds H acc r w
  simp only[aY]
  cases dn t o.guard with
  |false=>rw[au,au];exact ih _ _ _ _ _ _ _
  |true =>
   rw[aj,aj]
   cases run o.op t H with
   |fail=>exact .inl rfl
   |recover=>exact .inl rfl
   |val v H' r' w'=>exact ih _ _ _ _ _ _ _
   |panic v=>exact .inr rfl
   |call f args=>exact tc h _ _ (λv H r w=>ih _ _ _ _ _ _ _) (λv H r w=>.inr rfl)
   |round l args=>exact tc h _ _ (λv H r w=>ih _ _ _ _ _ _ _) (λv H r w=>.inr rfl)
   |defer d =>
    simp only[cY]
    cases cx.eL with
    |some l=>exact .inl rfl
    |none=>cases cx.drw with
     |true=>exact .inl rfl
     |false=>exact ih _ _ _ _ _ _ _
omit h in
theorem Lf (tk:Task) (H:Hp) (h:RLe rec rec'):CR.tW (rec tk H)=.fail\/CR.tW (rec' tk H)=CR.tW (rec tk H):=by
 rcases h tk H with hb|he
 ·left
  cases hx:rec tk H with
  |k y=>rfl
  |c y=>rw[hx]at hb;cases y<;>first|rfl|exact hb.elim
 ·rw[he];exact .inr rfl
omit h in
theorem qS {x x':CR} {k k':T Value->List Deferred->Hp->CR} (hx:x=.fail\/x'=x) (hk:∀ t ds H,k t ds H=.fail\/k' t ds H=k t ds H):CR.andThen x k=.fail\/CR.andThen x' k'=CR.andThen x k:=by
 rcases hx with rfl|rfl
 ·exact .inl rfl
 ·cases x' with
  |fail=>exact .inl rfl
  |mk x t ds H r w =>
   cases x with
   |normal =>
    rcases hk t ds H with e|e
    ·left;show CR.join r w (k t ds H)=_;rw[e];rfl
    ·right;show CR.join r w (k' t ds H)=CR.join r w (k t ds H);rw[e]
   |_=>exact .inr rfl
theorem Ac (l:Nat) (t:T Value) (ds:List Deferred) (tk:Task) (H:Hp):gZ l t ds (rec tk H)=.fail\/gZ l t ds (rec' tk H)=gZ l t ds (rec tk H):=by
 rcases h tk H with hb|he
 ·left
  cases hx:rec tk H with
  |c y=>rfl
  |k y=>rw[hx]at hb;cases y<;>first|rfl|exact hb.elim
 ·rw[he];exact .inr rfl
theorem JE (cx:Cx) (f:Operand) (ps:List Tmp) (a b:Code) (t:T Value) (ds:List Deferred) (H:Hp):kU tb rec cx f ps a b t ds H=.fail\/kU tb rec' cx f ps a b t ds H=kU tb rec cx f ps a b t ds H:=by
 unfold kU
 cases cx.eL with
 |some l=>exact .inl rfl
 |none =>
  simp only[]
  cases (qw tb cx.nt f&&ps.all (λp=>Nat.blt p cx.nt))with
  |false=>exact .inl rfl
  |true =>
   rw[aj,aj]
   split
   ·split
    ·split
     ·rename_i g args _
      cases kQ tb g with
      |false=>exact .inl rfl
      |true=>rw[aj,aj];exact Ac h _ _ _ _ _
     ·exact .inl rfl
    ·exact .inl rfl
   ·exact .inl rfl
theorem sX:∀ (c:Code) (cx:Cx) (t:T Value) (ds:List Deferred) (H:Hp),cj tb rec cx c t ds H=.fail\/cj tb rec' cx c t ds H=cj tb rec cx c t ds H:=by
 intro c
 induction c with
 |region id ops draw =>
  intro cx t ds H
  cases draw with
  |false =>
   simp only[cj]
   rcases yW h cx (bV tb cx.nt ops ops.toList) 0 t ds H [] 0 0 with e|e
   ·left;rw[e];rfl
   ·right;rw[e]
  |true =>
   simp only[cj]
   cases ew ops (Region.before ops)with
   |false=>exact .inl rfl
   |true =>
    rw[aj,aj]
    rcases yW h ⟨cx.d,cx.nt,cx.eL,true⟩ (bV tb cx.nt ops ops.toList) 0 t ds H [] 0 0 with e|e
    ·left;rw[e];rfl
    ·right;rw[e]
 |seq a b iha ihb=>intro cx t ds H;exact qS (iha cx t ds H) (λt ds H=>ihb cx t ds H)
 |cond c a b iha ihb =>
  intro cx t ds H
  simp only[cj]
  cases qw tb cx.nt c with
  |false=>exact .inl rfl
  |true =>
   rw[aj,aj]
   cases zC (aA t c)with
   |none=>exact .inl rfl
   |some v=>cases v with
    |true=>exact iha cx t ds H
    |false=>exact ihb cx t ds H
 |block id b ih =>
  intro cx t ds H
  simp only[cj]
  rcases ih cx t ds H with e|e
  ·left;rw[e];rfl
  ·right;rw[e]
 |loop b ih =>
  intro cx t ds H
  simp only[cj]
  cases tb.hk cx.nt b with
  |true=>exact .inr rfl
  |false=>rw[au,au];exact qS (ih cx t ds H) (λt ds H=>Lf _ _ h)
 |rangeFunc f ps a b iha ihb=>intro cx t ds H;exact JE h cx f ps.toList a b t ds H
 |_=>intro cx t ds H;exact .inr rfl
omit h in
theorem join_le {x x':TR} {r w:Nat} (hx:x.bot\/x'=x):(KR.join r w x).bot\/KR.join r w x'=KR.join r w x:=by
 rcases hx with hb|rfl
 ·left
  cases x with
  |c y=>trivial
  |k y=>cases y<;>first|trivial|exact hb.elim
 ·exact .inr rfl
theorem DU {fn:Func} {x x':CR} (hx:x=.fail\/x'=x):(ij rec fn x).bot\/ij rec' fn x'=ij rec fn x:=by
 rcases hx with rfl|rfl
 ·exact .inl trivial
 ·cases x' with
  |fail=>exact .inl trivial
  |mk x t ds H r w =>
   cases x with
   |normal=>exact join_le (h _ _)
   |ret=>exact join_le (h _ _)
   |panic v=>exact join_le (h _ _)
   |_=>exact .inr rfl
theorem Qa (f:FuncId) (args:List Value) (H:Hp):(lF tb rec f args H).bot\/lF tb rec' f args H=lF tb rec f args H:=by
 unfold lF
 split
 ·exact .inr rfl
 ·split
  ·exact .inr rfl
  ·rename_i fn _ _ c _
   cases Nat.ble args.length fn.ntmps with
   |false=>exact .inr rfl
   |true=>rw[aj,aj];exact DU h (sX h _ _ _ _ _)
theorem Gm (nt:Nat) (res:List ResultVar) (t:T Value) (ds:List Deferred) (m:FrameMode) (H:Hp):(fZ tb rec nt res t ds m H).bot\/fZ tb rec' nt res t ds m H=fZ tb rec nt res t ds m H:=by
 unfold fZ
 split
 ·exact .inr rfl
 ·split
  ·split
   ·exact join_le (h _ _)
   ·exact .inr rfl
  ·rename_i f cap _
   unfold nJ
   rcases h (.mI f _ m) H with hb|he
   ·left
    split
    ·rename_i hx;rw[hx]at hb;exact hb.elim
    ·rename_i hx;rw[hx]at hb;exact hb.elim
    ·trivial
   ·rw[he]
    split
    ·split
     ·exact .inr rfl
     ·exact join_le (h _ _)
    ·exact join_le (h _ _)
    ·exact .inr rfl
  ·exact .inr rfl
theorem JD (l:Nat) (args:List Value) (H:Hp):(je tb rec l args H).bot\/je tb rec' l args H=je tb rec l args H:=by
 unfold je
 split
 ·split
  ·exact .inr rfl
  ·rename_i t _
   rcases sX (tb:=tb) h _ ⟨_,_,some l,false⟩ t [] H with e|e
   ·left;rw[e];trivial
   ·rw[e]
    split
    ·split
     ·rename_i hb
      rcases sX (tb:=tb) h _ ⟨_,_,some l,false⟩ _ [] _ with e2|e2
      ·left;rw[e2];trivial
      ·right;rw[e2]
     ·exact .inr rfl
    ·exact .inr rfl
 ·exact .inr rfl
theorem P7:RLe (f_ tb sp rec) (f_ tb sp rec'):=by
 intro tk H
 cases tk with
 |call f args =>
  simp only[f_]
  cases sp f args H with
  |none=>exact Qa h f args H
  |some q=>exact .inr rfl
 |mI f args um=>exact .inr rfl
 |round l args=>exact JD h l args H
 |loop b cx t ds =>
  simp only[f_]
  cases tb.hk cx.nt b with
  |true=>exact .inr rfl
  |false =>
   rw[au,au]
   rcases qS (sX (tb:=tb) h b cx t ds H) (λt ds H=>Lf (.loop b cx t ds) H h)with e|e
   ·left;rw[e];trivial
   ·right;rw[e]
 |unwind nt res t ds m=>exact Gm h nt res t ds m H
end
variable {tb:Tb} {sp:Nat->List Value->Hp->Option (Value×Hp×Nat×Nat)}
theorem JC:∀ n,RLe (ev tb sp n) (ev tb sp (n+1)):=by
 intro n
 induction n with
 |zero=>intro tk H;exact .inl trivial
 |succ n ih=>exact P7 ih
theorem No {n m:Nat} (hnm:n<=m):RLe (ev tb sp n) (ev tb sp m):=by
 induction m with
 |zero => have:n=0:=by omega
          subst this;intro tk H;exact .inr rfl
 |succ m ih =>
  by_cases e:n=m+1
  ·subst e;intro tk H;exact .inr rfl
  ·intro tk H
   rcases ih (by omega) tk H with hb|he
   ·exact .inl hb
   ·rcases JC (tb:=tb) (sp:=sp) m tk H with hb|he2
    ·rw[he]at hb;exact .inl hb
    ·right;rw[he2,he]
end Go.Ev
end
noncomputable section
namespace Go.Ev
variable [dj]
inductive KC where
 |skip|ret|bad
 |exit (id:Nat)
 |goto (l:Nat)
 |bp (cos:List CO)
 |draw (B:Array Nat) (cos:List CO)
 |seq (a b:KC)
 |cond (c:Operand) (a b:KC)
 |block (id:Nat) (b:KC)
 |loop (c:Code) (b:KC)
 |hook (c:Code)
 |ac_ (f:Operand) (ps:Array Tmp) (a b:Code) (ka kb:KC)
def bC (tb:Tb) (nt:Nat):Code->KC
 |.skip=>.skip
 |.label _=>.skip
 |.ret=>.ret
 |.exit id=>.exit id
 |.goto l=>.goto l
 |.region _ ops draw=>(match draw with
  |false=>.bp (bV tb nt ops ops.toList)
  |true=>Bc (ew ops (Region.before ops)) (.draw (Region.before ops) (bV tb nt ops ops.toList)) .bad)
 |.seq a b=>.seq (bC tb nt a) (bC tb nt b)
 |.cond c a b=>Bc (qw tb nt c) (.cond c (bC tb nt a) (bC tb nt b)) .bad
 |.block id b=>.block id (bC tb nt b)
 |.loop b=>Bc (tb.hk nt b) (.hook b) (.loop b (bC tb nt b))
 |.rangeFunc f ps a b=>.ac_ f ps a b (bC tb nt a) (bC tb nt b)
 |_=>.bad
def _root_.Go.Code.sl:Code->Code|.seq a _=>a|_=>.skip
def _root_.Go.Code.sr:Code->Code|.seq _ b=>b|_=>.skip
def _root_.Go.Code.ca:Code->Code|.cond _ a _=>a|_=>.skip
def _root_.Go.Code.cb:Code->Code|.cond _ _ b=>b|_=>.skip
def _root_.Go.Code.bl:Code->Code|.block _ b=>b|_=>.skip
def _root_.Go.Code.lp:Code->Code|.loop b=>b|_=>.skip
def _root_.Go.Code.ra:Code->Code|.rangeFunc _ _ a _=>a|_=>.skip
def _root_.Go.Code.rb:Code->Code|.rangeFunc _ _ _ b=>b|_=>.skip
structure Env where
 n0:Nat
 Rd:Nat->Prop
 Wr:Nat->Prop
structure Env.ok (e:Env) (r w:Nat) (H':Hp):Prop where
 rd:∀ b,b<e.n0->r.testBit b=true->e.Rd b
 wr:∀ b,b<e.n0->w.testBit b=true->e.Wr b
 lt:∀ b,r.testBit b=true\/w.testBit b=true->b<H'.nx
theorem Env.ok.zero (e:Env) (H:Hp):e.ok 0 0 H:=⟨λb _ h=>by simp at h,λb _ h=>by simp at h,λb h=>by simp at h⟩
theorem Env.ok.lor {e:Env} {r1 w1 r2 w2:Nat} {H1 H2:Hp} (h1:e.ok r1 w1 H1) (h2:e.ok r2 w2 H2) (hm:H1.nx<=H2.nx):e.ok (Nat.lor r1 r2) (Nat.lor w1 w2) H2:=by
 refine⟨λb hb h=>?_,λb hb h=>?_,λb h=>?_⟩
 ·rw[aM]at h;simp only[Bool.or_eq_true]at h
  rcases h with h|h
  ·exact h1.rd b hb h
  ·exact h2.rd b hb h
 ·rw[aM]at h;simp only[Bool.or_eq_true]at h
  rcases h with h|h
  ·exact h1.wr b hb h
  ·exact h2.wr b hb h
 ·rw[aM,aM]at h;simp only[Bool.or_eq_true]at h
  rcases h with(h|h)|(h|h)
  ·exact Nat.lt_of_lt_of_le (h1.lt b (.inl h)) hm
  ·exact h2.lt b (.inl h)
  ·exact Nat.lt_of_lt_of_le (h1.lt b (.inr h)) hm
  ·exact h2.lt b (.inr h)
theorem Env.ok.read {e:Env} {b:Nat} {H:Hp} (hb:b<H.nx) (h:b<e.n0->e.Rd b):e.ok (bit b) 0 H :=
 ⟨λc hc hh=>by have:=(aB b c).1 hh;subst this;exact h hc,λc _ hh=>by simp at hh,λc hh=>by
  rcases hh with hh|hh
  ·have:=(aB b c).1 hh;subst this;exact hb
  ·simp at hh⟩
theorem Env.ok.write {e:Env} {b:Nat} {H:Hp} (hb:b<H.nx) (h:b<e.n0->e.Wr b):e.ok 0 (bit b) H :=
 ⟨λc _ hh=>by simp at hh,λc hc hh=>by have:=(aB b c).1 hh;subst this;exact h hc,λc hh=>by
  rcases hh with hh|hh
  ·simp at hh
  ·have:=(aB b c).1 hh;subst this;exact hb⟩
section
variable (tb:Tb) (sp:Nat->List Value->Hp->Option (Value×Hp×Nat×Nat)) (e:Env)
def EC (f:FuncId) (args:List Value) (H:Hp) (K:Value->Hp->Prop):Prop :=
 ∃ N v H' r w,ev tb sp N (.call f args) H=.k (.ret v H' r w)/\e.ok r w H'/\H.nx<=H'.nx/\K v H'
def WR (x:R) (H:Hp) (K:Value->Hp->Prop):Prop:=match x with
 |.val v H' r w=>e.ok r w H'/\H.nx<=H'.nx/\K v H'
 |.call f args=>EC tb sp e f args H K
 |_=>False
def WO (cx:Cx) (cos:List CO) (t:T Value) (ds:List Deferred) (H:Hp) (K:T Value->List Deferred->Hp->Prop):Prop :=
 ∃ N t' ds' H' r w,(∀ i acc r0 w0,∃ acc',aY (ev tb sp N) cx cos i t ds H acc r0 w0=.mk .normal t' ds' H' acc' (Nat.lor r0 r) (Nat.lor w0 w))/\e.ok r w H'/\H.nx<=H'.nx/\K t' ds' H'
def WC (cx:Cx) (c:Code) (t:T Value) (ds:List Deferred) (H:Hp) (K:Ex->T Value->List Deferred->Hp->Prop):Prop :=
 ∃ N x t' ds' H' r w,cj tb (ev tb sp N) cx c t ds H=.mk x t' ds' H' r w/\e.ok r w H'/\H.nx<=H'.nx/\K x t' ds' H'
def WK (cx:Cx) (k:KC) (t:T Value) (ds:List Deferred) (H:Hp) (K:Ex->T Value->List Deferred->Hp->Prop):Prop :=
 ∀ c,bC tb cx.nt c=k->WC tb sp e cx c t ds H K
end
section
variable {tb:Tb} {sp:Nat->List Value->Hp->Option (Value×Hp×Nat×Nat)} {e:Env}
theorem EC.mono {f:FuncId} {args:List Value} {H:Hp} {K K':Value->Hp->Prop} (h:EC tb sp e f args H K) (hk:∀ v H',H.nx<=H'.nx->K v H'->K' v H'):EC tb sp e f args H K' :=
 let ⟨N,v,H',r,w,h1,h2,h3,h4⟩:=h;⟨N,v,H',r,w,h1,h2,h3,hk _ _ h3 h4⟩
theorem VY {N M:Nat} (hNM:N<=M) {tk:Task} {H:Hp} {x:KR} (h:ev tb sp N tk H=.k x) (hx:¬ (TR.k x).bot):ev tb sp M tk H=.k x:=by
 rcases No (tb:=tb) (sp:=sp) hNM tk H with hb|he
 ·rw[h]at hb;exact absurd hb hx
 ·rw[he,h]
theorem Gn {N M:Nat} (hNM:N<=M) {cx:Cx} {cos:List CO} {i:Nat} {t:T Value} {ds:List Deferred} {H:Hp} {acc:Acc} {r w:Nat} {x:Ex} {t':T Value} {ds':List Deferred} {H':Hp} {acc':Acc} {r' w':Nat}
 (h:aY (ev tb sp N) cx cos i t ds H acc r w=.mk x t' ds' H' acc' r' w'):aY (ev tb sp M) cx cos i t ds H acc r w=.mk x t' ds' H' acc' r' w':=by
 rcases yW (No (tb:=tb) (sp:=sp) hNM) cx cos i t ds H acc r w with he|he
 ·rw[h]at he;cases he
 ·rw[he,h]
theorem wL {N M:Nat} (hNM:N<=M) {cx:Cx} {c:Code} {t:T Value} {ds:List Deferred} {H:Hp} {x:Ex} {t':T Value} {ds':List Deferred} {H':Hp} {r' w':Nat}
 (h:cj tb (ev tb sp N) cx c t ds H=.mk x t' ds' H' r' w'):cj tb (ev tb sp M) cx c t ds H=.mk x t' ds' H' r' w':=by
 rcases sX (tb:=tb) (No (tb:=tb) (sp:=sp) hNM) c cx t ds H with he|he
 ·rw[h]at he;cases he
 ·rw[he,h]
theorem WO.mono {cx:Cx} {cos:List CO} {t:T Value} {ds:List Deferred} {H:Hp} {K K':T Value->List Deferred->Hp->Prop} (h:WO tb sp e cx cos t ds H K) (hk:∀ t' ds' H',H.nx<=H'.nx->K t' ds' H'->K' t' ds' H'):WO tb sp e cx cos t ds H K' :=
 let ⟨N,t',ds',H',r,w,h1,h2,h3,h4⟩:=h;⟨N,t',ds',H',r,w,h1,h2,h3,hk _ _ _ h3 h4⟩
theorem WC.mono {cx:Cx} {c:Code} {t:T Value} {ds:List Deferred} {H:Hp} {K K':Ex->T Value->List Deferred->Hp->Prop} (h:WC tb sp e cx c t ds H K) (hk:∀ x t' ds' H',H.nx<=H'.nx->K x t' ds' H'->K' x t' ds' H'):WC tb sp e cx c t ds H K' :=
 let ⟨N,x,t',ds',H',r,w,h1,h2,h3,h4⟩:=h;⟨N,x,t',ds',H',r,w,h1,h2,h3,hk _ _ _ _ h3 h4⟩
theorem WK.mono {cx:Cx} {k:KC} {t:T Value} {ds:List Deferred} {H:Hp} {K K':Ex->T Value->List Deferred->Hp->Prop} (h:WK tb sp e cx k t ds H K) (hk:∀ x t' ds' H',H.nx<=H'.nx->K x t' ds' H'->K' x t' ds' H'):WK tb sp e cx k t ds H K' :=
 λc hc=>(h c hc).mono hk
theorem WO.nil {cx:Cx} {t:T Value} {ds:List Deferred} {H:Hp} {K:T Value->List Deferred->Hp->Prop} (h:K t ds H):WO tb sp e cx [] t ds H K :=
 ⟨0,t,ds,H,0,0,λi acc r0 w0=>⟨acc,by rw[aF,aF];rfl⟩,.zero e H,Nat.le_refl _,h⟩
theorem WO.skip {cx:Cx} {o:CO} {cos:List CO} {t:T Value} {ds:List Deferred} {H:Hp} {K:T Value->List Deferred->Hp->Prop} (hg:dn t o.guard=false) (h:WO tb sp e cx cos (eF cx.d t o.dst U) ds H K):WO tb sp e cx (o::cos) t ds H K:=by
 obtain⟨N,t',ds',H',r,w,h1,h2,h3,h4⟩:=h
 refine⟨N,t',ds',H',r,w,λi acc r0 w0=>?_,h2,h3,h4⟩
 simp only[aY,hg,au]
 exact h1 _ _ _ _
theorem WO.cons {cx:Cx} {o:CO} {cos:List CO} {t:T Value} {ds:List Deferred} {H:Hp} {K:T Value->List Deferred->Hp->Prop} (hg:dn t o.guard=true)
 (h:WR tb sp e (run o.op t H) H λv H1=>WO tb sp e cx cos (eF cx.d t o.dst v) ds H1 K):WO tb sp e cx (o::cos) t ds H K:=by
 cases hr:run o.op t H with
 |val v H1 r1 w1 =>
  rw[hr]at h
  obtain⟨a1,a2,N,t',ds',H',r,w,h1,h2,h3,h4⟩:=h
  refine⟨N,t',ds',H',Nat.lor r1 r,Nat.lor w1 w,λi acc r0 w0=>?_,a1.lor h2 h3,Nat.le_trans a2 h3,h4⟩
  simp only[aY,hg,aj,hr,cY]
  obtain⟨acc',h5⟩:=h1 (Nat.succ i) ((i,r1,Nat.lor w1 (lP H H1))::acc) (Nat.lor r0 r1) (Nat.lor w0 w1)
  exact⟨acc',by rw[h5,aU,aU]⟩
 |call f args =>
  rw[hr]at h
  obtain⟨N1,v,H1,r1,w1,b1,a1,a2,N,t',ds',H',r,w,h1,h2,h3,h4⟩:=h
  refine⟨max N1 N,t',ds',H',Nat.lor r1 r,Nat.lor w1 w,λi acc r0 w0=>?_,a1.lor h2 h3,Nat.le_trans a2 h3,h4⟩
  simp only[aY,hg,aj,hr,cY]
  rw[VY (Nat.le_max_left N1 N) b1 (λh=>h)]
  simp only[bt]
  obtain⟨acc',h5⟩:=h1 (Nat.succ i) ((i,r1,Nat.lor w1 (lP H H1))::acc) (Nat.lor r0 r1) (Nat.lor w0 w1)
  exact⟨acc',by rw[Gn (Nat.le_max_right N1 N) h5,aU,aU]⟩
 |fail=>rw[hr]at h;exact h.elim
 |round l args=>rw[hr]at h;exact h.elim
 |panic v=>rw[hr]at h;exact h.elim
 |defer d=>rw[hr]at h;exact h.elim
 |recover=>rw[hr]at h;exact h.elim
variable {cx:Cx} {t:T Value} {ds:List Deferred} {H:Hp} {K:Ex->T Value->List Deferred->Hp->Prop}
theorem WK.skip (h:K .normal t ds H):WK tb sp e cx .skip t ds H K:=by
 intro c hc
 cases c<;>simp only[bC,reduceCtorEq]at hc
 ·exact⟨0,.normal,t,ds,H,0,0,rfl,.zero e H,Nat.le_refl _,h⟩
 all_goals first
  |exact⟨0,.normal,t,ds,H,0,0,rfl,.zero e H,Nat.le_refl _,h⟩
  |(exfalso;revert hc;split<;>first|(intro hc;cases hc;done)|(generalize ew _ _=b;cases b<;>intro hc<;>cases hc))
  |(exfalso;revert hc;generalize qw tb cx.nt _=b;cases b<;>intro hc<;>cases hc)
  |(exfalso;revert hc;generalize tb.hk cx.nt _=b;cases b<;>intro hc<;>cases hc)
theorem Po {c:Code} {nt:Nat} (hc:bC tb nt c=.ret):c=.ret:=by
 cases c<;>simp only[bC,reduceCtorEq]at hc
 all_goals first
  |rfl
  |(exfalso;revert hc;split<;>first|(intro hc;cases hc;done)|(generalize ew _ _=b;cases b<;>intro hc<;>cases hc))
  |(exfalso;revert hc;generalize qw tb nt _=b;cases b<;>intro hc<;>cases hc)
  |(exfalso;revert hc;generalize tb.hk nt _=b;cases b<;>intro hc<;>cases hc)
theorem WK.ret (h:K .ret t ds H):WK tb sp e cx .ret t ds H K:=by
 intro c hc
 have:=Po hc;subst this
 exact⟨0,.ret,t,ds,H,0,0,rfl,.zero e H,Nat.le_refl _,h⟩
theorem IL {c:Code} {nt id:Nat} (hc:bC tb nt c=.exit id):c=.exit id:=by
 cases c<;>simp only[bC,reduceCtorEq,KC.exit.injEq]at hc
 all_goals first
  |(subst hc;rfl)
  |(exfalso;revert hc;split<;>first|(intro hc;cases hc;done)|(generalize ew _ _=b;cases b<;>intro hc<;>cases hc))
  |(exfalso;revert hc;generalize qw tb nt _=b;cases b<;>intro hc<;>cases hc)
  |(exfalso;revert hc;generalize tb.hk nt _=b;cases b<;>intro hc<;>cases hc)
theorem WK.exit {id:Nat} (h:K (.exit id) t ds H):WK tb sp e cx (.exit id) t ds H K:=by
 intro c hc
 have:=IL hc;subst this
 exact⟨0,.exit id,t,ds,H,0,0,rfl,.zero e H,Nat.le_refl _,h⟩
theorem Pn {c:Code} {nt:Nat} {a b:KC} (hc:bC tb nt c=.seq a b):∃ x y,c=.seq x y/\bC tb nt x=a/\bC tb nt y=b:=by
 cases c<;>simp only[bC,reduceCtorEq,KC.seq.injEq]at hc
 all_goals first
  |exact⟨_,_,rfl,hc.1,hc.2⟩
  |(exfalso;revert hc;split<;>first|(intro hc;cases hc;done)|(generalize ew _ _=b;cases b<;>intro hc<;>cases hc))
  |(exfalso;revert hc;generalize qw tb nt _=b;cases b<;>intro hc<;>cases hc)
  |(exfalso;revert hc;generalize tb.hk nt _=b;cases b<;>intro hc<;>cases hc)
theorem WK.seq {a b:KC} (h:WK tb sp e cx a t ds H λx t1 ds1 H1=>match x with|.normal=>WK tb sp e cx b t1 ds1 H1 K|y=>K y t1 ds1 H1):WK tb sp e cx (.seq a b) t ds H K:=by
 intro c hc
 obtain⟨x,y,rfl,ha,hb⟩:=Pn hc
 obtain⟨N,x1,t1,ds1,H1,r1,w1,h1,h2,h3,h4⟩:=h x ha
 cases x1 with
 |normal =>
  obtain⟨N2,x2,t2,ds2,H2,r2,w2,g1,g2,g3,g4⟩:=h4 y hb
  refine⟨max N N2,x2,t2,ds2,H2,Nat.lor r1 r2,Nat.lor w1 w2,?_,h2.lor g2 g3,Nat.le_trans h3 g3,g4⟩
  simp only[cj]
  rw[wL (Nat.le_max_left N N2) h1]
  show CR.join r1 w1 (cj tb (ev tb sp (max N N2)) cx y t1 ds1 H1)=_
  rw[wL (Nat.le_max_right N N2) g1];rfl
 |_ =>
  refine⟨N,_,t1,ds1,H1,r1,w1,?_,h2,h3,h4⟩
  simp only[cj];rw[h1];rfl
theorem IN {c:Code} {nt:Nat} {o:Operand} {a b:KC} (hc:bC tb nt c=.cond o a b):∃ x y,c=.cond o x y/\bC tb nt x=a/\bC tb nt y=b/\qw tb nt o=true:=by
 cases c<;>simp only[bC,reduceCtorEq]at hc
 all_goals first
  |(exfalso;revert hc;split<;>first|(intro hc;cases hc;done)|(generalize ew _ _=b;cases b<;>intro hc<;>cases hc);done)
  |(exfalso;revert hc;generalize tb.hk nt _=b;cases b<;>intro hc<;>cases hc;done)
  |skip
 rename_i o' x y
 cases h:qw tb nt o' with
 |false=>rw[h,au]at hc;cases hc
 |true=>rw[h,aj]at hc;cases hc;exact⟨x,y,rfl,rfl,rfl,h⟩
theorem WK.cond {o:Operand} {a b:KC} {v:Bool} (hv:zC (aA t o)=some v) (h:WK tb sp e cx (if v then a else b) t ds H K):WK tb sp e cx (.cond o a b) t ds H K:=by
 intro c hc
 obtain⟨x,y,rfl,ha,hb,hok⟩:=IN hc
 cases v with
 |true =>
  obtain⟨N,x1,t1,ds1,H1,r1,w1,h1,h2⟩:=h x ha
  refine⟨N,x1,t1,ds1,H1,r1,w1,?_,h2⟩
  simp only[cj,hok,aj,hv,h1]
 |false =>
  obtain⟨N,x1,t1,ds1,H1,r1,w1,h1,h2⟩:=h y hb
  refine⟨N,x1,t1,ds1,H1,r1,w1,?_,h2⟩
  simp only[cj,hok,aj,hv,h1]
theorem FH {c:Code} {nt id:Nat} {b:KC} (hc:bC tb nt c=.block id b):∃ x,c=.block id x/\bC tb nt x=b:=by
 cases c<;>simp only[bC,reduceCtorEq,KC.block.injEq]at hc
 all_goals first
  |(obtain⟨rfl,h⟩:=hc;exact⟨_,rfl,h⟩)
  |(exfalso;revert hc;split<;>first|(intro hc;cases hc;done)|(generalize ew _ _=b;cases b<;>intro hc<;>cases hc))
  |(exfalso;revert hc;generalize qw tb nt _=b;cases b<;>intro hc<;>cases hc)
  |(exfalso;revert hc;generalize tb.hk nt _=b;cases b<;>intro hc<;>cases hc)
def ad2 (id:Nat) (K:Ex->T Value->List Deferred->Hp->Prop):Ex->T Value->List Deferred->Hp->Prop:=λx t ds H=>match x with
 |.exit j=>if j=id then K .normal t ds H else K (.exit j) t ds H
 |y=>K y t ds H
theorem WK.block {id:Nat} {b:KC} (h:WK tb sp e cx b t ds H (ad2 id K)):WK tb sp e cx (.block id b) t ds H K:=by
 intro c hc
 obtain⟨x,rfl,hb⟩:=FH hc
 obtain⟨N,x1,t1,ds1,H1,r1,w1,h1,h2,h3,h4⟩:=h x hb
 cases x1 with
 |exit j =>
  by_cases e:j=id
  ·subst e
   refine⟨N,.normal,t1,ds1,H1,r1,w1,?_,h2,h3,by simpa [ad2] using h4⟩
   simp only[cj,h1,outBlock,(beq_iff j j).2 rfl,aj]
  ·refine⟨N,.exit j,t1,ds1,H1,r1,w1,?_,h2,h3,by simpa [ad2,e] using h4⟩
   have:Nat.beq j id=false:=by
    cases hh:Nat.beq j id with
    |false=>rfl
    |true=>exact absurd ((beq_iff _ _).1 hh) e
   simp only[cj,h1,outBlock,this,au]
 |_ =>
  refine⟨N,_,t1,ds1,H1,r1,w1,?_,h2,h3,h4⟩
  simp only[cj,h1,outBlock]
theorem IK {c:Code} {nt:Nat} {d:Code} {b:KC} (hc:bC tb nt c=.loop d b):c=.loop d/\bC tb nt d=b/\tb.hk nt d=false:=by
 cases c<;>simp only[bC,reduceCtorEq,KC.loop.injEq]at hc
 all_goals first
  |(rename_i b';revert hc;cases hh:tb.hk nt b' with
   |true=>(intro hc;cases hc)
   |false=>(intro hc;cases hc;exact⟨rfl,rfl,hh⟩))
  |(exfalso;revert hc;split<;>first|(intro hc;cases hc;done)|(generalize ew _ _=b;cases b<;>intro hc<;>cases hc))
  |(exfalso;revert hc;generalize qw tb nt _=b;cases b<;>intro hc<;>cases hc)
  |(exfalso;revert hc;generalize tb.hk nt _=b;cases b<;>intro hc<;>cases hc)
theorem WK.loop {d:Code} {b:KC} (h:WK tb sp e cx b t ds H λx t1 ds1 H1=>match x with|.normal=>WK tb sp e cx (.loop d b) t1 ds1 H1 K|y=>K y t1 ds1 H1):WK tb sp e cx (.loop d b) t ds H K:=by
 intro c hc
 obtain⟨rfl,hb,hh⟩:=IK hc
 obtain⟨N,x1,t1,ds1,H1,r1,w1,h1,h2,h3,h4⟩:=h d hb
 cases x1 with
 |normal =>
  obtain⟨N2,x2,t2,ds2,H2,r2,w2,g1,g2,g3,g4⟩:=h4 (.loop d) (by simp only[bC];rw[hh,au,hb])
  refine⟨max N (N2+1),x2,t2,ds2,H2,Nat.lor r1 r2,Nat.lor w1 w2,?_,h2.lor g2 g3,Nat.le_trans h3 g3,g4⟩
  simp only[cj]
  rw[hh,au,wL (Nat.le_max_left N (N2+1)) h1]
  show CR.join r1 w1 (CR.tW (ev tb sp (max N (N2+1)) (.loop d cx t1 ds1) H1))=_
  have e1:ev tb sp (N2+1) (.loop d cx t1 ds1) H1=.c (cj tb (ev tb sp N2) cx (.loop d) t1 ds1 H1):=rfl
  have e2:ev tb sp (max N (N2+1)) (.loop d cx t1 ds1) H1=.c (.mk x2 t2 ds2 H2 r2 w2):=by
   rcases No (tb:=tb) (sp:=sp) (Nat.le_max_right N (N2+1)) (.loop d cx t1 ds1) H1 with hb|he
   ·rw[e1,g1]at hb;exact hb.elim
   ·rw[he,e1,g1]
  rw[e2];rfl
 |_ =>
  refine⟨N,_,t1,ds1,H1,r1,w1,?_,h2,h3,h4⟩
  simp only[cj];rw[hh,au,h1];rfl
theorem WK.eR {d:Code} {b:KC} (I:Nat->T Value->List Deferred->Hp->Prop)
 (h:∀ n t ds H,I n t ds H->WK tb sp e cx b t ds H λx t1 ds1 H1=>match x with|.normal=>∃ m,m<n/\I m t1 ds1 H1|y=>K y t1 ds1 H1):∀ n t ds H,I n t ds H->WK tb sp e cx (.loop d b) t ds H K:=by
 intro n
 induction n using Nat.strongRecOn with
 |_ n ih =>
  intro t ds H hI
  refine WK.loop ((h n t ds H hI).mono λx t1 ds1 H1 _ hx=>?_)
  cases x with
  |normal=>obtain⟨m,hm,hI'⟩:=hx;exact ih m hm _ _ _ hI'
  |_=>exact hx
theorem A4 {c:Code} {nt:Nat} {cos:List CO} (hc:bC tb nt c=.bp cos):∃ id ops,c=.region id ops false/\bV tb nt ops ops.toList=cos:=by
 cases c<;>simp only[bC,reduceCtorEq]at hc
 all_goals first
  |(exfalso;revert hc;generalize qw tb nt _=b;cases b<;>intro hc<;>cases hc;done)
  |(exfalso;revert hc;generalize tb.hk nt _=b;cases b<;>intro hc<;>cases hc;done)
  |skip
 rename_i id ops draw
 cases draw with
 |false=>simp only[KC.bp.injEq]at hc;exact⟨id,ops,rfl,hc⟩
 |true =>
  simp only at hc
  cases h:ew ops (Region.before ops)with
  |false=>rw[h,au]at hc;cases hc
  |true=>rw[h,aj]at hc;cases hc
theorem WK.bp {cos:List CO} (h:WO tb sp e cx cos t ds H (K .normal)):WK tb sp e cx (.bp cos) t ds H K:=by
 intro c hc
 obtain⟨id,ops,rfl,UM⟩:=A4 hc
 obtain⟨N,t',ds',H',r,w,h1,h2,h3,h4⟩:=h
 obtain⟨acc',h5⟩:=h1 0 [] 0 0
 refine⟨N,.normal,t',ds',H',r,w,?_,h2,h3,h4⟩
 simp only[cj,UM,h5,Tl,aK]
end
end Go.Ev
end
noncomputable section
namespace Go.Ev
variable [dj]
section
variable {tb:Tb} {sp:Nat->List Value->Hp->Option (Value×Hp×Nat×Nat)} {e:Env}
def Qf (fn:Func):Cx:=⟨dep fn.ntmps,fn.ntmps,none,false⟩
def Leaves (tb:Tb) (e:Env) (fn:Func) (K:Value->Hp->Prop):Ex->T Value->List Deferred->Hp->Prop:=λx t ds H =>
 (x=.normal\/x=.ret)/\ds=[]/\∃ l r,eg tb fn.ntmps t H fn.results.toList=some (l,r)/\e.ok r 0 H/\K (B6 l) H
theorem EC.intro {f:FuncId} {fn:Func} {c:Code} {k:KC} {args:List Value} {H:Hp} {K:Value->Hp->Prop} (hs:sp f args H=none) (hf:tb.fn f=some fn) (hb:fn.body=some c) (hk:bC tb fn.ntmps c=k) (hn:args.length<=fn.ntmps)
 (h:WK tb sp e (Qf fn) k (gW fn args) [] H (Leaves tb e fn K)):EC tb sp e f args H K:=by
 obtain⟨N,x,t,ds,H',r,w,h1,h2,h3,hx,rfl,l,r2,h4,h5,h6⟩:=h c hk
 refine⟨max N 1+1,B6 l,H',Nat.lor r r2,Nat.lor w 0,?_,h2.lor h5 (Nat.le_refl _),h3,h6⟩
 show f_ tb sp (ev tb sp (max N 1)) (.call f args) H=_
 simp only[f_,hs,lF,hf,hb]
 have hn':=(aE args.length fn.ntmps).2 hn
 rw[hn',aj]
 have hu:ev tb sp (max N 1) (.unwind fn.ntmps fn.results.toList t [] .returning) H'=.k (.ret (B6 l) H' r2 0):=by
  refine VY (Nat.le_max_right N 1) ?_ (λh=>h)
  show fZ tb (ev tb sp 0) fn.ntmps fn.results.toList t [] .returning H'=_
  simp only[fZ,h4]
 have h1':=wL (Nat.le_max_left N 1) h1
 show ij (ev tb sp (max N 1)) fn (cj tb (ev tb sp (max N 1)) (Qf fn) c (gW fn args) [] H)=_
 rw[h1']
 rcases hx with rfl|rfl
 ·simp only[ij,hu,KR.join,tu]
 ·simp only[ij,hu,KR.join,tu]
structure En where
 i:Nat
 R:Nat->Prop
 W:Nat->Prop
def XE (B:Array Nat) (i:Nat) (R W:Nat->Prop) (A:List En):Prop :=
 ∀ en∈A,(B.getD i 0).testBit en.i=true\/((∀ b,en.W b->¬ R b/\¬ W b)/\∀ b,W b->¬ en.R b)
def Rz (A:List En) (acc:Acc):Prop :=
 ∀ x∈acc,(x.2.1=0/\x.2.2=0)\/∃ en∈A,en.i=x.1/\(∀ b,x.2.1.testBit b=true->en.R b)/\(∀ b,x.2.2.testBit b=true->en.W b)
theorem so {x y:Nat} (h:∀ b,x.testBit b=true->y.testBit b=false):Nat.land x y=0:=by
 apply Nat.eq_of_testBit_eq
 intro b
 show(x &&& y).testBit b=_
 rw[Nat.testBit_and,Nat.zero_testBit]
 cases hx:x.testBit b with
 |false=>rfl
 |true=>rw[h b hx];rfl
theorem xS {B:Array Nat} {i:Nat} {R W:Nat->Prop} {A:List En} {acc:Acc} {r w:Nat} (hc:XE B i R W A) (hz:Rz A acc) (hr:∀ b,r.testBit b=true->R b) (hw:∀ b,w.testBit b=true->W b):jF (B.getD i 0) r w acc=true:=by
 induction acc with
 |nil=>rfl
 |cons x acc ih =>
  obtain⟨j,rj,wj⟩:=x
  have ih':=ih λy hy=>hz y (by simp[hy])
  simp only[jF]
  cases ht:Nat.testBit (B.getD i 0) j with
  |true=>rw[aj];exact ih'
  |false =>
   rw[au]
   have key:(∀ b,wj.testBit b=true->(Nat.lor r w).testBit b=false)/\(∀ b,w.testBit b=true->rj.testBit b=false):=by
    rcases hz (j,rj,wj) (by simp)with⟨h1,h2⟩|⟨en,hen,h1,h2,h3⟩
    ·simp only at h1 h2;subst h1 h2
     exact⟨λb h=>by simp at h,λb _=>by simp⟩
    ·simp only at h1 h2 h3
     subst h1
     rcases hc en hen with h4|⟨h4,h5⟩
     ·rw[ht]at h4;cases h4
     ·refine⟨λb hb=>?_,λb hb=>?_⟩
      ·have:=h4 b (h3 b hb)
       rw[aM]
       cases h6:r.testBit b with
       |true=>exact absurd (hr b h6) this.1
       |false=>cases h7:w.testBit b with
        |true=>exact absurd (hw b h7) this.2
        |false=>rfl
      ·cases h6:rj.testBit b with
       |false=>rfl
       |true=>exact absurd (h2 b h6) (h5 b (hw b hb))
   rw[so key.1,so key.2]
   exact ih'
def WD (tb:Tb) (sp:Nat->List Value->Hp->Option (Value×Hp×Nat×Nat)) (e:Env) (cx:Cx) (B:Array Nat) (cos:List CO) (i:Nat) (t:T Value) (ds:List Deferred) (H:Hp) (A:List En) (K:T Value->List Deferred->Hp->Prop):Prop :=
 ∃ N t' ds' H' r w,(∀ acc r0 w0,Rz A acc->eP B acc=true->∃ acc',eP B acc'=true/\aY (ev tb sp N) ⟨cx.d,cx.nt,cx.eL,true⟩ cos i t ds H acc r0 w0=.mk .normal t' ds' H' acc' (Nat.lor r0 r) (Nat.lor w0 w))/\e.ok r w H'/\H.nx<=H'.nx/\K t' ds' H'
def WRd (tb:Tb) (sp:Nat->List Value->Hp->Option (Value×Hp×Nat×Nat)) (e:Env) (B:Array Nat) (i:Nat) (x:R) (H:Hp) (A:List En) (K:Value->Hp->List En->Prop):Prop:=match x with
 |.val v H' r w=>e.ok r w H'/\H.nx<=H'.nx /\
  ((r=0/\w=0/\H'.nx=H.nx/\K v H' A)\/∃ R W:Nat->Prop,(∀ b,r.testBit b=true->R b)/\(∀ b,w.testBit b=true\/(H.nx<=b/\b<H'.nx)->W b)/\XE B i R W A/\K v H' (⟨i,R,W⟩::A))
 |.call f args=>∃ e':Env,e.n0<=e'.n0/\e'.n0=H.nx/\(∀ b,b<e.n0->e'.Rd b->e.Rd b)/\(∀ b,b<e.n0->e'.Wr b->e.Wr b) /\
  EC tb sp e' f args H λv H'=>∀ R W:Nat->Prop,(∀ b,R b↔(b<H.nx/\e'.Rd b)\/(H.nx<=b/\b<H'.nx))->(∀ b,W b↔(b<H.nx/\e'.Wr b)\/(H.nx<=b/\b<H'.nx))->XE B i R W A/\K v H' (⟨i,R,W⟩::A)
 |_=>False
theorem WD.nil {cx:Cx} {B:Array Nat} {i:Nat} {t:T Value} {ds:List Deferred} {H:Hp} {A:List En} {K:T Value->List Deferred->Hp->Prop} (h:K t ds H):WD tb sp e cx B [] i t ds H A K :=
 ⟨0,t,ds,H,0,0,λacc r0 w0 _ ho=>⟨acc,ho,by rw[aF,aF];rfl⟩,.zero e H,Nat.le_refl _,h⟩
theorem WD.skip {cx:Cx} {B:Array Nat} {o:CO} {cos:List CO} {i:Nat} {t:T Value} {ds:List Deferred} {H:Hp} {A:List En} {K:T Value->List Deferred->Hp->Prop} (hg:dn t o.guard=false) (h:WD tb sp e cx B cos (i+1) (eF cx.d t o.dst U) ds H A K) :
 WD tb sp e cx B (o::cos) i t ds H A K:=by
 obtain⟨N,t',ds',H',r,w,h1,h2,h3,h4⟩:=h
 refine⟨N,t',ds',H',r,w,λacc r0 w0 hz ho=>?_,h2,h3,h4⟩
 simp only[aY,hg,au]
 exact h1 _ _ _ hz ho
theorem EE {H H':Hp} (h:H'.nx=H.nx):lP H H'=0:=by unfold lP;rw[h];exact Nat.sub_self _
theorem Rz.cons {A:List En} {acc:Acc} {i r a:Nat} {R W:Nat->Prop} (hz:Rz A acc) (hr:∀ b,r.testBit b=true->R b) (hw:∀ b,a.testBit b=true->W b):Rz (⟨i,R,W⟩::A) ((i,r,a)::acc):=by
 intro x hx
 rcases List.mem_cons.1 hx with rfl|hx
 ·exact .inr ⟨⟨i,R,W⟩,by simp,rfl,hr,hw⟩
 ·rcases hz x hx with h|⟨en,h1,h2⟩
  ·exact .inl h
  ·exact .inr ⟨en,List.mem_cons.2 (.inr h1),h2⟩
theorem WD.cons {cx:Cx} {B:Array Nat} {o:CO} {cos:List CO} {i:Nat} {t:T Value} {ds:List Deferred} {H:Hp} {A:List En} {K:T Value->List Deferred->Hp->Prop} (hg:dn t o.guard=true)
 (h:WRd tb sp e B i (run o.op t H) H A λv H1 A1=>WD tb sp e cx B cos (i+1) (eF cx.d t o.dst v) ds H1 A1 K):WD tb sp e cx B (o::cos) i t ds H A K:=by
 cases hr:run o.op t H with
 |val v H1 r1 w1 =>
  rw[hr]at h
  obtain⟨a1,a2,h⟩:=h
  rcases h with⟨rfl,rfl,hn,N,t',ds',H',r,w,h1,h2,h3,h4⟩|⟨R,W,hR,hW,hc,N,t',ds',H',r,w,h1,h2,h3,h4⟩
  ·refine⟨N,t',ds',H',r,w,λacc r0 w0 hz ho=>?_,h2,Nat.le_trans a2 h3,h4⟩
   simp only[aY,hg,aj,hr,cY]
   rw[EE hn]
   obtain⟨acc',h5,h6⟩:=h1 ((i,0,Nat.lor 0 0)::acc) (Nat.lor r0 0) (Nat.lor w0 0) (λx hx=>by
    rcases List.mem_cons.1 hx with rfl|hx
    ·exact .inl ⟨rfl,rfl⟩
    ·exact hz x hx) (by
    simp only[eP,Bool.and_eq_true]
    exact⟨xS (R:=λ_=>False) (W:=λ_=>False) (A:=A) (λen _=>.inr ⟨λb _=>⟨id,id⟩,λb h=>h.elim⟩) hz (λb h=>by simp at h) (λb h=>by rw[aF]at h;simp at h),ho⟩)
   exact⟨acc',h5,by rw[h6,aF,aF]⟩
  ·refine⟨N,t',ds',H',Nat.lor r1 r,Nat.lor w1 w,λacc r0 w0 hz ho=>?_,a1.lor h2 h3,Nat.le_trans a2 h3,h4⟩
   simp only[aY,hg,aj,hr,cY]
   have hWa:∀ b,(Nat.lor w1 (lP H H1)).testBit b=true->W b:=λb hb=>by
    rw[aM]at hb;simp only[Bool.or_eq_true]at hb
    rcases hb with hb|hb
    ·exact hW b (.inl hb)
    ·exact hW b (.inr ((v_ a2 b).1 hb))
   obtain⟨acc',h5,h6⟩:=h1 ((i,r1,Nat.lor w1 (lP H H1))::acc) (Nat.lor r0 r1) (Nat.lor w0 w1) (hz.cons hR hWa) (by
    simp only[eP,Bool.and_eq_true]
    exact⟨xS hc hz hR hWa,ho⟩)
   exact⟨acc',h5,by rw[h6,aU,aU]⟩
 |call f args =>
  rw[hr]at h
  obtain⟨e',q1,q2,q3,q4,N1,v,H1,r1,w1,b1,a1,a2,h⟩:=h
  obtain⟨hc,N,t',ds',H',r,w,h1,h2,h3,h4⟩:=h _ _ (λb=>Iff.rfl) (λb=>Iff.rfl)
  have hR:∀ b,r1.testBit b=true->(b<H.nx/\e'.Rd b)\/(H.nx<=b/\b<H1.nx):=λb hb=>by
   rcases Nat.lt_or_ge b H.nx with hlt|hge
   ·exact .inl ⟨hlt,a1.rd b (by omega) hb⟩
   ·exact .inr ⟨hge,a1.lt b (.inl hb)⟩
  have hW:∀ b,(Nat.lor w1 (lP H H1)).testBit b=true->(b<H.nx/\e'.Wr b)\/(H.nx<=b/\b<H1.nx):=λb hb=>by
   rw[aM]at hb;simp only[Bool.or_eq_true]at hb
   rcases hb with hb|hb
   ·rcases Nat.lt_or_ge b H.nx with hlt|hge
    ·exact .inl ⟨hlt,a1.wr b (by omega) hb⟩
    ·exact .inr ⟨hge,a1.lt b (.inr hb)⟩
   ·exact .inr ((v_ a2 b).1 hb)
  have a1':e.ok r1 w1 H1:=⟨λb hb hh=>q3 b hb (a1.rd b (Nat.lt_of_lt_of_le hb q1) hh),λb hb hh=>q4 b hb (a1.wr b (Nat.lt_of_lt_of_le hb q1) hh),a1.lt⟩
  refine⟨max N1 N,t',ds',H',Nat.lor r1 r,Nat.lor w1 w,λacc r0 w0 hz ho=>?_,a1'.lor h2 h3,Nat.le_trans a2 h3,h4⟩
  simp only[aY,hg,aj,hr,cY]
  rw[VY (Nat.le_max_left N1 N) b1 (λh=>h)]
  simp only[bt]
  obtain⟨acc',h5,h6⟩:=h1 ((i,r1,Nat.lor w1 (lP H H1))::acc) (Nat.lor r0 r1) (Nat.lor w0 w1) (hz.cons hR hW) (by
   simp only[eP,Bool.and_eq_true]
   exact⟨xS hc hz hR hW,ho⟩)
  exact⟨acc',h5,by rw[Gn (Nat.le_max_right N1 N) h6,aU,aU]⟩
 |fail=>rw[hr]at h;exact h.elim
 |round l args=>rw[hr]at h;exact h.elim
 |panic v=>rw[hr]at h;exact h.elim
 |defer d=>rw[hr]at h;exact h.elim
 |recover=>rw[hr]at h;exact h.elim
theorem IM {c:Code} {nt:Nat} {B:Array Nat} {cos:List CO} (hc:bC tb nt c=.draw B cos):∃ id ops,c=.region id ops true/\bV tb nt ops ops.toList=cos/\Region.before ops=B/\ew ops (Region.before ops)=true:=by
 cases c<;>simp only[bC,reduceCtorEq]at hc
 all_goals first
  |(exfalso;revert hc;generalize qw tb nt _=b;cases b<;>intro hc<;>cases hc;done)
  |(exfalso;revert hc;generalize tb.hk nt _=b;cases b<;>intro hc<;>cases hc;done)
  |skip
 rename_i id ops draw
 cases draw with
 |false=>simp only[reduceCtorEq]at hc
 |true =>
  simp only at hc
  cases h:ew ops (Region.before ops)with
  |false=>rw[h,au]at hc;cases hc
  |true=>rw[h,aj]at hc;cases hc;exact⟨id,ops,rfl,rfl,rfl,h⟩
theorem WK.draw {cx:Cx} {B:Array Nat} {cos:List CO} {t:T Value} {ds:List Deferred} {H:Hp} {K:Ex->T Value->List Deferred->Hp->Prop} (h:WD tb sp e cx B cos 0 t ds H [] (K .normal)):WK tb sp e cx (.draw B cos) t ds H K:=by
 intro c hc
 obtain⟨id,ops,rfl,UM,rfl,hdo⟩:=IM hc
 obtain⟨N,t',ds',H',r,w,h1,h2,h3,h4⟩:=h
 obtain⟨acc',h5,h6⟩:=h1 [] 0 0 (λx hx=>by cases hx) rfl
 refine⟨N,.normal,t',ds',H',r,w,?_,h2,h3,h4⟩
 simp only[cj,hdo,aj,UM,h6,nL,h5,aK]
end
end Go.Ev
end
noncomputable section
namespace Go.Ev
variable [dj]
section
theorem af (t:T Value) (i:Nat):aA t (.tmp i)=t.get i:=rfl
theorem aP (t:T Value) (v:Value):aA t (.const v)=v:=rfl
theorem bw (t:T Value) (f:FuncId):aA t (.func f)=.func (.func f) #[] #[]:=rfl
theorem UP {d i j:Nat} (hi:i<8 ^ d) (hj:j<8 ^ d) (t:T Value) (v:Value):(eF d t (some i) v).get j=if j=i then v else t.get j:=T.ef d t i j v hi hj
theorem bM (d:Nat) (t:T Value) (v:Value):eF d t none v=t:=rfl
theorem dZ {fn:Func} {args:List Value} (hn:args.length<=fn.ntmps) {i:Nat} (hi:i<fn.ntmps):(gW fn args).get i=args.getD i U:=by
 unfold gW
 have hd:=jY fn.ntmps
 rw[kF (dep fn.ntmps) args 0 _ i (by omega) (by omega)]
 by_cases h:i<args.length
 ·rw[if_pos ⟨Nat.zero_le _,by omega⟩];simp
 ·rw[if_neg (by omega),Bh]
  simp[List.getD,List.getElem?_eq_none (Nat.le_of_not_lt h)]
theorem si (x y:Int):pW x y=decide (x<y):=gG x y
theorem wM (x y:Int):nQ x y=decide (x=y):=by rw[dY];rfl
theorem Al {n:Int} (h1 : -9223372036854775808<=n) (h2:n<=9223372036854775807):aN .i64 n=n:=by
 cases n with
 |ofNat m =>
  show Bc (Nat.ble m 9223372036854775807) _ _=_
  have h3:(m:Int)<=9223372036854775807:=h2
  rw[(aE m 9223372036854775807).2 (by omega)];rfl
 |negSucc m =>
  show Bc (IntKind.i64.signed&&Nat.ble m 9223372036854775807) _ _=_
  rw[(aE m 9223372036854775807).2 (by omega)];rfl
theorem DO {op:BinOp} {a b v:Value} (h:gD op a b=some v):dK op a b=some v:=by unfold dK YY;rw[h]
theorem cV (a b:Int):dK .add (.int .i64 a) (.int .i64 b)=some (.int .i64 (aN .i64 (a+b))):=rfl
theorem cM (a b:Int):dK .sub (.int .i64 a) (.int .i64 b)=some (.int .i64 (aN .i64 (a-b))):=rfl
theorem cN (a b:Int):dK .lss (.int .i64 a) (.int .i64 b)=some (.bool (decide (a<b))):=by rw[<-si];rfl
theorem cQ (a b:Int):dK .gtr (.int .i64 a) (.int .i64 b)=some (.bool (decide (b<a))):=by rw[<-si];rfl
theorem cP (a b:Int):dK .leq (.int .i64 a) (.int .i64 b)=some (.bool (!decide (b<a))):=by rw[<-si];rfl
theorem cU (a b:Int):dK .geq (.int .i64 a) (.int .i64 b)=some (.bool (!decide (a<b))):=by rw[<-si];rfl
theorem cJ (neg:Bool) (a b:Int) (H:Hp):jo neg (.one .i) (.int .i64 a) (.int .i64 b) H=.val (.bool (Bc neg (!decide (a=b)) (decide (a=b)))) H 0 0:=by rw[<-wM];rfl
theorem dF (v:Value) (H:Hp):R.o (some v) H=.val v H 0 0:=rfl
theorem gF (v:Value) (H:Hp):R.v v H=.val v H 0 0:=rfl
def Row (H:Hp) (b:Nat) (ty op:Nat) (L:List Value):Prop:=∃ t,H.blk b=.cells t L.length ty op 0 0/\∀ (i:Nat) v,L[i]?=some v->t.get i=v
theorem Row.alive {H:Hp} {b ty op:Nat} {L:List Value} (h:Row H b ty op L):alive H b:=by
 obtain⟨t,h,_⟩:=h;exact(aH H b).2 (by rw[h];simp)
theorem Row.lt {H:Hp} {b ty op:Nat} {L:List Value} (h:Row H b ty op L):b<H.nx:=h.alive.1
theorem Row.bF {H H':Hp} {b ty op:Nat} {L:List Value} (h:Row H b ty op L) (e:H'.blk b=H.blk b):Row H' b ty op L:=by
 obtain⟨t,h1,h2⟩:=h;exact⟨t,e.trans h1,h2⟩
theorem aV {H:Hp} {b ty op o:Nat} {L:List Value} {v:Value} (h:Row H b ty op L) (hv:L[o]?=some v):dA (.pointer (some ⟨b,o,none⟩)) H=.val v H (bit b) 0:=by
 obtain⟨t,h1,h2⟩:=h
 have hlt:o<L.length:=by
  rcases Nat.lt_or_ge o L.length with h'|h'
  ·exact h'
  ·rw[List.getElem?_eq_none h']at hv;cases hv
 show(match OG H b o with|some x=>R.val x H (bit b) 0|none=>.fail)=_
 have:OG H b o=some v:=by
  unfold OG;rw[h1];simp only[]
  rw[(an o L.length).2 hlt,aj,h2 o v hv]
 rw[this]
theorem xF {t:T Value} {L:List Value} (h:∀ (i:Nat) v,L[i]?=some v->t.get i=v):∀ (k o:Nat),o+k<=L.length->rP t k o=(L.drop o).take k:=by
 intro k o hle
 apply List.ext_getElem?
 intro i
 by_cases hi:i<k
 ·rw[rO t k o i hi,List.getElem?_take_of_lt hi,List.getElem?_drop]
  have:o+i<L.length:=by omega
  rw[h (o+i) L[o+i] (by simp[this])]
  simp[this]
 ·rw[List.getElem?_eq_none (by rw[gP];omega),List.getElem?_eq_none (by simp;omega)]
theorem rM {H:Hp} {b ty op o k:Nat} {L:List Value} (h:Row H b ty op L) (hle:o+k<=L.length):qU H b o k=some ((L.drop o).take k):=by
 obtain⟨t,h1,h2⟩:=h
 unfold qU;rw[h1];simp only[]
 rw[(aE _ _).2 hle,aj,xF h2 k o hle]
theorem eS {H:Hp} {b ty op o k:Nat} {L:List Value} (h:Row H b ty op L) (hle:o+k<=L.length):ia k (.pointer (some ⟨b,o,none⟩)) H=.val (.agg ⟨(L.drop o).take k⟩) H (bit b) 0:=by
 show(match qU H b o k with|some l=>R.val (.agg ⟨l⟩) H (bit b) 0|none=>.fail)=_
 rw[rM h hle]
theorem cI (off b o:Nat) (H:Hp):P4 off (.pointer (some ⟨b,o,none⟩)) H=.val (.pointer (some ⟨b,o+off,none⟩)) H 0 0:=rfl
theorem Mq {i:Int} {n:Nat} (h1:0<=i) (h2:i<n):idx (.int .i64 i) n=some i.toNat:=by
 obtain⟨m,rfl⟩:=Int.eq_ofNat_of_zero_le h1
 show(match tZ (Int.ofNat m)with|some m=>Bc (Nat.blt m n) (some m) none|none=>none)=_
 simp only[tZ]
 rw[(an m n).2 (by omega),aj];rfl
theorem dW {sz b o n c:Nat} {i:Int} {H:Hp} (h1:0<=i) (h2:i<n):eT sz (.slice (some ⟨b,o,none⟩) n c) (.int .i64 i) H=.val (.pointer (some ⟨b,o+i.toNat*sz,none⟩)) H 0 0:=by
 unfold eT qR
 simp only[Mq h1 h2];rfl
theorem mH {n sz b o:Nat} {i:Int} {H:Hp} (h1:0<=i) (h2:i<n):nM n sz (.pointer (some ⟨b,o,none⟩)) (.int .i64 i) H=.val (.pointer (some ⟨b,o+i.toNat*sz,none⟩)) H 0 0:=by
 show(match idx (.int .i64 i) n with|some m=>R.pt b (o+m*sz) H 0 0|none=>.fail)=_
 rw[Mq h1 h2];rfl
theorem cH (a:Option Addr) (n c:Nat) (H:Hp):fY 1 (.slice a n c) H=.val (.int .i64 n) H 0 0:=rfl
theorem fq {H:Hp} (hr:H.room=true) (L:List Value) (ty op:Nat):Row (H.push (aG L ty op)) H.nx ty op L:=by
 obtain⟨t,h1,h2⟩:=bW L ty op
 exact⟨t,by rw[gf _ hr,if_pos rfl,h1],h2⟩
theorem e_ {H:Hp} (hr:H.room=true) (x:dB) (f:Nat->Value) (r w:Nat):aS x H f r w=.val (f H.nx) (H.push x) r w:=by rw[fG,if_pos hr]
theorem a_ {H:Hp} (hr:H.room=true) (x:dB) {c:Nat} (h:c<H.nx):(H.push x).blk c=H.blk c:=by rw[gf _ hr,if_neg (by omega)]
theorem j9 {H:Hp} (hw:H.wf) (x:dB) {b c:Nat} (hb:b<H.nx) (h:c≠b):(H.put b x).blk c=H.blk c:=by rw[jh _ hw hb,if_neg h]
theorem BG (b o l c:Nat):qR (.slice (some ⟨b,o,none⟩) l (2*c+1))=some (some (b,o),l,c,true):=by
 show some (some (b,o),l,Nat.div (2*c+1) 2,Nat.beq (Nat.mod (2*c+1) 2) 1)=_
 have h1:Nat.div (2*c+1) 2=c:=by show(2*c+1) / 2=c;omega
 have h2:Nat.mod (2*c+1) 2=1:=by show(2*c+1) % 2=1;omega
 rw[h1,h2];rfl
theorem BF (b o l c:Nat):qR (.slice (some ⟨b,o,none⟩) l (2*c))=some (some (b,o),l,c,false):=by
 show some (some (b,o),l,Nat.div (2*c) 2,Nat.beq (Nat.mod (2*c) 2) 1)=_
 have h1:Nat.div (2*c) 2=c:=by show(2*c) / 2=c;omega
 have h2:Nat.mod (2*c) 2=0:=by show(2*c) % 2=0;omega
 rw[h1,h2];rfl
end
end Go.Ev
end
