/-
 A part of the proof that pliantlaw16.MeanAssigns returns true and leaves its arguments alone. Conditions: those of the card in the last text.
-/
import Derived.Test.YtdmcanlbncbemaaGreatDoorG14
import Derived.Test.YtdmcanlbncbemaaGreatDoorG22
set_option linter.unusedSimpArgs false
set_option linter.unusedVariables false
set_option linter.unusedSectionVars false
set_option maxRecDepth 100000
set_option maxHeartbeats 8000000
noncomputable section
namespace Go.Proofs.CA
open Go Go.Ev Go.Proofs Go.Ev.SM Go.Proofs.MN Go.Proofs.CN
theorem Hg {xs:Nat->Int} {i:Nat} {v:Value} (h:(kV xs)[i]?=some v):∃ u,u<12/\((i=2*u/\v=.int .i64 (xs u))\/(i=2*u+1/\v=.string ⟨#[]⟩)):=by
 have hl:(kV xs).length=24:=rfl
 have hi:i<24:=by
  rcases Nat.lt_or_ge i 24 with h'|h'
  ·exact h'
  ·rw[List.getElem?_eq_none (by omega)]at h;cases h
 refine⟨i / 2,by omega,?_⟩
 rcases(by omega:i=0\/i=1\/i=2\/i=3\/i=4\/i=5\/i=6\/i=7\/i=8\/i=9\/i=10\/i=11\/i=12\/i=13\/i=14\/i=15\/i=16\/i=17\/i=18\/i=19\/i=20\/i=21\/i=22\/i=23)with
  rfl|rfl|rfl|rfl|rfl|rfl|rfl|rfl|rfl|rfl|rfl|rfl|rfl|rfl|rfl|rfl|rfl|rfl|rfl|rfl|rfl|rfl|rfl|rfl <;>
  first|exact .inl ⟨rfl,(Option.some.inj h).symm⟩|exact .inr ⟨rfl,(Option.some.inj h).symm⟩
theorem EM {M u:Nat} (h:u<12):(adi M)[2*u]?=some (Bc (Nat.beq M 0) (iI 0) (sy (1000*kj M u)))/\(adi M)[2*u+1]?=some (.string ⟨#[]⟩):=by
 rcases adP h with rfl|rfl|rfl|rfl|rfl|rfl|rfl|rfl|rfl|rfl|rfl|rfl<;>exact⟨rfl,rfl⟩
theorem X6:kX.all (aW 10)=true:=by decide
theorem Yg {zs:Nat->Int} {ob:Ae} {M:Nat} {asg:Nat->iH} (PA:zq zs asg M) (hM:M<81) (IU:ob.tx=gp (λi=>stx (zs (kj M i))) 12) {args:List Value} {H H':Hp} {v:Value} {r w:Nat} (hw:H.wf) (h:acK M args H=some (v,H',r,w)) :
 @aI (SX zs ob) Tryz.prog NG (.call 407 args) H (.k (.ret v H' r w)):=by
 unfold acK at h
 split at h
 case h_2=>cases h
 rename_i o z n0 c0 vb n1 cv tt n2 ct
 replace h:=aq h
 obtain⟨c,h⟩:=h
 simp only[Bool.and_eq_true,beq_iff,aE,dY,beq_iff_eq]at c
 obtain⟨⟨rfl,rfl,rfl,rfl,rfl⟩,ko,kv,kt,k1,k0,k2,k3,k4⟩:=c
 cases h
 obtain⟨t1,op1,b1,g1⟩:=uq k1
 have k0:op1=0:=by rw[b1]at k0;exact(beq_iff _ _).1 k0
 subst k0
 obtain⟨t2,op2,b2,g2⟩:=uq k2
 obtain⟨t3,op3,b3,g3⟩:=uq k3
 have zP:vb≠o:=λe=>by subst e;rw[b1]at b2;injection b2 with _ _ e;cases e
 have hto:tt≠o:=λe=>by subst e;rw[b1]at b3;injection b3 with _ _ e;cases e
 have htv:tt≠vb:=λe=>by subst e;rw[b2]at b3;injection b3 with _ _ e;cases e
 letI:=SX zs ob
 have al:∀ {b t n ty op lo hi},H.blk b=.cells t n ty op lo hi->alive H b:=λe=>dh (by rw[e];exact λh=>by cases h)
 have alo:=al b1
 have alv:=al b2
 have alt:=al b3
 have alp:alive H 2:=by
  refine dh ?_
  unfold yt at k4
  exact j6 k4 (by show zH≠.no;obtain⟨t,ht,_⟩:=bW KT 214 0;show aG KT 214 0≠.no;rw[ht];exact λh=>by cases h)
 refine⟨eJ hw _ alo,λβ W hg p args' hl=>?_⟩
 obtain⟨zB,sm,C',tb⟩:=id hg
 have C':sm=gT zs ob:=C'
 subst C'
 have m4:∀ b,b=2\/b=vb\/b=tt->(4 ||| (bit vb ||| bit tt)).testBit b=true:=λb hb=>by
  rcases hb with rfl|rfl|rfl
  ·exact nh (by decide)
  ·exact ei (nh (bg _))
  ·exact ei (ei (bg _))
 obtain⟨mo,eo,hbo⟩:=p.rel o (.inr (bg _)) alo
 obtain⟨mv,ev,hbv⟩:=p.rel vb (.inl (m4 vb (.inr (.inl rfl)))) alv
 obtain⟨mt,et,hbt⟩:=p.rel tt (.inl (m4 tt (.inr (.inr rfl)))) alt
 obtain⟨mp,ep,hbp⟩:=p.rel 2 (.inl (m4 2 (.inl rfl))) alp
 obtain⟨xs,hxs⟩:∃ xs:Nat->Int,xs=λi=>zs (kj M i):=⟨_,rfl⟩
 have hP:∀ i,i<12->tj (xs i):=λi hi=>by rw[hxs];exact PA.bd M (Nat.le_refl _) i hi
 have okp:∀ β',fM β' W (aG KT 214 0) mp:=λβ'=>by
  have:=sY (tab:=λ_=>none) fK.none (iV β 15) hg.2 k4 hbp
  exact j0 (by decide) this
 have oko:∀ β',fM β' W (aG [vS [],.int .i64 0] 222 0) mo:=λβ'=>by
  rw[b1]at hbo
  refine mL rfl hbo λi v hv=>?_
  rw[g1 i v hv]
  have hf:aW 10 v=true:=List.all_eq_true.1 (show[vS [],.int .i64 0].all (aW 10)=true from rfl) v (List.mem_of_getElem? hv)
  have h1:bQ v=true:=List.all_eq_true.1 (show[vS [],.int .i64 0].all bQ=true from rfl) v (List.mem_of_getElem? hv)
  exact⟨h1,λv' h'=>by rw[b8 10 _ _ hf h'];exact ai.flat _ 10 _ hf⟩
 have okt:∀ β',fM β' W (aG kX 26 op3) mt:=λβ'=>by
  rw[b3]at hbt
  refine mL rfl hbt λi v hv=>?_
  rw[g3 i v hv]
  have hf:aW 10 v=true:=List.all_eq_true.1 X6 v (List.mem_of_getElem? hv)
  have h1:bQ v=true:=List.all_eq_true.1 (show kX.all bQ=true by decide) v (List.mem_of_getElem? hv)
  exact⟨h1,λv' h'=>by rw[b8 10 _ _ hf h'];exact ai.flat _ 10 _ hf⟩
 have okv:∀ β',fM β' W (aG (kV xs) 32 op2) mv:=λβ'=>by
  rw[b2]at hbv
  refine mL rfl hbv λi v hv=>?_
  obtain⟨u,hu,⟨rfl,rfl⟩|⟨rfl,rfl⟩⟩:=Hg hv
  ·rw[g2 _ _ (EM hu).1]
   refine⟨rfl,λv' h'=>?_⟩
   have:v'=.int .i64 (xs u):=by
    cases hM0:Nat.beq M 0 with
    |true =>
     rw[hM0,aj]at h'
     rw[beq_iff]at hM0
     cases h'
     rw[hxs]
     show _=Value.int .i64 (zs (kj M u))
     rw[hM0,PA.z0 u hu]
    |false =>
     rw[hM0,au]at h'
     rw[(qt tb (by unfold kj;omega)).1 h',v8 (by unfold kj;omega),J6,hxs]
   rw[this];exact .int _ _
  ·rw[g2 _ _ (EM hu).2]
   exact⟨rfl,λv' h'=>by cases h';exact .string _⟩
 have lo:=alo.1
 have lv:=alv.1
 have lt_:=alt.1
 have lp:=alp.1
 have d1:o≠2:=by omega
 have d2:vb≠2:=by omega
 have d3:tt≠2:=by omega
 obtain⟨Hf,hHf⟩:∃ Hf,Hf=hpQ H.nx o vb tt op2 op3 xs:=⟨_,rfl⟩
 have f2:Hf.blk 2=aG KT 214 0:=by rw[hHf];exact ahg lp
 have fo:Hf.blk o=aG [vS [],.int .i64 0] 222 0:=by rw[hHf];exact ahf lo d1
 have fv:Hf.blk vb=aG (kV xs) 32 op2:=by rw[hHf];exact ahd lv d2 zP
 have ft:Hf.blk tt=aG kX 26 op3:=by rw[hHf];exact ahe lt_ d3 hto htv
 have fnx:Hf.nx=H.nx:=by rw[hHf];rfl
 have ffn:Hf.bG=true:=by rw[hHf];rfl
 have fal:∀ {c},alive Hf c->c<H.nx/\(c=2\/c=o\/c=vb\/c=tt):=λ{c} h=>by rw[hHf]at h;exact ad' h
 obtain⟨e,he⟩:∃ e:Env,e=⟨H.nx,λc=>c=2\/c=o\/c=vb\/c=tt,λc=>c=o⟩:=⟨_,rfl⟩
 have IX:=@adh SN Xs e stx tj Ek Hf ffn (by rw[he,fnx];exact Nat.le_refl _) o vb tt cv ct op2 op3 26 xs (s9 fo) (s9 fv) (s9 ft) (s9 f2) d1 (λ_=>by rw[he];exact .inl rfl) (λ_=>by rw[he];exact .inr (.inl rfl)) (λ_=>by rw[he]) (λ_=>by rw[he];exact .inr (.inr (.inl rfl))) (λ_=>by rw[he];exact .inr (.inr (.inr rfl))) hP
 obtain⟨N,v1,H1,r1,w1,ju,hok,A7,rfl,hro,My,hold⟩:=IX
 have hT:=@oW SN _ _ jS (@oF SN) Xs acI N (.call 407 [pA o 0,Go.Ev.iN 0,.slice none 0 0,sC vb 0 12 cv,sC tt 0 12 ct]) Hf (vc ffn)
 rw[ju]at hT
 obtain⟨β2,hβ2⟩:∃ β2:Mp,β2=λb=>if b<H.nx then β b else none:=⟨_,rfl⟩
 have b2lt:∀ {b},b<H.nx->β2 b=β b:=λ{b} h=>by rw[hβ2];show(if b<H.nx then β b else none)=_;rw[if_pos h]
 have b2ge:∀ {b},H.nx<=b->β2 b=none:=λ{b} h=>by rw[hβ2];show(if b<H.nx then β b else none)=_;rw[if_neg (by omega)]
 have b2le:∀ b m,β2 b=some m->β b=some m:=λb m h=>by
  rcases Nat.lt_or_ge b H.nx with h'|h'
  ·rw[b2lt h']at h;exact h
  ·rw[b2ge h']at h;cases h
 have wo:∀ {b},b<H.nx->w1.testBit b=true->b=o:=λ{b} hb h=>by
  have:=hok.wr b (by rw[he];exact hb) h
  rw[he]at this;exact this
 have ins:∀ {c},alive Hf c->alive H c/\oe (4 ||| (bit vb ||| bit tt)) (bit o) c:=λ{c} h=>by
  obtain⟨_,rfl|rfl|rfl|rfl⟩:=fal h
  ·exact⟨alp,.inl (m4 2 (.inl rfl))⟩
  ·exact⟨alo,.inr (bg _)⟩
  ·exact⟨alv,.inl (m4 c (.inr (.inl rfl)))⟩
  ·exact⟨alt,.inl (m4 c (.inr (.inr rfl)))⟩
 have hpre:@Pre β2 Hf H1 r1 w1 W:=by
  refine⟨λb _ ha=>?_,λb c mb mc zA _ ab ac eb ec hrb=>?_,λb h1 _=>b2ge (by rw[<-fnx];exact h1),λb m h=>p.dom b m (b2le b m h)⟩
  ·obtain⟨hb,rfl|rfl|rfl|rfl⟩:=fal ha
   ·exact⟨mp,by rw[b2lt hb];exact ep,by rw[f2];exact okp _⟩
   ·exact⟨mo,by rw[b2lt hb];exact eo,by rw[fo];exact oko _⟩
   ·exact⟨mv,by rw[b2lt hb];exact ev,by rw[fv];exact okv _⟩
   ·exact⟨mt,by rw[b2lt hb];exact et,by rw[ft];exact okt _⟩
  ·have hbo:=wo (fal ab).1 zA
   subst hbo
   exact p.inj b c mb mc (bg _) (ins ac).2 alo (ins ac).1 (b2le _ _ eb) (b2le _ _ ec) hrb
 have Df:@cX SN NG β2:=⟨λg h=>by
  obtain⟨m,e,h1⟩:=zB g h
  have:NG=15:=rfl
  exact⟨m,by rw[b2lt (by omega)];exact e,h1⟩,trivial⟩
 have sL:ak β2 [.pointer (some ⟨o,0,none⟩),iI 0,.slice none 0 0,.slice (some ⟨vb,0,none⟩) 12 cv,.slice (some ⟨tt,0,none⟩) 12 ct] args'.toList:=by
  obtain⟨x1,l1,e1,h1,hl⟩:=hl.cons_inv
  obtain⟨x2,l2,e2,h2,hl⟩:=hl.cons_inv
  obtain⟨x3,l3,e3,h3,hl⟩:=hl.cons_inv
  obtain⟨x4,l4,e4,h4,hl⟩:=hl.cons_inv
  obtain⟨x5,l5,e5,h5,hl⟩:=hl.cons_inv
  have:=hl.aL;subst this
  rw[e1,e2,e3,e4,e5]
  refine ak.cons ?_ (ak.cons ?_ (ak.cons ?_ (ak.cons ?_ (ak.cons ?_ (ak.nil _)))))
  ·cases h1 with|ptr _ _ m e'=>exact .ptr _ _ m (by rw[b2lt lo];exact e')
  ·cases h2;exact .int _ _
  ·cases h3;exact .AA _ _
  ·cases h4 with|sl _ _ _ _ c' m e' hc=>exact .sl _ _ _ _ c' m (by rw[b2lt lv];exact e') hc
  ·cases h5 with|sl _ _ _ _ c' m e' hc=>exact .sl _ _ _ _ c' m (by rw[b2lt lt_];exact e') hc
 refine(hT.2 _ W Df hpre args' sL).mono λe' W' hR=>?_
 obtain⟨β1,v',he',hv,q⟩:=hR
 have hv':v'=iI 0:=by cases hv;rfl
 have hB1:fM β1 W' (H1.blk o) mo:=by
  have Dg:β2 o=some mo:=by rw[b2lt lo];exact eo
  by_cases zA:w1.testBit o=true
  ·obtain⟨m',em',hr'⟩:=q.rel o (.inr zA) (@Row.alive SN _ _ _ _ _ hro)
   have:=q.le _ _ Dg
   rw[em']at this;cases this
   exact hr'
  ·have hwf:w1.testBit o=false:=by cases e:w1.testBit o with|false=>rfl|true=>exact absurd e zA
   have hk:=hT.1.keep o (by rw[fnx];exact lo) hwf
   rw[hk,fo]
   obtain⟨ob_,FQ,QL⟩:=oko β1
   refine⟨ob_,?_,QL⟩
   refine q.frame mo.rb ob_ FQ λc mc uv u0 ec he=>?_
   have:=wo (by rw[<-fnx];exact uv) u0
   subst this
   exact zA u0
 have hBn:fM β W' (aG [sy 9000000,sy 0] 222 0) mo:=by
  obtain⟨t,et1,ht⟩:=hro
  rw[et1]at hB1
  refine mL rfl hB1 λi v Uu=>?_
  rcases i with _|_|i
  ·have Uu:v=sy 9000000:=(Option.some.inj Uu).symm
   rw[Uu,ht 0 _ rfl]
   refine⟨rfl,λv' h'=>?_⟩
   refine(qt tb (by omega)).2 ?_
   rw[b8 10 _ _ (show aW 10 (vS _)=true from rfl) h']
   unfold gT
   rw[if_pos rfl,IU,hxs]
  ·have Uu:v=sy 0:=(Option.some.inj Uu).symm
   rw[Uu,ht 1 _ rfl]
   refine⟨rfl,λv' h'=>?_⟩
   rw[b8 10 _ _ (show aW 10 (Value.int .i64 _)=true from rfl) h']
   exact .sym 0 _ _ (tb 0) (.inr (.inr (.inr (.inr (.inl ⟨rfl,(λb h=>by cases h),rfl,rfl⟩)))))
  ·cases Uu
 have Dh:(H.put o (aG [sy 9000000,sy 0] 222 0)).blk o=aG [sy 9000000,sy 0] 222 0:=by rw[jh _ hw lo];simp
 have one:∀ b,(H.nx<=b\/(bit o).testBit b=true)->alive (H.put o (aG [sy 9000000,sy 0] 222 0)) b->b=o:=λb hb hab=>by
  rcases hb with h|h
  ·have:=hab.1;rw[cW]at this;omega
  ·exact J4 h
 refine⟨β,v',he',by rw[hv'];exact .int _ _,⟨Mp.le.refl _,λb m h h'=>(by rw[h']at h;cases h),λb hb hab=>?_,λrb ob_ ho hno=>?_,q.size,λb m h=>Nat.lt_of_lt_of_le (p.dom b m h) q.size,λb m _ h h'=>(by rw[h]at h';cases h'),λb c mb md hb hc hab hac _ _ _=>?_,q.env⟩⟩
 ·have:=one b hb hab
  subst this
  exact⟨mo,eo,by rw[Dh];exact hBn⟩
 ·refine q.frame rb ob_ ho λc mc uv u0 ec=>?_
  have:=wo (by rw[<-fnx];exact uv) u0
  subst this
  exact hno c mc lo (bg _) (b2le _ _ ec)
 ·rw[one b hb hab,one c hc hac]
structure Xe (zs:Nat->Int) (ob:Ae) (M:Nat) (asg:Nat->iH):Prop where
 lt:M<81
 pc:∀ i,i<M->GV ob i (asg i)
 ch:zq zs asg M
 tx:ob.tx=gp (λi=>stx (zs (kj M i))) 12
theorem acH {zs:Nat->Int} {ob:Ae} {M:Nat} {asg:Nat->iH} (R:Xe zs ob M asg):@oa (SX zs ob) Tryz.prog NG (spR M):=by
 letI:=SX zs ob
 intro f args H v H' r w hw h
 unfold spR at h
 cases h1:Nat.beq f 54 with
 |true=>rw[h1,aj]at h;rw[(beq_iff _ _).1 h1];exact cm h λh=>xo jS oF hw h
 |false =>
 rw[h1,au]at h
 cases h2:Nat.beq f 76 with
 |true=>rw[h2,aj]at h;rw[(beq_iff _ _).1 h2];exact Ye R.pc hw h
 |false =>
 rw[h2,au]at h
 cases h3:Nat.beq f 227 with
 |true=>rw[h3,aj]at h;rw[(beq_iff _ _).1 h3];exact Yh R.pc R.ch hw h
 |false =>
 rw[h3,au]at h
 cases h4:Nat.beq f 187 with
 |true=>rw[h4,aj]at h;rw[(beq_iff _ _).1 h4];exact Ys R.ch hw h
 |false =>
 rw[h4,au]at h
 cases h5:Nat.beq f 407 with
 |true=>rw[h5,aj]at h;rw[(beq_iff _ _).1 h5];exact cm h λh=>Yg R.ch R.lt R.tx hw h
 |false =>
 rw[h5,au]at h
 exact HG (hok:=hkX zs ob) (λs _ f l v e=>by cases e) f args H v H' r w hw h
theorem agm {zs:Nat->Int} {ob:Ae} {M:Nat} {asg:Nat->iH} (R:Xe zs ob M asg) (h:eK M=true):@kD (SX zs ob) Tryz.prog NG (ruK M)/\Fits NG (ruK M):=by
 letI:=SX zs ob
 exact jz (sp:=spR M) (acH R) (tab:=fR) fK.none h
inductive RL (β:Mp):List Value->List Value->Prop
 |nil:RL β [] []
 |cons {v r:Value} {L R:List Value} (h:∀ v',ai β v v'->v'=r) (t:RL β L R):RL β (v::L) (r::R)
theorem RL.app {β:Mp} {a a' b b':List Value} (h:RL β a a') (k:RL β b b'):RL β (a++b) (a'++b'):=by
 induction h with
 |nil=>exact k
 |cons h _ ih=>exact .cons h ih
theorem RL.flat {β:Mp}:∀ {L:List Value},L.all (aW 10)=true->RL β L L
 | [],_=>.nil
 |v::L,h=>by
  rw[List.all_cons,Bool.and_eq_true]at h
  exact .cons (λv' hv=>b8 10 _ _ h.1 hv) (RL.flat h.2)
theorem RL.use {β:Mp} {L R l':List Value} (h:RL β L R) (k:ak β L l'):l'=R:=by
 induction h generalizing l' with
 |nil=>exact k.aL
 |cons h _ ih =>
  obtain⟨v',l2,rfl,h1,h2⟩:=k.cons_inv
  rw[h _ h1,ih h2]
inductive TL (β β':Mp):List Value->List Value->Prop
 |nil:TL β β' [] []
 |cons {c v:Value} {C L:List Value} (h1:bQ c=true) (h:∀ v',ai β v v'->ai β' c v') (t:TL β β' C L):TL β β' (c::C) (v::L)
theorem TL.app {β β':Mp} {a a' b b':List Value} (h:TL β β' a a') (k:TL β β' b b'):TL β β' (a++b) (a'++b'):=by
 induction h with
 |nil=>exact k
 |cons h1 h _ ih=>exact .cons h1 h ih
theorem TL.flat {β β':Mp}:∀ {L:List Value},L.all (λv=>aW 10 v&&bQ v)=true->TL β β' L L
 | [],_=>.nil
 |v::L,h=>by
  rw[List.all_cons,Bool.and_eq_true,Bool.and_eq_true]at h
  exact .cons h.1.2 (λv' hv=>by rw[b8 10 _ _ h.1.1 hv];exact ai.flat _ 10 _ h.1.1) (TL.flat h.2)
theorem TL.len {β β':Mp} {C L:List Value} (h:TL β β' C L):C.length=L.length:=by
 induction h with
 |nil=>rfl
 |cons _ _ _ ih=>simp[ih]
theorem TL.get {β β':Mp} {C L:List Value} (h:TL β β' C L):∀ (i:Nat) (c:Value),C[i]?=some c->bQ c=true/\∃ v,L[i]?=some v/\∀ v',ai β v v'->ai β' c v':=by
 induction h with
 |nil=>intro i c hc;cases hc
 |cons h1 h _ ih =>
  intro i c hc
  cases i with
  |zero=>cases hc;exact⟨h1,_,rfl,h⟩
  |succ i=>exact ih i c hc
theorem TL.flatMap {β β':Mp} {f g:Nat->List Value}:∀ {l:List Nat},(∀ i∈l,TL β β' (f i) (g i))->TL β β' (l.map f).flatten (l.map g).flatten
 | [],_=>.nil
 |i::l,h=>by
  rw[List.map_cons,List.map_cons,List.flatten_cons,List.flatten_cons]
  exact(h i List.mem_cons_self).app (TL.flatMap λj hj=>h j (List.mem_cons_of_mem _ hj))
theorem acp {β β':Mp} {W:World} {H:Hp} {b ty op:Nat} {C L:List Value} {m:Bm} (hr:Row H b ty op L) (hb:fM β W (H.blk b) m) (h:TL β β' C L):fM β' W (aG C ty op) m:=by
 obtain⟨t,e,ht⟩:=hr
 rw[e]at hb
 refine mL h.len hb λi c hc=>?_
 obtain⟨h1,v,hv,hh⟩:=h.get i c hc
 exact⟨h1,λv' h'=>by rw[ht i _ hv]at h';exact hh v' h'⟩
theorem Sm {β:Mp} {W:World} {H:Hp} {b ty:Nat} {L R:List Value} {m:Bm} (hr:Row H b ty 0 L) (hb:fM β W (H.blk b) m) (h:RL β L R):m.sh=0/\m.tot=R.length/\∃ fr:Nat×Nat,fr.1=fr.2/\W.heap[m.rb]?=some (.cells ⟨R⟩ ty fr):=by
 obtain⟨t,e,ht⟩:=hr
 rw[e]at hb
 obtain⟨o,ho,cs,fr,rfl,g2,g3,g4,g5,g6,g7⟩:=hb
 obtain⟨hs,htot⟩:=g4 rfl
 have hl:ak β L cs.toList:=by
  refine⟨by show L.length=cs.size;omega,λi v v' h1 h2=>?_⟩
  have hi:i<L.length:=by
   rcases Nat.lt_or_ge i L.length with h|h
   ·exact h
   ·rw[List.getElem?_eq_none h]at h1;cases h1
  obtain⟨_,w,q2,q3⟩:=g6 i hi
  rw[ht i _ h1]at q3
  rw[hs,Nat.zero_add]at q2
  rw[Array.getElem?_toList,q2]at h2
  cases h2;exact q3
 have hR:=h.use hl
 have hcs:cs=⟨R⟩:=by rw[<-hR]
 refine⟨hs,?_,fr,?_,by rw[ho,hcs]⟩
 ·rw[<-g2,hcs];rfl
 ·rcases g7 with⟨_,h|h⟩|⟨h,_⟩|⟨_,h⟩
  ·exact h
  ·omega
  ·omega
  ·omega
structure Ke (H:Hp) (a:iH):Prop where
 v:a.v<12
 n:tj a.n
 r:Row H (a.b 0) 28 0 (cR a.v (a.b 2) 2)
 e:Row H (a.b 1) 35 0 (Bc a.ld (cL (a.b 3) 2) (cK (iI a.n)))
 s:a.arr=true->Row H (a.b 2) 76 0 (cS a.v)
 l:a.ld=true->Row H (a.b 3) 28 0 (cR a.v (a.b 4) 2)
 t:a.ld=true->a.arr=true->Row H (a.b 4) 76 0 (cS a.v)
def Oa (a:iH) (j:Nat):Nat×List Value:=if j=1 then (35,Bc a.ld (cL (a.b 3) 2) (cK (iI a.n)))else if j=2/\a.arr=true then (76,cS a.v)else if j=3/\a.ld=true then (28,cR a.v (a.b 4) 2)else if j=4/\a.ld=true/\a.arr=true then (76,cS a.v)else (28,cR a.v (a.b 2) 2)
def tk (a:iH) (j:Nat):Nat:=if j=1 then a.b 1 else if j=2/\a.arr=true then a.b 2 else if j=3/\a.ld=true then a.b 3 else if j=4/\a.ld=true/\a.arr=true then a.b 4 else a.b 0
def mR (a:iH) (j:Nat):Nat×List Nat:=if j=1 then (35,if a.ld then lL (a.b 3)else lK a.n)else if j=2/\a.arr=true then (76,lS a.v)else if j=3/\a.ld=true then (28,lR a.v (a.b 4))else if j=4/\a.ld=true/\a.arr=true then (76,lS a.v)else (28,lR a.v (a.b 2))
theorem BQ {H:Hp} {a:iH} (h:Ke H a) (j:Nat):Row H (tk a j) (Oa a j).1 0 (Oa a j).2:=by
 unfold tk Oa
 by_cases h1:j=1
 ·rw[if_pos h1,if_pos h1];exact h.e
 rw[if_neg h1,if_neg h1]
 by_cases h2:j=2/\a.arr=true
 ·rw[if_pos h2,if_pos h2];exact h.s h2.2
 rw[if_neg h2,if_neg h2]
 by_cases h3:j=3/\a.ld=true
 ·rw[if_pos h3,if_pos h3];exact h.l h3.2
 rw[if_neg h3,if_neg h3]
 by_cases h4:j=4/\a.ld=true/\a.arr=true
 ·rw[if_pos h4,if_pos h4];exact h.t h4.2.1 h4.2.2
 rw[if_neg h4,if_neg h4];exact h.r
def zG (β:Mp) (b:Nat):Nat:=match β b with|some m=>m.rb|none=>0
theorem SB {β:Mp} {b:Nat} {m:Bm} (h:β b=some m):zG β b=m.rb:=by unfold zG;rw[h]
def iH.re (β:Mp) (a:iH):iH:={ a with b:=λj=>zG β (a.b j) }
theorem KG {β:Mp} {b:Nat} {m:Bm} (e:β b=some m) (hs:m.sh=0):∀ v',ai β (cD b 1 2) v'->v'=rSl (zG β b):=λv' h=>by
 cases h with|sl _ _ _ _ c' m' e' hc =>
 rw[e]at e';cases e'
 rw[SB e,hs,hc.1 rfl];rfl
theorem ags {β:Mp} {v sb:Nat} (h:(Nat.blt 3 v&&Nat.blt v 8)=true->∃ m,β sb=some m/\m.sh=0):RL β (cR v sb 2) (rR v (zG β sb)):=by
 unfold cR rR
 cases h1:Nat.blt v 4 with
 |true=>exact RL.flat rfl
 |false =>
  cases h2:Nat.blt v 8 with
  |true =>
   rw[au,au,aj,aj]
   have h3:Nat.blt 3 v=true:=by
    rw[<-Bool.not_eq_true,an]at h1
    rw[an];omega
   obtain⟨m,e,hs⟩:=h (by rw[h3,h2];rfl)
   refine RL.app (a:=[iI 1,iI 0,iI 0,iI 64,aT,cD sb 1 2]) ?_ (RL.flat rfl)
   exact RL.app (a:=[iI 1,iI 0,iI 0,iI 64,aT]) (RL.flat rfl) (.cons (KG e hs) .nil)
  |false=>exact RL.flat rfl
theorem amd {β:Mp} {b:Nat} {m:Bm} (e:β b=some m) (hs:m.sh=0):RL β (cL b 2) (rL (zG β b)):=by
 unfold cL rL
 exact RL.app (RL.flat rfl) (RL.app (a:=[iI 0,SM.s0,iI 0,aT]) (RL.flat rfl) (.cons (KG e hs) .nil))
theorem Ru {β:Mp} {W:World} {H:Hp} {a:iH} (h:Ke H a) (hp:∀ j,∃ m,β (tk a j)=some m/\fM β W (H.blk (tk a j)) m) (j:Nat):∃ m,β (tk a j)=some m/\m.rb=tk (a.re β) j/\m.sh=0/\m.tot=(iZ (mR (a.re β) j).2).length/\∃ fr:Nat×Nat,fr.1=fr.2/\W.heap[m.rb]?=some (.cells ⟨iZ (mR (a.re β) j).2⟩ (mR (a.re β) j).1 fr):=by
 have sh:∀ {b ty:Nat} {L:List Value},Row H b ty 0 L->(∃ m,β b=some m/\fM β W (H.blk b) m)->∃ m,β b=some m/\m.sh=0:=λ{b ty L} hr hb=>by
  obtain⟨m,e,hb⟩:=hb
  obtain⟨t,et,_⟩:=hr
  rw[et]at hb
  obtain⟨o,ho,cs,fr,rfl,g2,g3,g4,_⟩:=hb
  exact⟨m,e,(g4 rfl).1⟩
 have s2:a.arr=true->∃ m,β (a.b 2)=some m/\m.sh=0:=λha=>sh (h.s ha) (by have:=hp 2;unfold tk at this;rwa [if_neg (by omega),if_pos ⟨rfl,ha⟩]at this)
 have s3:a.ld=true->∃ m,β (a.b 3)=some m/\m.sh=0:=λhl=>sh (h.l hl) (by have:=hp 3;unfold tk at this;rwa [if_neg (by omega),if_neg (by omega),if_pos ⟨rfl,hl⟩]at this)
 have s4:a.ld=true->a.arr=true->∃ m,β (a.b 4)=some m/\m.sh=0:=λhl ha=>sh (h.t hl ha) (by have:=hp 4;unfold tk at this;rwa [if_neg (by omega),if_neg (by omega),if_neg (by omega),if_pos ⟨rfl,hl,ha⟩]at this)
 have key:RL β (Oa a j).2 (iZ (mR (a.re β) j).2)/\(mR (a.re β) j).1=(Oa a j).1:=by
  unfold Oa mR
  show RL β (if j=1 then (35,Bc a.ld (cL (a.b 3) 2) (cK (iI a.n)))else if j=2/\a.arr=true then (76,cS a.v)else if j=3/\a.ld=true then (28,cR a.v (a.b 4) 2)else if j=4/\a.ld=true/\a.arr=true then (76,cS a.v)else (28,cR a.v (a.b 2) 2)).2
   (iZ (if j=1 then (35,if a.ld then lL (zG β (a.b 3))else lK a.n)else if j=2/\a.arr=true then (76,lS a.v)else if j=3/\a.ld=true then (28,lR a.v (zG β (a.b 4)))else if j=4/\a.ld=true/\a.arr=true then (76,lS a.v)else (28,lR a.v (zG β (a.b 2)))).2) /\
   (if j=1 then (35,if a.ld then lL (zG β (a.b 3))else lK a.n)else if j=2/\a.arr=true then (76,lS a.v)else if j=3/\a.ld=true then (28,lR a.v (zG β (a.b 4)))else if j=4/\a.ld=true/\a.arr=true then (76,lS a.v)else (28,lR a.v (zG β (a.b 2)))).1=_
  by_cases h1:j=1
  ·rw[if_pos h1,if_pos h1]
   refine⟨?_,rfl⟩
   show RL β (Bc a.ld (cL (a.b 3) 2) (cK (iI a.n))) (iZ (if a.ld then lL (zG β (a.b 3))else lK a.n))
   cases hl:a.ld with
   |true =>
    obtain⟨m,e,hs⟩:=s3 hl
    rw[aj,if_pos rfl,aka];exact amd e hs
   |false =>
    rw[au,if_neg Bool.false_ne_true,akb]
    exact RL.flat rfl
  rw[if_neg h1,if_neg h1]
  by_cases h2:j=2/\a.arr=true
  ·rw[if_pos h2,if_pos h2];exact⟨by show RL β (cS a.v) (iZ (lS a.v));rw[aan];exact RL.flat rfl,rfl⟩
  rw[if_neg h2,if_neg h2]
  by_cases h3:j=3/\a.ld=true
  ·rw[if_pos h3,if_pos h3];exact⟨by show RL β (cR a.v (a.b 4) 2) (iZ (lR a.v (zG β (a.b 4))));rw[aao];exact ags λha=>s4 h3.2 ha,rfl⟩
  rw[if_neg h3,if_neg h3]
  by_cases h4:j=4/\a.ld=true/\a.arr=true
  ·rw[if_pos h4,if_pos h4];exact⟨by show RL β (cS a.v) (iZ (lS a.v));rw[aan];exact RL.flat rfl,rfl⟩
  rw[if_neg h4,if_neg h4]
  exact⟨by show RL β (cR a.v (a.b 2) 2) (iZ (lR a.v (zG β (a.b 2))));rw[aao];exact ags λha=>s2 ha,rfl⟩
 obtain⟨m,e,hb⟩:=hp j
 obtain⟨q1,q2,fr,q3,q4⟩:=Sm (BQ h j) hb key.1
 refine⟨m,e,?_,q1,q2,fr,q3,by rw[key.2];exact q4⟩
 rw[<-SB e]
 unfold tk
 show zG β (if j=1 then a.b 1 else if j=2/\a.arr=true then a.b 2 else if j=3/\a.ld=true then a.b 3 else if j=4/\a.ld=true/\a.arr=true then a.b 4 else a.b 0)=(if j=1 then zG β (a.b 1)else if j=2/\a.arr=true then zG β (a.b 2)else if j=3/\a.ld=true then zG β (a.b 3)else if j=4/\a.ld=true/\a.arr=true then zG β (a.b 4)else zG β (a.b 0))
 repeat' split
 all_goals rfl
def NA (asg:Nat->iH) (m vb:Nat):List Value:=((List.range m).map λi=>cT (iI (10*i+10:Nat)) ((asg i).b 0) ((asg i).b 1)).flatten++[iI 15,iI (10*m+10:Nat),aT,cD vb 12 25,iI 0,iI 0,iI 0,aT,iI 0,.bool false,.bool false]
def Cz:List Value:=[.string ⟨#[77,65,73,78]⟩,iI (-1),iI 0,iI 128,aT]
structure Prg (H:Hp) (asg:Nat->iH) (m pr fb bb vb:Nat) (rb sb:Nat->Nat):Prop where
 proc:Row H pr 49 0 (Cz++[cD bb (m+1) (2*(m+1)+1),aT])
 file:Row H fb 90 0 [.string ⟨#[83,89,83,80,82,73,78,84]⟩,iI 2]
 body:Row H bb 41 12 (NA asg m vb)
 vals:Row H vb 35 12 ((List.range 12).map λv=>cL (rb v) 2).flatten
 refs:∀ v,v<12->Row H (rb v) 28 0 (cR v (sb v) 2)
 akV:∀ v,4<=v->v<8->Row H (sb v) 76 0 (cS v)
 uU:∀ i,i<m->Ke H (asg i)
def Zs (l:List Nat):Nat:=l.foldr (λb r=>bit b ||| r) 0
theorem Lq:∀ {l:List Nat} {b:Nat},b∈l->(Zs l).testBit b=true
 |c::l,b,h=>by
  rcases List.mem_cons.1 h with rfl|h
  ·exact nh (bg _)
  ·exact ei (Lq h)
def xH (asg:Nat->iH) (m pr fb bb vb:Nat) (rb sb:Nat->Nat):List Nat:=[2,3,6,pr,fb,bb,vb]++(List.range 12).map rb++(List.range 4).map (λv=>sb (v+4))++((List.range m).map λi=>(List.range 5).map λj=>tk (asg i) j).flatten
def OQ (asg:Nat->iH) (β:Mp) (bE:List UInt8):Ae:=⟨λk=>(j5 ((mR ((asg (k / 10)).re β) (k % 10)).1::(mR ((asg (k / 10)).re β) (k % 10)).2),tk ((asg (k / 10)).re β) (k % 10)),bE⟩
theorem tX {asg:Nat->iH} {β:Mp} {bE:List UInt8} (i:Nat) {j:Nat} (hj:j<10):OQ asg β bE (10*i+j)=(j5 ((mR ((asg i).re β) j).1::(mR ((asg i).re β) j).2),tk ((asg i).re β) j):=by
 have h1:(10*i+j) / 10=i:=by omega
 have h2:(10*i+j) % 10=j:=by omega
 show(j5 ((mR ((asg ((10*i+j) / 10)).re β) ((10*i+j) % 10)).1::(mR ((asg ((10*i+j) / 10)).re β) ((10*i+j) % 10)).2),tk ((asg ((10*i+j) / 10)).re β) ((10*i+j) % 10))=_
 rw[h1,h2]
theorem adx {asg:Nat->iH} {β:Mp} {bE:List UInt8} {i:Nat} (hv:(asg i).v<12) (hn:tj (asg i).n):GV (OQ asg β bE) i ((asg i).re β) where
 v:=hv
 n:=hn
 r:=tX i (j:=0) (by omega)
 e:=tX i (j:=1) (by omega)
 s:=λha=>by
  rw[tX i (j:=2) (by omega)]
  unfold mR tk
  rw[if_neg (by omega),if_pos ⟨rfl,ha⟩,if_neg (by omega),if_pos ⟨rfl,ha⟩]
 l:=λhl=>by
  rw[tX i (j:=3) (by omega)]
  unfold mR tk
  rw[if_neg (by omega),if_neg (by omega),if_pos ⟨rfl,hl⟩,if_neg (by omega),if_neg (by omega),if_pos ⟨rfl,hl⟩]
 t:=λhl ha=>by
  rw[tX i (j:=4) (by omega)]
  unfold mR tk
  rw[if_neg (by omega),if_neg (by omega),if_neg (by omega),if_pos ⟨rfl,hl,ha⟩,if_neg (by omega),if_neg (by omega),if_neg (by omega),if_pos ⟨rfl,hl,ha⟩]
def Ih (asg:Nat->iH) (pr fb bb vb:Nat) (rb sb:Nat->Nat) (b:Nat):Nat :=
 if b<15 then b else if b=16 then pr else if b=17 then fb else if b=18 then bb else if b=19 then vb else if b<32 then rb (b-20)else if b<36 then sb (b-32+4)else tk (asg ((b-100) / 5)) ((b-100) % 5)
noncomputable def D5 (β:Mp) (s:CN.Sem) (nm:Nat->Nat):Mp:=λb=>if b<505 then β (nm b)else if SY<=b then some (vK s (b-SY))else none
theorem DN {β:Mp} {s:CN.Sem} {nm:Nat->Nat} {b:Nat} (h:b<505):D5 β s nm b=β (nm b):=by unfold D5;rw[if_pos h]
theorem DM {β:Mp} {s:CN.Sem} {nm:Nat->Nat} {b:Nat} (h:505<=b) (h2:b<600):D5 β s nm b=none:=by
 have:=RH
 unfold D5;rw[if_neg (by omega),if_neg (by omega)]
theorem JZ {β:Mp} {s:CN.Sem} {nm:Nat->Nat}:uM s (D5 β s nm):=λk=>by
 have:=RH
 unfold D5;rw[if_neg (by omega),if_pos (by omega),Nat.add_sub_cancel_left]
theorem kJ {β β':Mp} {b b' n c:Nat} (e:β' b'=β b):∀ v',ai β (cD b n c) v'->ai β' (cD b' n c) v':=λv' h=>by
 cases h with|sl _ _ _ _ c' m e' hc=>exact .sl _ _ _ _ c' m (by rw[e];exact e') hc
theorem ac1 {O:dj} {β:Mp} {W:World} {H:Hp} {asg:Nat->iH} {m pr fb bb vb:Nat} {rb sb:Nat->Nat} (g:zp H) (P:Prg H asg m pr fb bb vb rb sb) (hm:m<81) {bE:List UInt8} {zs:Nat->Int}
 (hr:∀ b,b∈xH asg m pr fb bb vb rb sb->@alive H b->∃ mm,β b=some mm/\fM β W (H.blk b) mm) {b:Nat} {B:dB} (hB:(b,B)∈(ruK m).pre) :
 ∃ mm,D5 β (gT zs (OQ asg β bE)) (Ih asg pr fb bb vb rb sb) b=some mm/\fM (D5 β (gT zs (OQ asg β bE)) (Ih asg pr fb bb vb rb sb)) W B mm:=by
 obtain⟨β',hβ⟩:∃ β',β'=D5 β (gT zs (OQ asg β bE)) (Ih asg pr fb bb vb rb sb):=⟨_,rfl⟩
 have lo:∀ {b},b<505->β' b=β (Ih asg pr fb bb vb rb sb b):=λ{b} h=>by rw[hβ];exact DN h
 rw[<-hβ]
 have memA:∀ {b},b∈[2,3,6,pr,fb,bb,vb]->b∈xH asg m pr fb bb vb rb sb:=λ{b} h=>List.mem_append.2 (.inl (List.mem_append.2 (.inl (List.mem_append.2 (.inl h)))))
 have memR:∀ {v},v<12->rb v∈xH asg m pr fb bb vb rb sb:=λ{v} h=>List.mem_append.2 (.inl (List.mem_append.2 (.inl (List.mem_append.2 (.inr (List.mem_map.2 ⟨v,List.mem_range.2 h,rfl⟩))))))
 have memS:∀ {v},v<4->sb (v+4)∈xH asg m pr fb bb vb rb sb:=λ{v} h=>List.mem_append.2 (.inl (List.mem_append.2 (.inr (List.mem_map.2 ⟨v,List.mem_range.2 h,rfl⟩))))
 have Fs:∀ {i j},i<m->j<5->tk (asg i) j∈xH asg m pr fb bb vb rb sb:=λ{i j} hi hj=>List.mem_append.2 (.inr (List.mem_flatten.2 ⟨_,List.mem_map.2 ⟨i,List.mem_range.2 hi,rfl⟩,List.mem_map.2 ⟨j,List.mem_range.2 hj,rfl⟩⟩))
 have row:∀ {c b0 ty op:Nat} {C L:List Value},c<505->Ih asg pr fb bb vb rb sb c=b0->b0∈xH asg m pr fb bb vb rb sb->Row H b0 ty op L->TL β β' C L->∃ mm,β' c=some mm/\fM β' W (aG C ty op) mm:=λhc he hmem hrow ht=>by
  obtain⟨mm,e,hb⟩:=hr _ hmem (@Row.alive O _ _ _ _ _ hrow)
  exact⟨mm,by rw[lo hc,he];exact e,acp hrow hb ht⟩
 have glob:∀ {c ty:Nat} {L:List Value},c<15->c∈xH asg m pr fb bb vb rb sb->H.blk c=aG L ty 0->L.all (aW 10)=true->∃ mm,β' c=some mm/\fM β' W (aG L ty 0) mm:=λ{c ty L} hc hmem hbl hf=>by
  obtain⟨mm,e,hb⟩:=hr _ hmem (@nG O _ _ _ _ _ hbl)
  refine⟨mm,by rw[lo (by omega)];unfold Ih;rw[if_pos hc];exact e,?_⟩
  rw[hbl]at hb
  exact j0 hf hb
 have hB:(b,B)∈[(2,zH),(3,Ox),(6,OM)]++YS m:=hB
 rcases List.mem_append.1 hB with hB|hB
 ·simp only[List.mem_cons,Prod.mk.injEq,List.mem_nil_iff,or_false]at hB
  rcases hB with⟨rfl,rfl⟩|⟨rfl,rfl⟩|⟨rfl,rfl⟩
  ·exact glob (L:=KT) (by omega) (memA (by simp)) g.b2 (by decide)
  ·exact glob (by omega) (memA (by simp)) g.b3 (by decide)
  ·exact glob (by omega) (memA (by simp)) g.b6 (by decide)
 unfold YS at hB
 rcases List.mem_append.1 hB with hB|hB
 ·rcases List.mem_append.1 hB with hB|hB
  ·simp only[List.mem_cons,Prod.mk.injEq,List.mem_nil_iff,or_false]at hB
   rcases hB with⟨rfl,rfl⟩|⟨rfl,rfl⟩|⟨rfl,rfl⟩
   ·refine row (b0:=pr) (by omega) rfl (memA (b:=pr) (by simp)) P.proc (TL.app (a:=Cz) (TL.flat rfl) (.cons rfl (kJ ?_) (TL.flat rfl)))
    rw[lo (by omega)];rfl
   ·exact row (b0:=fb) (by omega) rfl (memA (b:=fb) (by simp)) P.file (TL.flat rfl)
   ·refine row (b0:=bb) (by omega) rfl (memA (b:=bb) (by simp)) P.body ?_
    unfold ab4 NA
    refine TL.app (TL.flatMap λi hi=>?_) ?_
    ·have hi:=List.mem_range.1 hi
     refine .cons rfl (λv' h=>by cases h;exact .int _ _) (.cons rfl (λv' h=>by cases h;exact .int _ _) (.cons rfl (kJ ?_) (.cons rfl (kJ ?_) (TL.flat rfl))))
     ·rw[lo (by unfold P0;omega)]
      unfold Ih P0
      rw[if_neg (by omega),if_neg (by omega),if_neg (by omega),if_neg (by omega),if_neg (by omega),if_neg (by omega),if_neg (by omega),show(100+5*i+0-100) / 5=i by omega,show(100+5*i+0-100) % 5=0 by omega]
      rfl
     ·rw[lo (by unfold P0;omega)]
      unfold Ih P0
      rw[if_neg (by omega),if_neg (by omega),if_neg (by omega),if_neg (by omega),if_neg (by omega),if_neg (by omega),if_neg (by omega),show(100+5*i+1-100) / 5=i by omega,show(100+5*i+1-100) % 5=1 by omega]
      rfl
    ·refine .cons rfl (λv' h=>by cases h;exact .int _ _) (.cons rfl (λv' h=>by cases h;exact .int _ _) (.cons rfl (λv' h=>by cases h;exact .AA _ _) (.cons rfl (kJ ?_) (TL.flat rfl))))
     rw[lo (by omega)];rfl
  ·unfold agH at hB
   rcases List.mem_append.1 hB with hB|hB
   ·rcases List.mem_append.1 hB with hB|hB
    ·simp only[List.mem_cons,Prod.mk.injEq,List.mem_nil_iff,or_false]at hB
     obtain⟨rfl,rfl⟩:=hB
     refine row (b0:=vb) (by omega) rfl (memA (b:=vb) (by simp)) P.vals (TL.flatMap λv hv=>?_)
     have hv:=List.mem_range.1 hv
     unfold cL
     refine TL.app (a:=[iI 2]++kY) (TL.flat rfl) (TL.app (a:=[iI 0,SM.s0,iI 0,aT]) (TL.flat rfl) (.cons rfl (kJ ?_) .nil))
     rw[lo (by omega)]
     unfold Ih
     rw[if_neg (by omega),if_neg (by omega),if_neg (by omega),if_neg (by omega),if_neg (by omega),if_pos (by omega),show 20+v-20=v by omega]
    ·obtain⟨v,hv,hE⟩:=List.mem_map.1 hB
     have hv:=List.mem_range.1 hv
     cases hE
     refine row (L:=cR v (sb v) 2) (by omega) ?_ (memR hv) (P.refs v hv) ?_
     ·unfold Ih
      rw[if_neg (by omega),if_neg (by omega),if_neg (by omega),if_neg (by omega),if_neg (by omega),if_pos (by omega),show 20+v-20=v by omega]
     ·unfold cR
      cases h1:Nat.blt v 4 with
      |true=>exact TL.flat rfl
      |false =>
       cases h2:Nat.blt v 8 with
       |true =>
        rw[au,au,aj,aj]
        rw[<-Bool.not_eq_true,an]at h1
        rw[an]at h2
        refine TL.app (a:=[iI 1,iI 0,iI 0,iI 64,aT,cD (32+(v-4)) 1 2]) (TL.app (a:=[iI 1,iI 0,iI 0,iI 64,aT]) (TL.flat rfl) (.cons rfl (kJ ?_) .nil)) (TL.flat rfl)
        rw[lo (by omega)]
        unfold Ih
        rw[if_neg (by omega),if_neg (by omega),if_neg (by omega),if_neg (by omega),if_neg (by omega),if_neg (by omega),if_pos (by omega),show 32+(v-4)-32+4=v by omega]
       |false=>exact TL.flat rfl
   ·obtain⟨v,hv,hE⟩:=List.mem_map.1 hB
    have hv:=List.mem_range.1 hv
    cases hE
    refine row (L:=cS (v+4)) (by omega) ?_ (memS hv) (P.akV (v+4) (by omega) (by omega)) (TL.flat rfl)
    unfold Ih
    rw[if_neg (by omega),if_neg (by omega),if_neg (by omega),if_neg (by omega),if_neg (by omega),if_neg (by omega),if_pos (by omega),show 32+v-32+4=v+4 by omega]
 ·obtain⟨l,hl,hB⟩:=List.mem_flatten.1 hB
  obtain⟨i,hi,rfl⟩:=List.mem_map.1 hl
  obtain⟨j,hj,hE⟩:=List.mem_map.1 hB
  have hi:=List.mem_range.1 hi
  have hj:=List.mem_range.1 hj
  cases hE
  obtain⟨mm,e,q1,q2,q3,fr,q4,q5⟩:=Ru (P.uU i hi) (λj=>by
   by_cases h5:j<5
   ·exact hr _ (Fs hi h5) (@Row.alive O _ _ _ _ _ (BQ (P.uU i hi) j))
   ·have:tk (asg i) j=tk (asg i) 0:=by unfold tk;rw[if_neg (by omega),if_neg (by omega),if_neg (by omega),if_neg (by omega),if_neg (by omega),if_neg (by omega),if_neg (by omega),if_neg (by omega)]
    rw[this];exact hr _ (Fs hi (by omega)) (@Row.alive O _ _ _ _ _ (BQ (P.uU i hi) 0))) j
  refine⟨mm,?_,?_⟩
  ·rw[lo (by unfold P0;omega)]
   unfold Ih P0
   rw[if_neg (by omega),if_neg (by omega),if_neg (by omega),if_neg (by omega),if_neg (by omega),if_neg (by omega),if_neg (by omega),show(100+5*i+j-100) / 5=i by omega,show(100+5*i+j-100) % 5=j by omega]
   exact e
  ·refine⟨_,q5,?_⟩
   have tb:uM (gT zs (OQ asg β bE)) β':=by rw[hβ];exact JZ
   refine⟨vK (gT zs (OQ asg β bE)) (10000000+10*i+j),(mR ((asg i).re β) j).1,(mR ((asg i).re β) j).2,tb _,?_,⟨fr,q4,rfl⟩,?_,q2,q3⟩
   all_goals
    have e2:vK (gT zs (OQ asg β bE)) (10000000+10*i+j)=⟨0,j5 ((mR ((asg i).re β) j).1::(mR ((asg i).re β) j).2),tk ((asg i).re β) j+1,7⟩:=by
     unfold vK
     rw[if_neg (by omega)]
     unfold gT
     rw[if_neg (by omega),if_neg (by omega),show 10000000+10*i+j-10000000=10*i+j from by omega,tX i (by omega)]
     rfl
    rw[e2]
   ·rw[q1]
theorem zq.re {zs:Nat->Int} {asg:Nat->iH} {m:Nat} (β:Mp) (h:zq zs asg m):zq zs (λi=>(asg i).re β) m:=⟨h.z0,h.st,h.bd⟩
def two (H:Hp):Hp:=(H.push .no).push .no
theorem tH (H:Hp):(two H).nx=H.nx+2:=by unfold two;rw[aZ,aZ]
theorem ack {H:Hp} (h:H.bG=true):(two H).bG=true:=by unfold two;rw[@cg SN,@cg SN];exact h
theorem XX {H:Hp} (h:H.bG=true) {b:Nat} (hb:b<H.nx):(two H).blk b=H.blk b:=by
 unfold two
 rw[@a_ SN _ (@aO SN _ (by rw[@cg SN];exact h)) _ _ (by rw[aZ];omega),@a_ SN _ (@aO SN _ h) _ _ hb]
theorem acj {H:Hp} (h:H.bG=true) {b:Nat} (hb:H.nx<=b):(two H).blk b=.no:=by
 unfold two
 rw[gf _ (@aO SN _ (by rw[@cg SN];exact h)),gf _ (@aO SN _ h),aZ]
 split
 ·rfl
 split
 ·rfl
 exact @s8 SN _ _ hb
def ruV (H:Hp) (m:Nat) (bE:List UInt8):Value:=.tuple ⟨[vS bE,.agg ⟨[cD H.nx 1 3,cD (H.nx+1) 1 3,SM.s0,iI 1,iI 0,iI (m+1:Nat)]⟩,.bool true]⟩
theorem q18 {O:dj} {H:Hp} (hf:H.bG=true) {asg:Nat->iH} {m pr fb bb vb:Nat} {rb sb:Nat->Nat} (g:zp H) (P:Prg H asg m pr fb bb vb rb sb) (hm:m<81) (hru:eK m=true) {zs:Nat->Int} (PA:zq zs asg m) :
 @aI O Tryz.prog NG (.call 18 [.agg ⟨[cD pr 1 2,iI 64,aT,cD fb 1 2,aT,aT]⟩,iI 1000]) H (.k (.ret (ruV H m (gp (λi=>stx (zs (kj m i))) 12)) (two H) (Zs (xH asg m pr fb bb vb rb sb)) 0)):=by
 obtain⟨bE,ag8⟩:∃ bE,bE=gp (λi=>stx (zs (kj m i))) 12:=⟨_,rfl⟩
 rw[<-ag8]
 have e1:eO (ruV H m bE) (two H) (Zs (xH asg m pr fb bb vb rb sb)) 0=.ret (ruV H m bE) (two H) (Zs (xH asg m pr fb bb vb rb sb)) 0:=rfl
 rw[<-e1]
 have hcan:Go.Ev.Can H (two H) 0:=by
  have c1:Go.Ev.Can H (H.push .no) 0:=fB (@aO SN _ hf)
  have c2:Go.Ev.Can (H.push .no) (two H) 0:=fB (@aO SN _ (by rw[@cg SN];exact hf))
  exact c1.comp c2
 refine(@fI O _ _ _ _ _ _ _ _ _).2 ⟨hcan,λβ W hg p args' hl=>?_⟩
 have R:Xe zs (OQ asg β bE) m (λi=>(asg i).re β):=⟨hm,λi hi=>adx (P.uU i hi).v (P.uU i hi).n,PA.re β,ag8⟩
 have eG:=agm R hru
 have F:=eG.2
 obtain⟨s,hs⟩:∃ s,s=gT zs (OQ asg β bE):=⟨_,rfl⟩
 obtain⟨nm,hnm⟩:∃ nm,nm=Ih asg pr fb bb vb rb sb:=⟨_,rfl⟩
 have hT:=(@fI (SX zs (OQ asg β bE)) _ _ _ _ _ _ _ _ _).1 eG.1
 have hsz:0<W.heap.size:=by
  obtain⟨m,e,h1,_⟩:=hg.1 0 (by decide)
  have:=p.dom 0 m e
  omega
 have hgI:@cX (SX zs (OQ asg β bE)) NG (D5 β s nm):=by
  refine⟨λb hb=>?_,s,hs,JZ⟩
  have hb:b<15:=hb
  rw[DN (by omega),hnm]
  unfold Ih
  rw[if_pos hb];exact hg.1 b hb
 have anw:∀ b mm,D5 β s nm b=some mm->mm.rb<W.heap.size:=λb mm e=>by
  unfold D5 at e
  split at e
  ·exact p.dom _ _ e
  split at e
  ·have e:=Option.some.inj e
   rw[<-e,V8];exact hsz
  ·cases e
 have hpI:@Pre (D5 β s nm) (ruK m).h0 (ruK m).h1 (ruK m).r 0 W:=by
  refine⟨λb _ hab=>?_,λb d _ _ hb=>?_,λb h1 h2=>?_,anw⟩
  ·letI:=SX zs (OQ asg β bE)
   obtain⟨B,hB,e,_⟩:=lA F hab
   rw[e,hs,hnm]
   exact ac1 (O:=O) g P hm (λb hb ha=>p.rel b (.inl (Lq hb)) ha) hB
  ·simp at hb
  ·have h1:512<=b:=h1
   have h2:b<514:=h2
   exact DM (by omega) (by omega)
 have memA:∀ {b},b∈[2,3,6,pr,fb,bb,vb]->b∈xH asg m pr fb bb vb rb sb:=λ{b} h=>List.mem_append.2 (.inl (List.mem_append.2 (.inl (List.mem_append.2 (.inl h)))))
 have hlI:ak (D5 β s nm) (ruK m).args args'.toList:=by
  obtain⟨a1,l1,ea1,h1,hl⟩:=hl.cons_inv
  obtain⟨a2,l2,ea2,h2,hl⟩:=hl.cons_inv
  have:=hl.aL;subst this
  rw[ea1,ea2]
  refine ak.cons ?_ (ak.cons (by cases h2;exact .int _ _) (ak.nil _))
  cases h1 with|agg xs xs' e0 f1 f2 =>
  have hx:ak β [cD pr 1 2,iI 64,aT,cD fb 1 2,aT,aT] xs':=⟨f1,f2⟩
  obtain⟨y1,l1,rfl,r1,hx⟩:=hx.cons_inv
  obtain⟨y2,l2,rfl,r2,hx⟩:=hx.cons_inv
  obtain⟨y3,l3,rfl,r3,hx⟩:=hx.cons_inv
  obtain⟨y4,l4,rfl,r4,hx⟩:=hx.cons_inv
  obtain⟨y5,l5,rfl,r5,hx⟩:=hx.cons_inv
  obtain⟨y6,l6,rfl,r6,hx⟩:=hx.cons_inv
  have:=hx.aL;subst this
  have hz:ak (D5 β s nm) [cD 16 1 2,iI 64,aT,cD 17 1 2,aT,aT] [y1,y2,y3,y4,y5,y6]:=by
   refine ak.cons (kJ ?_ _ r1) (ak.cons ?_ (ak.cons ?_ (ak.cons (kJ ?_ _ r4) (ak.cons ?_ (ak.cons ?_ (ak.nil _))))))
   ·rw[DN (by omega),hnm];rfl
   ·cases r2;exact .int _ _
   ·cases r3;exact .AA _ _
   ·rw[DN (by omega),hnm];rfl
   ·cases r5;exact .AA _ _
   ·cases r6;exact .AA _ _
  exact .agg _ _ rfl hz.1 hz.2
 refine(hT.2 _ W hgI hpI args' hlI).mono λe W' hE=>?_
 obtain⟨β2,v',he,hv,q⟩:=hE
 have tb2:uM s β2:=λk=>q.le _ _ (JZ k)
 have hv:ai β2 (.tuple ⟨[sy 9000000,.agg ⟨[cD 512 1 3,cD 513 1 3,SM.s0,iI 1,iI 0,iI (m+1:Nat)]⟩,.bool true]⟩) v':=hv
 have ahv:D5 β s nm 512=none:=DM (by omega) (by omega)
 have ahu:D5 β s nm 513=none:=DM (by omega) (by omega)
 cases hv with|tuple xs xs' e1 e2 =>
 have hx:ak β2 [sy 9000000,.agg ⟨[cD 512 1 3,cD 513 1 3,SM.s0,iI 1,iI 0,iI (m+1:Nat)]⟩,.bool true] xs':=⟨e1,e2⟩
 obtain⟨y1,l1,rfl,r1,hx⟩:=hx.cons_inv
 obtain⟨y2,l2,rfl,r2,hx⟩:=hx.cons_inv
 obtain⟨y3,l3,rfl,r3,hx⟩:=hx.cons_inv
 have:=hx.aL;subst this
 have hy1:y1=vS bE:=by
  have sc:∀ k,uo (s k)=true:=λk=>by rw[hs];exact B3 _ _ k
  have hok:wq (sy 9000000)=true:=bR (by omega)
  rw[(bY sc tb2 hok).1 r1]
  show s 9000000=_
  rw[hs]
  unfold gT
  rw[if_pos rfl];rfl
 cases r2 with|agg zs1 zs' g0 g1 g2 =>
 have hz:ak β2 [cD 512 1 3,cD 513 1 3,SM.s0,iI 1,iI 0,iI (m+1:Nat)] zs':=⟨g1,g2⟩
 obtain⟨z1,k1,rfl,t1,hz⟩:=hz.cons_inv
 obtain⟨z2,k2,rfl,t2,hz⟩:=hz.cons_inv
 have hk2:k2=[SM.s0,iI 1,iI 0,iI (m+1:Nat)]:=mj rfl hz
 cases t1 with|sl _ _ _ _ c1 m1 em1 hc1 =>
 cases t2 with|sl _ _ _ _ c2 m2 em2 hc2 =>
 have b0:β H.nx=none:=p.fresh _ (Nat.le_refl _) (by rw[tH];omega)
 have b1:β (H.nx+1)=none:=p.fresh _ (by omega) (by rw[tH];omega)
 obtain⟨β3,hβ3⟩:∃ β3,β3=(β.put H.nx m1).put (H.nx+1) m2:=⟨_,rfl⟩
 have c0:β3 H.nx=some m1:=by rw[hβ3,Mp.jV _ _ (by omega),Mp.dJ]
 have c1':β3 (H.nx+1)=some m2:=by rw[hβ3,Mp.dJ]
 have cne:∀ {b},b≠H.nx->b≠H.nx+1->β3 b=β b:=λ{b} h1 h2=>by rw[hβ3,Mp.jV _ _ h2,Mp.jV _ _ h1]
 have dead:∀ b,(H.nx<=b\/(0:Nat).testBit b=true)->¬ @alive (two H) b:=λb hb ha=>by
  rcases hb with h|h
  ·exact ha.2 (acj hf h)
  ·simp at h
 refine⟨β3,_,he,?_,⟨λb mm h=>?_,λb mm h h'=>?_,λb hb ha=>absurd ha (dead b hb),λrb_ o h _=>q.frame rb_ o h (λb mm _ hb=>by have hb:(0:Nat).testBit b=true:=hb;simp at hb),q.size,λb mm h=>?_,λb mm hb h h'=>?_,λb c _ _ hb _ ha=>absurd ha (dead b hb),q.env⟩⟩
 ·rw[hy1]
  cases r3
  have hz3:ak β3 [SM.s0,iI 1,iI 0,iI (m+1:Nat)] k2:=by rw[hk2];exact fE _ rfl
  have zx:ak β3 [cD H.nx 1 3,cD (H.nx+1) 1 3,SM.s0,iI 1,iI 0,iI (m+1:Nat)] (.slice (some ⟨m1.rb,0+m1.sh,none⟩) 1 c1::.slice (some ⟨m2.rb,0+m2.sh,none⟩) 1 c2::k2) :=
   ak.cons (.sl _ _ _ _ c1 m1 c0 hc1) (ak.cons (.sl _ _ _ _ c2 m2 c1' hc2) hz3)
  have hh:ak β3 [vS bE,.agg ⟨[cD H.nx 1 3,cD (H.nx+1) 1 3,SM.s0,iI 1,iI 0,iI (m+1:Nat)]⟩,.bool true] [vS bE,.agg ⟨.slice (some ⟨m1.rb,0+m1.sh,none⟩) 1 c1::.slice (some ⟨m2.rb,0+m2.sh,none⟩) 1 c2::k2⟩,.bool true] :=
   ak.cons (.string _) (ak.cons (.agg _ _ rfl zx.1 zx.2) (ak.cons (.bool _) (ak.nil _)))
  exact .tuple _ _ hh.1 hh.2
 ·by_cases h1:b=H.nx
  ·subst h1;rw[b0]at h;cases h
  ·by_cases h2:b=H.nx+1
   ·subst h2;rw[b1]at h;cases h
   ·rw[cne h1 h2];exact h
 ·rw[tH]
  by_cases h1:b=H.nx
  ·omega
  ·by_cases h2:b=H.nx+1
   ·omega
   ·rw[cne h1 h2,h']at h;cases h
 ·by_cases h1:b=H.nx
  ·subst h1;rw[c0]at h;cases h;exact q.dom _ _ em1
  ·by_cases h2:b=H.nx+1
   ·subst h2;rw[c1']at h;cases h;exact q.dom _ _ em2
   ·rw[cne h1 h2]at h;exact Nat.lt_of_lt_of_le (p.dom _ _ h) q.size
 ·have new:∀ {c mc},512<=c->D5 β s nm c=none->β2 c=some mc->W.heap.size<=mc.rb:=λ{c mc} h1 h2 h3=>by
   rcases q.new c mc h1 h2 h3 with h|⟨_,_,_,h,_⟩
   ·exact h
   ·have h:(0:Nat).testBit _=true:=h
    simp at h
  by_cases h1:b=H.nx
  ·subst h1;rw[c0]at h';cases h';exact .inl (new (by omega) ahv em1)
  ·by_cases h2:b=H.nx+1
   ·subst h2;rw[c1']at h';cases h';exact .inl (new (by omega) ahu em2)
   ·rw[cne h1 h2,h]at h';cases h'
def Xf (m:Nat) (bE:List UInt8) (H:Hp) (args:List Value):Prop:=∃ (asg:Nat->iH) (pr fb bb vb:Nat) (rb sb:Nat->Nat) (zs:Nat->Int),args=[.agg ⟨[cD pr 1 2,iI 64,aT,cD fb 1 2,aT,aT]⟩,iI 1000]/\H.bG=true/\zp H/\Prg H asg m pr fb bb vb rb sb/\m<81/\eK m=true/\zq zs asg m/\bE=gp (λi=>stx (zs (kj m i))) 12
open Classical in
noncomputable def nT (m:Nat) (bE:List UInt8) (f:Nat) (args:List Value) (H:Hp):Option (Value×Hp×Nat×Nat):=match f with
 |7=>if args=[]/\zp H then some (.bool true,H,76,0)else none
 |8=>if args=[iI 0,iI 64,gB]then some (.agg ⟨[iI 1,iI 0,iI 0,iI 64,aT,aT]++kY⟩,H,0,0)else none
 |9=>if args=[]then some (gB,H,0,0)else none
 |12=>(match args with | [.int .i64 x]=>if tj x then some (.agg ⟨cK (.int .i64 x)⟩,H,0,0)else none|_=>none)
 |13=>(match args with | [.int .i64 x]=>if tj x/\zp H then some (vS (stx x),H,bit 2,0)else none|_=>none)
 |18=>if Xf m bE H args then some (ruV H m bE,two H,2 ^ H.nx-1,0)else none
 |23=>(match args with | [.int .i64 (.ofNat v)]=>if v<4\/(8<=v/\v<12)then some (.agg ⟨cR v 0 2⟩,H,0,0)else none|_=>none)
 |24=>(match args with | [.slice (some ⟨b1,0,none⟩) 12 c1,.slice (some ⟨b2,0,none⟩) 12 c2]=>if ∃ (L:List (List UInt8)) (op1 op2:Nat),L.length=12/\Row H b1 9 op1 (L.map vS)/\Row H b2 9 op2 (L.map vS)then some (.bool true,H,bit b1 ||| bit b2,0)else none|_=>none)
 |25=>(match args with | [.string s]=>if s.data.toList.length<100000/\(∀ b∈s.data.toList,b.toNat<128)/\H.bG=true/\zp H then some (.slice (some ⟨H.nx,0,none⟩) (Lib.fields s.data.toList).length (2*(Lib.fields s.data.toList).length),H.push (aG ((Lib.fields s.data.toList).map vS) 9 0),bit 0,0)else none|_=>none)
 |_=>none
theorem Of {O:dj} {f:FuncId} {args:List Value} {H H':Hp} {v:Value} {r r' w:Nat} (hu:dL v=none) (h:@aI O Tryz.prog NG (.call f args) H (.k (.ret v H' r w))) (hr:∀ b,b<H.nx->r.testBit b=true->r'.testBit b=true):@aI O Tryz.prog NG (.call f args) H (.k (.ret v H' r' w)):=by
 have e1:∀ r,eO v H' r w=.ret v H' r w:=λr=>by unfold eO;rw[hu]
 rw[<-e1]at h ⊢
 have h:=(@fI O _ _ _ _ _ _ _ _ _).1 h
 refine(@fI O _ _ _ _ _ _ _ _ _).2 ⟨h.1,λβ W hg p=>h.2 β W hg ⟨λb hb ha=>p.rel b ?_ ha,λb c mb mc hw hc ab ac=>p.inj b c mb mc hw ?_ ab ac,p.fresh,p.dom⟩⟩
 ·rcases hb with h|h
  ·exact .inl (hr b ha.1 h)
  ·exact .inr h
 ·rcases hc with h|h
  ·exact .inl (hr c ac.1 h)
  ·exact .inr h
theorem aaY {n b:Nat} (h:b<n):(2 ^ n-1).testBit b=true:=by rw[Nat.testBit_two_pow_sub_one];exact decide_eq_true h
theorem acC {m:Nat} {bE:List UInt8}:@oa SN Tryz.prog NG (nT m bE):=by
 letI:=SN
 have ret:∀ {f:FuncId} {args:List Value} {H H':Hp} {v v':Value} {r w r' w':Nat} {H2:Hp},dL v=none->aI Tryz.prog NG (.call f args) H (.k (.ret v H2 r w))->some (v,H2,r,w)=some (v',H',r',w')->aI Tryz.prog NG (.call f args) H (.k (eO v' H' r' w')):=λhu h e=>by
  cases e
  unfold eO;rw[hu];exact h
 intro f args H v H' r w hw h
 unfold nT at h
 split at h
 ·split at h
  ·rename_i c;rw[c.1];exact ret rfl (q7 hw c.2) h
  ·cases h
 ·split at h
  ·rename_i c;rw[c];exact ret rfl (q8 hw) h
  ·cases h
 ·split at h
  ·rename_i c;rw[c];exact ret rfl (q9 hw) h
  ·cases h
 ·split at h
  ·split at h
   ·rename_i c;exact ret rfl (q12 c hw) h
   ·cases h
  ·cases h
 ·split at h
  ·split at h
   ·rename_i c;exact ret rfl (q13 c.1 hw c.2) h
   ·cases h
  ·cases h
 ·split at h
  ·rename_i c
   obtain⟨asg,pr,fb,bb,vb,rb,sb,zs,ea,hf,g,P,hm,hru,PA,et⟩:=c
   rw[ea]
   rw[et]at h
   exact ret rfl (Of rfl (q18 hf g P hm hru PA) λb hb _=>aaY hb) h
  ·cases h
 ·split at h
  ·split at h
   ·rename_i c;exact ret rfl (q23 c hw) h
   ·cases h
  ·cases h
 ·split at h
  ·split at h
   ·rename_i c
    obtain⟨L,op1,op2,h12,r1,r2⟩:=c
    exact ret rfl (q24 h12 hw r1 r2) h
   ·cases h
  ·cases h
 ·split at h
  ·split at h
   ·rename_i s c
    exact ret rfl (q25 c.1 c.2.1 c.2.2.1 c.2.2.2) h
   ·cases h
  ·cases h
 ·cases h
section
variable {m:Nat} {bE:List UInt8}
theorem w7 {H:Hp} (g:zp H):nT m bE 7 [] H=some (.bool true,H,76,0):=if_pos ⟨rfl,g⟩
theorem w8 {H:Hp}:nT m bE 8 [iI 0,iI 64,gB] H=some (.agg ⟨[iI 1,iI 0,iI 0,iI 64,aT,aT]++kY⟩,H,0,0):=if_pos rfl
theorem w9 {H:Hp}:nT m bE 9 [] H=some (gB,H,0,0):=by unfold nT;simp
theorem w12 {x:Int} (h:tj x) {H:Hp}:nT m bE 12 [.int .i64 x] H=some (.agg ⟨cK (.int .i64 x)⟩,H,0,0):=if_pos h
theorem w13 {x:Int} (h:tj x) {H:Hp} (g:zp H):nT m bE 13 [.int .i64 x] H=some (vS (stx x),H,bit 2,0):=if_pos ⟨h,g⟩
theorem w18 {H:Hp} {args:List Value} (h:Xf m bE H args):nT m bE 18 args H=some (ruV H m bE,two H,2 ^ H.nx-1,0):=if_pos h
theorem w23 {v:Nat} (h:v<4\/(8<=v/\v<12)) {H:Hp}:nT m bE 23 [iI v] H=some (.agg ⟨cR v 0 2⟩,H,0,0):=if_pos h
theorem akD {v:Nat} (h:4<=v/\v<8) {H:Hp}:nT m bE 23 [iI v] H=none:=if_neg (by omega)
theorem w24 {H:Hp} {L:List (List UInt8)} {b1 b2 c1 c2 op1 op2:Nat} (h:L.length=12) (h1:Row H b1 9 op1 (L.map vS)) (h2:Row H b2 9 op2 (L.map vS)):nT m bE 24 [.slice (some ⟨b1,0,none⟩) 12 c1,.slice (some ⟨b2,0,none⟩) 12 c2] H=some (.bool true,H,bit b1 ||| bit b2,0):=if_pos ⟨L,op1,op2,h,h1,h2⟩
theorem w25 {H:Hp} {s:List UInt8} (h:s.length<100000/\(∀ b∈s,b.toNat<128)/\H.bG=true/\zp H):nT m bE 25 [vS s] H=some (.slice (some ⟨H.nx,0,none⟩) (Lib.fields s).length (2*(Lib.fields s).length),H.push (aG ((Lib.fields s).map vS) 9 0),bit 0,0):=if_pos h
theorem XP {f:Nat} (h:f∈[6,14,15,16,17,19]) (args:List Value) (H:Hp):nT m bE f args H=none:=by
 simp only[List.mem_cons,List.mem_nil_iff,or_false]at h
 rcases h with rfl|rfl|rfl|rfl|rfl|rfl<;>rfl
end
end Go.Proofs.CA
end
noncomputable section
namespace Go.Proofs.CA
open Go Go.Ev Go.Proofs Go.Proofs.MN
section
variable [dj] {tb:Tb} {nt:Nat} {t:T Value} {H:Hp} {rs:List ResultVar} {l:List Value} {r:Nat}
theorem lX:eg tb nt t H []=some ([],0):=rfl
theorem iT {a ty b n:Nat} {l':List Value} (hb:Bc (Nat.blt a nt) (Bc (match dN tb ty with|some b=>b|none=>false) (match eY tb ty with|some k=>Nat.beq k n|none=>false) false) false=true) (hg:t.get a=.pointer (some ⟨b,0,none⟩)) (hr:qU H b 0 n=some l') (h:eg tb nt t H rs=some (l,r)) :
 eg tb nt t H (.cell a ty::rs)=some (.agg ⟨l'⟩::l,Nat.lor (bit b) r):=by
 cases h1:Nat.blt a nt with
 |false=>rw[h1,au]at hb;cases hb
 |true =>
  rw[h1,aj]at hb
  cases h2:dN tb ty with
  |none=>rw[h2]at hb;simp[au]at hb
  |some x =>
   rw[h2]at hb
   cases x with
   |false=>simp[au]at hb
   |true =>
    simp only[aj]at hb
    cases h3:eY tb ty with
    |none=>rw[h3]at hb;cases hb
    |some k =>
     rw[h3]at hb
     obtain rfl:=(beq_iff _ _).1 hb
     simp only[eg,h1,aj,hg,eZ,h2,h3,hr,h]
end
section
variable [dj]
theorem gL {t:T Value} {z R:List Value} {o:Operand} {k:Nat} (h:aA t o=.agg ⟨R⟩) (hR:R.length=k) (hz:z.length=k):bH t z [(0,k,o)]=some R:=by
 simp only[bH,h,gX]
 rw[hR,(beq_iff k k).2 rfl,(aE (0+k) z.length).2 (by omega)]
 show some (z.take 0++(R++z.drop (0+k)))=some R
 rw[List.take_zero,List.nil_append,List.drop_eq_nil_of_le (by omega),List.append_nil]
structure NSl (H:Hp) (L:List Value) (ty:Nat) (H1:Hp):Prop where
 al:aS (aG L ty 0) H (λi=>c_ (some (i,0)) 1 1 false) 0 0=.val (sC H.nx 0 1 2) H1 0 0
 row:Row H1 H.nx ty 0 L
 kept:Kept H H1
 nx:H1.nx=H.nx+1
theorem uX {H:Hp} (hf:H.bG=true) (L:List Value) (ty:Nat):∃ H1,NSl H L ty H1 :=
 ⟨H.push (aG L ty 0),pQ hf _ _ _,fq (aO hf) _ _ _,⟨by rw[cg];exact hf,by rw[aZ];omega,λb hb=>a_ (aO hf) _ hb⟩,aZ _ _⟩
theorem vj (A:List Value) (k:List Value->Go.Ev.R):bD (gX (.agg ⟨A⟩)) k=k A:=rfl
theorem wS.kept {H H1:Hp} {b ty op n:Nat} {L:List Value} (h:wS H b ty op L H1) (hb:n<=b) {H0:Hp} (k:Kept H0 H) (hn:H0.nx<=n):Kept H0 H1:=⟨h.fn,by rw[h.nx];exact k.nx,λc hc=>by rw[h.dS c (by omega),k.old c hc]⟩
theorem kO {H:Hp} {b ty op k:Nat} {L:List Value} (h:Row H b ty op L) (hk:L.length=k):ia k (pA b 0) H=.val (.agg ⟨L⟩) H (bit b) 0:=by
 rw[eS h (by omega)]
 rw[List.drop_zero,<-hk,List.take_length]
theorem jt {H:Hp} {b ty op k:Nat} {L vs:List Value} (hf:H.bG=true) (h:Row H b ty op L) (hk:L.length=k) (hv:vs.length=k):∃ H1,i_ k (pA b 0) (.agg ⟨vs⟩) H=.val U H1 0 (bit b)/\wS H b ty op vs H1:=by
 obtain⟨H1,e,w⟩:=j4 (vs:=vs) hf h (o:=0) (by omega)
 rw[hv]at e
 refine⟨H1,e,?_⟩
 have:L.take 0++vs++L.drop (0+vs.length)=vs:=by rw[List.take_zero,List.nil_append,List.drop_eq_nil_of_le (by omega),List.append_nil]
 rwa [this]at w
theorem IJ {H H1:Hp} {L:List Value} {ty:Nat} (h:NB H L ty H1):H.nx<=H1.nx:=by rw[h.nx];omega
theorem ks1 {H H1:Hp} {L:List Value} {ty:Nat} (h:NSl H L ty H1):H.nx<=H1.nx:=by rw[h.nx];omega
theorem Mk {H H1:Hp} {L:List Value} {b ty op:Nat} (h:wS H b ty op L H1):H.nx<=H1.nx:=by rw[h.nx];exact Nat.le_refl _
end
section
attribute [local go_sem] au aj GT dF gF aR fe Yj Yk Yl Ym Yn Yo Yp Yq Yr and_self and_true cV cU cQ cP cN cM bx ig ic de dR aP bw af cJ cI bP cH cG cF cE if_false if_true dM dD bM run true_and ck bL bK bJ bI bf bu l9 vj
variable {m:Nat} {bE:List UInt8} {e:Env}
theorem aoj:dm.fn 14=some Tryz.f14:=by kernel_rfl
theorem aoi:dm.fn 15=some Tryz.f15:=by kernel_rfl
theorem aoh:dm.fn 16=some Tryz.f16:=by kernel_rfl
theorem aog:dm.fn 17=some Tryz.f17:=by kernel_rfl
theorem aof:dm.fn 19=some Tryz.f19:=by kernel_rfl
theorem aoe:dm.fn 23=some Tryz.f23:=by kernel_rfl
theorem fn6:dm.fn 6=some Tryz.f6:=by kernel_rfl
theorem Sf {H:Hp} (hf:H.bG=true) (he:e.n0<=H.nx) {R E:List Value} (hR:R.length=11) (hE:E.length=11):@EC SN dm (nT m bE) e 14 [.agg ⟨R⟩,.agg ⟨E⟩] H λv H'=>∃ r b,v=.agg ⟨cT (iI 0) r b⟩/\Row H' r 28 0 R/\Row H' b 35 0 E/\Kept H H'/\H.nx<=r/\H.nx<=b:=by
 letI:=SN
 refine EC.i2 aoj Sc Si (XP (by decide) _ _) (by show 2<=10;decide) λt0 g0 g1=>?_
 show WK dm (nT m bE) e ⟨2,10,none,false⟩ Sg t0 [] H _
 unfold Sg
 obtain⟨H1,n1⟩:=nW hf R 28
 obtain⟨H2,n2⟩:=nW n1.kept.fn E 35
 obtain⟨H3,n3⟩:=nW n2.kept.fn [.int .i64 (0),.int .i64 (0),.slice none 0 0,.slice none 0 0,.int .i64 (0),.int .i64 (0),.int .i64 (0),.slice none 0 0,.int .i64 (0),.bool false,.bool false] 41
 have x1:=n1.nx
 have x2:=n2.nx
 have x3:=n3.nx
 have lQ:=n1.al
 have nX:=n2.al
 have CC:=n3.al
 have Pm:=IJ n1
 have D2:=IJ n2
 have l3_:=IJ n3
 refine WK.seq ?_
 refine WK.av ?_
 refine aR.all (λt' H'=>H3=H'/\GT t' [(2,pA H.nx 0),(3,pA H1.nx 0),(4,pA H2.nx 0)]) ?_ ?_
 ·simp +decide only[Se,g0,g1,lQ,nX,CC,Pm,D2,l3_,Xo 2,go_sem]
 rintro t1 _ ⟨rfl,g2,g3,g4, -⟩
 have r1:Row H3 H.nx 28 0 R:=(n1.row.mv n2.kept).mv n3.kept
 have r2:Row H3 H1.nx 35 0 E:=n2.row.mv n3.kept
 have wA:=kO r1 hR
 have wv:=kO r2 hE
 have tA:e.ok (bit H.nx) 0 H3:=pV r1 (by omega)
 obtain⟨H4,n4⟩:=uX n3.kept.fn R 28
 obtain⟨H5,n5⟩:=uX n4.kept.fn E 35
 have x4:=n4.nx
 have x5:=n5.nx
 have r_:∀ t:T Value,t.get 5=.agg ⟨R⟩->bD (bH t [.int .i64 (0),.int .i64 (0),.int .i64 (0),.int .i64 (0),.slice none 0 0,.slice none 0 0,.int .i64 (0),.int .i64 (0),.int .i64 (0),.bool false,.string ⟨#[]⟩] [(0,11,.tmp 5)]) (λl=>aS (aG l 28 0) H3 (λi=>c_ (some (i,0)) 1 1 false) 0 0)=.val (sC H3.nx 0 1 2) H4 0 0:=λt g=>by
  rw[gL (R:=R) (by rw[af,g]) hR rfl,bS];exact n4.al
 have r24:Row H4 H1.nx 35 0 E:=r2.mv n4.kept
 have m7_:=kO r24 hE
 have Tn:e.ok (bit H1.nx) 0 H4:=pV r24 (by omega)
 have m8_:∀ t:T Value,t.get 7=.agg ⟨E⟩->bD (bH t [.int .i64 (0),.int .i64 (0),.int .i64 (0),.int .i64 (0),.bool false,.string ⟨#[]⟩,.int .i64 (0),.string ⟨#[]⟩,.int .i64 (0),.slice none 0 0,.slice none 0 0] [(0,11,.tmp 7)]) (λl=>aS (aG l 35 0) H4 (λi=>c_ (some (i,0)) 1 1 false) 0 0)=.val (sC H4.nx 0 1 2) H5 0 0:=λt g=>by
  rw[gL (R:=E) (by rw[af,g]) hE rfl,bS];exact n5.al
 have TO:∀ (t:T Value) (k:List Value->Go.Ev.R),t.get 6=sC H3.nx 0 1 2->t.get 8=sC H4.nx 0 1 2->bD (bH t [.int .i64 (0),.int .i64 (0),.slice none 0 0,.slice none 0 0,.int .i64 (0),.int .i64 (0),.int .i64 (0),.slice none 0 0,.int .i64 (0),.bool false,.bool false] [(0,1,(.const (.int .i64 (2)))),(2,1,(.tmp 6)),(3,1,(.tmp 8))]) k=k (cT (iI 0) H3.nx H4.nx):=λt k g g'=>by
  simp only[bH,aP,af,g,g'];rfl
 have r45:Row H5 H2.nx 41 0 [.int .i64 (0),.int .i64 (0),.slice none 0 0,.slice none 0 0,.int .i64 (0),.int .i64 (0),.int .i64 (0),.slice none 0 0,.int .i64 (0),.bool false,.bool false]:=(n3.row.mv n4.kept).mv n5.kept
 obtain⟨H6,e6,w6⟩:=jt n5.kept.fn r45 (k:=11) rfl (show(cT (iI 0) H3.nx H4.nx).length=11 from rfl)
 have zM:e.ok 0 (bit H2.nx) H6:=wm w6.row (by omega)
 have l4_:=ks1 n4
 have l5_:=ks1 n5
 have Uk:=Mk w6
 refine WK.seq ?_
 refine WK.av ?_
 refine aR.all (λt' H'=>H6=H'/\GT t' [(4,pA H2.nx 0)]) ?_ ?_
 ·simp +decide only[Sd,g2,g3,g4,wA,tA,r_,m7_,Tn,m8_,TO,e6,zM,l4_,l5_,Uk,Xo 2,go_sem]
 rintro t2 _ ⟨rfl,mB, -⟩
 have rd:qU H6 H2.nx 0 11=some (cT (iI 0) H3.nx H4.nx):=kL w6.row
 refine WK.ret ⟨.inr rfl,rfl,[.agg ⟨cT (iI 0) H3.nx H4.nx⟩],Nat.lor (bit H2.nx) 0,iT rfl mB rd lX,?_,H3.nx,H4.nx,rfl,?_,?_,?_,by omega,by omega⟩
 ·rw[aF];exact pV w6.row (by omega)
 ·exact((n4.row.mv n5.kept)).bF (w6.dS _ (by omega))
 ·exact n5.row.bF (w6.dS _ (by omega))
 ·exact wS.kept w6 (n:=H2.nx) (Nat.le_refl _) ((((n1.kept.trans n2.kept).trans n3.kept).trans n4.kept).trans n5.kept) (by omega)
end
section
variable [dj]
theorem NV {tb:Tb} {sp:Nat->List Value->Hp->Option (Value×Hp×Nat×Nat)} {e:Env} {f:FuncId} {args:List Value} {H:Hp} {v:Value} (h:sp f args H=some (v,H,0,0)) (hp:dL v=none) (K:Value->Hp->Prop):EC tb sp e f args H K=K v H:=by
 refine propext ⟨λ⟨N,v',H',r,w,ju,hok,hn,hk⟩=>?_,λhk=>l8 h hp (Env.ok.zero _ _) (Nat.le_refl _) hk⟩
 cases N with
 |zero=>cases ju
 |succ N =>
  have ju:f_ tb sp (ev tb sp N) (.call f args) H=.k (.ret v' H' r w):=ju
  simp only[f_,h,eO,hp]at ju
  cases ju;exact hk
end
section
attribute [local go_sem] au aj GT dF gF aR fe fC Yj Yk Yl Ym Yn Yo Yp Yq Yr and_self and_true cV cU cQ cP cN cM bx ig ic de dR aP bw af cJ cI bP cH cG cF cE if_false if_true dM dD bM run true_and ck bL bK bJ bI bf bu l9 vj
variable {m:Nat} {bE:List UInt8} {e:Env}
theorem LZ {H:Hp} (hf:H.bG=true) (he:e.n0<=H.nx) {A:List Value} (hA:A.length=11) (hT:(A.drop 6).take 5=kY):@EC SN dm (nT m bE) e 16 [.agg ⟨A⟩] H λv H'=>∃ r,v=.agg ⟨cL r 2⟩/\Row H' r 28 0 A/\Kept H H'/\H.nx<=r:=by
 letI:=SN
 refine EC.i1 aoh Pe Pf (XP (by decide) _ _) (by show 1<=8;decide) λt0 g0=>?_
 show WK dm (nT m bE) e ⟨2,8,none,false⟩ IB t0 [] H _
 unfold IB
 obtain⟨H1,n1⟩:=nW hf A 28
 obtain⟨H2,n2⟩:=nW n1.kept.fn [.int .i64 (0),.int .i64 (0),.int .i64 (0),.int .i64 (0),.bool false,.string ⟨#[]⟩,.int .i64 (0),.string ⟨#[]⟩,.int .i64 (0),.slice none 0 0,.slice none 0 0] 35
 have x1:=n1.nx
 have x2:=n2.nx
 have lQ:=n1.al
 have nX:=n2.al
 have Pm:=IJ n1
 have D2:=IJ n2
 refine WK.seq ?_
 refine WK.av ?_
 refine aR.all (λt' H'=>H2=H'/\GT t' [(1,pA H.nx 0),(2,pA H1.nx 0)]) ?_ ?_
 ·simp +decide only[LY,g0,lQ,nX,Pm,D2,Xo 2,go_sem]
 rintro t1 _ ⟨rfl,g1,g2, -⟩
 have r1:Row H2 H.nx 28 0 A:=n1.row.mv n2.kept
 have wA:ia 5 (pA H.nx (0+6)) H2=.val (.agg ⟨kY⟩) H2 (bit H.nx) 0:=by rw[eS r1 (by omega)];show R.val (.agg ⟨(A.drop 6).take 5⟩) _ _ _=_;rw[hT]
 have wv:=kO r1 hA
 have tA:e.ok (bit H.nx) 0 H2:=pV r1 (by omega)
 obtain⟨H4,n4⟩:=uX n2.kept.fn A 28
 have x4:=n4.nx
 have r_:∀ t:T Value,t.get 5=.agg ⟨A⟩->bD (bH t [.int .i64 (0),.int .i64 (0),.int .i64 (0),.int .i64 (0),.slice none 0 0,.slice none 0 0,.int .i64 (0),.int .i64 (0),.int .i64 (0),.bool false,.string ⟨#[]⟩] [(0,11,.tmp 5)]) (λl=>aS (aG l 28 0) H2 (λi=>c_ (some (i,0)) 1 1 false) 0 0)=.val (sC H2.nx 0 1 2) H4 0 0:=λt g=>by
  rw[gL (R:=A) (by rw[af,g]) hA rfl,bS];exact n4.al
 have TO:∀ (t:T Value) (k:List Value->Go.Ev.R),t.get 4=.agg ⟨kY⟩->t.get 6=sC H2.nx 0 1 2->bD (bH t [.int .i64 (0),.int .i64 (0),.int .i64 (0),.int .i64 (0),.bool false,.string ⟨#[]⟩,.int .i64 (0),.string ⟨#[]⟩,.int .i64 (0),.slice none 0 0,.slice none 0 0] [(0,1,(.const (.int .i64 (2)))),(1,5,(.tmp 4)),(10,1,(.tmp 6))]) k=k (cL H2.nx 2):=λt k g g'=>by
  simp only[bH,aP,af,g,g'];rfl
 have r45:Row H4 H1.nx 35 0 [.int .i64 (0),.int .i64 (0),.int .i64 (0),.int .i64 (0),.bool false,.string ⟨#[]⟩,.int .i64 (0),.string ⟨#[]⟩,.int .i64 (0),.slice none 0 0,.slice none 0 0]:=n2.row.mv n4.kept
 obtain⟨H6,e6,w6⟩:=jt n4.kept.fn r45 (k:=11) rfl (show(cL H2.nx 2).length=11 from rfl)
 have zM:e.ok 0 (bit H1.nx) H6:=wm w6.row (by omega)
 have l4_:=ks1 n4
 have Uk:=Mk w6
 refine WK.seq ?_
 refine WK.av ?_
 refine aR.all (λt' H'=>H6=H'/\GT t' [(2,pA H1.nx 0)]) ?_ ?_
 ·simp +decide only[LX,g1,g2,wA,tA,wv,r_,TO,e6,zM,l4_,Uk,Xo 2,go_sem]
 rintro t2 _ ⟨rfl,mB, -⟩
 have rd:qU H6 H1.nx 0 11=some (cL H2.nx 2):=kL w6.row
 refine WK.ret ⟨.inr rfl,rfl,[.agg ⟨cL H2.nx 2⟩],Nat.lor (bit H1.nx) 0,iT rfl mB rd lX,?_,H2.nx,rfl,?_,?_,by omega⟩
 ·rw[aF];exact pV w6.row (by omega)
 ·exact n4.row.bF (w6.dS _ (by omega))
 ·exact wS.kept w6 (n:=H1.nx) (Nat.le_refl _) ((n1.kept.trans n2.kept).trans n4.kept) (by omega)
theorem YQ {H:Hp} (hf:H.bG=true) (he:e.n0<=H.nx) {vb c:Nat}:@EC SN dm (nT m bE) e 15 [cD vb 12 c] H λv H'=>v=.agg ⟨[iI 15,iI 0,aT,cD vb 12 c,iI 0,iI 0,iI 0,aT,iI 0,.bool false,.bool false]⟩/\Kept H H':=by
 letI:=SN
 refine EC.i1 aoi SE SI (XP (by decide) _ _) (by show 1<=5;decide) λt0 g0=>?_
 show WK dm (nT m bE) e ⟨1,5,none,false⟩ SH t0 [] H _
 unfold SH
 obtain⟨H2,n2⟩:=nW hf [.int .i64 (0),.int .i64 (0),.slice none 0 0,.slice none 0 0,.int .i64 (0),.int .i64 (0),.int .i64 (0),.slice none 0 0,.int .i64 (0),.bool false,.bool false] 41
 have x2:=n2.nx
 have nX:=n2.al
 have D2:=IJ n2
 refine WK.seq ?_
 refine WK.av ?_
 refine aR.all (λt' H'=>H2=H'/\GT t' [(0,cD vb 12 c),(2,pA H.nx 0)]) ?_ ?_
 ·simp +decide only[SG,g0,nX,D2,Xo 1,go_sem]
 rintro t1 _ ⟨rfl,dQ,g2, -⟩
 obtain⟨V,hV⟩:∃ V:List Value,V=[iI 15,iI 0,aT,cD vb 12 c,iI 0,iI 0,iI 0,aT,iI 0,.bool false,.bool false]:=⟨_,rfl⟩
 have TO:∀ (t:T Value) (k:List Value->Go.Ev.R),t.get 3=cD vb 12 c->bD (bH t [.int .i64 (0),.int .i64 (0),.slice none 0 0,.slice none 0 0,.int .i64 (0),.int .i64 (0),.int .i64 (0),.slice none 0 0,.int .i64 (0),.bool false,.bool false] [(0,1,(.const (.int .i64 (15)))),(3,1,(.tmp 3))]) k=k V:=λt k g=>by
  simp only[bH,aP,af,g];rw[hV];rfl
 obtain⟨H6,e6,w6⟩:=jt n2.kept.fn n2.row (k:=11) rfl (show V.length=11 by rw[hV];rfl)
 have zM:e.ok 0 (bit H.nx) H6:=wm w6.row (by omega)
 have Uk:=Mk w6
 refine WK.seq ?_
 refine WK.av ?_
 refine aR.all (λt' H'=>H6=H'/\GT t' [(2,pA H.nx 0)]) ?_ ?_
 ·simp +decide only[SF,dQ,g2,TO,e6,zM,Uk,Xo 1,go_sem]
 rintro t2 _ ⟨rfl,mB, -⟩
 have rd:qU H6 H.nx 0 11=some V:=by have:=kL w6.row;rw[hV]at this ⊢;exact this
 refine WK.ret ⟨.inr rfl,rfl,[.agg ⟨V⟩],Nat.lor (bit H.nx) 0,iT rfl mB rd lX,?_,by rw[hV];rfl,?_⟩
 ·rw[aF];exact pV w6.row (by omega)
 ·exact wS.kept w6 (n:=H.nx) (Nat.le_refl _) n2.kept (Nat.le_refl _)
theorem TM {H:Hp} (hf:H.bG=true) (he:e.n0<=H.nx) {bb n c:Nat}:@EC SN dm (nT m bE) e 17 [.int .i64 128,cD bb n c] H λv H'=>v=.agg ⟨Cz++[cD bb n c,aT]⟩/\Kept H H':=by
 letI:=SN
 refine EC.i2 aog It Iu (XP (by decide) _ _) (by show 2<=8;decide) λt0 g0 g1=>?_
 show WK dm (nT m bE) e ⟨2,8,none,false⟩ CB t0 [] H _
 unfold CB
 obtain⟨H2,n2⟩:=nW hf [.string ⟨#[]⟩,.int .i64 (0),.int .i64 (0),.int .i64 (0),.slice none 0 0,.slice none 0 0,.slice none 0 0] 49
 have x2:=n2.nx
 have nX:=n2.al
 have D2:=IJ n2
 refine WK.seq ?_
 refine WK.av ?_
 refine aR.all (λt' H'=>H2=H'/\GT t' [(0,.int .i64 128),(1,cD bb n c),(4,pA H.nx 0)]) ?_ ?_
 ·simp +decide only[Fy,g0,g1,nX,D2,Xo 2,go_sem]
 rintro t1 _ ⟨rfl,dQ,iJ,g2, -⟩
 obtain⟨V,hV⟩:∃ V:List Value,V=Cz++[cD bb n c,aT]:=⟨_,rfl⟩
 have TO:∀ (t:T Value) (k:List Value->Go.Ev.R),t.get 5=.int .i64 128->t.get 6=cD bb n c->bD (bH t [.string ⟨#[]⟩,.int .i64 (0),.int .i64 (0),.int .i64 (0),.slice none 0 0,.slice none 0 0,.slice none 0 0] [(0,1,(.const (.string ⟨#[77,65,73,78]⟩))),(1,1,(.const (.int .i64 (-1)))),(3,1,(.tmp 5)),(5,1,(.tmp 6))]) k=k V:=λt k g g'=>by
  simp only[bH,aP,af,g,g'];rw[hV];rfl
 obtain⟨H6,e6,w6⟩:=jt n2.kept.fn n2.row (k:=7) rfl (show V.length=7 by rw[hV];rfl)
 have zM:e.ok 0 (bit H.nx) H6:=wm w6.row (by omega)
 have Uk:=Mk w6
 refine WK.seq ?_
 refine WK.av ?_
 refine aR.all (λt' H'=>H6=H'/\GT t' [(4,pA H.nx 0)]) ?_ ?_
 ·simp +decide only[Fx,dQ,iJ,g2,TO,e6,zM,Uk,Xo 2,go_sem]
 rintro t2 _ ⟨rfl,mB, -⟩
 have rd:qU H6 H.nx 0 7=some V:=by have:=kL w6.row;rw[hV]at this ⊢;exact this
 refine WK.ret ⟨.inr rfl,rfl,[.agg ⟨V⟩],Nat.lor (bit H.nx) 0,iT rfl mB rd lX,?_,by rw[hV];rfl,?_⟩
 ·rw[aF];exact pV w6.row (by omega)
 ·exact wS.kept w6 (n:=H.nx) (Nat.le_refl _) n2.kept (Nat.le_refl _)
theorem YK {H:Hp} (hf:H.bG=true) (he:e.n0<=H.nx) {v:Nat} (hv:4<=v/\v<8):@EC SN dm (nT m bE) e 23 [iN v] H λx H'=>∃ s,x=.agg ⟨cR v s 2⟩/\Row H' s 76 0 (cS v)/\Kept H H'/\H.nx<=s:=by
 letI:=SN
 refine EC.i1 aoe Sr Sz (akD hv) (by show 1<=27;decide) λt0 g0=>?_
 show WK dm (nT m bE) e ⟨2,27,none,false⟩ Sy t0 [] H _
 unfold Sy
 obtain⟨H1,n1⟩:=nW hf [.int .i64 (0),.int .i64 (0),.int .i64 (0),.int .i64 (0),.slice none 0 0,.slice none 0 0,.int .i64 (0),.int .i64 (0),.int .i64 (0),.bool false,.string ⟨#[]⟩] 28
 have x1:=n1.nx
 have lQ:=n1.al
 have Pm:=IJ n1
 refine WK.seq ?_
 refine WK.av ?_
 refine aR.all (λt' H'=>H1=H'/\GT t' [(0,iN v),(2,pA H.nx 0)]) ?_ ?_
 ·simp +decide only[Sx,g0,lQ,Pm,Xo 2,go_sem]
 rintro t1 _ ⟨rfl,dQ,zY, -⟩
 refine WK.seq ?_
 refine WK.block ?_
 refine WK.seq ?_
 refine WK.av ?_
 have uH:decide (((v:Nat):Int)<(4:Int))=false:=decide_eq_false (by omega)
 refine aR.all (λt' H'=>H1=H'/\GT t' [(0,iN v),(2,pA H.nx 0),(4,.bool false)]) ?_ ?_
 ·simp +decide only[Sw,dQ,zY,uH,Xo 2,go_sem]
 rintro t2 _ ⟨rfl,dV,oS,mB, -⟩
 refine WK.cond (v:=false) (by rw[af,mB];rfl) ?_
 refine WK.seq ?_
 refine WK.av ?_
 have Qe:decide (((v:Nat):Int)<(8:Int))=true:=decide_eq_true (by omega)
 refine aR.all (λt' H'=>H1=H'/\GT t' [(0,iN v),(2,pA H.nx 0),(11,.bool true)]) ?_ ?_
 ·simp +decide only[Sv,dV,oS,Qe,Xo 2,go_sem]
 rintro t3 _ ⟨rfl,iq,vJ,Gf, -⟩
 refine WK.cond (v:=true) (by rw[af,Gf];rfl) ?_
 obtain⟨A,hA⟩:∃ A:List Value,A=[iI 1,iI 0,iI 0,iI 64,aT,aT]++kY:=⟨_,rfl⟩
 have ahJ:A.length=11:=by rw[hA];rfl
 have k9_:∀ (K:Value->Hp->Prop) (H:Hp),EC dm (nT m bE) e 9 [] H K=K SM.gB H:=λK H=>NV w9 rfl K
 have k8_:∀ (K:Value->Hp->Prop) (H:Hp),EC dm (nT m bE) e 8 [.int .i64 0,.int .i64 64,SM.gB] H K=K (.agg ⟨A⟩) H:=λK H=>by rw[hA];exact NV w8 rfl K
 obtain⟨H2,n2⟩:=nW n1.kept.fn [.int .i64 (0),.int .i64 (0),.int .i64 (0),.int .i64 (0),.slice none 0 0,.slice none 0 0,.int .i64 (0),.int .i64 (0),.int .i64 (0),.bool false,.string ⟨#[]⟩] 28
 have x2:=n2.nx
 have nX:=n2.al
 have D2:=IJ n2
 obtain⟨H3,e3_,w3⟩:=jt n2.kept.fn n2.row (k:=11) rfl ahJ
 have zM:e.ok 0 (bit H1.nx) H3:=wm w3.row (by omega)
 have l3_:=Mk w3
 have x3:=w3.nx
 refine WK.seq ?_
 refine WK.av ?_
 refine aR.all (λt' H'=>H3=H'/\GT t' [(0,iN v),(2,pA H.nx 0),(3,pA H1.nx 0)]) ?_ ?_
 ·simp +decide only[Su,iq,vJ,k9_,k8_,nX,D2,e3_,zM,l3_,Xo 2,go_sem]
 rintro t4 _ ⟨rfl,gV,Dn,zW, -⟩
 have hP:tj ((v:Nat):Int):=⟨by omega,by omega⟩
 have adW:∀ (K:Value->Hp->Prop) (H:Hp),EC dm (nT m bE) e 12 [iN v] H K=K (.agg ⟨cK (iI v)⟩) H:=λK H=>NV (w12 hP) rfl K
 have wv:∀ (t:T Value) (k:List Value->Go.Ev.R),t.get 17=.agg ⟨cK (iI v)⟩->bD (bH t [.int .i64 (0),.int .i64 (0),.int .i64 (0),.int .i64 (0),.bool false,.string ⟨#[]⟩,.int .i64 (0),.string ⟨#[]⟩,.int .i64 (0),.slice none 0 0,.slice none 0 0,.int .i64 (0),.int .i64 (0),.int .i64 (0)] [(0,11,(.tmp 17)),(11,1,(.const (.int .i64 (4)))),(12,1,(.const (.int .i64 (7)))),(13,1,(.const (.int .i64 (16))))]) k=k (cS v):=λt k g=>by
  simp only[bH,aP,af,g];rfl
 obtain⟨H4,n4⟩:=uX w3.fn (cS v) 76
 have x4:=n4.nx
 have l4_:=ks1 n4
 have r_:∀ t:T Value,t.get 18=.agg ⟨cS v⟩->bD (bH t [.int .i64 (0),.int .i64 (0),.int .i64 (0),.int .i64 (0),.bool false,.string ⟨#[]⟩,.int .i64 (0),.string ⟨#[]⟩,.int .i64 (0),.slice none 0 0,.slice none 0 0,.int .i64 (0),.int .i64 (0),.int .i64 (0)] [(0,14,.tmp 18)]) (λl=>aS (aG l 76 0) H3 (λi=>c_ (some (i,0)) 1 1 false) 0 0)=.val (sC H3.nx 0 1 2) H4 0 0:=λt g=>by
  rw[gL (R:=cS v) (k:=14) (by rw[af,g]) rfl rfl,bS];exact n4.al
 have r4:Row H4 H1.nx 28 0 A:=w3.row.mv n4.kept
 obtain⟨H5,e5,w5⟩:=fA (v:=sC H3.nx 0 1 2) rfl n4.kept.fn r4 (o:=5) (by omega)
 have e5_:i_ 1 (pA H1.nx (0+5)) (sC H3.nx 0 1 2) H4=.val U H5 0 (bit H1.nx):=e5
 have hA5:A.take 5++[sC H3.nx 0 1 2]++A.drop (5+1)=cR v H3.nx 2:=by
  rw[hA]
  unfold cR
  rw[show Nat.blt v 4=false from by rw[<-Bool.not_eq_true,an];omega,au,show Nat.blt v 8=true from (an _ _).2 hv.2,aj];rfl
 rw[hA5]at w5
 have zw:e.ok 0 (bit H1.nx) H5:=wm w5.row (by omega)
 have l5_:=Mk w5
 have x5:=w5.nx
 refine WK.seq ?_
 refine WK.av ?_
 refine aR.all (λt' H'=>H5=H'/\GT t' [(2,pA H.nx 0),(3,pA H1.nx 0)]) ?_ ?_
 ·simp +decide only[St,gV,Dn,zW,adW,wv,r_,l4_,e5_,zw,l5_,Xo 2,go_sem]
 rintro t5 _ ⟨rfl,zX,FZ, -⟩
 have aef:(cR v H3.nx 2).length=11:=by rw[<-hA5,List.length_append,List.length_append,List.length_take,List.length_drop,ahJ];rfl
 have m7_:=kO w5.row aef
 have Xv:e.ok (bit H1.nx) 0 H5:=pV w5.row (by omega)
 have r0:Row H5 H.nx 28 0 [.int .i64 (0),.int .i64 (0),.int .i64 (0),.int .i64 (0),.slice none 0 0,.slice none 0 0,.int .i64 (0),.int .i64 (0),.int .i64 (0),.bool false,.string ⟨#[]⟩]:=(((n1.row.mv n2.kept).bF (w3.dS _ (by omega))).mv n4.kept).bF (w5.dS _ (by omega))
 obtain⟨H6,e6,w6⟩:=jt w5.fn r0 (k:=11) rfl aef
 have Cm:e.ok 0 (bit H.nx) H6:=wm w6.row (by omega)
 have Uk:=Mk w6
 refine WK.seq ?_
 refine WK.av ?_
 refine aR.all (λt' H'=>H6=H'/\GT t' [(2,pA H.nx 0)]) ?_ ?_
 ·simp +decide only[Ss,zX,FZ,m7_,Xv,e6,Cm,Uk,Xo 2,go_sem]
 rintro t6 _ ⟨rfl,vI, -⟩
 have rd:qU H6 H.nx 0 11=some (cR v H3.nx 2):=by have:=kL w6.row;rwa [aef]at this
 refine WK.ret ⟨.inr rfl,rfl,[.agg ⟨cR v H3.nx 2⟩],Nat.lor (bit H.nx) 0,iT rfl vI rd lX,?_,H3.nx,rfl,?_,?_,by omega⟩
 ·rw[aF];exact pV w6.row (by omega)
 ·exact(n4.row.bF (w5.dS _ (by omega))).bF (w6.dS _ (by omega))
 ·refine wS.kept w6 (n:=H.nx) (Nat.le_refl _) ?_ (Nat.le_refl _)
  refine wS.kept w5 (n:=H1.nx) (Nat.le_refl _) ?_ (by omega)
  refine Kept.trans ?_ n4.kept
  exact wS.kept w3 (n:=H1.nx) (Nat.le_refl _) (n1.kept.trans n2.kept) (by omega)
end
def bh (f:Nat->List Value) (n:Nat):List Value:=((List.range n).map f).flatten
theorem fW (f:Nat->List Value) (n:Nat):bh f (n+1)=bh f n++f n:=by
 unfold bh
 rw[List.range_succ,List.map_append,List.flatten_append]
 simp
theorem h_ {f g:Nat->List Value} {n:Nat} (h:∀ i,i<n->f i=g i):bh f n=bh g n:=by
 unfold bh
 rw[List.map_congr_left λi hi=>h i (List.mem_range.1 hi)]
theorem fF {f:Nat->List Value} {w:Nat}:∀ {n:Nat},(∀ i,i<n->(f i).length=w)->(bh f n).length=n*w
 |0,_=>by simp[bh]
 |n+1,h=>by rw[fW,List.length_append,fF λi hi=>h i (by omega),h n (by omega),Nat.succ_mul]
theorem eC {f:Nat->List Value} {w:Nat}:∀ {n:Nat},(∀ i,i<n->(f i).length=w)->∀ {k j:Nat},k<n->j<w->(bh f n)[k*w+j]?=(f k)[j]?
 |0,_,k,j,hk,_=>by omega
 |n+1,h,k,j,hk,hj=>by
  have hl:=fF (f:=f) (w:=w) (n:=n) λi hi=>h i (by omega)
  rw[fW]
  by_cases e:k=n
  ·subst e
   rw[List.getElem?_append_right (by omega),hl,Nat.add_sub_cancel_left]
  ·have hkn:k<n:=by omega
   have hm:(k+1)*w<=n*w:=Nat.mul_le_mul_right _ hkn
   rw[Nat.succ_mul]at hm
   rw[List.getElem?_append_left (by omega)]
   exact eC (λi hi=>h i (by omega)) hkn hj
theorem Bk {f:Nat->List Value} {w n:Nat} (h:∀ i,i<n->(f i).length=w) {k:Nat} (hk:k<n):((bh f n).drop (k*w)).take w=f k:=by
 apply List.ext_getElem?
 intro j
 rw[List.getElem?_take]
 split
 ·rename_i hj
  rw[List.getElem?_drop,eC h hk hj]
 ·rename_i hj
  rw[List.getElem?_eq_none (by rw[h k hk];omega)]
theorem Bj {f g:Nat->List Value} {w n k:Nat} (hf:∀ i,i<n->(f i).length=w) (hg:∀ i,i<n->(g i).length=w) (hk:k<n) (he:∀ i,i<n->i≠k->g i=f i):(bh f n).take (k*w)++g k++(bh f n).drop (k*w+w)=bh g n:=by
 have hm:(k+1)*w<=n*w:=Nat.mul_le_mul_right _ hk
 rw[Nat.succ_mul]at hm
 have lf:=fF hf
 have lg:=fF hg
 have lk:=hg k hk
 apply List.ext_getElem?
 intro i
 by_cases h1:i<k*w
 ·rw[List.append_assoc,List.getElem?_append_left (by rw[List.length_take];omega),List.getElem?_take,if_pos h1]
  have hw:0<w:=by
   rcases Nat.eq_zero_or_pos w with h|h
   ·subst h;omega
   ·exact h
  have e:i=i / w*w+i % w:=(Nat.div_add_mod' i w).symm
  have hq:i / w<k:=Nat.div_lt_of_lt_mul (by rw[Nat.mul_comm];exact h1)
  rw[e,eC hf (by omega) (Nat.mod_lt _ hw),eC hg (by omega) (Nat.mod_lt _ hw),he _ (by omega) (by omega)]
 ·by_cases h2:i<k*w+w
  ·rw[List.append_assoc,List.getElem?_append_right (by rw[List.length_take];omega),List.length_take,Nat.min_eq_left (by omega),List.getElem?_append_left (by omega)]
   have e:i=k*w+(i-k*w):=by omega
   rw[e,eC hg hk (by omega),Nat.add_sub_cancel_left]
  ·rw[List.getElem?_append_right (by rw[List.length_append,List.length_take];omega),List.getElem?_drop,List.length_append,List.length_take,Nat.min_eq_left (by omega),lk]
   have e0:k*w+w+(i-(k*w+w))=i:=by omega
   rw[e0]
   by_cases h3:i<n*w
   ·have hw:0<w:=by
     rcases Nat.eq_zero_or_pos w with h|h
     ·subst h;omega
     ·exact h
    have e:i=i / w*w+i % w:=(Nat.div_add_mod' i w).symm
    have hq:i / w<n:=Nat.div_lt_of_lt_mul (by rw[Nat.mul_comm];exact h3)
    have hq2:k<i / w:=by
     rcases Nat.lt_or_ge k (i / w)with h|h
     ·exact h
     ·have:=Nat.mul_le_mul_right w h
      have:=Nat.mod_lt i hw
      omega
    rw[e,eC hf hq (Nat.mod_lt _ hw),eC hg hq (Nat.mod_lt _ hw),he _ hq (by omega)]
   ·rw[List.getElem?_eq_none (by omega),List.getElem?_eq_none (by omega)]
section
variable [dj]
inductive pT (N ty sz:Nat) (H:Hp) (b:Nat):Value->List Value->Nat->Prop where
 |nil:pT N ty sz H b (.slice none 0 0) [] 0
 |one (L:List Value) (n:Nat) (hb:N<=b) (hr:Row H b ty (sz+1) L) (hl:L.length=n*sz) (hn:0<n):pT N ty sz H b (cD b n (2*n+1)) L n
theorem pT.len {N ty sz:Nat} {H:Hp} {b n:Nat} {v:Value} {L:List Value} (h:pT N ty sz H b v L n) (H2:Hp):fY 1 v H2=.val (iN n) H2 0 0:=by cases h<;>rfl
theorem pT.mv {N ty sz:Nat} {H H':Hp} {b n:Nat} {v:Value} {L:List Value} (h:pT N ty sz H b v L n) (hk:N<=b->b<H.nx->H'.blk b=H.blk b):pT N ty sz H' b v L n:=by
 cases h with
 |nil=>exact .nil
 |one L n hb hr hl hn=>exact .one _ _ hb (hr.bF (hk hb hr.lt)) hl hn
theorem pT.app {e:Env} {N ty sz by_ n b b2:Nat} {H:Hp} {v:Value} {L new:List Value} (h:pT N ty sz H b v L n) (he:e.n0<=N) (hN:N<=H.nx) (hf:H.bG=true) (hr:Row H b2 ty 0 new) (hnew:new.length=sz) (h2:e.n0<=b2) (hby:by_<=200) (hn:n<=100000) :
 ∃ H1 r' w',iQ ty sz by_ v (sC b2 0 1 2) H=.val (cD H.nx (n+1) (2*(n+1)+1)) H1 r' w'/\e.ok r' w' H1/\H1.nx=H.nx+1/\pT N ty sz H1 H.nx (cD H.nx (n+1) (2*(n+1)+1)) (L++new) (n+1)/\H1.bG=true/\∀ c,c<H.nx->(c≠b\/c<N)->H1.blk c=H.blk c:=by
 have hc:eI H sz 1 (sC b2 0 1 2)=some (new,bit b2):=by
  have:=jf hr (o:=0) (n:=1) (sz:=sz) (c:=2) (by omega)
  rw[this,List.drop_zero,<-hnew,Nat.one_mul,List.take_length]
 have hok:e.ok (bit b2) 0 H:=pV hr h2
 have jK:gq (n+1) by_=true:=jX (by
  have:(2*(n+1)+768)*by_<=300000*200:=Nat.mul_le_mul (by omega) hby
  omega) (by omega)
 cases h with
 |nil =>
  refine⟨_,_,_,pL (aO hf) (n:=1) rfl (by decide) hc jK,⟨hok.rd,hok.wr,λc h=>by rw[aZ];have:=hok.lt c h;omega⟩,aZ _ _,?_,by rw[cg];exact hf,λc eG _=>a_ (aO hf) _ eG⟩
  exact .one _ _ hN (by rw[List.nil_append];exact fq (aO hf) new ty (sz+1)) (by rw[List.nil_append,hnew];omega) (by omega)
 |one L n hb hrow hl hn0 =>
  refine⟨_,_,_,qJ (aO hf) hrow (m:=n) (n:=1) hl rfl (by decide) hc jK,?_,by rw[aZ,cW],?_,by rw[cg,sx];exact hf,λc eG hcb=>?_⟩
  ·have h2:=hok.lor (Env.ok.write (e:=e) (b:=b) hrow.lt (λh=>absurd h (by omega))) (Nat.le_refl _)
   rw[aF,aK]at h2
   exact⟨h2.rd,h2.wr,λc lz=>by rw[aZ,cW];have:=h2.lt c lz;omega⟩
  ·refine .one _ _ hN ?_ (by rw[List.length_append,hl,hnew,Nat.succ_mul]) (by omega)
   have:=fq (H:=H.put b .no) (by rw[fS];exact(aO hf)) (L++new) ty (sz+1)
   rwa [cW]at this
  ·have:c≠b:=by omega
   rw[a_ (by rw[fS];exact(aO hf)) _ (by rw[cW];exact eG),j9 (vc hf) _ hrow.lt this]
end
end Go.Proofs.CA
end
