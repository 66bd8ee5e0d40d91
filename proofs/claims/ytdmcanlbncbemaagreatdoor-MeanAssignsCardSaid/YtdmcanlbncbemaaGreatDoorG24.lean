/-
 A part of the proof that pliantlaw16.MeanAssigns returns true and leaves its arguments alone. Conditions: those of the card in the last text.
-/
import Derived.Test.YtdmcanlbncbemaaGreatDoorG23
set_option linter.unusedSimpArgs false
set_option linter.unusedVariables false
set_option linter.unusedSectionVars false
set_option maxRecDepth 100000
set_option maxHeartbeats 8000000
noncomputable section
namespace Go.Proofs.CA
open Go Go.Ev Go.Proofs Go.Proofs.MN
theorem PT {f g:Nat->List Value} {w n k j:Nat} {v:Value} (hf:∀ i,i<n->(f i).length=w) (hk:k<n) (hj:j<w) (hg:g k=(f k).set j v) (he:∀ i,i<n->i≠k->g i=f i):(bh f n).set (k*w+j) v=bh g n:=by
 have hm:(k+1)*w<=n*w:=Nat.mul_le_mul_right _ hk
 rw[Nat.succ_mul]at hm
 have lf:=fF hf
 have lgi:∀ i,i<n->(g i).length=w:=λi hi=>by
  by_cases e:i=k
  ·subst e;rw[hg,List.length_set];exact hf i hi
  ·rw[he i hi e];exact hf i hi
 have lg:=fF lgi
 apply List.ext_getElem?
 intro i
 by_cases h3:i<n*w
 ·have hw:0<w:=by omega
  have e:i=i / w*w+i % w:=(Nat.div_add_mod' i w).symm
  have hq:i / w<n:=Nat.div_lt_of_lt_mul (by rw[Nat.mul_comm];exact h3)
  have hr:=Nat.mod_lt i hw
  rw[List.getElem?_set]
  by_cases h1:i / w=k
  ·by_cases h2:i % w=j
   ·have:k*w+j=i:=by rw[e,h1,h2]
    rw[if_pos this,if_pos (by omega),<-this,eC lgi hk hj,hg,List.getElem?_set,if_pos rfl,if_pos (by rw[hf k hk];exact hj)]
   ·have:k*w+j≠i:=λh=>by rw[e,h1]at h;omega
    rw[if_neg this,e,eC hf hq hr,eC lgi hq hr,h1,hg,List.getElem?_set,if_neg (λh=>h2 h.symm)]
  ·have:k*w+j≠i:=λh=>by
    rw[<-h]at h1
    rw[Nat.mul_comm k w,Nat.mul_add_div hw,Nat.div_eq_of_lt hj]at h1
    omega
   rw[if_neg this,e,eC hf hq hr,eC lgi hq hr,he _ hq h1]
 ·rw[List.getElem?_eq_none (by rw[List.length_set];omega),List.getElem?_eq_none (by omega)]
def kn (st:Nat->List Value) (k i:Nat):List Value:=if i<k then (st i).set 1 (iN (10*i+10))else st i
section
attribute [local go_sem] au aj GT dF gF aR fe fC Yj Yk Yl Ym Yn Yo Yp Yq Yr and_self and_true cV cU cQ cP cN cM bx ig ic de dR aP bw af cJ cI bP cH cG cF cE if_false if_true dM dD bM run true_and ck bL bK bJ bI bf bu l9 vj
variable {m:Nat} {bE:List UInt8} {e:Env}
set_option maxRecDepth 10000 in
set_option maxHeartbeats 4000000 in
theorem Zk {H:Hp} (hf:H.bG=true) (he:e.n0<=H.nx) {pb bb n c:Nat} {st:Nat->List Value} (hp:Row H pb 49 0 (Cz++[cD bb n c,aT])) (hb:Row H bb 41 12 (bh st n)) (hst:∀ i,i<n->(st i).length=11) (hn:n<=1000) (hpb:e.n0<=pb) (hbb:e.n0<=bb) :
 @EC SN dm (nT m bE) e 19 [cD pb 1 2] H λv H'=>∃ f,v=.agg ⟨[cD pb 1 2,iI 0,aT,cD f 1 2,aT,aT]⟩/\Row H' f 90 0 [.string ⟨#[83,89,83,80,82,73,78,84]⟩,iI 2]/\Row H' bb 41 12 (bh (kn st n) n)/\H'.bG=true/\H.nx<=H'.nx/\H.nx<=f/\∀ b,b<H.nx->b≠bb->H'.blk b=H.blk b:=by
 letI:=SN
 refine EC.i1 aof OS OT (XP (by decide) _ _) (by show 1<=36;decide) λt0 g0=>?_
 show WK dm (nT m bE) e ⟨2,36,none,false⟩ Ic t0 [] H _
 unfold Ic
 obtain⟨H1,n1⟩:=nW hf [.slice none 0 0,.int .i64 (0),.slice none 0 0,.slice none 0 0,.slice none 0 0,.slice none 0 0] 61
 have x1:=n1.nx
 have lQ:=n1.al
 have Pm:=IJ n1
 have lpb:=hp.lt
 have lbb:=hb.lt
 have anh:pb≠bb:=λh=>by
  subst h
  obtain⟨t,e1,_⟩:=hp
  obtain⟨t2,e2,_⟩:=hb
  rw[e1]at e2;injection e2 with _ _ e3;cases e3
 refine WK.seq ?_
 refine WK.av ?_
 refine aR.all (λt' H'=>H1=H'/\GT t' [(0,cD pb 1 2),(2,pA H.nx 0)]) ?_ ?_
 ·simp +decide only[Lo,g0,lQ,Pm,Xo 2,go_sem]
 rintro t1 _ ⟨rfl,dQ,zY, -⟩
 have p1:=hp.mv n1.kept
 have b1:=hb.mv n1.kept
 refine WK.seq ?_
 refine WK.seq ?_
 refine WK.av ?_
 have YP:∀ Hq,fY 1 (cD pb 1 2) Hq=.val (iN 1) Hq 0 0:=λ_=>rfl
 refine aR.all (λt' H'=>H1=H'/\GT t' [(0,cD pb 1 2),(2,pA H.nx 0),(6,iN 1),(7,iN 0)]) ?_ ?_
 ·simp +decide only[Ln,dQ,zY,YP,Xo 2,go_sem]
  exact rfl
 rintro t2 _ ⟨rfl,dV,oS,lC,oP, -⟩
 refine WK.block (WK.loop ?_)
 unfold Fc
 refine WK.seq ?_
 refine WK.av ?_
 have uH:decide (((0:Nat):Int)<((1:Nat):Int))=true:=rfl
 refine aR.all (λt' H'=>H1=H'/\GT t' [(0,cD pb 1 2),(2,pA H.nx 0),(6,iN 1),(7,iN 0),(8,.bool true)]) ?_ ?_
 ·simp +decide only[Co,dV,oS,lC,oP,uH,Xo 2,go_sem]
 rintro t3 _ ⟨rfl,iq,vJ,nZ,lB,aeB, -⟩
 refine WK.seq ?_
 refine WK.cond (v:=true) (by rw[af,aeB];rfl) ?_
 refine WK.skip ?_
 refine WK.seq ?_
 refine WK.block ?_
 refine WK.seq ?_
 refine WK.av ?_
 refine aR.all (λt' H'=>H1=H'/\GT t' [(0,cD pb 1 2),(2,pA H.nx 0),(3,iN 0),(6,iN 1),(7,iN 0)]) ?_ ?_
 ·simp +decide only[Lm,iq,vJ,nZ,lB,Xo 2,go_sem]
 rintro t4 _ ⟨rfl,gV,Dn,zW,uw,sN, -⟩
 refine WK.seq ?_
 refine WK.av ?_
 have q2_:∀ Hq,eT 7 (cD pb 1 2) (iN 0) Hq=.val (pA pb 0) Hq 0 0:=λ_=>rfl
 have q3_:dA (pA pb (0+5)) H1=.val (cD bb n c) H1 (bit pb) 0:=aV p1 rfl
 have zM:e.ok (bit pb) 0 H1:=pV p1 hpb
 have q4_:∀ Hq,fY 1 (cD bb n c) Hq=.val (iN n) Hq 0 0:=λ_=>rfl
 refine aR.all (λt' H'=>H1=H'/\GT t' [(0,cD pb 1 2),(2,pA H.nx 0),(3,iN 0),(6,iN 1),(7,iN 0),(15,iN n),(16,iN 0)]) ?_ ?_
 ·simp +decide only[Ll,gV,Dn,zW,uw,sN,q2_,q3_,zM,q4_,Xo 2,go_sem]
  exact rfl
 rintro t5 _ ⟨rfl,kz,zX,FZ,sO,yw,F_,sQ, -⟩
 refine WK.block (WK.eR (λmm t' ds' H'=>ds'=[]/\∃ k:Nat,mm=n-k/\k<=n/\H'.bG=true/\H'.nx=H1.nx/\Row H' bb 41 12 (bh (kn st k) n)/\(∀ b,b≠bb->H'.blk b=H1.blk b)/\t'.get 0=cD pb 1 2/\t'.get 2=pA H.nx 0/\t'.get 3=iN 0/\t'.get 6=iN 1/\t'.get 7=iN 0/\t'.get 15=iN n/\t'.get 16=iN k) ?_ _ t5 [] H1 ⟨rfl,0,rfl,Nat.zero_le _,n1.kept.fn,rfl,?_,λ_ _=>rfl,kz,zX,FZ,sO,yw,F_,sQ⟩)
 case refine_2 =>
  have:bh (kn st 0) n=bh st n:=h_ λi _=>by unfold kn;rw[if_neg (by omega)]
  rw[this];exact b1
 rintro mm t6 ds_ Hl ⟨rfl,k,rfl,hkn,fl,nl,bl,ol,iK,vI,Dl,oQ,qE,u_,MM⟩
 unfold Lp
 refine WK.seq ?_
 by_cases hk:k<n
 case neg =>
  obtain rfl:k=n:=by omega
  refine WK.av ?_
  have d_:decide (((k:Nat):Int)<((k:Nat):Int))=false:=decide_eq_false (by omega)
  refine aR.all (λt' H'=>Hl=H'/\GT t' [(0,cD pb 1 2),(2,pA H.nx 0),(6,iN 1),(7,iN 0),(17,.bool false)]) ?_ ?_
  ·simp +decide only[Cn,iK,vI,oQ,qE,u_,MM,d_,Xo 2,go_sem]
  rintro t7 _ ⟨rfl,iA,sP,vF,yu,yK, -⟩
  refine WK.seq ?_
  refine WK.cond (v:=false) (by rw[af,yK];rfl) ?_
  refine WK.exit ?_
  show WK _ _ _ _ _ _ _ _ _
  refine WK.av ?_
  have w1_:Value.int .i64 (aN .i64 (((0:Nat):Int)+(1:Int)))=.int .i64 ((1:Nat):Int):=rfl
  refine aR.all (λt' H'=>Hl=H'/\GT t' [(0,cD pb 1 2),(2,pA H.nx 0),(6,iN 1),(7,iN 1)]) ?_ ?_
  ·simp +decide only[Fb,iA,sP,vF,yu,w1_,Xo 2,go_sem]
  rintro t8 _ ⟨rfl,uA,Dm,yx,Dk, -⟩
  show WK _ _ _ _ _ _ _ _ _
  refine WK.loop ?_
  refine WK.seq ?_
  refine WK.av ?_
  have Qe:decide (((1:Nat):Int)<((1:Nat):Int))=false:=rfl
  refine aR.all (λt' H'=>Hl=H'/\GT t' [(0,cD pb 1 2),(2,pA H.nx 0),(8,.bool false)]) ?_ ?_
  ·simp +decide only[Co,uA,Dm,yx,Dk,Qe,Xo 2,go_sem]
  rintro t9 _ ⟨rfl,uz,yD,aey, -⟩
  refine WK.seq ?_
  refine WK.cond (v:=false) (by rw[af,aey];rfl) ?_
  refine WK.exit ?_
  show WK _ _ _ _ _ _ _ _ _
  obtain⟨F,hF⟩:∃ F:List Value,F=[.string ⟨#[83,89,83,80,82,73,78,84]⟩,iI 2]:=⟨_,rfl⟩
  obtain⟨H2,n2⟩:=uX fl F 90
  have x2:=n2.nx
  have D2:=ks1 n2
  have nX:∀ (t:T Value) (k:List Value->Go.Ev.R),bD (bH t [.string ⟨#[]⟩,.int .i64 (0)] [(0,1,(.const (.string ⟨#[83,89,83,80,82,73,78,84]⟩))),(1,1,(.const (.int .i64 (2))))]) k=k F:=λt k=>by rw[hF];rfl
  have CC:∀ t:T Value,t.get 33=.agg ⟨F⟩->bD (bH t [.string ⟨#[]⟩,.int .i64 (0)] [(0,2,.tmp 33)]) (λl=>aS (aG l 90 0) Hl (λi=>c_ (some (i,0)) 1 1 false) 0 0)=.val (sC Hl.nx 0 1 2) H2 0 0:=λt g=>by
   rw[gL (R:=F) (k:=2) (by rw[af,g]) (by rw[hF];rfl) rfl,bS];exact n2.al
  obtain⟨V,hV⟩:∃ V:List Value,V=[cD pb 1 2,iI 0,aT,sC Hl.nx 0 1 2,aT,aT]:=⟨_,rfl⟩
  have wA:∀ (t:T Value) (k:List Value->Go.Ev.R),t.get 32=cD pb 1 2->t.get 34=sC Hl.nx 0 1 2->bD (bH t [.slice none 0 0,.int .i64 (0),.slice none 0 0,.slice none 0 0,.slice none 0 0,.slice none 0 0] [(0,1,(.tmp 32)),(3,1,(.tmp 34))]) k=k V:=λt k g g'=>by
   simp only[bH,af,g,g'];rw[hV];rfl
  have ang:H.nx≠bb:=by omega
  have r2:Row H2 H.nx 61 0 [.slice none 0 0,.int .i64 (0),.slice none 0 0,.slice none 0 0,.slice none 0 0,.slice none 0 0]:=(n1.row.bF (ol _ ang)).mv n2.kept
  obtain⟨H6,e6,w6⟩:=jt n2.kept.fn r2 (k:=6) rfl (show V.length=6 by rw[hV];rfl)
  have Cm:e.ok 0 (bit H.nx) H6:=wm w6.row (by omega)
  have Uk:=Mk w6
  have x6:=w6.nx
  refine WK.seq ?_
  refine WK.av ?_
  refine aR.all (λt' H'=>H6=H'/\GT t' [(2,pA H.nx 0)]) ?_ ?_
  ·simp +decide only[Fa,uz,yD,nX,CC,wA,D2,e6,Cm,Uk,Xo 2,go_sem]
  rintro ta _ ⟨rfl,Je, -⟩
  have rd:qU H6 H.nx 0 6=some V:=by have:=kL w6.row;rw[hV]at this ⊢;exact this
  refine WK.ret ⟨.inr rfl,rfl,[.agg ⟨V⟩],Nat.lor (bit H.nx) 0,iT rfl Je rd lX,?_,Hl.nx,by rw[hV];rfl,?_,?_,w6.fn,by omega,by omega,λb jK wH=>?_⟩
  ·rw[aF];exact pV w6.row (by omega)
  ·have:=n2.row.bF (w6.dS _ (by omega));rw[hF]at this;exact this
  ·exact(bl.mv n2.kept).bF (w6.dS _ (by omega))
  ·rw[w6.dS _ (by omega),n2.kept.old _ (by omega),ol _ wH,n1.kept.old _ jK]
 case pos =>
  refine WK.av ?_
  have d_:decide (((k:Nat):Int)<((n:Nat):Int))=true:=decide_eq_true (by omega)
  refine aR.all (λt' H'=>Hl=H'/\GT t' [(0,cD pb 1 2),(2,pA H.nx 0),(3,iN 0),(6,iN 1),(7,iN 0),(15,iN n),(16,iN k),(17,.bool true)]) ?_ ?_
  ·simp +decide only[Cn,iK,vI,Dl,oQ,qE,u_,MM,d_,Xo 2,go_sem]
  rintro t7 _ ⟨rfl,iA,sP,Jd,vF,yu,F9,F4,yK, -⟩
  refine WK.seq ?_
  refine WK.cond (v:=true) (by rw[af,yK];rfl) ?_
  refine WK.skip ?_
  refine WK.seq ?_
  refine WK.block ?_
  refine WK.seq ?_
  refine WK.av ?_
  refine aR.all (λt' H'=>Hl=H'/\GT t' [(0,cD pb 1 2),(2,pA H.nx 0),(3,iN 0),(4,iN k),(6,iN 1),(7,iN 0),(15,iN n),(16,iN k)]) ?_ ?_
  ·simp +decide only[Lj,iA,sP,Jd,vF,yu,F9,F4,Xo 2,go_sem]
  rintro t8 _ ⟨rfl,uA,Dm,Jc,I_,yx,Dk,yO,Vy, -⟩
  refine WK.av ?_
  have pl:Row Hl pb 49 0 (Cz++[cD bb n c,aT]):=p1.bF (ol _ anh)
  have q5_:dA (pA pb (0+5)) Hl=.val (cD bb n c) Hl (bit pb) 0:=aV pl rfl
  have zw:e.ok (bit pb) 0 Hl:=pV pl hpb
  have w2_:∀ Hq,R.o (dK .mul (.int .i64 10) (iN k)) Hq=.val (iN (10*k)) Hq 0 0:=λHq=>by
   show Go.Ev.R.o (some (.int .i64 (aN .i64 (10*((k:Nat):Int))))) Hq=_
   rw[show Value.int .i64 (aN .i64 (10*((k:Nat):Int)))=iN (10*k)from wF (by omega)];rfl
  have w3_:Value.int .i64 (aN .i64 (((10*k:Nat):Int)+(10:Int)))=.int .i64 ((10*k+10:Nat):Int):=wF (by omega)
  have q6_:∀ Hq,eT 11 (cD bb n c) (iN k) Hq=.val (pA bb (k*11)) Hq 0 0:=λHq=>by
   show eT 11 (.slice (some ⟨bb,0,none⟩) n c) (iN k) Hq=_
   rw[dW (by omega) (by omega)];simp
  have IW:∀ i,i<n->(kn st k i).length=11:=λi hi=>by
   unfold kn
   split
   ·rw[List.length_set];exact hst i hi
   ·exact hst i hi
  have hlen:=fF IW
  have ao':(k+1)*11<=n*11:=Nat.mul_le_mul_right _ hk
  obtain⟨H2,e2,w2⟩:=fA (v:=iN (10*k+10)) rfl fl bl (o:=k*11+1) (by omega)
  have Tn:e.ok 0 (bit bb) H2:=wm w2.row hbb
  have D2:=Mk w2
  have x2:=w2.nx
  have hset:(bh (kn st k) n).take (k*11+1)++[iN (10*k+10)]++(bh (kn st k) n).drop (k*11+1+1)=bh (kn st (k+1)) n:=by
   rw[<-PT (g:=kn st (k+1)) (k:=k) (j:=1) (v:=iN (10*k+10)) IW hk (by omega) (by
    unfold kn;rw[if_pos (by omega),if_neg (by omega)]) (λi hi hne=>by
    unfold kn
    by_cases h:i<k
    ·rw[if_pos (by omega),if_pos h]
    ·rw[if_neg (by omega),if_neg h])]
   rw[List.set_eq_take_append_cons_drop,if_pos (by omega)];simp
  rw[hset]at w2
  refine aR.all (λt' H'=>H2=H'/\GT t' [(0,cD pb 1 2),(2,pA H.nx 0),(3,iN 0),(6,iN 1),(7,iN 0),(15,iN n),(16,iN k)]) ?_ ?_
  ·simp +decide only[Li,uA,Dm,Jc,I_,yx,Dk,yO,Vy,q2_,q5_,zw,w2_,w3_,q6_,e2,Tn,D2,Xo 2,go_sem]
  rintro t9 _ ⟨rfl,uz,yD,Jb,I0,UX,yN,Vx, -⟩
  refine WK.av ?_
  have w4_:Value.int .i64 (aN .i64 (((k:Nat):Int)+(1:Int)))=.int .i64 ((k+1:Nat):Int):=wF (by omega)
  refine aR.all (λt' H'=>H2=H'/\GT t' [(0,cD pb 1 2),(2,pA H.nx 0),(3,iN 0),(6,iN 1),(7,iN 0),(15,iN n),(16,iN (k+1))]) ?_ ?_
  ·simp +decide only[Lh,uz,yD,Jb,I0,UX,yN,Vx,w4_,Xo 2,go_sem]
  rintro ta _ ⟨rfl,Jp,Je,U8,an3,aeC,F8,ajv, -⟩
  exact⟨_,by omega,rfl,k+1,rfl,by omega,w2.fn,by omega,w2.row,λb hb=>by rw[w2.dS _ hb,ol _ hb],Jp,Je,U8,an3,aeC,F8,ajv⟩
end
structure Act where
 v:Nat
 ld:Bool
 n:Int
def vOf (x:Int):Nat:=((x.tmod 12+12).tmod 12).toNat
def nOf (y:Int):Int:=y.tmod 32768
def qT (x:Int×Int):List Act:=⟨vOf x.1,false,nOf x.2⟩::(if (nOf x.2).tmod 3=0 then [⟨vOf x.1,true,nOf x.2⟩]else [])
def gh (l:List (Int×Int)):List Act:=l.flatMap qT
def mg (f:Nat->Int) (a:Act):Nat->Int:=λu=>if u=a.v/\a.ld=false then a.n else f u
def dy (l:List Act):Nat->Int:=l.foldl mg λ_=>0
theorem qz (l:List Act) (a:Act):dy (l++[a])=mg (dy l) a:=by unfold dy;rw[List.foldl_append];rfl
theorem Rj (x:Int):((vOf x:Nat):Int)=(x.tmod 12+12).tmod 12:=by
 have:=Int.tmod_lt_of_pos x (show(0:Int)<12 by decide)
 have h2 : -12<x.tmod 12:=by
  have:=Int.lt_tmod_of_pos x (show(0:Int)<12 by decide)
  omega
 have h3:=Int.tmod_nonneg 12 (show(0:Int)<=x.tmod 12+12 by omega)
 unfold vOf;omega
theorem acd (x:Int):vOf x<12:=by
 have h:=Rj x
 have:=Int.tmod_lt_of_pos (x.tmod 12+12) (show(0:Int)<12 by decide)
 omega
theorem Im (y:Int):tj (nOf y):=by
 have h1:=Int.tmod_lt_of_pos y (show(0:Int)<32768 by decide)
 have h2:=Int.lt_tmod_of_pos y (show(0:Int)<32768 by decide)
 unfold tj nOf;omega
theorem zj:∀ l:List (Int×Int),(gh l).length<=2*l.length
 | []=>by simp[gh]
 |x::l=>by
  have ih:=zj l
  have h:(qT x).length<=2:=by unfold qT;split<;>simp
  have e:gh (x::l)=qT x++gh l:=rfl
  rw[e,List.length_append,List.length_cons];omega
theorem QF {l:List (Int×Int)} {i:Nat} {x:Int×Int} (h:l[i]?=some x):gh (l.take (i+1))=gh (l.take i)++qT x:=by
 rw[List.take_add_one,h]
 unfold gh
 rw[List.flatMap_append]
 simp
section
variable [dj]
def zm (H:Hp) (b:Nat) (L:List Value):Prop:=∃ t ty op lo hi,H.blk b=.cells t L.length ty op lo hi/\∀ (i:Nat) v,L[i]?=some v->t.get i=v
theorem zm.lt {H:Hp} {b:Nat} {L:List Value} (h:zm H b L):b<H.nx:=by
 obtain⟨t,ty,op,lo,hi,e,_⟩:=h
 exact(dh (by rw[e];exact λh=>by cases h)).1
theorem zm.bF {H H':Hp} {b:Nat} {L:List Value} (h:zm H b L) (e:H'.blk b=H.blk b):zm H' b L:=by
 obtain⟨t,ty,op,lo,hi,e1,h1⟩:=h
 exact⟨t,ty,op,lo,hi,e.trans e1,h1⟩
theorem ag0 {H:Hp} {b o k:Nat} {L:List Value} (h:zm H b L) (hle:o+k<=L.length):ia k (pA b o) H=.val (.agg ⟨(L.drop o).take k⟩) H (bit b) 0:=by
 obtain⟨t,ty,op,lo,hi,e,h1⟩:=h
 have hr:qU H b o k=some ((L.drop o).take k):=by
  unfold qU
  rw[e]
  simp only[]
  rw[(aE _ _).2 hle,aj,xF h1 k o hle]
 show(match qU H b o k with|some l=>R.val (.agg ⟨l⟩) H (bit b) 0|none=>.fail)=_
 rw[hr]
structure Mv (P:Nat->Prop) (N:Nat) (H H':Hp):Prop where
 fn:H'.bG=true
 nx:H.nx<=H'.nx
 lo:∀ c,c<N->H'.blk c=H.blk c
 row:∀ {c ty op:Nat} {L:List Value},¬ P ty->Row H c ty op L->Row H' c ty op L
theorem Mv.trans {P:Nat->Prop} {N:Nat} {H H1 H2:Hp} (h:Mv P N H H1) (k:Mv P N H1 H2):Mv P N H H2:=⟨k.fn,Nat.le_trans h.nx k.nx,λc hc=>by rw[k.lo c hc,h.lo c hc],λhp hr=>k.row hp (h.row hp hr)⟩
theorem Mv.mono {P Q:Nat->Prop} {N:Nat} {H H1:Hp} (h:Mv P N H H1) (hq:∀ t,P t->Q t):Mv Q N H H1:=⟨h.fn,h.nx,h.lo,λhp hr=>h.row (λhh=>hp (hq _ hh)) hr⟩
theorem Mv.refl {P:Nat->Prop} {N:Nat} {H:Hp} (hf:H.bG=true):Mv P N H H:=⟨hf,Nat.le_refl _,λ_ _=>rfl,λ_ h=>h⟩
theorem Mv.kept {P:Nat->Prop} {N:Nat} {H H1:Hp} (h:Kept H H1) (hN:N<=H.nx):Mv P N H H1:=⟨h.fn,h.nx,λc hc=>h.old c (by omega),λ_ hr=>hr.mv h⟩
theorem HN {H:Hp} {c ty ty' op op':Nat} {L L':List Value} (h:Row H c ty op L) (h':Row H c ty' op' L'):ty=ty':=by
 obtain⟨t,e,_⟩:=h
 obtain⟨t2,e2,_⟩:=h'
 rw[e]at e2;injection e2
theorem Mv.wr {N b ty op:Nat} {H H1:Hp} {L L0:List Value} (h:wS H b ty op L H1) (hr:Row H b ty op L0) (hb:N<=b):Mv (λt=>t=ty) N H H1 :=
 ⟨h.fn,by rw[h.nx];exact Nat.le_refl _,λc hc=>h.dS c (by omega),λ{c ty' op' L'} hp hr'=>hr'.bF (h.dS c λe=>by subst e;exact hp (HN hr' hr))⟩
theorem pT.app' {e:Env} {N ty sz by_ n b b2:Nat} {H:Hp} {v:Value} {L new:List Value} (h:pT N ty sz H b v L n) (he:e.n0<=N) (hN:N<=H.nx) (hf:H.bG=true) (hr:Row H b2 ty 0 new) (hnew:new.length=sz) (h2:e.n0<=b2) (hby:by_<=200) (hn:n<=100000) :
 ∃ H1 r' w',iQ ty sz by_ v (sC b2 0 1 2) H=.val (cD H.nx (n+1) (2*(n+1)+1)) H1 r' w'/\e.ok r' w' H1/\H1.nx=H.nx+1/\pT N ty sz H1 H.nx (cD H.nx (n+1) (2*(n+1)+1)) (L++new) (n+1)/\Mv (λt=>t=ty) N H H1:=by
 obtain⟨H1,r',w',a1,a2,a3,a4,a5,a6⟩:=h.app he hN hf hr hnew h2 hby hn
 refine⟨H1,r',w',a1,a2,a3,a4,a5,by omega,λc hc=>a6 c (by omega) (.inr hc),λ{c ty' op' L'} hp hr'=>?_⟩
 cases h with
 |nil =>
  have hc:eI H sz 1 (sC b2 0 1 2)=some (new,bit b2):=by
   have:=jf hr (o:=0) (n:=1) (sz:=sz) (c:=2) (by omega)
   rw[this,List.drop_zero,<-hnew,Nat.one_mul,List.take_length]
  have jK:gq (0+1) by_=true:=jX (by
   have:(2*(0+1)+768)*by_<=300000*200:=Nat.mul_le_mul (by omega) hby
   omega) (by omega)
  have:=pL (ty:=ty) (aO hf) (n:=1) rfl (by decide) hc jK
  rw[this]at a1
  cases a1
  exact hr'.bF (a_ (aO hf) _ hr'.lt)
 |one L n hb hrow hl hn0=>exact hr'.bF (a6 c hr'.lt (.inl λe=>by subst e;exact hp (HN hr' hrow)))
theorem pT.afL {N ty sz by_ n b b2:Nat} {H H1:Hp} {v x:Value} {L new:List Value} {r' w':Nat} (h:pT N ty sz H b v L n) (hf:H.bG=true) (hr:Row H b2 ty 0 new) (hnew:new.length=sz) (hby:by_<=200) (hn:n<=100000) (a1:iQ ty sz by_ v (sC b2 0 1 2) H=.val x H1 r' w'):∀ c L',Row H c ty 0 L'->Row H1 c ty 0 L':=by
 intro c L' hr'
 have hc:eI H sz 1 (sC b2 0 1 2)=some (new,bit b2):=by
  have:=jf hr (o:=0) (n:=1) (sz:=sz) (c:=2) (by omega)
  rw[this,List.drop_zero,<-hnew,Nat.one_mul,List.take_length]
 have jK:gq (n+1) by_=true:=jX (by
  have:(2*(n+1)+768)*by_<=300000*200:=Nat.mul_le_mul (by omega) hby
  omega) (by omega)
 cases h with
 |nil =>
  rw[pL (ty:=ty) (aO hf) (n:=1) rfl (by decide) hc jK]at a1
  cases a1
  exact hr'.bF (a_ (aO hf) _ hr'.lt)
 |one L n hb hrow hl hn0 =>
  have a0:=qJ (aO hf) hrow (m:=n) (n:=1) hl rfl (by decide) hc jK
  have a1:=a0.symm.trans a1
  cases a1
  refine hr'.bF ?_
  have hne:c≠b:=λe=>by
   subst e
   obtain⟨t,e1,_⟩:=hr'
   obtain⟨t2,e2,_⟩:=hrow
   rw[e1]at e2;injection e2 with _ _ _ e3;cases e3
  rw[a_ (by rw[fS];exact(aO hf)) _ (by rw[cW];exact hr'.lt),j9 (vc hf) _ hrow.lt hne]
theorem zp.mv {P:Nat->Prop} {N:Nat} {H H1:Hp} (g:zp H) (h:Mv P N H H1) (hN:15<=N):zp H1:=⟨(h.lo 0 (by omega)).trans g.b0,(h.lo 2 (by omega)).trans g.b2,(h.lo 3 (by omega)).trans g.b3,(h.lo 6 (by omega)).trans g.b6⟩
theorem Ke.mv {P:Nat->Prop} {N:Nat} {H H1:Hp} {a:iH} (p:Ke H a) (h:Mv P N H H1) (h1:¬ P 28) (h2:¬ P 35) (h3:¬ P 76):Ke H1 a:=⟨p.v,p.n,h.row h1 p.r,h.row h2 p.e,λx=>h.row h3 (p.s x),λx=>h.row h1 (p.l x),λx y=>h.row h3 (p.t x y)⟩
theorem pT.mvM {P:Nat->Prop} {N ty sz:Nat} {H H':Hp} {b n:Nat} {v:Value} {L:List Value} (h:pT N ty sz H b v L n) (k:Mv P N H H') (hp:¬ P ty):pT N ty sz H' b v L n:=by
 cases h with
 |nil=>exact .nil
 |one L n hb hr hl hn=>exact .one _ _ hb (k.row hp hr) hl hn
end
section
variable {m:Nat} {bE:List UInt8} {e:Env}
theorem we {H:Hp} (hf:H.bG=true) (he:e.n0<=H.nx) {v:Nat} (hv:v<12):@EC SN dm (nT m bE) e 23 [iN v] H λx H'=>∃ s,x=.agg ⟨cR v s 2⟩/\((Nat.blt 3 v&&Nat.blt v 8)=true->Row H' s 76 0 (cS v))/\Kept H H':=by
 letI:=SN
 by_cases h:4<=v/\v<8
 ·exact(YK hf he h).mono λx H' _ ⟨s,h1,h2,h3,_⟩=>⟨s,h1,λ_=>h2,h3⟩
 ·refine l8 (w23 (m:=m) (bE:=bE) (v:=v) (H:=H) (by omega)) rfl (Env.ok.zero _ _) (Nat.le_refl _) ⟨0,rfl,λhh=>?_,Kept.refl hf⟩
  simp only[Bool.and_eq_true,an]at hh
  omega
theorem DJ (v s:Nat):(cR v s 2).length=11:=by
 unfold cR
 cases Nat.blt v 4 with
 |true=>rfl
 |false=>cases Nat.blt v 8<;>rfl
theorem ab2 (v s:Nat):((cR v s 2).drop 6).take 5=kY:=by
 unfold cR
 cases Nat.blt v 4 with
 |true=>rfl
 |false=>cases Nat.blt v 8<;>rfl
end
end Go.Proofs.CA
end
noncomputable section
namespace Go.Proofs.CA
open Go Go.Ev Go.Proofs Go.Proofs.MN
open Go.Proofs.CN (stx)
section
attribute [local go_sem] au aj GT dF gF aR fe Yj Yk Yl Ym Yn Yo Yp Yq Yr and_self and_true cV cU cQ cP cN cM bx ig ic de dR aP bw af cJ cI bP cH cG cF cE if_false if_true dM dD bM run true_and ck bL bK bJ bI bf bu l9 vj
variable {m:Nat} {bE:List UInt8} {e:Env}
def iM (l:List (Int×Int)):List Value:=(l.map λx=>[Value.int .i64 x.1,.int .i64 x.2]).flatten
theorem pn:∀ l:List (Int×Int),(iM l).length=2*l.length
 | []=>rfl
 |x::l=>by
  have:iM (x::l)=[Value.int .i64 x.1,.int .i64 x.2]++iM l:=rfl
  rw[this,List.length_append,pn l,List.length_cons];simp<;>omega
theorem xm:∀ (l:List (Int×Int)) (i:Nat) (x:Int×Int),l[i]?=some x->((iM l).drop (2*i)).take 2=[.int .i64 x.1,.int .i64 x.2]
 |y::l,0,x,h=>by cases h;rfl
 |y::l,i+1,x,h=>by
  have e:iM (y::l)=Value.int .i64 y.1::.int .i64 y.2::iM l:=rfl
  rw[e,show 2*(i+1)=(2*i+1)+1 by omega,List.drop_succ_cons,List.drop_succ_cons]
  exact xm l i x h
def fP (f:Nat->Int):List Value:=(List.range 12).map λu=>.int .i64 (f u)
theorem tF (f:Nat->Int):(fP f).length=12:=by simp[fP]
theorem N4 (f:Nat->Int) {v:Nat} (hv:v<12) (n:Int):(fP f).set v (.int .i64 n)=fP λu=>if u=v then n else f u:=by
 apply List.ext_getElem?
 intro i
 rw[List.getElem?_set]
 unfold fP
 by_cases hi:i<12
 ·by_cases h:v=i
  ·subst h
   rw[if_pos rfl,if_pos (by simpa using hv),List.getElem?_map,List.getElem?_range hv];simp
  ·rw[if_neg h,List.getElem?_map,List.getElem?_range hi,List.getElem?_map,List.getElem?_range hi]
   show some _=some (Value.int .i64 (if i=v then n else f i))
   rw[if_neg (λe=>h e.symm)]
 ·rw[List.getElem?_eq_none (by simp<;>omega),List.getElem?_eq_none (by simp<;>omega)]
  split
  ·rw[if_neg (by simp<;>omega)]
  ·rfl
def jD (asg:Nat->iH) (i:Nat):List Value:=cT (.int .i64 0) ((asg i).b 0) ((asg i).b 1)
structure qb (H:Hp) (asg:Nat->iH) (l:List Act):Prop where
 uU:∀ i,i<l.length->Ke H (asg i)
 is:∀ i a,l[i]?=some a->(asg i).v=a.v/\(asg i).ld=a.ld/\(asg i).n=a.n
theorem qb.mv {P:Nat->Prop} {N:Nat} {H H1:Hp} {asg:Nat->iH} {l:List Act} (h:qb H asg l) (k:Mv P N H H1) (h1:¬ P 28) (h2:¬ P 35) (h3:¬ P 76):qb H1 asg l:=⟨λi hi=>@Ke.mv SN _ _ _ _ _ (h.uU i hi) k h1 h2 h3,h.is⟩
theorem qb.snoc {H:Hp} {asg:Nat->iH} {l:List Act} (h:qb H asg l) {a:iH} (p:Ke H a):qb H (λi=>if i=l.length then a else asg i) (l++[⟨a.v,a.ld,a.n⟩])/\bh (jD λi=>if i=l.length then a else asg i) (l.length+1)=bh (jD asg) l.length++cT (.int .i64 0) (a.b 0) (a.b 1):=by
 refine⟨⟨λi hi=>?_,λi x hx=>?_⟩,?_⟩
 ·rw[List.length_append,List.length_singleton]at hi
  show Ke H (if i=l.length then a else asg i)
  split
  ·exact p
  ·exact h.uU i (by omega)
 ·show(if i=l.length then a else asg i).v=x.v/\(if i=l.length then a else asg i).ld=x.ld/\(if i=l.length then a else asg i).n=x.n
  by_cases hi:i=l.length
  ·subst hi
   rw[List.getElem?_append_right (Nat.le_refl _),Nat.sub_self]at hx
   cases hx
   rw[if_pos rfl];exact⟨rfl,rfl,rfl⟩
  ·rw[if_neg hi]
   rcases Nat.lt_or_ge i l.length with h'|h'
   ·rw[List.getElem?_append_left h']at hx;exact h.is i x hx
   ·rw[List.getElem?_eq_none (by rw[List.length_append,List.length_singleton];omega)]at hx;cases hx
 ·rw[fW]
  congr 1
  ·exact h_ λi hi=>by show cT _ ((if i=l.length then a else asg i).b 0) ((if i=l.length then a else asg i).b 1)=_;rw[if_neg (by omega)];rfl
  ·show cT _ ((if l.length=l.length then a else asg l.length).b 0) ((if l.length=l.length then a else asg l.length).b 1)=_
   rw[if_pos rfl]
theorem W9 {N:Nat} (he:e.n0<=N) {H:Hp} (hN:N<=H.nx) (hf:H.bG=true) {asg:Nat->iH} {l:List Act} {bb:Nat} {bv:Value} (hb:pT N 41 11 H bb bv (bh (jD asg) l.length) l.length) (ha:qb H asg l) (hl:l.length<=1000) {a:iH} (p:Ke H a) :
 ∃ H1 H2 asg' r' w',aS (aG (cT (.int .i64 0) (a.b 0) (a.b 1)) 41 0) H (λi=>c_ (some (i,0)) 1 1 false) 0 0=.val (sC H.nx 0 1 2) H1 0 0/\H.nx<=H1.nx/\iQ 41 11 128 bv (sC H.nx 0 1 2) H1=.val (cD H1.nx (l.length+1) (2*(l.length+1)+1)) H2 r' w'/\e.ok r' w' H2/\H1.nx<=H2.nx /\
  pT N 41 11 H2 H1.nx (cD H1.nx (l.length+1) (2*(l.length+1)+1)) (bh (jD asg') (l.length+1)) (l.length+1)/\qb H2 asg' (l++[⟨a.v,a.ld,a.n⟩])/\Mv (λt=>t=41) N H H2:=by
 letI:=SN
 obtain⟨H1,n1⟩:=uX hf (cT (.int .i64 0) (a.b 0) (a.b 1)) 41
 have x1:=n1.nx
 have k1:Mv (λt=>t=41) N H H1:=Mv.kept n1.kept hN
 have jK:pT N 41 11 H1 bb bv (bh (jD asg) l.length) l.length:=hb.mv λ_ h=>n1.kept.old _ h
 obtain⟨H2,r',w',a1,a2,a3,a4,a5⟩:=jK.app' (by_:=128) he (by omega) n1.kept.fn n1.row rfl (by omega) (by omega) (by omega)
 have vD:qb H2 asg l:=(ha.mv k1 (by decide) (by decide) (by decide)).mv a5 (by decide) (by decide) (by decide)
 obtain⟨s1,s2⟩:=vD.snoc ((p.mv k1 (by decide) (by decide) (by decide)).mv a5 (by decide) (by decide) (by decide))
 refine⟨H1,H2,_,r',w',n1.al,by omega,a1,a2,by omega,?_,s1,k1.trans a5⟩
 rw[s2];exact a4
set_option maxRecDepth 10000 in
set_option maxHeartbeats 8000000 in
theorem T0 {N:Nat} (he:e.n0<=N) (vE:15<=N) {l:List (Int×Int)} {lb lc:Nat} (ao_:l.length<=40) {lv:Value} (hlv:l≠[]->lv=.slice (some ⟨lb,0,none⟩) l.length lc) {H:Hp} (hf:H.bG=true) (hN:N<=H.nx) (hlb:l≠[]->zm H lb (iM l)/\lb<N/\(lb<e.n0->e.Rd lb)) {wb:Nat} (hw:Row H wb 3 0 (fP λ_=>0)) (hwN:N<=wb) {sw:Int}
 {t:T Value} (g0:t.get 0=lv) (g1:t.get 1=.int .i64 sw) (g5:t.get 5=.func (.func 23) #[] #[]) (g6:t.get 6=sC wb 0 12 24) (g7:t.get 7=.slice none 0 0) (g28:t.get 28=lv) (g29:t.get 29=iN l.length) (g30:t.get 30=iN 0)
 {K:Ex->T Value->List Deferred->Hp->Prop}
 (hK:∀ (t':T Value) (H':Hp) (bb:Nat) (bv:Value) (asg:Nat->iH),t'.get 1=.int .i64 sw->t'.get 5=.func (.func 23) #[] #[]->t'.get 6=sC wb 0 12 24->t'.get 7=bv->H'.bG=true->N<=H'.nx->(∀ c,c<N->H'.blk c=H.blk c)->Row H' wb 3 0 (fP (dy (gh l)))->pT N 41 11 H' bb bv (bh (jD asg) (gh l).length) (gh l).length->qb H' asg (gh l)->K .normal t' [] H') :
 @WK SN dm (nT m bE) e ⟨3,195,none,false⟩ (.block 0 (.loop mu.sr.sr.sr.sr.sr.sr.sl.sr.bl.lp C2)) t [] H K:=by
 letI:=SN
 refine WK.block (WK.eR (λmm t' ds' H'=>ds'=[]/\∃ (i:Nat) (bb:Nat) (bv:Value) (asg:Nat->iH),mm=l.length-i/\i<=l.length/\H'.bG=true/\N<=H'.nx/\(∀ c,c<N->H'.blk c=H.blk c)/\Row H' wb 3 0 (fP (dy (gh (l.take i))))/\pT N 41 11 H' bb bv (bh (jD asg) (gh (l.take i)).length) (gh (l.take i)).length/\qb H' asg (gh (l.take i))/\t'.get 0=lv/\t'.get 1=.int .i64 sw/\t'.get 5=.func (.func 23) #[] #[]/\t'.get 6=sC wb 0 12 24/\t'.get 7=bv/\t'.get 28=lv/\t'.get 29=iN l.length/\t'.get 30=iN i) ?_ _ t [] H ⟨rfl,0,0,_,λ_=>⟨0,false,0,λ_=>0⟩,rfl,Nat.zero_le _,hf,hN,λ_ _=>rfl,hw,.nil,⟨λi hi=>absurd hi (Nat.not_lt_zero _),λi a h=>by cases h⟩,g0,g1,g5,g6,g7,g28,g29,g30⟩)
 clear g0 g1 g5 g6 g7 g28 g29 g30
 rintro mm t0_ ds_ H0 ⟨rfl,i,bb,bv,asg,rfl,hil,Xz,hN0,lo0,hw0,hb0,ha0,aah,PJ,I9,I7,zS,abH,abF,abA⟩
 unfold C2
 refine WK.seq ?_
 by_cases hi:i<l.length
 case neg =>
  obtain rfl:i=l.length:=by omega
  rw[List.take_length]at hw0 hb0 ha0
  have d_:decide (((l.length:Nat):Int)<((l.length:Nat):Int))=false:=decide_eq_false (by omega)
  refine WK.av ?_
  refine aR.all (λt' H'=>H0=H'/\GT t' [(0,lv),(1,.int .i64 sw),(5,.func (.func 23) #[] #[]),(6,sC wb 0 12 24),(7,bv),(28,lv),(29,iN l.length),(30,iN l.length),(31,.bool false)]) ?_ ?_
  ·simp +decide only[IF,aah,PJ,I9,I7,zS,abH,abF,abA,d_,Xo 3,go_sem]
  rintro Xq _ ⟨rfl,dQ,iJ,yy,ux,pY,abG,abE,abz,ME, -⟩
  refine WK.seq ?_
  refine WK.cond (v:=false) (by rw[af,ME];rfl) ?_
  refine WK.exit ?_
  exact hK _ _ bb bv asg iJ yy ux pY Xz hN0 lo0 hw0 hb0 ha0
 case pos =>
  obtain⟨x,hx⟩:∃ x,l[i]?=some x:=⟨_,List.getElem?_eq_getElem hi⟩
  have hne:l≠[]:=λh=>by rw[h]at hi;exact absurd hi (Nat.not_lt_zero _)
  obtain⟨hlr,hlN,D3⟩:=hlb hne
  have hlv:=hlv hne
  have hl0:zm H0 lb (iM l):=hlr.bF (lo0 _ hlN)
  have d_:decide (((i:Nat):Int)<((l.length:Nat):Int))=true:=decide_eq_true (by omega)
  refine WK.av ?_
  refine aR.all (λt' H'=>H0=H'/\GT t' [(0,lv),(1,.int .i64 sw),(5,.func (.func 23) #[] #[]),(6,sC wb 0 12 24),(7,bv),(28,lv),(29,iN l.length),(30,iN i),(31,.bool true)]) ?_ ?_
  ·simp +decide only[IF,aah,PJ,I9,I7,zS,abH,abF,abA,d_,Xo 3,go_sem]
  rintro Xq _ ⟨rfl,dQ,iJ,yy,ux,pY,abG,abE,abz,ME, -⟩
  refine WK.seq ?_
  refine WK.cond (v:=true) (by rw[af,ME];rfl) ?_
  refine WK.skip ?_
  refine WK.seq ?_
  refine WK.block ?_
  refine WK.seq ?_
  have YP:∀ Hq,eT 2 lv (iN i) Hq=.val (pA lb (i*2)) Hq 0 0:=λHq=>by rw[hlv,dW (by omega) (by omega)];simp
  have nY:=pn l
  have q2_:ia 2 (pA lb (i*2)) H0=.val (.agg ⟨[.int .i64 x.1,.int .i64 x.2]⟩) H0 (bit lb) 0:=by rw[ag0 hl0 (by omega),show i*2=2*i by omega,xm l i x hx]
  have Tn:e.ok (bit lb) 0 H0:=.read hl0.lt D3
  obtain⟨H1,n1⟩:=nW Xz [.int .i64 (0),.int .i64 (0)] 79
  have x1:=n1.nx
  have lQ:=n1.al
  have Pm:=IJ n1
  obtain⟨H2,e2_,w2⟩:=jt n1.kept.fn n1.row (k:=2) rfl (show[Value.int .i64 x.1,.int .i64 x.2].length=2 from rfl)
  have zM:e.ok 0 (bit H0.nx) H2:=wm w2.row (by omega)
  have D2:=Mk w2
  have x2:=w2.nx
  have k2:Kept H0 H2:=wS.kept w2 (n:=H0.nx) (Nat.le_refl _) n1.kept (Nat.le_refl _)
  refine WK.av ?_
  refine aR.all (λt' H'=>H2=H'/\GT t' [(0,lv),(1,.int .i64 sw),(5,.func (.func 23) #[] #[]),(6,sC wb 0 12 24),(7,bv),(9,pA H0.nx 0),(28,lv),(29,iN l.length),(30,iN i)]) ?_ ?_
  ·simp +decide only[Mj,dQ,iJ,yy,ux,pY,abG,abE,abz,ME,YP,q2_,Tn,lQ,Pm,e2_,zM,D2,Xo 3,go_sem]
  rintro Xp _ ⟨rfl,dV,jL,qF,lC,oP,UQ,ajd,ai_,ai4, -⟩
  refine WK.seq ?_
  have q3_:dA (pA H0.nx (0+0)) H2=.val (.int .i64 x.1) H2 (bit H0.nx) 0:=aV w2.row rfl
  have q4_:dA (pA H0.nx (0+1)) H2=.val (.int .i64 x.2) H2 (bit H0.nx) 0:=aV w2.row rfl
  have Tm:e.ok (bit H0.nx) 0 H2:=pV w2.row (by omega)
  have b4_:∀ cq,(bit H0.nx).testBit cq=true->cq<H2.nx:=dH (P:=λcq=>cq<H2.nx) w2.row.lt
  obtain⟨v,hv⟩:∃ v,v=vOf x.1:=⟨_,rfl⟩
  obtain⟨n,hn⟩:∃ n,n=nOf x.2:=⟨_,rfl⟩
  have IT:v<12:=by rw[hv];exact acd _
  have hP:tj n:=by rw[hn];exact Im _
  have ht1 : -12<x.1.tmod 12/\x.1.tmod 12<12:=⟨Int.lt_tmod_of_pos _ (by decide),Int.tmod_lt_of_pos _ (by decide)⟩
  have w1_:∀ Hq,Go.Ev.R.o (dK .rem (.int .i64 x.1) (.int .i64 12)) Hq=.val (.int .i64 (x.1.tmod 12)) Hq 0 0:=λHq=>rfl
  have w2_:Value.int .i64 (aN .i64 (x.1.tmod 12+(12:Int)))=.int .i64 (x.1.tmod 12+12):=wF (by omega)
  have w3_:∀ Hq,Go.Ev.R.o (dK .rem (.int .i64 (x.1.tmod 12+12)) (.int .i64 12)) Hq=.val (iN v) Hq 0 0:=λHq=>by rw[hv];show Go.Ev.R.val (.int .i64 ((x.1.tmod 12+12).tmod 12)) Hq 0 0=_;rw[<-Rj]
  have w4_:∀ Hq,Go.Ev.R.o (dK .rem (.int .i64 x.2) (.int .i64 32768)) Hq=.val (.int .i64 n) Hq 0 0:=λHq=>by rw[hn];rfl
  refine WK.gw (λ_=>False) [.p,.q,.p,.p,.p,.p,.q,.p,.p,.p] (by omega) rfl ?_
  refine fe.all (λt' H'=>H2=H'/\GT t' [(0,lv),(1,.int .i64 sw),(5,.func (.func 23) #[] #[]),(6,sC wb 0 12 24),(7,bv),(10,iN v),(11,.int .i64 n),(28,lv),(29,iN l.length),(30,iN i)]) ?_ ?_
  ·simp +decide only[Mi,dV,jL,qF,lC,oP,UQ,ajd,ai_,ai4,q3_,q4_,Tm,b4_,w1_,w2_,w3_,w4_,Xo 3,go_sem]
   exact b4_
  rintro t3_ _ ⟨rfl,iq,oU,n8,nZ,lB,VI,Gf,ajc,ai',ai3, -⟩
  refine WK.seq ?_
  have hw2:Row H2 wb 3 0 (fP (dy (gh (l.take i)))):=hw0.mv k2
  have q5_:∀ Hq,eT 1 (sC wb 0 12 24) (iN v) Hq=.val (pA wb v) Hq 0 0:=λHq=>by rw[dW (by omega) (by omega)];simp
  obtain⟨H3,e3_,w3⟩:=fA (v:=.int .i64 n) rfl w2.fn hw2 (o:=v) (by rw[tF];omega)
  have hset:(fP (dy (gh (l.take i)))).take v++[.int .i64 n]++(fP (dy (gh (l.take i)))).drop (v+1)=fP (mg (dy (gh (l.take i))) ⟨v,false,n⟩):=by
   have:=N4 (dy (gh (l.take i))) IT n
   rw[List.set_eq_take_append_cons_drop,if_pos (by rw[tF];exact IT)]at this
   rw[List.append_assoc,List.singleton_append,this];unfold mg fP;simp
  rw[hset]at w3
  have zw:e.ok 0 (bit wb) H3:=wm w3.row (by omega)
  have l3_:=Mk w3
  have x3:=w3.nx
  have M3:Mv (λt=>t=3) N H0 H3:=(Mv.kept k2 hN0).trans (Mv.wr w3 hw2 hwN)
  refine WK.av ?_
  refine aR.all (λt' H'=>H3=H'/\GT t' [(0,lv),(1,.int .i64 sw),(5,.func (.func 23) #[] #[]),(6,sC wb 0 12 24),(7,bv),(10,iN v),(11,.int .i64 n),(28,lv),(29,iN l.length),(30,iN i)]) ?_ ?_
  ·simp +decide only[Mh,iq,oU,n8,nZ,lB,VI,Gf,ajc,ai',ai3,q5_,e3_,zw,l3_,Xo 3,go_sem]
  rintro t4_ _ ⟨rfl,gV,oT,nC,uw,sN,Bg,MU,MH,MG,MF, -⟩
  refine WK.seq ?_
  refine WK.av ?_
  refine aR.iX λK0 qD=>?_
  simp +decide only[Mg,gV,oT,nC,uw,sN,Bg,MU,MH,MG,MF,Xo 3,go_sem]
  refine EC.mono (we w3.fn (by omega) IT) λxr H4 _ zO=>?_
  obtain⟨s,rfl,hs,k4⟩:=zO
  rw[fC]
  have x4:=k4.nx
  have adW:∀ (K:Value->Hp->Prop) (H:Hp),EC dm (nT m bE) e 12 [.int .i64 n] H K=K (.agg ⟨cK (.int .i64 n)⟩) H:=λK H=>NV (w12 hP) rfl K
  simp +decide only[gV,oT,nC,uw,sN,Bg,MU,MH,MG,MF,adW,Xo 3,go_sem]
  rw[fC]
  simp +decide only[gV,oT,nC,uw,sN,Bg,MU,MH,MG,MF,Xo 3,go_sem]
  refine EC.mono (Sf k4.fn (by omega) (DJ v s) (show(cK (.int .i64 n)).length=11 from rfl)) λxr H5 _ zO=>?_
  obtain⟨r,b,rfl,hr5,hb5,k5,hrn,D4⟩:=zO
  rw[fC]
  have x5:=k5.nx
  obtain⟨a,ha⟩:∃ a:iH,a=⟨v,false,n,λj=>if j=0 then r else if j=1 then b else s⟩:=⟨_,rfl⟩
  have pa:Ke H5 a:=by
   rw[ha]
   exact⟨IT,hP,hr5,hb5,λh=>(hs h).mv k5,(λh=>by cases h),(λh=>by cases h)⟩
  have M5:Mv (λt=>t=3) N H0 H5:=M3.trans ((Mv.kept k4 (by omega)).trans (Mv.kept k5 (by omega)))
  have hlen:=zj (l.take i)
  have hlt:=List.length_take_le i l
  obtain⟨H6,H7,asg2,r7,w7,f1_,f2_,XB,f4_,f5_,hb7,ha7,M7⟩:=W9 he (by have:=M5.nx;omega) k5.fn (hb0.mvM M5 (by decide)) (ha0.mv M5 (by decide) (by decide) (by decide)) (by omega) pa
  have ab0:a.b 0=r:=by rw[ha];rfl
  have ab1:a.b 1=b:=by rw[ha];rfl
  rw[ab0,ab1]at f1_
  have wv:∀ t:T Value,t.get 52=.agg ⟨cT (iI 0) r b⟩->bD (bH t [.int .i64 (0),.int .i64 (0),.slice none 0 0,.slice none 0 0,.int .i64 (0),.int .i64 (0),.int .i64 (0),.slice none 0 0,.int .i64 (0),.bool false,.bool false] [(0,11,.tmp 52)]) (λl=>aS (aG l 41 0) H5 (λi=>c_ (some (i,0)) 1 1 false) 0 0)=.val (sC H5.nx 0 1 2) H6 0 0:=λt g=>by
   rw[gL (R:=cT (iI 0) r b) (k:=11) (by rw[af,g]) rfl rfl,bS];exact f1_
  obtain⟨L1,hL1⟩:∃ L1:List Act,L1=gh (l.take i)++[⟨v,false,n⟩]:=⟨_,rfl⟩
  have hLl:(gh (l.take i)).length+1=L1.length:=by rw[hL1,List.length_append];rfl
  have hact:[(⟨a.v,a.ld,a.n⟩:Act)]=[⟨v,false,n⟩]:=by rw[ha]
  rw[hact,<-hL1]at ha7
  rw[hLl]at XB hb7
  obtain⟨bv7,anz⟩:∃ bv7,bv7=cD H6.nx L1.length (2*L1.length+1):=⟨_,rfl⟩
  rw[<-anz]at XB hb7
  refine aR.all (λt' H'=>H7=H'/\GT t' [(0,lv),(1,.int .i64 sw),(5,.func (.func 23) #[] #[]),(6,sC wb 0 12 24),(7,bv7),(10,iN v),(11,.int .i64 n),(28,lv),(29,iN l.length),(30,iN i)]) ?_ ?_
  ·simp +decide only[gV,oT,nC,uw,sN,Bg,MU,MH,MG,MF,wv,f2_,XB,f4_,f5_,Xo 3,go_sem]
  rintro t5_ _ ⟨rfl,kz,yI,uy,sO,yw,ajL,ajI,ajb,Vf,U_, -⟩
  refine qD _ _ ?_
  have M8:Mv (λt=>t=41\/t=3) N H0 H7:=(M5.mono λ_ h=>.inr h).trans (M7.mono λ_ h=>.inl h)
  have hw7:Row H7 wb 3 0 (fP (dy L1)):=by
   have h5:Row H5 wb 3 0 (fP (mg (dy (gh (l.take i))) ⟨v,false,n⟩)):=(w3.row.mv k4).mv k5
   have:=M7.row (by decide) h5
   rw[hL1,qz];exact this
  refine WK.seq ?_
  obtain⟨z,hz⟩:∃ z:Bool,z=decide (n.tmod 3=0):=⟨_,rfl⟩
  have w5_:∀ Hq,Go.Ev.R.o (dK .rem (.int .i64 n) (.int .i64 3)) Hq=.val (.int .i64 (n.tmod 3)) Hq 0 0:=λHq=>rfl
  have hz_:decide (n.tmod 3=(0:Int))=z:=hz.symm
  refine WK.av ?_
  refine aR.all (λt' H'=>H7=H'/\GT t' [(0,lv),(1,.int .i64 sw),(5,.func (.func 23) #[] #[]),(6,sC wb 0 12 24),(7,bv7),(10,iN v),(11,.int .i64 n),(28,lv),(29,iN l.length),(30,iN i),(57,.bool z)]) ?_ ?_
  ·simp +decide only[Mf,kz,yI,uy,sO,yw,ajL,ajI,ajb,Vf,U_,w5_,hz_,Xo 3,go_sem]
  rintro t6_ _ ⟨rfl,iK,mC,vH,oQ,qE,Bf,Bd,Ba,A_,A9,u9, -⟩
  have XA:=QF hx
  have hao:qT x=⟨v,false,n⟩::(if n.tmod 3=0 then [⟨v,true,n⟩]else []):=by rw[hv,hn];rfl
  have M8x:=M8.nx
  cases z with
  |false =>
   have hn3:n.tmod 3≠0:=of_decide_eq_false hz.symm
   have hL2:gh (l.take (i+1))=L1:=by rw[XA,hao,if_neg hn3,hL1]
   refine WK.cond (v:=false) (by rw[af,u9];rfl) ?_
   refine WK.skip ?_
   refine WK.av ?_
   have w6_:Value.int .i64 (aN .i64 (((i:Nat):Int)+(1:Int)))=.int .i64 ((i+1:Nat):Int):=wF (by omega)
   refine aR.all (λt' H'=>H7=H'/\GT t' [(0,lv),(1,.int .i64 sw),(5,.func (.func 23) #[] #[]),(6,sC wb 0 12 24),(7,bv7),(28,lv),(29,iN l.length),(30,iN (i+1))]) ?_ ?_
   ·simp +decide only[C0,iK,mC,vH,oQ,qE,Bf,Bd,Ba,A_,A9,u9,w6_,Xo 3,go_sem]
   rintro t7_ _ ⟨rfl,iA,n9,vG,vF,yu,F2,yE,yC, -⟩
   exact⟨_,by omega,rfl,i+1,H6.nx,bv7,asg2,rfl,by omega,M8.fn,by have:=M8.nx;omega,λc hc=>by rw[M8.lo c hc,lo0 c hc],by rw[hL2];exact hw7,by rw[hL2];exact hb7,by rw[hL2];exact ha7,iA,n9,vG,vF,yu,F2,yE,yC⟩
  |true =>
   have hn3:n.tmod 3=0:=of_decide_eq_true hz.symm
   have hL2:gh (l.take (i+1))=L1++[⟨v,true,n⟩]:=by rw[XA,hao,if_pos hn3,hL1,List.append_assoc];rfl
   refine WK.cond (v:=true) (by rw[af,u9];rfl) ?_
   refine WK.av ?_
   refine aR.iX λK1 hK1=>?_
   simp +decide only[Me,iK,mC,vH,oQ,qE,Bf,Bd,Ba,A_,A9,u9,Xo 3,go_sem]
   refine EC.mono (we M8.fn (by omega) IT) λxr I1 _ zO=>?_
   obtain⟨s1,rfl,hs1,kI1⟩:=zO
   rw[fC]
   have y1:=kI1.nx
   simp +decide only[iK,mC,vH,oQ,qE,Bf,Bd,Ba,A_,A9,u9,Xo 3,go_sem]
   refine EC.mono (we kI1.fn (by omega) IT) λxr I2 _ zO=>?_
   obtain⟨s2,rfl,hs2,kI2⟩:=zO
   rw[fC]
   have y2:=kI2.nx
   simp +decide only[iK,mC,vH,oQ,qE,Bf,Bd,Ba,A_,A9,u9,Xo 3,go_sem]
   refine EC.mono (LZ kI2.fn (by omega) (DJ v s2) (ab2 v s2)) λxr I3 _ zO=>?_
   obtain⟨r3,rfl,hr3,kI3,ao5⟩:=zO
   rw[fC]
   have y3:=kI3.nx
   simp +decide only[iK,mC,vH,oQ,qE,Bf,Bd,Ba,A_,A9,u9,Xo 3,go_sem]
   refine EC.mono (Sf kI3.fn (by omega) (DJ v s1) (show(cL r3 2).length=11 from rfl)) λxr I4 _ zO=>?_
   obtain⟨r4,b4,rfl,hr4,hb4,kI4,ao4,apf⟩:=zO
   rw[fC]
   have y4:=kI4.nx
   obtain⟨a2,vD⟩:∃ a:iH,a=⟨v,true,n,λj=>if j=0 then r4 else if j=1 then b4 else if j=2 then s1 else if j=3 then r3 else s2⟩:=⟨_,rfl⟩
   have pa2:Ke I4 a2:=by
    rw[vD]
    exact⟨IT,hP,hr4,hb4,λh=>(((hs1 h).mv kI2).mv kI3).mv kI4,λ_=>hr3.mv kI4,λ_ h=>((hs2 h).mv kI3).mv kI4⟩
   have MI:Mv (λ_=>False) N H7 I4:=(Mv.kept kI1 (by omega)).trans ((Mv.kept kI2 (by omega)).trans ((Mv.kept kI3 (by omega)).trans (Mv.kept kI4 (by omega))))
   obtain⟨I5,I6,asg3,r8,w8,h1_,h2_,h3_,h4_,h5_,hb8,ha8,MI6⟩:=W9 he (by have:=MI.nx;omega) kI4.fn (hb7.mvM MI (λh=>h)) (ha7.mv MI (λh=>h) (λh=>h) (λh=>h)) (by omega) pa2
   have ab0:a2.b 0=r4:=by rw[vD];rfl
   have ab1:a2.b 1=b4:=by rw[vD];rfl
   rw[ab0,ab1]at h1_
   have r_:∀ t:T Value,t.get 66=.agg ⟨cT (iI 0) r4 b4⟩->bD (bH t [.int .i64 (0),.int .i64 (0),.slice none 0 0,.slice none 0 0,.int .i64 (0),.int .i64 (0),.int .i64 (0),.slice none 0 0,.int .i64 (0),.bool false,.bool false] [(0,11,.tmp 66)]) (λl=>aS (aG l 41 0) I4 (λi=>c_ (some (i,0)) 1 1 false) 0 0)=.val (sC I4.nx 0 1 2) I5 0 0:=λt g=>by
    rw[gL (R:=cT (iI 0) r4 b4) (k:=11) (by rw[af,g]) rfl rfl,bS];exact h1_
   have ahI:[(⟨a2.v,a2.ld,a2.n⟩:Act)]=[⟨v,true,n⟩]:=by rw[vD]
   obtain⟨L2,aac⟩:∃ L2:List Act,L2=L1++[⟨v,true,n⟩]:=⟨_,rfl⟩
   have anH:L1.length+1=L2.length:=by rw[aac,List.length_append];rfl
   rw[ahI,<-aac]at ha8
   rw[anH]at h3_ hb8
   rw[<-aac]at hL2
   obtain⟨bv8,anx⟩:∃ bv8,bv8=cD I5.nx L2.length (2*L2.length+1):=⟨_,rfl⟩
   rw[<-anx]at h3_ hb8
   refine aR.all (λt' H'=>I6=H'/\GT t' [(0,lv),(1,.int .i64 sw),(5,.func (.func 23) #[] #[]),(6,sC wb 0 12 24),(7,bv8),(10,iN v),(11,.int .i64 n),(28,lv),(29,iN l.length),(30,iN i),(57,.bool true)]) ?_ ?_
   ·simp +decide only[iK,mC,vH,oQ,qE,Bf,Bd,Ba,A_,A9,u9,r_,h2_,h3_,h4_,h5_,Xo 3,go_sem]
   rintro t7_ _ ⟨rfl,iA,n9,vG,vF,yu,Be,MR,F2,yE,yC,aiW, -⟩
   refine hK1 _ _ ?_
   have M9:Mv (λt=>t=41\/t=3) N H0 I6:=M8.trans ((MI.mono λ_ h=>h.elim).trans (MI6.mono λ_ h=>.inl h))
   have hw8:Row I6 wb 3 0 (fP (dy L2)):=by
    have:=MI6.row (by decide) (MI.row (λh=>h) hw7)
    have e2:dy L2=dy L1:=by rw[aac,qz];funext u;unfold mg;rw[if_neg (by simp)]
    rw[e2];exact this
   show WK _ _ _ _ _ _ _ _ _
   refine WK.av ?_
   have w6_:Value.int .i64 (aN .i64 (((i:Nat):Int)+(1:Int)))=.int .i64 ((i+1:Nat):Int):=wF (by omega)
   refine aR.all (λt' H'=>I6=H'/\GT t' [(0,lv),(1,.int .i64 sw),(5,.func (.func 23) #[] #[]),(6,sC wb 0 12 24),(7,bv8),(28,lv),(29,iN l.length),(30,iN (i+1))]) ?_ ?_
   ·simp +decide only[C0,iA,n9,vG,vF,yu,Be,MR,F2,yE,yC,aiW,w6_,Xo 3,go_sem]
   rintro t8_ _ ⟨rfl,uA,Vo,I8,yx,Dk,aja,Ve,U', -⟩
   exact⟨_,by omega,rfl,i+1,I5.nx,bv8,asg3,rfl,by omega,M9.fn,by have:=M9.nx;omega,λc hc=>by rw[M9.lo c hc,lo0 c hc],by rw[hL2];exact hw8,by rw[hL2];exact hb8,by rw[hL2];exact ha8,uA,Vo,I8,yx,Dk,aja,Ve,U'⟩
end
section
attribute [local go_sem] au aj GT dF gF aR fe Yj Yk Yl Ym Yn Yo Yp Yq Yr and_self and_true cV cU cQ cP cN cM bx ig ic de dR aP bw af cJ cI bP cH cG cF cE if_false if_true dM dD bM run true_and ck bL bK bJ bI bf bu l9 vj
variable {m:Nat} {bE:List UInt8} {e:Env}
theorem O6 {a b:Act} (h:a.v≠b.v) (f:Nat->Int):mg (mg f a) b=mg (mg f b) a:=by
 funext u
 unfold mg
 by_cases h1:u=b.v/\b.ld=false
 ·rw[if_pos h1,if_neg (λh2=>h (h2.1.symm.trans h1.1)),if_pos h1]
 ·rw[if_neg h1]
  by_cases h2:u=a.v/\a.ld=false
  ·rw[if_pos h2,if_pos h2]
  ·rw[if_neg h2,if_neg h2,if_neg h1]
theorem Is {a b:Act} (h:a.v≠b.v) (A C:List Act):dy (A++b::a::C)=dy (A++a::b::C):=by
 unfold dy
 rw[List.foldl_append,List.foldl_append,List.foldl_cons,List.foldl_cons,List.foldl_cons,List.foldl_cons,O6 h]
theorem N6 {L:List Act} {k:Nat} {a b:Act} (h1:L[k]?=some a) (h2:L[k+1]?=some b):L=L.take k++a::b::L.drop (k+2):=by
 obtain⟨hk,e1⟩:=List.getElem?_eq_some_iff.1 h1
 obtain⟨hk2,e2⟩:=List.getElem?_eq_some_iff.1 h2
 have:L.drop k=a::b::L.drop (k+2):=by rw[List.drop_eq_getElem_cons hk,List.drop_eq_getElem_cons hk2,e1,e2]
 rw[<-this,List.take_append_drop]
theorem XY {A C:List Act} {a b x:Act} {i:Nat} (h:(A++a::b::C)[i]?=some x):(i=A.length/\x=a)\/(i=A.length+1/\x=b)\/(i≠A.length/\i≠A.length+1/\(A++b::a::C)[i]?=some x):=by
 rcases Nat.lt_or_ge i A.length with h'|h'
 ·rw[List.getElem?_append_left h']at h
  exact .inr (.inr ⟨by omega,by omega,by rw[List.getElem?_append_left h'];exact h⟩)
 ·obtain⟨j,rfl⟩:∃ j,i=A.length+j:=⟨i-A.length,by omega⟩
  rw[List.getElem?_append_right (by omega),Nat.add_sub_cancel_left]at h
  rcases j with _|_|j
  ·cases h;exact .inl ⟨rfl,rfl⟩
  ·cases h;exact .inr (.inl ⟨rfl,rfl⟩)
  ·refine .inr (.inr ⟨by omega,by omega,?_⟩)
   rw[List.getElem?_append_right (by omega),Nat.add_sub_cancel_left]
   exact h
def ql (v:Nat):Nat:=if v<8 then 1 else 2
def zL (v:Nat):Nat:=if v<4 then 16*v else if v<8 then 64 else 16*(v-8)
def Ef (v:Nat):Nat:=if 4<=v/\v<8 then 1 else 0
theorem GI (v s:Nat):∃ y,(cR v s 2)[0]?=some (iN (ql v))/\(cR v s 2)[3]?=some (iN (zL v))/\(cR v s 2)[5]?=some y/\∀ H:Hp,@fY SN.totf 1 y H=.val (iN (Ef v)) H 0 0:=by
 unfold cR ql zL Ef
 by_cases h1:v<4
 ·rw[(an _ _).2 h1,aj,if_pos (by omega),if_pos h1,if_neg (by omega)]
  exact⟨_,rfl,rfl,rfl,λ_=>rfl⟩
 ·rw[show Nat.blt v 4=false from by rw[<-Bool.not_eq_true,an];exact h1,au]
  by_cases h2:v<8
  ·rw[(an _ _).2 h2,aj,if_pos h2,if_neg h1,if_pos h2,if_pos (by omega)]
   exact⟨_,rfl,rfl,rfl,λ_=>rfl⟩
  ·rw[show Nat.blt v 8=false from by rw[<-Bool.not_eq_true,an];exact h2,au,if_neg h2,if_neg h1,if_neg h2,if_neg (by omega)]
   exact⟨_,rfl,rfl,rfl,λ_=>rfl⟩
set_option maxRecDepth 10000 in
set_option maxHeartbeats 8000000 in
theorem X8 {N:Nat} (he:e.n0<=N) (vE:15<=N) {L:List Act} (hL:L.length<=80) {H:Hp} (hf:H.bG=true) (hN:N<=H.nx) {bb wb:Nat} {bv:Value} {asg:Nat->iH} (hb:pT N 41 11 H bb bv (bh (jD asg) L.length) L.length) (ha:qb H asg L) (Di:∀ b,b<e.n0->e.Rd b) {sw:Int}
 {t:T Value} (PJ:t.get 1=.int .i64 sw) (I9:t.get 5=.func (.func 23) #[] #[]) (I7:t.get 6=sC wb 0 12 24) (zS:t.get 7=bv) {K:Ex->T Value->List Deferred->Hp->Prop}
 (hK:∀ (t':T Value) (H':Hp) (asg':Nat->iH) (L':List Act),t'.get 5=.func (.func 23) #[] #[]->t'.get 6=sC wb 0 12 24->t'.get 7=bv->Mv (λt=>t=41) N H H'->L'.length=L.length->dy L'=dy L->pT N 41 11 H' bb bv (bh (jD asg') L.length) L.length->qb H' asg' L'->K .normal t' [] H') :
 @WK SN dm (nT m bE) e ⟨3,195,none,false⟩ (.seq (.bp CZ) (.seq (.bp wC) (.cond (.tmp 87) (.seq (.draw #[0,0,3,7,0,0,32,112,240,0,0,1551,4095] CY)
 (.seq (.draw #[0,1,3,7,15,0,32,96,224,480,1023,2047,4095,8191,16383,32767,65535,4095,135167,397311,921599,1970175,4194303,8388607,16777215,33554431,67108863,134217727,268435455,536870911,1073741823,2147483647,4294967295,8589934591,17179869183,34359738367,68719476735,137438953471,274877906943,549755813887,1099511627775,2199023255551] nr)
 (.cond (.tmp 138) (.draw #[0,0,0,0,8,0,0,35,163,511,1023] CX)
  .skip)))
 .skip))) t [] H K:=by
 letI:=SN
 obtain⟨n,hn⟩:∃ n,n=L.length:=⟨_,rfl⟩
 rw[<-hn]at hb hL
 obtain⟨k,hk⟩:∃ k:Nat,((k:Nat):Int)=((sw.tmod ((n:Int)+1))+n+1).tmod ((n:Int)+1):=by
  have h1:=Int.lt_tmod_of_pos sw (show(0:Int)<(n:Int)+1 by omega)
  exact⟨_,Int.toNat_of_nonneg (Int.tmod_nonneg _ (by omega))⟩
 have hk1:k<=n:=by
  have:=Int.tmod_lt_of_pos ((sw.tmod ((n:Int)+1))+n+1) (show(0:Int)<(n:Int)+1 by omega)
  omega
 have hs1:=Int.lt_tmod_of_pos sw (show(0:Int)<(n:Int)+1 by omega)
 have hs2:=Int.tmod_lt_of_pos sw (show(0:Int)<(n:Int)+1 by omega)
 have YP:∀ Hq,fY 1 bv Hq=.val (iN n) Hq 0 0:=hb.len
 have w1_:Value.int .i64 (aN .i64 (((n:Nat):Int)+(1:Int)))=.int .i64 ((n:Int)+1):=wF (by omega)
 have hz:nQ ((n:Int)+1) 0=false:=by rw[wM];exact decide_eq_false (by omega)
 have rem_:∀ (x:Int) (Hq:Hp),Go.Ev.R.o (dK .rem (.int .i64 x) (.int .i64 ((n:Int)+1))) Hq=.val (.int .i64 (x.tmod ((n:Int)+1))) Hq 0 0:=λx Hq=>by
  have:dK .rem (.int .i64 x) (.int .i64 ((n:Int)+1))=some (.int .i64 (x.tmod ((n:Int)+1))):=by
   refine DO ?_
   show Bc (nQ ((n:Int)+1) 0) none (some (Value.int .i64 (x.tmod ((n:Int)+1))))=_
   rw[hz,au]
  rw[this];rfl
 have w2_:Value.int .i64 (aN .i64 (sw.tmod ((n:Int)+1)+((n:Nat):Int)))=.int .i64 (sw.tmod ((n:Int)+1)+n):=wF (by omega)
 have w3_:Value.int .i64 (aN .i64 (sw.tmod ((n:Int)+1)+(n:Int)+(1:Int)))=.int .i64 (sw.tmod ((n:Int)+1)+n+1):=wF (by omega)
 have k_:Value.int .i64 (((sw.tmod ((n:Int)+1))+n+1).tmod ((n:Int)+1))=iN k:=by rw[<-hk]
 refine WK.seq ?_
 refine WK.av ?_
 refine aR.all (λt' H'=>H=H'/\GT t' [(1,.int .i64 sw),(5,.func (.func 23) #[] #[]),(6,sC wb 0 12 24),(7,bv),(12,iN k)]) ?_ ?_
 ·simp +decide only[CZ,PJ,I9,I7,zS,YP,w1_,rem_,w2_,w3_,k_,Xo 3,go_sem]
 rintro Xq _ ⟨rfl,iJ,yy,ux,pY,abO, -⟩
 refine WK.seq ?_
 have w4_:Value.int .i64 (aN .i64 (((k:Nat):Int)+(1:Int)))=.int .i64 ((k+1:Nat):Int):=wF (by omega)
 by_cases hkn:k+1<n
 case neg =>
  have d_:decide (((k+1:Nat):Int)<((n:Nat):Int))=false:=decide_eq_false (by omega)
  refine WK.av ?_
  refine aR.all (λt' H'=>H=H'/\GT t' [(1,.int .i64 sw),(5,.func (.func 23) #[] #[]),(6,sC wb 0 12 24),(7,bv),(12,iN k),(87,.bool false)]) ?_ ?_
  ·simp +decide only[wC,iJ,yy,ux,pY,abO,YP,w4_,d_,Xo 3,go_sem]
  rintro Xp _ ⟨rfl,jL,qF,lC,oP,abN,MC, -⟩
  refine WK.cond (v:=false) (by rw[af,MC];rfl) ?_
  refine WK.skip ?_
  rw[hn]at hb
  exact hK _ _ asg L qF lC oP (Mv.refl hf) rfl rfl hb ha
 case pos =>
  have d_:decide (((k+1:Nat):Int)<((n:Nat):Int))=true:=decide_eq_true (by omega)
  refine WK.av ?_
  refine aR.all (λt' H'=>H=H'/\GT t' [(1,.int .i64 sw),(5,.func (.func 23) #[] #[]),(6,sC wb 0 12 24),(7,bv),(12,iN k),(87,.bool true)]) ?_ ?_
  ·simp +decide only[wC,iJ,yy,ux,pY,abO,YP,w4_,d_,Xo 3,go_sem]
  rintro Xp _ ⟨rfl,jL,qF,lC,oP,abN,MC, -⟩
  refine WK.cond (v:=true) (by rw[af,MC];rfl) ?_
  obtain⟨hbN,hrow,hbv⟩:N<=bb/\Row H bb 41 12 (bh (jD asg) n)/\bv=cD bb n (2*n+1):=by
   generalize hB:bh (jD asg) n=B at hb
   cases hb with
   |nil=>omega
   |one _ _ h1 h2 h3 h4=>exact⟨h1,h2,rfl⟩
  have hst:∀ i,i<n->(jD asg i).length=11:=λ_ _=>rfl
  have aoK:=fF hst
  have Da:(k+1+1)*11<=n*11:=Nat.mul_le_mul_right _ hkn
  have i1_:∀ Hq,eT 11 bv (iN k) Hq=.val (pA bb (k*11)) Hq 0 0:=λHq=>by rw[hbv];show eT 11 (.slice (some ⟨bb,0,none⟩) n _) (iN k) Hq=_;rw[dW (by omega) (by omega)];simp
  have i2_:∀ Hq,eT 11 bv (iN (k+1)) Hq=.val (pA bb ((k+1)*11)) Hq 0 0:=λHq=>by rw[hbv];show eT 11 (.slice (some ⟨bb,0,none⟩) n _) (iN (k+1)) Hq=_;rw[dW (by omega) (by omega)];simp
  have lQ:ia 11 (pA bb (k*11)) H=.val (.agg ⟨jD asg k⟩) H (bit bb) 0:=by rw[eS hrow (by omega),Bk hst (by omega)]
  have nX:ia 11 (pA bb ((k+1)*11)) H=.val (.agg ⟨jD asg (k+1)⟩) H (bit bb) 0:=by rw[eS hrow (by omega),Bk hst hkn]
  have lbb:=hrow.lt
  have tA:e.ok (bit bb) 0 H:=pV hrow (by omega)
  have b1_:∀ cq,(bit bb).testBit cq=true->cq<H.nx/\cq=bb:=dH (P:=λcq=>cq<H.nx/\cq=bb) ⟨lbb,rfl⟩
  obtain⟨H1,n1⟩:=nW hf [.int .i64 (0),.int .i64 (0),.slice none 0 0,.slice none 0 0,.int .i64 (0),.int .i64 (0),.int .i64 (0),.slice none 0 0,.int .i64 (0),.bool false,.bool false] 41
  obtain⟨H2,n2⟩:=nW n1.kept.fn [.int .i64 (0),.int .i64 (0),.slice none 0 0,.slice none 0 0,.int .i64 (0),.int .i64 (0),.int .i64 (0),.slice none 0 0,.int .i64 (0),.bool false,.bool false] 41
  have x1:=n1.nx
  have x2:=n2.nx
  have a1_:=n1.al
  have a2_:=n2.al
  have Pm:=IJ n1
  have D2:=IJ n2
  have YO:=n1.row.mv n2.kept
  obtain⟨H3,e3_,w3⟩:=jt n2.kept.fn YO (k:=11) rfl (show(jD asg k).length=11 from rfl)
  have r23:Row H3 H1.nx 41 0 [.int .i64 (0),.int .i64 (0),.slice none 0 0,.slice none 0 0,.int .i64 (0),.int .i64 (0),.int .i64 (0),.slice none 0 0,.int .i64 (0),.bool false,.bool false]:=n2.row.bF (w3.dS _ (by omega))
  obtain⟨H4,e4_,w4⟩:=jt w3.fn r23 (k:=11) rfl (show(jD asg (k+1)).length=11 from rfl)
  have x3:=w3.nx
  have x4:=w4.nx
  have zM:e.ok 0 (bit H.nx) H3:=wm w3.row (by omega)
  have Tm:e.ok 0 (bit H1.nx) H4:=wm w4.row (by omega)
  have b3_:∀ cq,(bit H.nx).testBit cq=true->¬ cq=bb:=dH (P:=λcq=>¬ cq=bb) (by omega)
  have b4_:∀ cq,(bit H1.nx).testBit cq=true->¬ cq=bb:=dH (P:=λcq=>¬ cq=bb) (by omega)
  refine WK.seq ?_
  refine WK.gw (λc=>c=bb) [.p,.p,.p,.u,.p,.p,.p,.p,.u,.q,.q,.y,.y] (by omega) rfl ?_
  refine fe.all (λt' H'=>H4=H'/\GT t' [(1,.int .i64 sw),(5,.func (.func 23) #[] #[]),(6,sC wb 0 12 24),(7,bv),(12,iN k),(13,pA H.nx 0),(14,pA H1.nx 0)]) ?_ ?_
  ·simp +decide only[CY,jL,qF,lC,oP,abN,MC,i1_,lQ,tA,w4_,i2_,nX,a1_,Pm,a2_,D2,e3_,zM,x3,e4_,Tm,x4,Xo 3,go_sem]
   exact⟨b1_,b1_,b3_,b4_⟩
  rintro t3_ _ ⟨rfl,oU,n8,nZ,lB,Ge,Gd,Gc, -⟩
  have r13:Row H4 H.nx 41 0 (jD asg k):=w3.row.bF (w4.dS _ (by omega))
  have r14:Row H4 H1.nx 41 0 (jD asg (k+1)):=w4.row
  have K4:Kept H H4:=by
   refine wS.kept w4 (n:=H1.nx) (Nat.le_refl _) ?_ (by omega)
   exact wS.kept w3 (n:=H.nx) (Nat.le_refl _) (n1.kept.trans n2.kept) (Nat.le_refl _)
  obtain⟨a,hak⟩:∃ a,L[k]?=some a:=⟨_,List.getElem?_eq_getElem (by omega)⟩
  obtain⟨b,hbk⟩:∃ b,L[k+1]?=some b:=⟨_,List.getElem?_eq_getElem (by omega)⟩
  obtain⟨av1,av2,av3⟩:=ha.is k a hak
  obtain⟨bv1,bv2,bv3⟩:=ha.is (k+1) b hbk
  have pA_:=ha.uU k (by omega)
  have pB_:=ha.uU (k+1) (by omega)
  obtain⟨ra,hra⟩:∃ ra,ra=(asg k).b 0:=⟨_,rfl⟩
  obtain⟨rb,hrb⟩:∃ rb,rb=(asg (k+1)).b 0:=⟨_,rfl⟩
  have hRa:Row H4 ra 28 0 (cR a.v ((asg k).b 2) 2):=by have:=pA_.r.mv K4;rw[av1,<-hra]at this;exact this
  have hRb:Row H4 rb 28 0 (cR b.v ((asg (k+1)).b 2) 2):=by have:=pB_.r.mv K4;rw[bv1,<-hrb]at this;exact this
  obtain⟨ya,ca0,ca3,ca5,ya_⟩:=GI a.v ((asg k).b 2)
  obtain⟨yb,cb0,cb3,cb5,yb_⟩:=GI b.v ((asg (k+1)).b 2)
  have ea:(jD asg k)[2]?=some (cD ra 1 2):=by rw[hra];rfl
  have eb:(jD asg (k+1))[2]?=some (cD rb 1 2):=by rw[hrb];rfl
  have s1_:dA (pA H.nx (0+2)) H4=.val (cD ra 1 2) H4 (bit H.nx) 0:=aV r13 ea
  have s2_:dA (pA H1.nx (0+2)) H4=.val (cD rb 1 2) H4 (bit H1.nx) 0:=aV r14 eb
  have s3_:∀ Hq,eT 11 (cD ra 1 2) (.int .i64 0) Hq=.val (pA ra 0) Hq 0 0:=λ_=>rfl
  have s4_:∀ Hq,eT 11 (cD rb 1 2) (.int .i64 0) Hq=.val (pA rb 0) Hq 0 0:=λ_=>rfl
  have c1_:dA (pA ra (0+0)) H4=.val (iN (ql a.v)) H4 (bit ra) 0:=aV hRa ca0
  have c2_:dA (pA rb (0+0)) H4=.val (iN (ql b.v)) H4 (bit rb) 0:=aV hRb cb0
  have c3_:dA (pA ra (0+3)) H4=.val (iN (zL a.v)) H4 (bit ra) 0:=aV hRa ca3
  have c4_:dA (pA rb (0+3)) H4=.val (iN (zL b.v)) H4 (bit rb) 0:=aV hRb cb3
  have c5_:dA (pA ra (0+5)) H4=.val ya H4 (bit ra) 0:=aV hRa ca5
  have c6_:dA (pA rb (0+5)) H4=.val yb H4 (bit rb) 0:=aV hRb cb5
  have oa_:e.ok (bit ra) 0 H4:=.read hRa.lt (Di _)
  have ob_:e.ok (bit rb) 0 H4:=.read hRb.lt (Di _)
  have zw:e.ok (bit H.nx) 0 H4:=pV r13 (by omega)
  have Cm:e.ok (bit H1.nx) 0 H4:=pV r14 (by omega)
  have ba_:(∀ cq,(bit ra).testBit cq=true->cq<H4.nx)↔True:=iff_true_intro (dH (P:=λcq=>cq<H4.nx) hRa.lt)
  have bb_:(∀ cq,(bit rb).testBit cq=true->cq<H4.nx)↔True:=iff_true_intro (dH (P:=λcq=>cq<H4.nx) hRb.lt)
  have bc_:(∀ cq,(bit H.nx).testBit cq=true->cq<H4.nx)↔True:=iff_true_intro (dH (P:=λcq=>cq<H4.nx) r13.lt)
  have bd_:(∀ cq,(bit H1.nx).testBit cq=true->cq<H4.nx)↔True:=iff_true_intro (dH (P:=λcq=>cq<H4.nx) r14.lt)
  refine WK.seq (WK.mono (K:=λx t' ds' H'=>x=.normal/\ds'=[]/\H4=H'/\∃ z:Bool,(z=true->a.v≠b.v)/\GT t' [(5,.func (.func 23) #[] #[]),(6,sC wb 0 12 24),(7,bv),(12,iN k),(13,pA H.nx 0),(14,pA H1.nx 0),(138,.bool z)]) ?_ ?_)
  ·refine WK.gw (λ_=>False) [.p,.q,.p,.p,.q,.p,.q,.p,.p,.q,.p,.p,.p,.q,.p,.p,.q,.p,.q,.p,.p,.q,.p,.p,.p,.q,.p,.p,.q,.p,.p,.p,.p,.p,.q,.p,.p,.q,.p,.p,.p,.p] (by omega) rfl ?_
   by_cases hB:ql a.v=ql b.v
   case pos =>
    have uH:decide (((ql a.v:Nat):Int)=((ql b.v:Nat):Int))=true:=decide_eq_true (by omega)
    by_cases hO:zL a.v=zL b.v
    case pos =>
     have Qe:decide (((zL a.v:Nat):Int)=((zL b.v:Nat):Int))=true:=decide_eq_true (by omega)
     refine fe.all (λt' H'=>H4=H'/\GT t' [(5,.func (.func 23) #[] #[]),(6,sC wb 0 12 24),(7,bv),(12,iN k),(13,pA H.nx 0),(14,pA H1.nx 0),(138,.bool false)]) ?_ ?_
     ·simp +decide only[nr,n8,nZ,lB,Ge,Gd,Gc,s1_,s2_,s3_,s4_,c1_,c2_,c3_,c4_,c5_,c6_,oa_,ob_,zw,Cm,ba_,bb_,bc_,bd_,ya_,yb_,uH,Qe,Xo 3,go_sem]
     rintro t' H' ⟨h1,h2⟩
     exact⟨rfl,rfl,h1,false,(λh=>by cases h),h2⟩
    case neg =>
     have Qe:decide (((zL a.v:Nat):Int)=((zL b.v:Nat):Int))=false:=decide_eq_false (by omega)
     by_cases hS1:Ef a.v=0
     case pos =>
      have XC:decide (((Ef a.v:Nat):Int)=(0:Int))=true:=decide_eq_true (by omega)
      by_cases hS2:Ef b.v=0
      case pos =>
       have d4_:decide (((Ef b.v:Nat):Int)=(0:Int))=true:=decide_eq_true (by omega)
       refine fe.all (λt' H'=>H4=H'/\GT t' [(5,.func (.func 23) #[] #[]),(6,sC wb 0 12 24),(7,bv),(12,iN k),(13,pA H.nx 0),(14,pA H1.nx 0),(138,.bool true)]) ?_ ?_
       ·simp +decide only[nr,n8,nZ,lB,Ge,Gd,Gc,s1_,s2_,s3_,s4_,c1_,c2_,c3_,c4_,c5_,c6_,oa_,ob_,zw,Cm,ba_,bb_,bc_,bd_,ya_,yb_,uH,Qe,XC,d4_,Xo 3,go_sem]
       rintro t' H' ⟨h1,h2⟩
       exact⟨rfl,rfl,h1,true,(λ_ h=>hO (by rw[h])),h2⟩
      case neg =>
       have d4_:decide (((Ef b.v:Nat):Int)=(0:Int))=false:=decide_eq_false (by omega)
       refine fe.all (λt' H'=>H4=H'/\GT t' [(5,.func (.func 23) #[] #[]),(6,sC wb 0 12 24),(7,bv),(12,iN k),(13,pA H.nx 0),(14,pA H1.nx 0),(138,.bool false)]) ?_ ?_
       ·simp +decide only[nr,n8,nZ,lB,Ge,Gd,Gc,s1_,s2_,s3_,s4_,c1_,c2_,c3_,c4_,c5_,c6_,oa_,ob_,zw,Cm,ba_,bb_,bc_,bd_,ya_,yb_,uH,Qe,XC,d4_,Xo 3,go_sem]
       rintro t' H' ⟨h1,h2⟩
       exact⟨rfl,rfl,h1,false,(λh=>by cases h),h2⟩
     case neg =>
      have XC:decide (((Ef a.v:Nat):Int)=(0:Int))=false:=decide_eq_false (by omega)
      refine fe.all (λt' H'=>H4=H'/\GT t' [(5,.func (.func 23) #[] #[]),(6,sC wb 0 12 24),(7,bv),(12,iN k),(13,pA H.nx 0),(14,pA H1.nx 0),(138,.bool false)]) ?_ ?_
      ·simp +decide only[nr,n8,nZ,lB,Ge,Gd,Gc,s1_,s2_,s3_,s4_,c1_,c2_,c3_,c4_,c5_,c6_,oa_,ob_,zw,Cm,ba_,bb_,bc_,bd_,ya_,yb_,uH,Qe,XC,Xo 3,go_sem]
      rintro t' H' ⟨h1,h2⟩
      exact⟨rfl,rfl,h1,false,(λh=>by cases h),h2⟩
   case neg =>
    have uH:decide (((ql a.v:Nat):Int)=((ql b.v:Nat):Int))=false:=decide_eq_false (by omega)
    refine fe.all (λt' H'=>H4=H'/\GT t' [(5,.func (.func 23) #[] #[]),(6,sC wb 0 12 24),(7,bv),(12,iN k),(13,pA H.nx 0),(14,pA H1.nx 0),(138,.bool true)]) ?_ ?_
    ·simp +decide only[nr,n8,nZ,lB,Ge,Gd,Gc,s1_,s2_,s3_,s4_,c1_,c2_,c3_,c4_,c5_,c6_,oa_,ob_,zw,Cm,ba_,bb_,bc_,bd_,ya_,yb_,uH,Xo 3,go_sem]
    rintro t' H' ⟨h1,h2⟩
    exact⟨rfl,rfl,h1,true,(λ_ h=>hB (by rw[h])),h2⟩
  rintro x tq dq Hq _ ⟨rfl,rfl,rfl,z,hz,h5,h6,h7,h12,h13,h14,ahK, -⟩
  show WK _ _ _ _ _ _ _ _ _
  have Lk:∀ c,c<H.nx->H4.blk c=H.blk c:=K4.old
  cases z with
  |false =>
   refine WK.cond (v:=false) (by rw[af,ahK];rfl) ?_
   refine WK.skip ?_
   rw[hn]at hb
   exact hK _ _ asg L h5 h6 h7 (Mv.kept K4 hN) rfl rfl (hb.mv λ_ h=>K4.old _ h) (ha.mv (Mv.kept (P:=λ_=>False) K4 hN) (λh=>h) (λh=>h) (λh=>h))
  |true =>
   refine WK.cond (v:=true) (by rw[af,ahK];rfl) ?_
   have hne:=hz rfl
   have hr4:Row H4 bb 41 12 (bh (jD asg) n):=hrow.mv K4
   have am3:=kO r13 (k:=11) rfl
   have adO:=kO r14 (k:=11) rfl
   have amG:e.ok (bit H.nx) 0 H4:=pV r13 (by omega)
   have amF:e.ok (bit H1.nx) 0 H4:=pV r14 (by omega)
   obtain⟨f1,My⟩:∃ f1:Nat->List Value,f1=λi=>if i=k then jD asg (k+1)else jD asg i:=⟨_,rfl⟩
   obtain⟨f2,UH⟩:∃ f2:Nat->List Value,f2=λi=>if i=k+1 then jD asg k else f1 i:=⟨_,rfl⟩
   have Z9:∀ i,i<n->(f1 i).length=11:=λi _=>by rw[My];show(if i=k then jD asg (k+1)else jD asg i).length=11;split<;>rfl
   have sL:∀ i,i<n->(f2 i).length=11:=λi hi=>by rw[UH];show(if i=k+1 then jD asg k else f1 i).length=11;split;rfl;exact Z9 i hi
   have f1k:f1 k=jD asg (k+1):=by rw[My];show(if k=k then _ else _)=_;rw[if_pos rfl]
   have f2k:f2 (k+1)=jD asg k:=by rw[UH];show(if k+1=k+1 then _ else _)=_;rw[if_pos rfl]
   have aoJ:=fF Z9
   obtain⟨H5,e5_,w5⟩:=j4 (vs:=jD asg (k+1)) K4.fn hr4 (o:=k*11) (by show k*11+11<=_;omega)
   have e5_:i_ 11 (pA bb (k*11)) (.agg ⟨jD asg (k+1)⟩) H4=.val U H5 0 (bit bb):=e5_
   have p5:(bh (jD asg) n).take (k*11)++jD asg (k+1)++(bh (jD asg) n).drop (k*11+(jD asg (k+1)).length)=bh f1 n:=by
    have:=Bj (g:=f1) (k:=k) hst Z9 (by omega) (λi _ h=>by rw[My];show(if i=k then _ else _)=_;rw[if_neg h])
    rw[f1k]at this;exact this
   rw[p5]at w5
   obtain⟨H6,e6_,w6⟩:=j4 (vs:=jD asg k) w5.fn w5.row (o:=(k+1)*11) (by show(k+1)*11+11<=_;omega)
   have e6_:i_ 11 (pA bb ((k+1)*11)) (.agg ⟨jD asg k⟩) H5=.val U H6 0 (bit bb):=e6_
   have p6:(bh f1 n).take ((k+1)*11)++jD asg k++(bh f1 n).drop ((k+1)*11+(jD asg k).length)=bh f2 n:=by
    have:=Bj (g:=f2) (k:=k+1) Z9 sL hkn (λi _ h=>by rw[UH];show(if i=k+1 then _ else _)=_;rw[if_neg h])
    rw[f2k]at this;exact this
   rw[p6]at w6
   have x5:=w5.nx
   have x6:=w6.nx
   have Xv:e.ok 0 (bit bb) H5:=wm w5.row (by omega)
   have o8_:e.ok 0 (bit bb) H6:=wm w6.row (by omega)
   have c7_:∀ cq,(bit H.nx).testBit cq=true->cq<H4.nx/\(cq=H.nx\/cq=H1.nx):=dH (P:=λcq=>cq<H4.nx/\(cq=H.nx\/cq=H1.nx)) ⟨r13.lt,.inl rfl⟩
   have c8_:∀ cq,(bit H1.nx).testBit cq=true->cq<H4.nx/\(cq=H.nx\/cq=H1.nx):=dH (P:=λcq=>cq<H4.nx/\(cq=H.nx\/cq=H1.nx)) ⟨r14.lt,.inr rfl⟩
   have c9_:∀ cq,(bit bb).testBit cq=true->¬ (cq=H.nx\/cq=H1.nx):=dH (P:=λcq=>¬ (cq=H.nx\/cq=H1.nx)) (by omega)
   refine WK.gw (λc=>c=H.nx\/c=H1.nx) [.p,.p,.p,.p,.p,.u,.u,.p,.y,.p,.y] (by omega) rfl ?_
   refine fe.all (λt' H'=>H6=H'/\GT t' [(5,.func (.func 23) #[] #[]),(6,sC wb 0 12 24),(7,bv)]) ?_ ?_
   ·simp +decide only[CX,h5,h6,h7,h12,h13,h14,w4_,am3,adO,amG,amF,i1_,i2_,e5_,e6_,Xv,o8_,x5,x6,Xo 3,go_sem]
    exact⟨c8_,c7_,c9_⟩
   rintro t4_ _ ⟨rfl,nC,uw,sN, -⟩
   obtain⟨asg2,has⟩:∃ asg2:Nat->iH,asg2=λi=>if i=k then asg (k+1)else if i=k+1 then asg k else asg i:=⟨_,rfl⟩
   have qB:bh f2 n=bh (jD asg2) n:=h_ λi _=>by
    rw[UH,My,has]
    show(if i=k+1 then jD asg k else if i=k then jD asg (k+1)else jD asg i)=cT _ ((if i=k then asg (k+1)else if i=k+1 then asg k else asg i).b 0) ((if i=k then asg (k+1)else if i=k+1 then asg k else asg i).b 1)
    by_cases h1:i=k
    ·rw[if_neg (by omega),if_pos h1,if_pos h1];rfl
    ·by_cases h2:i=k+1
     ·rw[if_pos h2,if_neg h1,if_pos h2];rfl
     ·rw[if_neg h2,if_neg h1,if_neg h1,if_neg h2];rfl
   rw[qB]at w6
   have M6:Mv (λt=>t=41) N H H6:=(Mv.kept K4 hN).trans ((Mv.wr w5 hr4 hbN).trans (Mv.wr w6 w5.row hbN))
   have hsp:=N6 hak hbk
   have hAl:(L.take k).length=k:=by rw[List.length_take];omega
   refine hK _ _ asg2 (L.take k++b::a::L.drop (k+2)) nC uw sN M6 ?_ ?_ ?_ ?_
   ·rw[congrArg List.length hsp];simp
   ·rw[Is hne,<-hsp]
   ·rw[<-hn,hbv];exact .one _ _ hbN w6.row (fF λ_ _=>rfl) (by omega)
   ·have hlen:(L.take k++b::a::L.drop (k+2)).length=n:=by rw[hn,congrArg List.length hsp];simp
    have hpc:∀ i,i<n->Ke H6 (asg i):=λi hi=>(ha.uU i (by omega)).mv M6 (by decide) (by decide) (by decide)
    refine⟨λi hi=>?_,λi x hx=>?_⟩
    ·rw[hlen]at hi
     rw[has]
     show Ke H6 (if i=k then asg (k+1)else if i=k+1 then asg k else asg i)
     split
     ·exact hpc _ hkn
     ·split
      ·exact hpc _ (by omega)
      ·exact hpc _ hi
    ·rw[has]
     show(if i=k then asg (k+1)else if i=k+1 then asg k else asg i).v=x.v/\(if i=k then asg (k+1)else if i=k+1 then asg k else asg i).ld=x.ld/\(if i=k then asg (k+1)else if i=k+1 then asg k else asg i).n=x.n
     rcases XY hx with⟨h,rfl⟩|⟨h,rfl⟩|⟨h1,h2,h⟩
     ·rw[hAl]at h;rw[if_pos h];exact⟨bv1,bv2,bv3⟩
     ·rw[hAl]at h;rw[if_neg (by omega),if_pos h];exact⟨av1,av2,av3⟩
     ·rw[hAl]at h1 h2;rw[if_neg h1,if_neg h2];rw[<-hsp]at h;exact ha.is i x h
end
end Go.Proofs.CA
end
noncomputable section
namespace Go.Proofs.CA
open Go Go.Ev Go.Proofs Go.Proofs.MN Go.Proofs.CN
theorem Du:∀ (t cur r:List UInt8),(∀ b∈t,Lib.isSp b=false)->Lib.fieldsGo cur (t++r)=Lib.fieldsGo (cur++t) r
 | [],cur,r,_=>by rw[List.nil_append,List.append_nil]
 |b::t,cur,r,h=>by
  rw[List.cons_append,Lib.fieldsGo_more _ _ _ (h b List.mem_cons_self),Du t (cur++[b]) r λx hx=>h x (List.mem_cons_of_mem _ hx),List.append_assoc];rfl
theorem VW:∀ (p r:List UInt8),(∀ b∈p,Lib.isSp b=true)->Lib.fieldsGo [] (p++r)=Lib.fieldsGo [] r
 | [],r,_=>rfl
 |b::p,r,h=>by rw[List.cons_append,Lib.fieldsGo_sp _ _ (h b List.mem_cons_self),VW p r λx hx=>h x (List.mem_cons_of_mem _ hx)]
theorem aam {p cur r:List UInt8} (hp:p≠[]) (h:∀ b∈p,Lib.isSp b=true) (hc:cur≠[]):Lib.fieldsGo cur (p++r)=cur::Lib.fieldsGo [] r:=by
 cases p with
 |nil=>exact absurd rfl hp
 |cons b p=>rw[List.cons_append,Lib.fieldsGo_end _ _ _ (h b List.mem_cons_self) hc,VW p r λx hx=>h x (List.mem_cons_of_mem _ hx)]
theorem YU (c:Nat):∀ b∈nU c,Lib.isSp b=true:=by
 intro b hb
 unfold nU at hb
 split at hb
 ·cases hb
 ·split at hb
  ·rw[(List.mem_replicate.1 hb).2];rfl
  ·rw[List.mem_singleton.1 hb];rfl
theorem YV {c:Nat} (h:c≠1):nU c≠[]:=by
 unfold nU
 rw[if_neg h]
 split
 ·rename_i h2
  have:c<uV c:=by
   unfold uV
   repeat' split
   all_goals omega
  intro e
  have:=congrArg List.length e
  rw[List.length_replicate]at this
  simp at this;omega
 ·simp
theorem Zi (c:Nat):1<=uV c\/c=0:=by
 unfold uV
 repeat' split
 all_goals omega
theorem ES {tx:Nat->List UInt8} (h1:∀ i,i<12->1<=(tx i).length/\(tx i).length<=6) (hs:∀ i,i<12->∀ b∈tx i,Lib.isSp b=false):∀ i r,i<12->Lib.fieldsGo [] (gp tx (i+1)++r)=(List.range i).map tx++Lib.fieldsGo (tx i) r:=by
 intro i
 induction i with
 |zero =>
  intro r _
  show Lib.fieldsGo [] (([]++nU 1++tx 0)++r)=_
  rw[show nU 1=[]from rfl,List.append_nil,List.nil_append,Du _ _ _ (hs 0 (by omega))];rfl
 |succ i ih =>
  intro r hi
  have e:gp tx (i+2)++r=gp tx (i+1)++(nU (j7 tx (i+1))++(tx (i+1)++r)):=by
   show(gp tx (i+1)++nU (j7 tx (i+1))++tx (i+1))++r=_
   rw[List.append_assoc,List.append_assoc]
  have hc:=@DF SN tx (λi hi=>(h1 i hi).2) (i+1) (by omega)
  have hc0:=@DF SN tx (λi hi=>(h1 i hi).2) i (by omega)
  have hne:j7 tx (i+1)≠1:=by
   show uV (j7 tx i)+(tx i).length≠1
   have:=h1 i (by omega)
   rcases Zi (j7 tx i)with h|h<;>omega
  have hti:tx i≠[]:=λh=>by have:=h1 i (by omega);rw[h]at this;simp at this
  rw[e,ih _ (by omega),aam (YV hne) (YU _) hti,Du _ _ _ (hs (i+1) hi),List.nil_append,List.range_succ,List.map_append]
  simp
theorem RN {x:Int} {b:UInt8} (h:b∈stx x):b=45\/∃ i,b=UInt8.ofNat (48+jr x.natAbs i):=by
 by_cases hx:x<0
 ·rw[mT hx]at h
  rcases List.mem_cons.1 h with h|h
  ·exact .inl h
  ·exact .inr (vR h)
 ·rw[jH (by omega)]at h
  exact .inr (vR h)
theorem acw {x:Int}:∀ b∈stx x,Lib.isSp b=false:=by
 intro b hb
 rcases RN hb with rfl|⟨i,rfl⟩
 ·rfl
 ·have:=lG x.natAbs i
  rcases(by omega:jr x.natAbs i=0\/jr x.natAbs i=1\/jr x.natAbs i=2\/jr x.natAbs i=3\/jr x.natAbs i=4\/jr x.natAbs i=5\/jr x.natAbs i=6\/jr x.natAbs i=7\/jr x.natAbs i=8\/jr x.natAbs i=9)with e|e|e|e|e|e|e|e|e|e<;>rw[e]<;>rfl
theorem X9 {x:Int}:∀ b∈stx x,b.toNat<128:=by
 intro b hb
 rcases RN hb with rfl|⟨i,rfl⟩
 ·decide
 ·rw[qO];have:=lG x.natAbs i;omega
theorem HV {W:Nat->Int} (hW:∀ u,u<12->tj (W u)):Lib.fields (gp (λi=>stx (W i)) 12)=(List.range 12).map λu=>stx (W u):=by
 have:=ES (tx:=λi=>stx (W i)) (λi hi=>⟨Ek.tx1 _ (hW i hi),(Ek.tx6 _ (hW i hi)).1⟩) (λi _=>acw) 11 [] (by omega)
 rw[List.append_nil]at this
 unfold Lib.fields
 rw[this]
 have hne:stx (W 11)≠[]:=λh=>by have:=Ek.tx1 _ (hW 11 (by omega));rw[h]at this;simp at this
 have e:Lib.fieldsGo (stx (W 11)) []=[stx (W 11)]:=by
  unfold Lib.fieldsGo
  rw[if_neg (by simpa using hne)]
 rw[e,List.range_succ,List.map_append];rfl
theorem K5 {W:Nat->Int}:∀ i,∀ b∈gp (λi=>stx (W i)) i,b.toNat<128
 |0,b,h=>by cases h
 |i+1,b,h=>by
  have h:b∈gp (λi=>stx (W i)) i++nU (j7 (λi=>stx (W i)) i)++stx (W i):=h
  rcases List.mem_append.1 h with h|h
  ·rcases List.mem_append.1 h with h|h
   ·exact K5 i b h
   ·unfold nU at h
    split at h
    ·cases h
    ·split at h
     ·rw[(List.mem_replicate.1 h).2];decide
     ·rw[List.mem_singleton.1 h];decide
  ·exact X9 b h
theorem yc:∀ {L:List Act},(∀ a∈L,tj a.n)->∀ u,tj (dy L u):=by
 intro L
 have key:∀ (L:List Act) (f:Nat->Int),(∀ u,tj (f u))->(∀ a∈L,tj a.n)->∀ u,tj (L.foldl mg f u):=by
  intro L
  induction L with
  |nil=>intro f hf _ u;exact hf u
  |cons a L ih =>
   intro f hf h u
   refine ih (mg f a) (λu=>?_) (λx hx=>h x (List.mem_cons_of_mem _ hx)) u
   unfold mg
   split
   ·exact h a List.mem_cons_self
   ·exact hf u
 exact λh u=>key L _ (λ_=>⟨by decide,by decide⟩) h u
end Go.Proofs.CA
end
noncomputable section
namespace Go.Proofs.CA
open Go Go.Ev Go.Proofs Go.Proofs.MN
open Go.Proofs.CN (stx)
section
attribute [local go_sem] au aj GT dF gF aR fe Yj Yk Yl Ym Yn Yo Yp Yq Yr and_self and_true cV cU cQ cP cN cM bx ig ic de dR aP bw af cJ cI bP cH cG cF cE if_false if_true dM dD bM run true_and ck bL bK bJ bI bf bu l9 vj
variable {m:Nat} {bE:List UInt8} {e:Env}
theorem pT.afN {N ty sz by_ n b:Nat} (he:e.n0<=N) {H:Hp} {v:Value} {L new:List Value} (hN:N<=H.nx) (hf:H.bG=true) (h:pT N ty sz H b v L n) (hnew:new.length=sz) (hby:by_<=200) (hn:n<=100000) :
 ∃ H1 H2 r' w',aS (aG new ty 0) H (λi=>c_ (some (i,0)) 1 1 false) 0 0=.val (sC H.nx 0 1 2) H1 0 0/\H.nx<=H1.nx/\iQ ty sz by_ v (sC H.nx 0 1 2) H1=.val (cD H1.nx (n+1) (2*(n+1)+1)) H2 r' w'/\e.ok r' w' H2/\H1.nx<=H2.nx/\pT N ty sz H2 H1.nx (cD H1.nx (n+1) (2*(n+1)+1)) (L++new) (n+1)/\Mv (λt=>t=ty) N H H2/\∀ c L',Row H c ty 0 L'->Row H2 c ty 0 L':=by
 letI:=SN
 obtain⟨H1,n1⟩:=uX hf new ty
 have x1:=n1.nx
 obtain⟨H2,r',w',a1,a2,a3,a4,a5⟩:=(h.mv λ_ h=>n1.kept.old _ h).app' (by_:=by_) he (by omega) n1.kept.fn n1.row hnew (by omega) hby hn
 exact⟨H1,H2,r',w',n1.al,by omega,a1,a2,by omega,a4,(Mv.kept n1.kept hN).trans a5,λc L' hr'=>(h.mv λ_ h=>n1.kept.old _ h).afL n1.kept.fn n1.row hnew hby hn a1 c L' (hr'.mv n1.kept)⟩
structure Refs (H:Hp) (rb sb:Nat->Nat) (n:Nat):Prop where
 r:∀ v,v<n->Row H (rb v) 28 0 (cR v (sb v) 2)
 s:∀ v,v<n->4<=v->v<8->Row H (sb v) 76 0 (cS v)
theorem Refs.mv {P:Nat->Prop} {N:Nat} {H H1:Hp} {rb sb:Nat->Nat} {n:Nat} (h:Refs H rb sb n) (k:Mv P N H H1) (h1:¬ P 28) (h3:¬ P 76):Refs H1 rb sb n:=⟨λv hv=>k.row h1 (h.r v hv),λv hv h4 h8=>k.row h3 (h.s v hv h4 h8)⟩
theorem Refs.snoc {H:Hp} {rb sb:Nat->Nat} {n r s:Nat} (h:Refs H rb sb n) (hr:Row H r 28 0 (cR n s 2)) (hs:4<=n->n<8->Row H s 76 0 (cS n)):Refs H (λv=>if v=n then r else rb v) (λv=>if v=n then s else sb v) (n+1):=by
 refine⟨λv hv=>?_,λv hv h4 h8=>?_⟩
 ·show Row H (if v=n then r else rb v) 28 0 (cR v (if v=n then s else sb v) 2)
  by_cases e:v=n
  ·subst e;rw[if_pos rfl,if_pos rfl];exact hr
  ·rw[if_neg e,if_neg e];exact h.r v (by omega)
 ·show Row H (if v=n then s else sb v) 76 0 (cS v)
  by_cases e:v=n
  ·subst e;rw[if_pos rfl];exact hs h4 h8
  ·rw[if_neg e];exact h.s v (by omega) h4 h8
theorem Rh (f:Nat->Int) {u:Nat} (h:u<12):(fP f)[u]?=some (.int .i64 (f u)):=by unfold fP;rw[List.getElem?_map,List.getElem?_range h];rfl
set_option maxRecDepth 10000 in
set_option maxHeartbeats 8000000 in
theorem TZ {N:Nat} (he:e.n0<=N) (vE:15<=N) (Di:∀ b,b<e.n0->e.Rd b) {H:Hp} (hf:H.bG=true) (hN:N<=H.nx) (hg:zp H) {wb:Nat} {W:Nat->Int} (hW:∀ u,u<12->tj (W u)) (hw:Row H wb 3 0 (fP W)) {bv:Value}
 {t:T Value} (g5:t.get 5=.func (.func 23) #[] #[]) (g6:t.get 6=sC wb 0 12 24) (g7:t.get 7=bv) (g15:t.get 15=.slice none 0 0) (g16:t.get 16=.slice none 0 0) (g148:t.get 148=iN 0) {K:Ex->T Value->List Deferred->Hp->Prop}
 (hK:∀ (t':T Value) (H':Hp) (vb tb:Nat) (rb sb:Nat->Nat),t'.get 7=bv->t'.get 15=cD vb 12 25->t'.get 16=cD tb 12 25->Mv (λt=>t=35\/t=9) N H H'->N<=vb->N<=tb->Row H' vb 35 12 (bh (λv=>cL (rb v) 2) 12)->Row H' tb 9 2 (bh (λu=>[vS (stx (W u))]) 12)->Refs H' rb sb 12->(∀ c L,Row H c 35 0 L->Row H' c 35 0 L)->K .normal t' [] H') :
 @WK SN dm (nT m bE) e ⟨3,195,none,false⟩ (.block 2 (.loop mu.sr.sr.sr.sr.sr.sr.sr.sr.sr.sr.sl.sr.bl.lp C1)) t [] H K:=by
 letI:=SN
 refine WK.block (WK.eR (λmm t' ds' H'=>ds'=[]/\∃ (i vb tb:Nat) (vv tv:Value) (rb sb:Nat->Nat),mm=12-i/\i<=12/\Mv (λt=>t=35\/t=9) N H H'/\pT N 35 11 H' vb vv (bh (λv=>cL (rb v) 2) i) i/\pT N 9 1 H' tb tv (bh (λu=>[vS (stx (W u))]) i) i/\Refs H' rb sb i/\(∀ c L,Row H c 35 0 L->Row H' c 35 0 L)/\t'.get 5=.func (.func 23) #[] #[]/\t'.get 6=sC wb 0 12 24/\t'.get 7=bv/\t'.get 15=vv/\t'.get 16=tv/\t'.get 148=iN i) ?_ _ t [] H ⟨rfl,0,0,0,_,_,λ_=>0,λ_=>0,rfl,Nat.zero_le _,Mv.refl hf,.nil,.nil,⟨λv hv=>absurd hv (Nat.not_lt_zero _),λv hv=>absurd hv (Nat.not_lt_zero _)⟩,λ_ _ h=>h,g5,g6,g7,g15,g16,g148⟩)
 clear g5 g6 g7 g15 g16 g148
 rintro mm t0_ ds_ H0 ⟨rfl,i,vb,tb,vv,tv,rb,sb,rfl,apa,M0,hv0,ht0,hr0,hE0,I9,I7,zS,Gb,F6,VD⟩
 unfold C1
 refine WK.seq ?_
 by_cases hi:i<12
 case neg =>
  obtain rfl:i=12:=by omega
  have d_:decide (((12:Nat):Int)<(12:Int))=false:=rfl
  refine WK.av ?_
  refine aR.all (λt' H'=>H0=H'/\GT t' [(5,.func (.func 23) #[] #[]),(6,sC wb 0 12 24),(7,bv),(15,vv),(16,tv),(148,iN 12),(149,.bool false)]) ?_ ?_
  ·simp +decide only[CW,I9,I7,zS,Gb,F6,VD,d_,Xo 3,go_sem]
  rintro Xq _ ⟨rfl,yy,ux,pY,va,yM,VC,Dp, -⟩
  refine WK.seq ?_
  refine WK.cond (v:=false) (by rw[af,Dp];rfl) ?_
  refine WK.exit ?_
  obtain⟨hvb,hvr,rfl⟩:N<=vb/\Row H0 vb 35 12 (bh (λv=>cL (rb v) 2) 12)/\vv=cD vb 12 25:=by
   generalize hB:bh (λv=>cL (rb v) 2) 12=B at hv0
   cases hv0 with|one _ _ h1 h2 h3 h4=>exact⟨h1,h2,rfl⟩
  obtain⟨htb,htr,rfl⟩:N<=tb/\Row H0 tb 9 2 (bh (λu=>[vS (stx (W u))]) 12)/\tv=cD tb 12 25:=by
   generalize hB:bh (λu=>[vS (stx (W u))]) 12=B at ht0
   cases ht0 with|one _ _ h1 h2 h3 h4=>exact⟨h1,h2,rfl⟩
  exact hK _ _ vb tb rb sb pY va yM M0 hvb htb hvr htr hr0 hE0
 case pos =>
  have d_:decide (((i:Nat):Int)<(12:Int))=true:=decide_eq_true (by omega)
  refine WK.av ?_
  refine aR.all (λt' H'=>H0=H'/\GT t' [(5,.func (.func 23) #[] #[]),(6,sC wb 0 12 24),(7,bv),(15,vv),(16,tv),(148,iN i),(149,.bool true)]) ?_ ?_
  ·simp +decide only[CW,I9,I7,zS,Gb,F6,VD,d_,Xo 3,go_sem]
  rintro Xq _ ⟨rfl,yy,ux,pY,va,yM,VC,Dp, -⟩
  refine WK.seq ?_
  refine WK.cond (v:=true) (by rw[af,Dp];rfl) ?_
  refine WK.skip ?_
  refine WK.seq ?_
  refine WK.block ?_
  refine WK.seq ?_
  refine WK.av ?_
  refine aR.all (λt' H'=>H0=H'/\GT t' [(5,.func (.func 23) #[] #[]),(6,sC wb 0 12 24),(7,bv),(15,vv),(16,tv),(17,iN i),(148,iN i)]) ?_ ?_
  ·simp +decide only[Ma,yy,ux,pY,va,yM,VC,Dp,Xo 3,go_sem]
  rintro Xp _ ⟨rfl,qF,lC,oP,kR,F5,Vw,Jh, -⟩
  have M0n:=M0.nx
  refine WK.seq ?_
  refine WK.av ?_
  refine aR.iX λK0 qD=>?_
  simp +decide only[L_,qF,lC,oP,kR,F5,Vw,Jh,Xo 3,go_sem]
  refine EC.mono (we M0.fn (by omega) hi) λxr H1 _ zO=>?_
  obtain⟨s,rfl,hs,k1⟩:=zO
  rw[fC]
  have x1:=k1.nx
  simp +decide only[qF,lC,oP,kR,F5,Vw,Jh,Xo 3,go_sem]
  refine EC.mono (LZ k1.fn (by omega) (DJ i s) (ab2 i s)) λxr H2 _ zO=>?_
  obtain⟨r,rfl,hr,k2,hrn⟩:=zO
  rw[fC]
  have x2:=k2.nx
  have M2:Mv (λ_=>False) N H0 H2:=(Mv.kept k1 (by omega)).trans (Mv.kept k2 (by omega))
  obtain⟨H3,H4,r4,w4,f1_,f2_,XB,f4_,f5_,hv4,M4,E4⟩:=pT.afN (e:=e) (by_:=136) (new:=cL r 2) he (by omega) k2.fn (hv0.mvM M2 (λh=>h)) rfl (by omega) (by omega)
  have wv:∀ t:T Value,t.get 155=.agg ⟨cL r 2⟩->bD (bH t [.int .i64 (0),.int .i64 (0),.int .i64 (0),.int .i64 (0),.bool false,.string ⟨#[]⟩,.int .i64 (0),.string ⟨#[]⟩,.int .i64 (0),.slice none 0 0,.slice none 0 0] [(0,11,.tmp 155)]) (λl=>aS (aG l 35 0) H2 (λi=>c_ (some (i,0)) 1 1 false) 0 0)=.val (sC H2.nx 0 1 2) H3 0 0:=λt g=>by
   rw[gL (R:=cL r 2) (k:=11) (by rw[af,g]) rfl rfl,bS];exact f1_
  obtain⟨vv4,am8⟩:∃ vv4,vv4=cD H3.nx (i+1) (2*(i+1)+1):=⟨_,rfl⟩
  rw[<-am8]at XB hv4
  refine aR.all (λt' H'=>H4=H'/\GT t' [(5,.func (.func 23) #[] #[]),(6,sC wb 0 12 24),(7,bv),(15,vv4),(16,tv),(17,iN i),(148,iN i)]) ?_ ?_
  ·simp +decide only[qF,lC,oP,kR,F5,Vw,Jh,wv,f2_,XB,f4_,f5_,Xo 3,go_sem]
  rintro t3_ _ ⟨rfl,n8,nZ,lB,MO,yL,ML,VB, -⟩
  refine qD _ _ ?_
  have MM4:Mv (λt=>t=35) N H0 H4:=(M2.mono λ_ h=>h.elim).trans M4
  have hw4:Row H4 wb 3 0 (fP W):=MM4.row (by decide) (M0.row (by decide) hw)
  have hg4:zp H4:=(hg.mv M0 vE).mv MM4 vE
  have YP:∀ Hq,eT 1 (sC wb 0 12 24) (iN i) Hq=.val (pA wb i) Hq 0 0:=λHq=>by rw[dW (by omega) (by omega)];simp
  have q2_:dA (pA wb i) H4=.val (.int .i64 (W i)) H4 (bit wb) 0:=aV hw4 (Rh W hi)
  have Tn:e.ok (bit wb) 0 H4:=.read hw4.lt (Di _)
  refine WK.av ?_
  refine aR.iX λK1 hK1=>?_
  simp +decide only[L9,n8,nZ,lB,MO,yL,ML,VB,YP,q2_,Tn,Xo 3,go_sem]
  have anK:(2:Nat)<H4.nx:=(nG hg4.b2).1
  refine l8 (w13 (hW i hi) hg4) rfl (Env.ok.read anK (Di _)) (Nat.le_refl _) ?_
  rw[fC]
  have M4n:=MM4.nx
  obtain⟨H5,H6,r6,w6,h1_,h2_,h3_,h4_,h5_,ht6,M6,_⟩:=pT.afN (e:=e) (by_:=16) (new:=[vS (stx (W i))]) he (by omega) MM4.fn (ht0.mvM MM4 (by decide)) rfl (by omega) (by omega)
  have r_:∀ t:T Value,t.get 163=vS (stx (W i))->bD (bH t [.string ⟨#[]⟩] [(0,1,.tmp 163)]) (λl=>aS (aG l 9 0) H4 (λi=>c_ (some (i,0)) 1 1 false) 0 0)=.val (sC H4.nx 0 1 2) H5 0 0:=λt g=>by
   rw[uD (w:=vS (stx (W i))) (by rw[af,g];rfl),bS];exact h1_
  obtain⟨tv6,am9⟩:∃ tv6,tv6=cD H5.nx (i+1) (2*(i+1)+1):=⟨_,rfl⟩
  rw[<-am9]at h3_ ht6
  refine aR.all (λt' H'=>H6=H'/\GT t' [(5,.func (.func 23) #[] #[]),(6,sC wb 0 12 24),(7,bv),(15,vv4),(16,tv6),(17,iN i),(148,iN i)]) ?_ ?_
  ·simp +decide only[n8,nZ,lB,MO,yL,ML,VB,r_,h2_,h3_,h4_,h5_,Xo 3,go_sem]
  rintro t4_ _ ⟨rfl,nC,uw,sN,Ga,sR,Vv,aeX, -⟩
  refine hK1 _ _ ?_
  refine WK.av ?_
  have w6_:Value.int .i64 (aN .i64 (((i:Nat):Int)+(1:Int)))=.int .i64 ((i+1:Nat):Int):=wF (by omega)
  refine aR.all (λt' H'=>H6=H'/\GT t' [(5,.func (.func 23) #[] #[]),(6,sC wb 0 12 24),(7,bv),(15,vv4),(16,tv6),(148,iN (i+1))]) ?_ ?_
  ·simp +decide only[L8,nC,uw,sN,Ga,sR,Vv,aeX,w6_,Xo 3,go_sem]
  rintro t5_ _ ⟨rfl,uy,sO,yw,F_,sQ,aeW, -⟩
  have MT:Mv (λt=>t=35\/t=9) N H H6:=M0.trans ((MM4.mono λ_ h=>.inl h).trans (M6.mono λ_ h=>.inr h))
  have hrf:Refs H6 (λv=>if v=i then r else rb v) (λv=>if v=i then s else sb v) (i+1):=by
   have QL:Refs H2 _ _ (i+1):=(hr0.mv M2 (λh=>h) (λh=>h)).snoc hr (λh4 h8=>(hs (by rw[(an _ _).2 h8,(an _ _).2 (by omega:3<i)];rfl)).mv k2)
   exact(QL.mv M4 (by decide) (by decide)).mv M6 (by decide) (by decide)
  have e1:bh (λv=>cL (if v=i then r else rb v) 2) (i+1)=bh (λv=>cL (rb v) 2) i++cL r 2:=by
   rw[fW]
   congr 1
   ·exact h_ λv hv=>by rw[if_neg (by omega)]
   ·rw[if_pos rfl]
  have e2:bh (λu=>[vS (stx (W u))]) (i+1)=bh (λu=>[vS (stx (W u))]) i++[vS (stx (W i))]:=fW _ _
  refine⟨_,by omega,rfl,i+1,H3.nx,H5.nx,vv4,tv6,_,_,rfl,by omega,MT,?_,?_,hrf,λc L h=>M6.row (by decide) (E4 c L (M2.row (λh=>h) (hE0 c L h))),uy,sO,yw,F_,sQ,aeW⟩
  ·rw[e1];exact hv4.mvM M6 (by decide)
  ·rw[e2];exact ht6
end
end Go.Proofs.CA
end
