/-
 A part of the proof that pliantlaw16.MeanAssigns returns true and leaves its arguments alone. Conditions: those of the card in the last text.
-/
import Derived.Test.YtdmcanlbncbemaaGreatDoorG24
set_option linter.unusedSimpArgs false
set_option linter.unusedVariables false
set_option linter.unusedSectionVars false
set_option maxRecDepth 100000
set_option maxHeartbeats 8000000
noncomputable section
namespace Go.Proofs.CA
open Go Go.Ev Go.Proofs Go.Proofs.MN
open Go.Proofs.CN (stx)
section
attribute [local go_sem] au aj GT dF gF aR fe Yj Yk Yl Ym Yn Yo Yp Yq Yr and_self and_true cV cU cQ cP cN cM bx ig ic de dR aP bw af cJ cI bP cH cG cF cE if_false if_true dM dD bM run true_and ck bL bK bJ bI bf bu l9 vj
variable {m:Nat} {bE:List UInt8} {e:Env}
theorem amI {H:Hp} (hf:H.bG=true):∃ H1,qI 3 8 [.int .i64 (0)] (.int .i64 (12)) (.int .i64 (12)) H=.val (sC H.nx 0 12 24) H1 0 0/\Row H1 H.nx 3 0 (fP λ_=>0)/\Kept H H1/\H1.nx=H.nx+1:=by
 letI:=SN
 refine⟨H.push (.cells (.e (.int .i64 0)) 12 3 0 0 0),?_,⟨.e (.int .i64 0),?_,λi v hv=>?_⟩,⟨by rw[cg];exact hf,by rw[aZ];omega,λb hb=>a_ (aO hf) _ hb⟩,aZ _ _⟩
 ·show aS (.cells (.e (.int .i64 0)) 12 3 0 0 0) H (λi=>c_ (some (i,0)) 12 12 false) 0 0=_
  rw[e_ (aO hf)]
  rfl
 ·rw[tF,gf _ (aO hf),if_pos rfl]
 ·unfold fP at hv
  rw[List.getElem?_map]at hv
  cases h:(List.range 12)[i]? with
  |none=>rw[h]at hv;cases hv
  |some u=>rw[h]at hv;exact Option.some.inj hv
def zsA (L:List Act) (k:Nat):Int:=if 100<=k then dy (L.take ((k-100) / 12)) ((k-100) % 12)else 0
theorem wT (L:List Act) {i u:Nat} (h:u<12):zsA L (kj i u)=dy (L.take i) u:=by
 unfold zsA kj
 rw[if_pos (by omega),show(100+12*i+u-100) / 12=i by omega,show(100+12*i+u-100) % 12=u by omega]
theorem aki {H:Hp} {asg:Nat->iH} {L:List Act} (h:qb H asg L):zq (zsA L) asg L.length:=by
 have hP:∀ a∈L,tj a.n:=λa ha=>by
  obtain⟨i,hi,e⟩:=List.getElem_of_mem ha
  have h1:=h.is i a (by rw[List.getElem?_eq_getElem hi,e])
  rw[<-h1.2.2];exact(h.uU i hi).n
 refine⟨λu hu=>by rw[wT L hu];rfl,λi hi u hu=>?_,λi _ u hu=>by rw[wT L hu];exact yc (λa ha=>hP a (List.mem_of_mem_take ha)) u⟩
 rw[wT L hu,wT L hu]
 obtain⟨a,ha⟩:∃ a,L[i]?=some a:=⟨_,List.getElem?_eq_getElem hi⟩
 obtain⟨h1,h2,h3⟩:=h.is i a ha
 rw[List.take_add_one,ha]
 show dy (L.take i++[a]) u=_
 rw[qz,h1,h2,h3]
 rfl
theorem aa0 {l:List (Int×Int)}:∀ a∈gh l,tj a.n:=by
 intro a ha
 obtain⟨x,_,hx⟩:=List.mem_flatMap.1 ha
 unfold qT at hx
 rcases List.mem_cons.1 hx with rfl|hx
 ·exact Im _
 ·split at hx
  ·rw[List.mem_singleton.1 hx];exact Im _
  ·cases hx
theorem Ew {f:Nat->Value}:∀ n,bh (λu=>[f u]) n=(List.range n).map f
 |0=>rfl
 |n+1=>by rw[fW,Ew n,List.range_succ,List.map_append];rfl
def zI (vb:Nat):List Value:=[iI 15,iI 0,aT,cD vb 12 25,iI 0,iI 0,iI 0,aT,iI 0,.bool false,.bool false]
theorem aaN (asg:Nat->iH) (n vb:Nat):bh (kn (λi=>if i<n then jD asg i else zI vb) (n+1)) (n+1)=NA asg n vb:=by
 rw[fW]
 unfold NA
 congr 1
 ·refine h_ λi hi=>?_
  unfold kn
  rw[if_pos (by omega)]
  show(if i<n then jD asg i else zI vb).set 1 _=_
  rw[if_pos hi]
  rfl
 ·unfold kn
  rw[if_pos (by omega)]
  show(if n<n then jD asg n else zI vb).set 1 _=_
  rw[if_neg (by omega)]
  rfl
theorem HW {f g:Nat->List UInt8} (h:∀ i,i<12->f i=g i):gp f 12=gp g 12:=by
 have key:∀ i,i<=12->gp f i=gp g i/\j7 f i=j7 g i:=by
  intro i
  induction i with
  |zero=>intro _;exact⟨rfl,rfl⟩
  |succ i ih =>
   intro hi
   obtain⟨h1,h2⟩:=ih (by omega)
   refine⟨?_,?_⟩
   ·show gp f i++nU (j7 f i)++f i=gp g i++nU (j7 g i)++g i
    rw[h1,h2,h i (by omega)]
   ·show uV (j7 f i)+(f i).length=uV (j7 g i)+(g i).length
    rw[h2,h i (by omega)]
 exact(key 12 (Nat.le_refl _)).1
theorem afO {n:Nat} {H:Hp} (Di:∀ b,b<e.n0->e.Rd b) (h:n<=H.nx):e.ok (2 ^ n-1) 0 H:=by
 have hb:∀ b,(2 ^ n-1).testBit b=true->b<n:=λb hb=>by
  rw[Nat.testBit_two_pow_sub_one]at hb;exact of_decide_eq_true hb
 exact⟨λb h1 _=>Di b h1,λb _ h2=>by simp at h2,λb h2=>by
  rcases h2 with h2|h2
  ·have:=hb b h2;omega
  ·simp at h2⟩
set_option maxRecDepth 10000 in
set_option maxHeartbeats 8000000 in
theorem X2 {N:Nat} (he:e.n0<=N) (vE:15<=N) (Di:∀ b,b<e.n0->e.Rd b) {L:List Act} (hL:L.length<=80) (hru:eK L.length=true) {H:Hp} (hf:H.bG=true) (hN:N<=H.nx) (hg:zp H) {bb vb tb:Nat} {bv:Value} {asg:Nat->iH} {rb sb:Nat->Nat} (hb:pT N 41 11 H bb bv (bh (jD asg) L.length) L.length) (ha:qb H asg L) (hvr:Row H vb 35 12 (bh (λv=>cL (rb v) 2) 12)) (htr:Row H tb 9 2 (bh (λu=>[vS (stx (dy L u))]) 12)) (hrf:Refs H rb sb 12) (hm:m=L.length) (IU:bE=gp (λi=>stx (dy L i)) 12)
 {t:T Value} (zS:t.get 7=bv) (Gb:t.get 15=cD vb 12 25) (F6:t.get 16=cD tb 12 25) :
 @WK SN dm (nT m bE) e ⟨3,195,none,false⟩ (.seq (.bp CV) (.seq (.bp CU) (.seq (.bp CT) (.seq (.bp CS) (.seq (.bp CQ) .ret))))) t [] H (Go.Ev.Leaves dm e Tryz.f6 λv _=>v=.bool true):=by
 letI:=SN
 refine WK.seq ?_
 refine WK.av ?_
 refine aR.iX λK0 qD=>?_
 simp +decide only[CV,zS,Gb,F6,Xo 3,go_sem]
 refine EC.mono (YQ hf (by omega)) λxr H1 _ zO=>?_
 obtain⟨rfl,k1⟩:=zO
 rw[fC]
 have x1:=k1.nx
 have M1:Mv (λ_=>False) N H H1:=Mv.kept k1 hN
 obtain⟨H2,H3,r3,w3,f1_,f2_,XB,f4_,f5_,hb3,M3,_⟩:=pT.afN (e:=e) (by_:=128) (new:=zI vb) he (by omega) k1.fn (hb.mvM M1 (λh=>h)) rfl (by omega) (by omega)
 have wv:∀ t:T Value,t.get 169=.agg ⟨zI vb⟩->bD (bH t [.int .i64 (0),.int .i64 (0),.slice none 0 0,.slice none 0 0,.int .i64 (0),.int .i64 (0),.int .i64 (0),.slice none 0 0,.int .i64 (0),.bool false,.bool false] [(0,11,.tmp 169)]) (λl=>aS (aG l 41 0) H1 (λi=>c_ (some (i,0)) 1 1 false) 0 0)=.val (sC H1.nx 0 1 2) H2 0 0:=λt g=>by
  rw[gL (R:=zI vb) (k:=11) (by rw[af,g]) rfl rfl,bS];exact f1_
 obtain⟨n,hn⟩:∃ n,n=L.length:=⟨_,rfl⟩
 rw[<-hn]at XB hb3 hL hru
 obtain⟨bq,hbq⟩:∃ bq,bq=H2.nx:=⟨_,rfl⟩
 rw[<-hbq]at XB hb3
 have pq_:Value.agg ⟨[iI 15,iI 0,aT,cD vb 12 25,iI 0,iI 0,iI 0,aT,iI 0,.bool false,.bool false]⟩=.agg ⟨zI vb⟩:=rfl
 rw[pq_]
 refine aR.all (λt' H'=>H3=H'/\GT t' [(7,cD bq (n+1) (2*(n+1)+1)),(16,cD tb 12 25)]) ?_ ?_
 ·simp +decide only[zS,Gb,F6,wv,f2_,XB,f4_,f5_,Xo 3,go_sem]
 rintro Xq _ ⟨rfl,pY,yM, -⟩
 refine qD _ _ ?_
 have MA:Mv (λt=>t=41) N H H3:=(M1.mono λ_ h=>h.elim).trans M3
 have MAn:=MA.nx
 obtain⟨st,hst⟩:∃ st:Nat->List Value,st=λi=>if i<n then jD asg i else zI vb:=⟨_,rfl⟩
 have hfl:bh (jD asg) n++zI vb=bh st (n+1):=by
  rw[fW,hst]
  congr 1
  ·exact h_ λi hi=>by show _=(if i<n then _ else _);rw[if_pos hi]
  ·show _=(if n<n then _ else _);rw[if_neg (by omega)]
 rw[hfl]at hb3
 obtain⟨hbN,abn⟩:N<=bq/\Row H3 bq 41 12 (bh st (n+1)):=by
  generalize hB:bh st (n+1)=B at hb3
  cases hb3 with|one _ _ h1 h2 h3 h4=>exact⟨h1,h2⟩
 have ag_:∀ i,i<n+1->(st i).length=11:=λi _=>by rw[hst];show(if i<n then jD asg i else zI vb).length=11;split<;>rfl
 refine WK.seq ?_
 refine WK.av ?_
 refine aR.iX λK1 hK1=>?_
 simp +decide only[CU,pY,yM,Xo 3,go_sem]
 refine EC.mono (TM MA.fn (by omega)) λxr H4 _ zO=>?_
 obtain⟨rfl,k4⟩:=zO
 rw[fC]
 have x4:=k4.nx
 obtain⟨PM,hPM⟩:∃ PM:List Value,PM=Cz++[cD bq (n+1) (2*(n+1)+1),aT]:=⟨_,rfl⟩
 rw[<-hPM]
 obtain⟨H5,n5⟩:=uX k4.fn PM 49
 have x5:=n5.nx
 have l5_:=ks1 n5
 have r_:∀ t:T Value,t.get 173=.agg ⟨PM⟩->bD (bH t [.string ⟨#[]⟩,.int .i64 (0),.int .i64 (0),.int .i64 (0),.slice none 0 0,.slice none 0 0,.slice none 0 0] [(0,7,.tmp 173)]) (λl=>aS (aG l 49 0) H4 (λi=>c_ (some (i,0)) 1 1 false) 0 0)=.val (sC H4.nx 0 1 2) H5 0 0:=λt g=>by
  rw[gL (R:=PM) (k:=7) (by rw[af,g]) (by rw[hPM];rfl) rfl,bS];exact n5.al
 obtain⟨pb,hpb⟩:∃ pb,pb=H4.nx:=⟨_,rfl⟩
 rw[<-hpb]at r_
 simp +decide only[pY,yM,r_,l5_,Xo 3,go_sem]
 have r5:Row H5 pb 49 0 (Cz++[cD bq (n+1) (2*(n+1)+1),aT]):=by rw[hpb,<-hPM];exact n5.row
 have b5:Row H5 bq 41 12 (bh st (n+1)):=(abn.mv k4).mv n5.kept
 refine EC.mono (Zk n5.kept.fn (by omega) r5 b5 ag_ (by omega) (by omega) (by omega)) λxr H6 _ zO=>?_
 obtain⟨f,rfl,hf6,hb6,fn6,nx6,apb,old6⟩:=zO
 rw[fC]
 have hpq:pb≠bq:=λh=>by have h1:=abn.lt;omega
 have M6:Mv (λt=>t=41) N H H6:=by
  refine MA.trans ((Mv.kept k4 (by omega)).trans ((Mv.kept n5.kept (by omega)).trans ⟨fn6,nx6,λc hc=>old6 c (by omega) (by omega),λ{c ty op L} hp hr=>hr.bF (old6 c hr.lt λe=>?_)⟩))
  subst e;exact hp (HN hr b5)
 have p6:Row H6 pb 49 0 (Cz++[cD bq (n+1) (2*(n+1)+1),aT]):=r5.bF (old6 _ r5.lt hpq)
 obtain⟨PR,hPR⟩:∃ PR:List Value,PR=[cD pb 1 2,iI 0,aT,cD f 1 2,aT,aT]:=⟨_,rfl⟩
 rw[<-hPR]
 obtain⟨H7,n7⟩:=nW fn6 [.slice none 0 0,.int .i64 (0),.slice none 0 0,.slice none 0 0,.slice none 0 0,.slice none 0 0] 61
 have x7:=n7.nx
 have m7_:=n7.al
 have l7_:=IJ n7
 obtain⟨H8,e8_,w8⟩:=jt n7.kept.fn n7.row (k:=6) rfl (show PR.length=6 by rw[hPR];rfl)
 have x8:=w8.nx
 have l8_:=Mk w8
 have o8_:e.ok 0 (bit H6.nx) H8:=wm w8.row (by omega)
 refine aR.all (λt' H'=>H8=H'/\GT t' [(16,cD tb 12 25),(18,pA H6.nx 0)]) ?_ ?_
 ·simp +decide only[pY,yM,m7_,l7_,e8_,o8_,l8_,Xo 3,go_sem]
 rintro Xp _ ⟨rfl,F5,ajr, -⟩
 refine hK1 _ _ ?_
 refine WK.seq ?_
 obtain⟨H9,e9,w9⟩:=fA (v:=.int .i64 64) rfl w8.fn w8.row (o:=1) (by rw[hPR];show 1+1<=6;decide)
 have e9_:i_ 1 (pA H6.nx (0+1)) (.int .i64 64) H8=.val U H9 0 (bit H6.nx):=e9
 have x9:=w9.nx
 have l9_:=Mk w9
 have o9_:e.ok 0 (bit H6.nx) H9:=wm w9.row (by omega)
 refine WK.av ?_
 refine aR.all (λt' H'=>H9=H'/\GT t' [(16,cD tb 12 25),(18,pA H6.nx 0)]) ?_ ?_
 ·simp +decide only[CT,F5,ajr,e9_,o9_,l9_,Xo 3,go_sem]
 rintro t3_ _ ⟨rfl,yL,MK, -⟩
 have anG:PR.take 1++[.int .i64 64]++PR.drop (1+1)=[cD pb 1 2,iI 64,aT,cD f 1 2,aT,aT]:=by rw[hPR];rfl
 rw[anG]at w9
 have k9:Kept H6 H9:=wS.kept w9 (n:=H6.nx) (Nat.le_refl _) (wS.kept w8 (n:=H6.nx) (Nat.le_refl _) n7.kept (Nat.le_refl _)) (Nat.le_refl _)
 have M6n:=M6.nx
 have M9:Mv (λt=>t=41) N H H9:=M6.trans (Mv.kept k9 (by omega))
 have hg9:zp H9:=hg.mv M9 vE
 have ha9:qb H9 asg L:=ha.mv M9 (by decide) (by decide) (by decide)
 have hP:Prg H9 asg n pb f bq vb rb sb:=⟨p6.mv k9,hf6.mv k9,by rw[<-aaN,<-hst];exact hb6.mv k9,M9.row (by decide) hvr,λv hv=>M9.row (by decide) (hrf.r v hv),λv h4 h8=>M9.row (by decide) (hrf.s v (by omega) h4 h8),λi hi=>ha9.uU i (by omega)⟩
 have hmn:m=n:=by rw[hm,hn]
 have hrun:Xf m bE H9 [.agg ⟨[cD pb 1 2,iI 64,aT,cD f 1 2,aT,aT]⟩,iI 1000]:=by
  refine⟨asg,pb,f,bq,vb,rb,sb,zsA L,rfl,M9.fn,hg9,by rw[hmn];exact hP,by omega,by rw[hmn];exact hru,by rw[hmn,hn];exact aki ha9,?_⟩
  rw[IU]
  have:∀ i,i<12->stx (zsA L (kj m i))=stx (dy L i):=λi hi=>by rw[wT L hi,hm,List.take_length]
  exact HW λi hi=>(this i hi).symm
 refine WK.seq ?_
 refine WK.av ?_
 refine aR.iX λK2 hK2=>?_
 have TO:=kO w9.row (k:=6) rfl
 have amH:e.ok (bit H6.nx) 0 H9:=pV w9.row (by omega)
 simp +decide only[CS,yL,MK,TO,amH,Xo 3,go_sem]
 refine l8 (w18 hrun) rfl (afO Di (by rw[tH];omega)) (by rw[tH];omega) ?_
 rw[fC]
 obtain⟨HT,hHT⟩:∃ HT,HT=two H9:=⟨_,rfl⟩
 rw[<-hHT]
 have fT:HT.bG=true:=by rw[hHT];exact ack M9.fn
 have xT:HT.nx=H9.nx+2:=by rw[hHT];exact tH _
 have kT:Kept H9 HT:=⟨fT,by omega,λb hb=>by rw[hHT];exact XX M9.fn hb⟩
 obtain⟨OC,hOC⟩:∃ OC:List Value,OC=[cD H9.nx 1 3,cD (H9.nx+1) 1 3,SM.s0,iI 1,iI 0,iI (m+1:Nat)]:=⟨_,rfl⟩
 have hV:ruV H9 m bE=.tuple ⟨[vS bE,.agg ⟨OC⟩,.bool true]⟩:=by rw[hOC];rfl
 rw[hV]
 have t0_:∀ Hq,qi (.tuple ⟨[vS bE,.agg ⟨OC⟩,.bool true]⟩) 0 Hq=.val (vS bE) Hq 0 0:=λ_=>rfl
 have Xq:∀ Hq,qi (.tuple ⟨[vS bE,.agg ⟨OC⟩,.bool true]⟩) 1 Hq=.val (.agg ⟨OC⟩) Hq 0 0:=λ_=>rfl
 have Xp:∀ Hq,qi (.tuple ⟨[vS bE,.agg ⟨OC⟩,.bool true]⟩) 2 Hq=.val (.bool true) Hq 0 0:=λ_=>rfl
 obtain⟨HA,nA⟩:=nW fT [.slice none 0 0,.slice none 0 0,.string ⟨#[]⟩,.int .i64 (0),.int .i64 (0),.int .i64 (0)] 55
 have xA:=nA.nx
 have aA_:=nA.al
 have lA_:=IJ nA
 obtain⟨HB,eB_,wB⟩:=jt nA.kept.fn nA.row (k:=6) rfl (show OC.length=6 by rw[hOC];rfl)
 have xB:=wB.nx
 have lB_:=Mk wB
 have oB_:e.ok 0 (bit HT.nx) HB:=wm wB.row (by omega)
 refine aR.all (λt' H'=>HB=H'/\GT t' [(16,cD tb 12 25),(19,vS bE),(20,pA HT.nx 0),(21,.bool true)]) ?_ ?_
 ·simp +decide only[yL,MK,t0_,Xq,Xp,aA_,lA_,eB_,oB_,lB_,Xo 3,go_sem]
 rintro t4_ _ ⟨rfl,sR,yJ,Vl,Vk, -⟩
 refine hK2 _ _ ?_
 refine WK.seq ?_
 refine WK.av ?_
 refine aR.iX λK3 hK3=>?_
 have kB:Kept H9 HB:=wS.kept wB (n:=HT.nx) (Nat.le_refl _) (kT.trans nA.kept) (by omega)
 have M9n:=M9.nx
 have MB:Mv (λt=>t=41) N H HB:=M9.trans (Mv.kept kB (by omega))
 have cB_:dA (pA HT.nx (0+3)) HB=.val (.int .i64 1) HB (bit HT.nx) 0:=aV wB.row (by rw[hOC];rfl)
 have oC_:e.ok (bit HT.nx) 0 HB:=pV wB.row (by omega)
 have uH:decide ((1:Int)=(1:Int))=true:=rfl
 simp +decide only[CQ,sR,yJ,Vl,Vk,cB_,oC_,uH,Xo 3,go_sem]
 have hLP:∀ u,u<12->tj (dy L u):=λu _=>yc (λa vD=>by
  obtain⟨i,hi,e1⟩:=List.getElem_of_mem vD
  have h1:=ha.is i a (by rw[List.getElem?_eq_getElem hi,e1])
  rw[<-h1.2.2];exact(ha.uU i hi).n) u
 have htl:bE.length<=103*12:=by rw[IU];exact Cg (λi hi=>(Ek.tx6 _ (hLP i hi)).1) 12 (Nat.le_refl _)
 have hgB:zp HB:=hg.mv MB vE
 have hfe:Lib.fields bE=(List.range 12).map λu=>stx (dy L u):=by rw[IU];exact HV hLP
 have ad5:=w25 (m:=m) (bE:=bE) (H:=HB) (s:=bE) ⟨by omega,by rw[IU];exact K5 12,MB.fn,hgB⟩
 rw[hfe]at ad5
 have apg:(0:Nat)<HB.nx:=(nG hgB.b0).1
 obtain⟨HC,hHC⟩:∃ HC,HC=HB.push (aG (((List.range 12).map λu=>stx (dy L u)).map vS) 9 0):=⟨_,rfl⟩
 rw[<-hHC]at ad5
 have xC:HC.nx=HB.nx+1:=by rw[hHC,aZ]
 refine l8 ad5 rfl (Env.ok.read (by omega) (Di _)) (by omega) ?_
 rw[fC]
 have ahp:((List.range 12).map λu=>stx (dy L u)).length=12:=by rw[List.length_map,List.length_range]
 rw[ahp]
 simp +decide only[sR,yJ,Vl,Vk,Xo 3,go_sem]
 have rC:Row HC HB.nx 9 0 (((List.range 12).map λu=>stx (dy L u)).map vS):=by rw[hHC];exact fq (aO MB.fn) _ _ _
 have kC:Kept HB HC:=⟨by rw[hHC,cg];exact MB.fn,by omega,λb hb=>by rw[hHC];exact a_ (aO MB.fn) _ hb⟩
 have tC:Row HC tb 9 2 (((List.range 12).map λu=>stx (dy L u)).map vS):=by
  have:=(MB.row (by decide) htr).mv kC
  rw[Ew]at this
  rw[List.map_map];exact this
 refine l8 (w24 (c1:=2*12) (c2:=25) ahp rC tC) rfl ?_ (Nat.le_refl _) ?_
 ·have h1:e.ok (bit HB.nx) 0 HC:=pV rC (by omega)
  have h2:e.ok (bit tb) 0 HC:=.read tC.lt (Di _)
  have h3:=h1.lor h2 (Nat.le_refl _)
  rw[aF]at h3;exact h3
 rw[fC]
 refine aR.all (λt' H'=>HC=H'/\GT t' [(4,.bool true)]) ?_ ?_
 ·simp +decide only[sR,yJ,Vl,Vk,Xo 3,go_sem]
 rintro t5_ _ ⟨rfl,FX, -⟩
 refine hK3 _ _ ?_
 refine WK.ret ⟨.inr rfl,rfl,[.bool true],0,?_,.zero _ _,rfl⟩
 show eg dm 195 t5_ _ [.tmp 4]=_
 simp only[eg,FX];rfl
end
section
attribute [local go_sem] au aj GT dF gF aR fe Yj Yk Yl Ym Yn Yo Yp Yq Yr and_self and_true cV cU cQ cP cN cM bx ig ic de dR aP bw af cJ cI bP cH cG cF cE if_false if_true dM dD bM run true_and ck bL bK bJ bI bf bu l9 vj
variable {m:Nat} {bE:List UInt8} {e:Env}
set_option maxRecDepth 10000 in
set_option maxHeartbeats 8000000 in
theorem adV {N:Nat} (he:e.n0<=N) (vE:15<=N) (Di:∀ b,b<e.n0->e.Rd b) {l:List (Int×Int)} (hru:∀ k,k<81->eK k=true) {H:Hp} (hf:H.bG=true) (hN:N<=H.nx) (hg:zp H) {lb lc:Nat} {lv:Value} (hlv:l≠[]->lv=.slice (some ⟨lb,0,none⟩) l.length lc) (hlen:∃ a c,lv=.slice a l.length c) (hlb:l≠[]->zm H lb (iM l)/\lb<N) {sw:Int} :
 @EC SN dm (nT (gh l).length (gp (λi=>stx (dy (gh l) i)) 12)) e 6 [lv,.int .i64 sw] H λv _=>v=.bool true:=by
 letI:=SN
 have hlen:∀ Hq,fY 1 lv Hq=.val (iN l.length) Hq 0 0:=λHq=>by obtain⟨a,c,h⟩:=hlen;rw[h];rfl
 obtain⟨m,hm⟩:∃ m,m=(gh l).length:=⟨_,rfl⟩
 obtain⟨bE,IU⟩:∃ bE,bE=gp (λi=>stx (dy (gh l) i)) 12:=⟨_,rfl⟩
 rw[<-hm,<-IU]
 refine EC.i2 fn6 T8 Uf (XP (by decide) _ _) (by show 2<=195;decide) λt0 aah PJ=>?_
 show WK dm (nT m bE) e ⟨3,195,none,false⟩ Ue t0 [] H _
 unfold Ue
 refine WK.seq ?_
 refine WK.av ?_
 refine aR.all (λt' H'=>H=H'/\GT t' [(0,lv),(1,.int .i64 sw),(4,.bool false)]) ?_ ?_
 ·simp +decide only[Ud,aah,PJ,Xo 3,go_sem]
 rintro Xq _ ⟨rfl,dQ,iJ,zV, -⟩
 refine WK.seq ?_
 refine WK.seq ?_
 refine WK.av ?_
 refine aR.iX λK0 qD=>?_
 simp +decide only[Uc,dQ,iJ,zV,Xo 3,go_sem]
 have al:∀ {b ty:Nat} {L:List Value},H.blk b=aG L ty 0->b<H.nx:=λh=>(nG h).1
 have Xv:e.ok 76 0 H:=by
  have h1:e.ok (bit 2) 0 H:=.read (al hg.b2) (Di _)
  have h2:e.ok (bit 3) 0 H:=.read (al hg.b3) (Di _)
  have h3:e.ok (bit 6) 0 H:=.read (al hg.b6) (Di _)
  exact(h1.lor h2 (Nat.le_refl _)).lor h3 (Nat.le_refl _)
 refine l8 (w7 hg) rfl Xv (Nat.le_refl _) ?_
 rw[fC]
 refine aR.all (λt' H'=>H=H'/\GT t' [(0,lv),(1,.int .i64 sw),(4,.bool false),(23,.bool false)]) ?_ ?_
 ·simp +decide only[dQ,iJ,zV,Xo 3,go_sem]
 rintro Xp _ ⟨rfl,dV,jL,mB,Vi, -⟩
 refine qD _ _ ?_
 refine WK.cond (v:=false) (by rw[af,Vi];rfl) ?_
 refine WK.skip ?_
 show WK _ _ _ _ _ _ _ _ _
 refine WK.seq ?_
 refine WK.seq ?_
 by_cases h40:l.length<=40
 case neg =>
  have d_:decide ((40:Int)<((l.length:Nat):Int))=true:=decide_eq_true (by omega)
  refine WK.av ?_
  refine aR.all (λt' H'=>H=H'/\GT t' [(0,lv),(1,.int .i64 sw),(4,.bool false),(23,.bool false),(26,.bool true)]) ?_ ?_
  ·simp +decide only[IG,dV,jL,mB,Vi,hlen,d_,Xo 3,go_sem]
  rintro t3_ _ ⟨rfl,iq,oU,zU,ajf,F3, -⟩
  refine WK.cond (v:=true) (by rw[af,F3];rfl) ?_
  refine WK.seq ?_
  refine WK.av ?_
  refine aR.all (λt' H'=>H=H'/\GT t' [(0,lv),(1,.int .i64 sw),(4,.bool true)]) ?_ ?_
  ·simp +decide only[Ub,iq,oU,zU,ajf,F3,Xo 3,go_sem]
  rintro t4_ _ ⟨rfl,gV,oT,yB, -⟩
  refine WK.ret ⟨.inr rfl,rfl,[.bool true],0,?_,.zero _ _,rfl⟩
  show eg dm 195 t4_ _ [.tmp 4]=_
  simp only[eg,yB];rfl
 case pos =>
  have d_:decide ((40:Int)<((l.length:Nat):Int))=false:=decide_eq_false (by omega)
  refine WK.av ?_
  refine aR.all (λt' H'=>H=H'/\GT t' [(0,lv),(1,.int .i64 sw),(26,.bool false)]) ?_ ?_
  ·simp +decide only[IG,dV,jL,mB,Vi,hlen,d_,Xo 3,go_sem]
  rintro t3_ _ ⟨rfl,iq,oU,F3, -⟩
  refine WK.cond (v:=false) (by rw[af,F3];rfl) ?_
  refine WK.skip ?_
  show WK _ _ _ _ _ _ _ _ _
  refine WK.seq ?_
  refine WK.av ?_
  refine aR.all (λt' H'=>H=H'/\GT t' [(0,lv),(1,.int .i64 sw),(5,.func (.func 23) #[] #[])]) ?_ ?_
  ·simp +decide only[Ua,iq,oU,F3,Xo 3,go_sem]
  rintro t4_ _ ⟨rfl,gV,oT,nC, -⟩
  obtain⟨H1,lQ,hw1,k1,x1⟩:=amI hf
  have Pm:H.nx<=H1.nx:=by omega
  refine WK.seq ?_
  refine WK.av ?_
  refine aR.all (λt' H'=>H1=H'/\GT t' [(0,lv),(1,.int .i64 sw),(5,.func (.func 23) #[] #[]),(6,sC H.nx 0 12 24)]) ?_ ?_
  ·simp +decide only[T_,gV,oT,nC,lQ,Pm,Xo 3,go_sem]
  rintro t5_ _ ⟨rfl,kz,yI,uy,sO, -⟩
  refine WK.seq ?_
  refine WK.av ?_
  refine aR.all (λt' H'=>H1=H'/\GT t' [(0,lv),(1,.int .i64 sw),(5,.func (.func 23) #[] #[]),(6,sC H.nx 0 12 24),(7,.slice none 0 0)]) ?_ ?_
  ·simp +decide only[T',kz,yI,uy,sO,Xo 3,go_sem]
  rintro t6_ _ ⟨rfl,iK,mC,vH,oQ,qE, -⟩
  refine WK.seq ?_
  refine WK.seq ?_
  refine WK.av ?_
  refine aR.all (λt' H'=>H1=H'/\GT t' [(0,lv),(1,.int .i64 sw),(5,.func (.func 23) #[] #[]),(6,sC H.nx 0 12 24),(7,.slice none 0 0),(28,lv),(29,iN l.length),(30,iN 0)]) ?_ ?_
  ·simp +decide only[T9,iK,mC,vH,oQ,qE,hlen,Xo 3,go_sem]
   exact rfl
  rintro t7_ _ ⟨rfl,iA,n9,vG,vF,yu,F2,yE,yC, -⟩
  have hLm:=zj l
  have anr:l≠[]->zm H1 lb (iM l)/\lb<N/\(lb<e.n0->e.Rd lb):=λh=>⟨(hlb h).1.bF (k1.old _ (hlb h).1.lt),(hlb h).2,Di _⟩
  refine T0 he vE h40 hlv k1.fn (by omega) anr hw1 (by omega) iA n9 vG vF yu F2 yE yC ?_
  intro t2 H2 bb bv asg jL qF lC oP f2 n2 lo2 hw2 wH vD
  show WK _ _ _ _ _ _ _ _ _
  refine WK.seq ?_
  refine X8 he vE (by omega) f2 n2 wH vD Di jL qF lC oP ?_
  intro t3 H3 asg3 L3 n8 nZ lB M3 hl3 ahk hb3 ha3
  show WK _ _ _ _ _ _ _ _ _
  have hw3:Row H3 H.nx 3 0 (fP (dy (gh l))):=M3.row (by decide) hw2
  have lo1:∀ c,c<N->H3.blk c=H.blk c:=λc hc=>by rw[M3.lo c hc,lo2 c hc,k1.old c (by omega)]
  have hg3:zp H3:=⟨(lo1 0 (by omega)).trans hg.b0,(lo1 2 (by omega)).trans hg.b2,(lo1 3 (by omega)).trans hg.b3,(lo1 6 (by omega)).trans hg.b6⟩
  have M3n:=M3.nx
  refine WK.seq ?_
  refine WK.av ?_
  refine aR.all (λt' H'=>H3=H'/\GT t' [(5,.func (.func 23) #[] #[]),(6,sC H.nx 0 12 24),(7,bv),(15,.slice none 0 0)]) ?_ ?_
  ·simp +decide only[Md,n8,nZ,lB,Xo 3,go_sem]
  rintro t8_ _ ⟨rfl,I8,yx,Dk,yO, -⟩
  refine WK.seq ?_
  refine WK.av ?_
  refine aR.all (λt' H'=>H3=H'/\GT t' [(5,.func (.func 23) #[] #[]),(6,sC H.nx 0 12 24),(7,bv),(15,.slice none 0 0),(16,.slice none 0 0)]) ?_ ?_
  ·simp +decide only[Mc,I8,yx,Dk,yO,Xo 3,go_sem]
  rintro t9_ _ ⟨rfl,U6,I0,UX,yN,Vx, -⟩
  refine WK.seq ?_
  refine WK.seq ?_
  refine WK.av ?_
  refine aR.all (λt' H'=>H3=H'/\GT t' [(5,.func (.func 23) #[] #[]),(6,sC H.nx 0 12 24),(7,bv),(15,.slice none 0 0),(16,.slice none 0 0),(148,iN 0)]) ?_ ?_
  ·simp +decide only[Mb,U6,I0,UX,yN,Vx,Xo 3,go_sem]
   exact rfl
  rintro akU _ ⟨rfl,U7,aix,aip,aeQ,aeP,aag, -⟩
  have hP:∀ u,u<12->tj (dy (gh l) u):=λu _=>yc aa0 u
  refine TZ he vE Di M3.fn (by omega) hg3 hP hw3 U7 aix aip aeQ aeP aag ?_
  intro t4 H4 vb tb rb sb sN Ga sR M4 hvb htb hvr htr hrf hE4
  show WK _ _ _ _ _ _ _ _ _
  have M4n:=M4.nx
  rw[<-hl3]at hb3
  rw[<-ahk]at htr IU
  exact X2 he vE Di (by omega) (hru _ (by omega)) M4.fn (by omega) (hg3.mv M4 vE) (hb3.mvM M4 (by decide)) ⟨λi hi=>let p:=ha3.uU i hi;⟨p.v,p.n,M4.row (by decide) p.r,hE4 _ _ p.e,λx=>M4.row (by decide) (p.s x),λx=>M4.row (by decide) (p.l x),λx y=>M4.row (by decide) (p.t x y)⟩,ha3.is⟩ hvr htr hrf (by omega) IU sN Ga sR
end
end Go.Proofs.CA
end
