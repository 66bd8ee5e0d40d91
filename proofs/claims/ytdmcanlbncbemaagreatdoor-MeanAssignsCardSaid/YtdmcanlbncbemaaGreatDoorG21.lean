/-
 A part of the proof that pliantlaw16.MeanAssigns returns true and leaves its arguments alone. Conditions: those of the card in the last text.
-/
import Derived.Test.YtdmcanlbncbemaaGreatDoorG20
set_option linter.unusedSimpArgs false
set_option linter.unusedVariables false
set_option linter.unusedSectionVars false
set_option maxRecDepth 100000
set_option maxHeartbeats 8000000
noncomputable section
namespace Go.Proofs.CA
open Go Go.Ev Go.Proofs Go.Proofs.MN
open Go.Ar (By)
section
variable [dj]
theorem ag6 {l:List UInt8} {i:Nat} (h:i<l.length) (H:Hp):kS (vS l) (iN i) H=.val (uB l[i]) H 0 0:=by
 have hg:l[i]?=some l[i]:=List.getElem?_eq_getElem h
 have:idx (iN i) l.length=some i:=by
  show Bc (Nat.blt i l.length) (some i) none=_
  rw[(an _ _).2 h];rfl
 show(match idx (iN i) l.length with|some m=>(match l[m]? with|some c=>R.v (.int .u8 (.ofNat c.toNat)) H|none=>.fail)|none=>.fail)=_
 rw[this];simp only[hg];rfl
theorem afe {x:UInt8} (h:x≠10) (Hq:Hp):jo false (.one .i) (uB x) (.int .u8 10) Hq=.val (.bool false) Hq 0 0:=by
 have h1:V2 (.one .i) (uB x) (.int .u8 10)=some (decide (((x.toNat:Nat):Int)=10)):=by rw[<-wM];rfl
 have h2:decide (((x.toNat:Nat):Int)=10)=false:=decide_eq_false λh3=>h (UInt8.toNat_inj.1 (show x.toNat=10 by omega))
 unfold jo
 rw[h1,h2];rfl
theorem toX {tb:Tb} {sp:Nat->List Value->Hp->Option (Value×Hp×Nat×Nat)} {e:Env} {f:FuncId} {args:List Value} {H:Hp} {K:Value->Hp->Prop} (h:EC tb sp e f args H K):EC tb sp (e.acu H.nx) f args H K:=by
 obtain⟨N,v,H',r,w,h1,h2,h3,h4⟩:=h
 exact⟨N,v,H',r,w,h1,⟨λb _ hb hlt=>h2.rd b hlt hb,λb _ hb hlt=>h2.wr b hlt hb,h2.lt⟩,h3,h4⟩
end
section
attribute [local go_sem] au aj GT dF gF aR fe Yj Yk Yl Ym Yn Yo Yp Yq Yr and_self and_true cV cU cQ cP cN cM bx ig ic de dR aP bw af cJ cI bP cH cG cF cE if_false if_true dM dD bM run true_and ck bL bK bJ bI bf bu l9
variable [dj] {sp:Nat->List Value->Hp->Option (Value×Hp×Nat×Nat)} {e:Env}
theorem Q3 (S:SpW sp) {H:Hp} {n sb bb c q cap:Nat} {L:List Value} {l:List UInt8} (hs:p_ H n sb bb L c) (he:e.n0<=n) (hL:L.length+l.length<90000)
 (hq:Row H q 9 0 [vS l]) (hqn:n<=q) (hc:c+l.length<=121) (hl:∀ x∈l,x≠10) :
 EC dm sp e 466 [pA sb 0,sC q 0 1 cap] H λv H'=>v=.tuple #[]/\∃ bb',p_ H' n sb bb' (L++l.map uB) (c+l.length)/\BI H H' sb bb bb':=by
 refine EC.i2 ajX QV Q5 (S.no 466 (by decide) _ _) (by show 2<=48;decide) λt0 g0 g1=>?_
 show WK dm sp e ⟨2,48,none,false⟩ Q4 t0 [] H _
 unfold Q4
 refine WK.seq ?_
 refine WK.av ?_
 refine aR.all (λt' H'=>H=H'/\GT t' [(0,pA sb 0),(7,sC q 0 1 cap),(8,iN 1),(9,iN 0)]) ?_ ?_
 ·simp +decide only[Q2,g0,g1,Xo 2,go_sem]
  exact rfl
 rintro t1 _ ⟨rfl,dQ,pY,an0,UR, -⟩
 refine WK.block ?_
 refine WK.loop ?_
 unfold Kn
 refine WK.seq ?_
 refine WK.av ?_
 have uH:decide (((0:Nat):Int)<((1:Nat):Int))=true:=rfl
 refine aR.all (λt' H'=>H=H'/\GT t' [(0,pA sb 0),(7,sC q 0 1 cap),(8,iN 1),(9,iN 0),(10,.bool true)]) ?_ ?_
 ·simp +decide only[G7,dQ,pY,an0,UR,uH,Xo 2,go_sem]
 rintro t2 _ ⟨rfl,dV,oP,anZ,UQ,VJ, -⟩
 refine WK.seq ?_
 refine WK.cond (v:=true) (by rw[af,VJ];rfl) ?_
 refine WK.skip ?_
 refine WK.seq ?_
 refine WK.block ?_
 refine WK.seq ?_
 refine WK.av ?_
 have lQ:∀ Hq,eT 1 (sC q 0 1 cap) (iN 0) Hq=.val (pA q 0) Hq 0 0:=λHq=>by rw[dW (by decide) (by decide)];rfl
 have nX:dA (pA q 0) H=.val (vS l) H (bit q) 0:=aV hq rfl
 have Tn:e.ok (bit q) 0 H:=pV hq (by omega)
 refine aR.all (λt' H'=>H=H'/\GT t' [(0,pA sb 0),(5,vS l),(7,sC q 0 1 cap),(8,iN 1),(9,iN 0)]) ?_ ?_
 ·simp +decide only[Q1,dV,oP,anZ,UQ,lQ,nX,Tn,Xo 2,go_sem]
 rintro t3 _ ⟨rfl,iq,n8,lB,aeB,anT, -⟩
 refine WK.seq ?_
 refine WK.av ?_
 refine aR.all (λt' H'=>H=H'/\GT t' [(0,pA sb 0),(5,vS l),(7,sC q 0 1 cap),(8,iN 1),(9,iN 0),(14,iN l.length),(15,iN 0)]) ?_ ?_
 ·simp +decide only[Q0,iq,n8,lB,aeB,anT,Xo 2,go_sem]
  exact rfl
 rintro t4 _ ⟨rfl,gV,nC,sN,anY,anS,ajD,Ga, -⟩
 refine WK.block (WK.eR (λm t' ds' H'=>ds'=[]/\∃ i:Nat,m=l.length-i/\i<=l.length/\(∃ b',p_ H' n sb b' (L++(l.take i).map uB) (c+i)/\BI H H' sb bb b')/\t'.get 0=pA sb 0/\t'.get 5=vS l/\t'.get 7=sC q 0 1 cap/\t'.get 8=iN 1/\t'.get 9=iN 0/\t'.get 14=iN l.length/\t'.get 15=iN i) ?_ _ t4 [] H ⟨rfl,0,rfl,by omega,⟨bb,by simpa using hs,.refl _ _ _⟩,gV,nC,sN,anY,anS,ajD,Ga⟩)
 rintro m_ tl ds_ Hl ⟨rfl,i,rfl,hi,⟨bl,nY,hst⟩,ku,zT,aii,ahU,ahO,abM,F7⟩
 unfold Ko
 refine WK.seq ?_
 by_cases hlt:i<l.length
 case pos =>
  refine WK.av ?_
  have d_:decide (((i:Nat):Int)<((l.length:Nat):Int))=true:=decide_eq_true (by omega)
  refine aR.all (λt' H'=>Hl=H'/\GT t' [(0,pA sb 0),(5,vS l),(7,sC q 0 1 cap),(8,iN 1),(9,iN 0),(14,iN l.length),(15,iN i),(16,.bool true)]) ?_ ?_
  ·simp +decide only[G6,ku,zT,aii,ahU,ahO,abM,F7,d_,Xo 2,go_sem]
  rintro t5 _ ⟨rfl,kz,uy,yw,aeA,PG,ajC,F_,sQ, -⟩
  refine WK.seq ?_
  refine WK.cond (v:=true) (by rw[af,sQ];rfl) ?_
  refine WK.skip ?_
  refine WK.seq ?_
  refine WK.block ?_
  refine WK.seq ?_
  refine WK.av ?_
  refine aR.all (λt' H'=>Hl=H'/\GT t' [(0,pA sb 0),(5,vS l),(6,iN i),(7,sC q 0 1 cap),(8,iN 1),(9,iN 0),(14,iN l.length),(15,iN i)]) ?_ ?_
  ·simp +decide only[QZ,kz,uy,yw,aeA,PG,ajC,F_,Xo 2,go_sem]
  rintro t6 _ ⟨rfl,iK,vH,oQ,qE,aez,aex,ajB,u_, -⟩
  refine WK.seq ?_
  refine WK.seq ?_
  refine WK.av ?_
  obtain⟨CC,zM,anf⟩:=nY.ldc he
  have XC:decide ((120:Int)<((c+i:Nat):Int))=false:=decide_eq_false (by omega)
  refine aR.all (λt' H'=>Hl=H'/\GT t' [(0,pA sb 0),(5,vS l),(6,iN i),(7,sC q 0 1 cap),(8,iN 1),(9,iN 0),(14,iN l.length),(15,iN i),(22,.bool false)]) ?_ ?_
  ·simp +decide only[QY,iK,vH,oQ,qE,aez,aex,ajB,u_,CC,zM,XC,Xo 2,go_sem]
  rintro t7 _ ⟨rfl,iA,vG,vF,yu,anX,anR,ajA,F9,ajg, -⟩
  refine WK.cond (v:=false) (by rw[af,ajg];rfl) ?_
  refine WK.skip ?_
  refine WK.seq ?_
  have IW:e.n0<=Hl.nx:=by have:=nY.ge;omega
  refine WK.gw (λ_=>False) [.p,.p,.p,.p,.p,.p,.x] IW rfl ?_
  have wA:∀ Hq,kS (vS l) (iN i) Hq=.val (uB l[i]) Hq 0 0:=λHq=>ag6 hlt Hq
  refine fe.iX λK0 qD=>?_
  simp +decide only[QX,iA,vG,vF,wA,Xo 2,go_sem]
  refine EC.mono (toX (Rb S (x:=l[i]) nY he (by rw[List.length_append,List.length_map,List.length_take];omega))) λv H1 _ hv=>?_
  obtain⟨rfl,b1,hs1,FO⟩:=hv
  rw[o8]
  refine fe.all (λt' H'=>H1=H'/\GT t' [(0,pA sb 0),(5,vS l),(6,iN i),(7,sC q 0 1 cap),(8,iN 1),(9,iN 0),(14,iN l.length),(15,iN i)]) ?_ ?_
  ·simp +decide only[iA,vG,vF,yu,anX,anR,ajA,F9,Xo 2,go_sem]
  rintro t8 _ ⟨rfl,uA,I8,yx,Dk,anW,anQ,ajz,yO, -⟩
  refine qD _ _ ?_
  refine WK.seq ?_
  refine WK.av ?_
  obtain⟨wv,zw,ad8⟩:=hs1.ldc he
  obtain⟨H2,e2,o2b_,hs2,nx2,qB⟩:=hs1.stc he (c+i+1)
  have DZ:H1.nx<=H2.nx:=by omega
  have w5_:Value.int .i64 (aN .i64 (((c+i:Nat):Int)+(1:Int)))=.int .i64 (((c+i+1):Nat):Int):=wF (by omega)
  refine aR.all (λt' H'=>H2=H'/\GT t' [(0,pA sb 0),(5,vS l),(6,iN i),(7,sC q 0 1 cap),(8,iN 1),(9,iN 0),(14,iN l.length),(15,iN i)]) ?_ ?_
  ·simp +decide only[QW,uA,I8,yx,Dk,anW,anQ,ajz,yO,wv,zw,w5_,e2,o2b_,DZ,Xo 2,go_sem]
  rintro t9 _ ⟨rfl,uz,U6,I0,UX,aey,anP,VA,yN, -⟩
  refine WK.seq ?_
  refine WK.av ?_
  have r_:∀ Hq,jo false (.one .i) (uB l[i]) (.int .u8 10) Hq=.val (.bool false) Hq 0 0:=λHq=>afe (hl _ (List.getElem_mem hlt)) Hq
  refine aR.all (λt' H'=>H2=H'/\GT t' [(0,pA sb 0),(5,vS l),(7,sC q 0 1 cap),(8,iN 1),(9,iN 0),(14,iN l.length),(15,iN i),(42,.bool false)]) ?_ ?_
  ·simp +decide only[Km,uz,U6,I0,UX,aey,anP,VA,yN,wA,r_,Xo 2,go_sem]
  rintro ta _ ⟨rfl,Jp,an5,aeC,anV,anO,ajy,F8,ai0, -⟩
  refine WK.cond (v:=false) (by rw[af,ai0];rfl) ?_
  refine WK.skip ?_
  refine WK.av ?_
  have w_:Value.int .i64 (aN .i64 (((i:Nat):Int)+(1:Int)))=.int .i64 (((i+1):Nat):Int):=wF (by omega)
  refine aR.all (λt' H'=>H2=H'/\GT t' [(0,pA sb 0),(5,vS l),(7,sC q 0 1 cap),(8,iN 1),(9,iN 0),(14,iN l.length),(15,iN (i+1))]) ?_ ?_
  ·simp +decide only[Kl,Jp,an5,aeC,anV,anO,ajy,F8,w_,Xo 2,go_sem]
  rintro tb_ _ ⟨rfl,VM,an4,an2,anU,anN,ajx,Vz, -⟩
  refine⟨_,by omega,rfl,i+1,rfl,by omega,⟨b1,?_,(hst.trans FO).trans qB⟩,VM,an4,an2,anU,anN,ajx,Vz⟩
  have:L++(l.take i).map uB++[uB l[i]]=L++(l.take (i+1)).map uB:=by
   rw[List.append_assoc,List.take_succ_eq_append_getElem hlt,List.map_append];rfl
  rw[<-this];exact hs2
 case neg =>
  obtain rfl:i=l.length:=by omega
  refine WK.av ?_
  have d_:decide (((l.length:Nat):Int)<((l.length:Nat):Int))=false:=decide_eq_false (by omega)
  refine aR.all (λt' H'=>Hl=H'/\GT t' [(0,pA sb 0),(7,sC q 0 1 cap),(8,iN 1),(9,iN 0),(16,.bool false)]) ?_ ?_
  ·simp +decide only[G6,ku,aii,ahU,ahO,abM,F7,d_,Xo 2,go_sem]
  rintro t5 _ ⟨rfl,kz,yw,aeA,PG,sQ, -⟩
  refine WK.seq ?_
  refine WK.cond (v:=false) (by rw[af,sQ];rfl) ?_
  refine WK.exit ?_
  refine WK.av ?_
  have w_:Value.int .i64 (aN .i64 (((0:Nat):Int)+(1:Int)))=.int .i64 ((1:Nat):Int):=rfl
  refine aR.all (λt' H'=>Hl=H'/\GT t' [(7,sC q 0 1 cap),(8,iN 1),(9,iN 1)]) ?_ ?_
  ·simp +decide only[Kk,kz,yw,aeA,PG,w_,Xo 2,go_sem]
  rintro t6 _ ⟨rfl,qE,aez,aex, -⟩
  refine WK.loop ?_
  refine WK.seq ?_
  refine WK.av ?_
  have d9_:decide (((1:Nat):Int)<((1:Nat):Int))=false:=rfl
  refine aR.all (λt' H'=>Hl=H'/\GT t' [(10,.bool false)]) ?_ ?_
  ·simp +decide only[G7,qE,aez,aex,d9_,Xo 2,go_sem]
  rintro t7 _ ⟨rfl,Be, -⟩
  refine WK.seq ?_
  refine WK.cond (v:=false) (by rw[af,Be];rfl) ?_
  refine WK.exit ?_
  refine⟨.inl rfl,rfl,[],0,rfl,.zero _ _,rfl,bl,?_,hst⟩
  rw[List.take_length]at nY;exact nY
end
section
variable [dj]
theorem p_.lt {H:Hp} {n sb bb c:Nat} {L:List Value} (hs:p_ H n sb bb L c):sb<H.nx/\bb<H.nx:=by
 rcases hs.form with⟨hr,_,h⟩|⟨w,hr,ho,_⟩
 ·exact⟨hr.lt,by rw[h];exact hr.lt⟩
 ·exact⟨hr.lt,ho.lt⟩
theorem p_.kept {H H':Hp} {n sb bb c:Nat} {L:List Value} (hs:p_ H n sb bb L c) (hf:H'.bG=true) (hk:∀ b,b<H.nx->H'.blk b=H.blk b) (hn:H.nx<=H'.nx):p_ H' n sb bb L c/\BI H H' sb bb bb:=by
 obtain⟨h1,h2⟩:=hs.lt
 refine⟨⟨hf,hs.ge,?_⟩,hn,λb hb _ _=>hk b hb,.inl rfl⟩
 rcases hs.form with⟨hr,h3,h⟩|⟨w,hr,ho,h⟩
 ·exact .inl ⟨hr.bF (hk _ h1),h3,h⟩
 ·exact .inr ⟨w,hr.bF (hk _ h1),ho.bF (hk _ h2),h⟩
theorem abh {H:Hp} (hf:H.bG=true) {t:T Value} {z:Value} {o:Operand} {l:List UInt8} (ho:aA t o=vS l) :
 ∃ H2,bD (bH t [z] [(0,1,o)]) (λl=>aS (aG l 9 0) H (λi=>c_ (some (i,0)) 1 1 false) 0 0)=.val (sC H.nx 0 1 2) H2 0 0/\H2.bG=true/\H2.nx=H.nx+1/\Row H2 H.nx 9 0 [vS l]/\∀ b,b<H.nx->H2.blk b=H.blk b:=by
 refine⟨H.push (aG [vS l] 9 0),?_,by rw[cg];exact hf,aZ _ _,fq (aO hf) _ _ _,λb hb=>a_ (aO hf) _ hb⟩
 rw[uD (w:=vS l) (by rw[ho];rfl),bS]
 exact pQ hf [vS l] 9 1
end
section
attribute [local go_sem] au aj GT dF gF aR fe Yj Yk Yl Ym Yn Yo Yp Yq Yr and_self and_true cV cU cQ cP cN cM bx ig ic de dR aP bw af cJ cI bP cH cG cF cE if_false if_true dM dD bM run true_and ck bL bK bJ bI bf bu l9
variable [dj] {sp:Nat->List Value->Hp->Option (Value×Hp×Nat×Nat)} {e:Env}
theorem acr (S:SpW sp) {H:Hp} {n sb bb c k:Nat} {L:List Value} (hs:p_ H n sb bb L c) (he:e.n0<=n) (hk:c<=k) (hk2:k<=120) (hL:L.length<80000) :
 EC dm sp e 507 [pA sb 0,iN k] H λv H'=>v=.tuple #[]/\∃ bb',p_ H' n sb bb' (L++List.replicate (k-c) (uB 32)) k/\BI H H' sb bb bb':=by
 refine EC.i2 ajV RA RD (S.no 507 (by decide) _ _) (by show 2<=13;decide) λt0 g0 g1=>?_
 show WK dm sp e ⟨2,13,none,false⟩ RC t0 [] H _
 unfold RC
 refine WK.block (WK.eR (λm t' ds' H'=>ds'=[]/\∃ i:Nat,m=k-c-i/\c+i<=k/\(∃ b',p_ H' n sb b' (L++List.replicate i (uB 32)) (c+i)/\BI H H' sb bb b')/\t'.get 0=pA sb 0/\t'.get 1=iN k) ?_ _ t0 [] H ⟨rfl,0,rfl,by omega,⟨bb,by simpa using hs,.refl _ _ _⟩,g0,g1⟩)
 rintro m_ tl ds_ Hl ⟨rfl,i,rfl,hi,⟨bl,nY,hst⟩,ku,yG⟩
 obtain⟨lQ,tA,anf⟩:=nY.ldc he
 unfold RB
 refine WK.seq ?_
 refine WK.seq ?_
 by_cases hlt:c+i<k
 case pos =>
  refine WK.av ?_
  have d_:decide (((c+i:Nat):Int)<((k:Nat):Int))=true:=decide_eq_true (by omega)
  refine aR.all (λt' H'=>Hl=H'/\GT t' [(0,pA sb 0),(1,iN k),(9,.bool true)]) ?_ ?_
  ·simp +decide only[Ht,ku,yG,lQ,tA,d_,Xo 2,go_sem]
  rintro t1 _ ⟨rfl,dQ,iJ,UR, -⟩
  refine WK.cond (v:=true) (by rw[af,UR];rfl) ?_
  refine WK.skip ?_
  refine WK.block ?_
  refine WK.av ?_
  have hA:∀ t':T Value,∃ H2,bD (bH t' [.string ⟨#[]⟩] [(0,1,.const (.string ⟨#[32]⟩))]) (λl=>aS (aG l 9 0) Hl (λi=>c_ (some (i,0)) 1 1 false) 0 0)=.val (sC Hl.nx 0 1 2) H2 0 0/\H2.bG=true/\H2.nx=Hl.nx+1/\Row H2 Hl.nx 9 0 [vS [32]]/\∀ b,b<Hl.nx->H2.blk b=Hl.blk b :=
   λt'=>abh (t:=t') (z:=.string ⟨#[]⟩) (o:=.const (.string ⟨#[32]⟩)) (l:=[32]) nY.fn rfl
  refine aR.iX λK0 qD=>?_
  refine aR.cut 1 (λt' H'=>Hl=H'/\GT t' [(0,pA sb 0),(1,iN k),(10,pA sb 0)]) ?_ ?_
  ·simp +decide only[Ho,List.take,dQ,iJ,Xo 2,go_sem]
  rintro t2 _ ⟨rfl,dV,jL,VJ, -⟩
  obtain⟨H2,nX,f2,nx2,hrow,old2⟩:=hA t2
  have DZ:Hl.nx<=H2.nx:=by omega
  obtain⟨hs2,qB⟩:=nY.kept f2 old2 DZ
  simp +decide only[Ho,List.drop,dV,jL,VJ,nX,DZ,Xo 2,go_sem]
  refine EC.mono (Q3 S hs2 he (l:=[32]) (by rw[List.length_append,List.length_replicate];show _+1<_;omega) hrow (by have:=nY.ge;omega) (by show _+1<=_;omega) (by decide)) λv H3 _ hv=>?_
  obtain⟨rfl,b3,hs3,C9⟩:=hv
  rw[fC]
  refine aR.all (λt' H'=>H3=H'/\GT t' [(0,pA sb 0),(1,iN k)]) ?_ ?_
  ·simp +decide only[dV,jL,Xo 2,go_sem]
  rintro t3 _ ⟨rfl,iq,oU, -⟩
  refine qD _ _ ?_
  refine⟨_,by omega,rfl,i+1,rfl,by omega,⟨b3,?_,(hst.trans qB).trans C9⟩,iq,oU⟩
  rw[<-EF];exact hs3
 case neg =>
  obtain rfl:k=c+i:=by omega
  refine WK.av ?_
  have d_:decide (((c+i:Nat):Int)<((c+i:Nat):Int))=false:=decide_eq_false (by omega)
  refine aR.all (λt' H'=>Hl=H'/\GT t' [(9,.bool false)]) ?_ ?_
  ·simp +decide only[Ht,ku,yG,lQ,tA,d_,Xo 2,go_sem]
  rintro t1 _ ⟨rfl,UR, -⟩
  refine WK.cond (v:=false) (by rw[af,UR];rfl) ?_
  refine WK.exit ?_
  refine⟨.inl rfl,rfl,[],0,rfl,.zero _ _,rfl,bl,?_,hst⟩
  rw[show c+i-c=i from by omega];exact nY
end
def uV (c:Nat):Nat:=if c=1 then 1 else if c<25 then 25 else if c<49 then 49 else if c<73 then 73 else if c<97 then 97 else 1
section
variable [dj]
def Ce (c:Nat):List Value:=if c=1 then []else if c<97 then List.replicate (uV c-c) (uB 32)else [uB 10]
theorem Ib (c:Nat):1<=uV c/\uV c<=97:=by
 unfold uV
 (repeat' split)<;>exact⟨by decide,by decide⟩
theorem adB {c i:Nat} (h1:c≠1) (h2:1+24*i<=c) (h3:c<25+24*i) (h4:i<4):uV c=25+24*i:=by
 unfold uV
 rw[if_neg h1]
 rcases(by omega:i=0\/i=1\/i=2\/i=3)with rfl|rfl|rfl|rfl
 ·rw[if_pos (by omega)]
 ·rw[if_neg (by omega),if_pos (by omega)]
 ·rw[if_neg (by omega),if_neg (by omega),if_pos (by omega)]
 ·rw[if_neg (by omega),if_neg (by omega),if_neg (by omega),if_pos (by omega)]
theorem Zj {c:Nat} (h:97<=c):uV c=1:=by
 unfold uV
 rw[if_neg (by omega),if_neg (by omega),if_neg (by omega),if_neg (by omega),if_neg (by omega)]
theorem stops {H:Hp} (hf:H.bG=true) (t:T Value) :
 ∃ H2,bD (bH t [.int .i64 0,.int .i64 0,.int .i64 0,.int .i64 0] [(0,1,.const (.int .i64 25)),(1,1,.const (.int .i64 49)),(2,1,.const (.int .i64 73)),(3,1,.const (.int .i64 97))]) (λl=>aS (aG l 3 0) H (λi=>c_ (some (i,0)) 4 4 false) 0 0)=.val (sC H.nx 0 4 8) H2 0 0/\H2.bG=true/\H2.nx=H.nx+1/\Row H2 H.nx 3 0 [iN 25,iN 49,iN 73,iN 97]/\∀ b,b<H.nx->H2.blk b=H.blk b:=by
 refine⟨H.push (aG [iN 25,iN 49,iN 73,iN 97] 3 0),?_,by rw[cg];exact hf,aZ _ _,fq (aO hf) _ _ _,λb hb=>a_ (aO hf) _ hb⟩
 have:bH t [.int .i64 0,.int .i64 0,.int .i64 0,.int .i64 0] [(0,1,.const (.int .i64 25)),(1,1,.const (.int .i64 49)),(2,1,.const (.int .i64 73)),(3,1,.const (.int .i64 97))]=some [iN 25,iN 49,iN 73,iN 97]:=rfl
 rw[this,bS]
 exact pQ hf _ 3 4
theorem acz {i:Nat} (h:i<4):[iN 25,iN 49,iN 73,iN 97][i]?=some (iN (25+24*i)):=by
 rcases(by omega:i=0\/i=1\/i=2\/i=3)with rfl|rfl|rfl|rfl<;>rfl
end
section
attribute [local go_sem] au aj GT dF gF aR fe Yj Yk Yl Ym Yn Yo Yp Yq Yr and_self and_true cV cU cQ cP cN cM bx ig ic de dR aP bw af cJ cI bP cH cG cF cE if_false if_true dM dD bM run true_and ck bL bK bJ bI bf bu l9
variable [dj] {sp:Nat->List Value->Hp->Option (Value×Hp×Nat×Nat)} {e:Env}
theorem ZF (S:SpW sp) {H:Hp} {n sb bb c:Nat} {L:List Value} {l:List UInt8} (hs:p_ H n sb bb L c) (he:e.n0<=n) (hc1:1<=c) (hc:c<=110) (hl6:l.length<=20) (hl:∀ x∈l,x≠10) (hL:L.length<70000) :
 EC dm sp e 462 [pA sb 0,vS l] H λv H'=>v=.tuple #[]/\∃ bb',p_ H' n sb bb' (L++Ce c++l.map uB) (uV c+l.length)/\BI H H' sb bb bb':=by
 refine EC.i2 ajY Pb Pc (S.no 462 (by decide) _ _) (by show 2<=58;decide) λt0 g0 g1=>?_
 show WK dm sp e ⟨2,58,none,false⟩ IA t0 [] H _
 unfold IA
 obtain⟨lQ,tA,hsb⟩:=hs.ldc he
 have hge:=hs.ge
 refine WK.seq (WK.mono (K:=λx t' ds' H'=>x=.normal/\ds'=[]/\(∃ b',p_ H' n sb b' (L++Ce c) (uV c)/\BI H H' sb bb b')/\t'.get 0=pA sb 0/\t'.get 1=vS l) ?_ ?_)
 ·refine WK.seq ?_
  refine WK.av ?_
  by_cases h1:c=1
  case pos =>
   subst h1
   have uH:decide (((1:Nat):Int)=(1:Int))=true:=rfl
   refine aR.all (λt' H'=>H=H'/\GT t' [(0,pA sb 0),(1,vS l),(11,.bool false)]) ?_ ?_
   ·simp +decide only[CI,g0,g1,lQ,tA,uH,Xo 2,go_sem]
   rintro t1 _ ⟨rfl,dQ,iJ,VG, -⟩
   refine WK.cond (v:=false) (by rw[af,VG];rfl) ?_
   refine WK.skip ?_
   exact⟨rfl,rfl,⟨bb,by simpa [Ce,uV] using hs,.refl _ _ _⟩,dQ,iJ⟩
  case neg =>
   have uH:decide (((c:Nat):Int)=(1:Int))=false:=decide_eq_false (by omega)
   refine aR.all (λt' H'=>H=H'/\GT t' [(0,pA sb 0),(1,vS l),(11,.bool true)]) ?_ ?_
   ·simp +decide only[CI,g0,g1,lQ,tA,uH,Xo 2,go_sem]
   rintro t1 _ ⟨rfl,dQ,iJ,VG, -⟩
   refine WK.cond (v:=true) (by rw[af,VG];rfl) ?_
   refine WK.seq ?_
   refine WK.av ?_
   refine aR.all (λt' H'=>H=H'/\GT t' [(0,pA sb 0),(1,vS l),(4,iN c)]) ?_ ?_
   ·simp +decide only[LU,dQ,iJ,lQ,tA,Xo 2,go_sem]
   rintro t2 _ ⟨rfl,dV,jL,mB, -⟩
   refine WK.seq (WK.mono (K:=λx t' ds' H'=>x=.normal/\ds'=[]/\(∃ b' c' P,p_ H' n sb b' (L++P) c'/\BI H H' sb bb b'/\((c<97/\c'=uV c/\c'≠c/\P=List.replicate (uV c-c) (uB 32))\/(97<=c/\c'=c/\P=[])))/\t'.get 0=pA sb 0/\t'.get 1=vS l/\t'.get 4=iN c) ?_ ?_)
   ·refine WK.seq ?_
    refine WK.av ?_
    obtain⟨H2,nX,f2,nx2,hrow,old2⟩:=stops hs.fn t2
    have DZ:H.nx<=H2.nx:=by omega
    obtain⟨hs2,qB⟩:=hs.kept f2 old2 DZ
    have CC:∀ Hq,fY 1 (sC H.nx 0 4 8) Hq=.val (iN 4) Hq 0 0:=λ_=>rfl
    refine aR.all (λt' H'=>H2=H'/\GT t' [(0,pA sb 0),(1,vS l),(4,iN c),(16,sC H.nx 0 4 8),(17,iN 4),(18,iN 0)]) ?_ ?_
    ·simp +decide only[LS,dV,jL,mB,nX,DZ,CC,Xo 2,go_sem]
     exact rfl
    rintro t3 _ ⟨rfl,iq,oU,zU,yL,ML,MK, -⟩
    refine WK.block (WK.eR (λm t' ds' H'=>ds'=[]/\H'=H2/\∃ i:Nat,m=4-i/\i<=4/\1+24*i<=c/\t'.get 0=pA sb 0/\t'.get 1=vS l/\t'.get 4=iN c/\t'.get 16=sC H.nx 0 4 8/\t'.get 17=iN 4/\t'.get 18=iN i) ?_ _ t3 [] H2 ⟨rfl,rfl,0,rfl,by omega,by omega,iq,oU,zU,yL,ML,MK⟩)
    rintro m_ tl ds_ Hl ⟨rfl,rfl,i,rfl,hi,hic,ku,yG,yz,abL,abK,abJ⟩
    unfold LV
    refine WK.seq ?_
    by_cases hlt:i<4
    case pos =>
     refine WK.av ?_
     have d_:decide (((i:Nat):Int)<((4:Nat):Int))=true:=decide_eq_true (by omega)
     refine aR.all (λt' H'=>Hl=H'/\GT t' [(0,pA sb 0),(1,vS l),(4,iN c),(16,sC H.nx 0 4 8),(17,iN 4),(18,iN i),(19,.bool true)]) ?_ ?_
     ·simp +decide only[CH,ku,yG,yz,abL,abK,abJ,d_,Xo 2,go_sem]
     rintro t4 _ ⟨rfl,gV,oT,yB,sR,Vv,ajq,yJ, -⟩
     refine WK.seq ?_
     refine WK.cond (v:=true) (by rw[af,yJ];rfl) ?_
     refine WK.skip ?_
     refine WK.seq ?_
     refine WK.block ?_
     refine WK.seq ?_
     refine WK.av ?_
     have wA:∀ Hq,eT 1 (sC H.nx 0 4 8) (iN i) Hq=.val (pA H.nx i) Hq 0 0:=λHq=>by rw[dW (by omega) (by omega)];simp
     have wv:dA (pA H.nx i) Hl=.val (iN (25+24*i)) Hl (bit H.nx) 0:=aV hrow (acz hlt)
     have zw:e.ok (bit H.nx) 0 Hl:=pV hrow (by omega)
     refine aR.all (λt' H'=>Hl=H'/\GT t' [(0,pA sb 0),(1,vS l),(4,iN c),(6,iN (25+24*i)),(16,sC H.nx 0 4 8),(17,iN 4),(18,iN i)]) ?_ ?_
     ·simp +decide only[LR,gV,oT,yB,sR,Vv,ajq,wA,wv,zw,Xo 2,go_sem]
     rintro t5 _ ⟨rfl,kz,yI,FX,sO,sQ,aju,Vu, -⟩
     refine WK.seq ?_
     refine WK.av ?_
     by_cases hgt:c<25+24*i
     case pos =>
      have Qd:decide (((c:Nat):Int)<((25+24*i:Nat):Int))=true:=decide_eq_true (by omega)
      refine aR.all (λt' H'=>Hl=H'/\GT t' [(0,pA sb 0),(1,vS l),(4,iN c),(6,iN (25+24*i)),(24,.bool true)]) ?_ ?_
      ·simp +decide only[CG,kz,yI,FX,sO,Qd,Xo 2,go_sem]
      rintro t6 _ ⟨rfl,iK,mC,yA,oQ,Vh, -⟩
      refine WK.cond (v:=true) (by rw[af,Vh];rfl) ?_
      refine WK.seq ?_
      refine WK.av ?_
      refine aR.iX λK0 qD=>?_
      simp +decide only[LQ,iK,oQ,Xo 2,go_sem]
      refine EC.mono (acr S hs2 he (k:=25+24*i) (by omega) (by omega) (by omega)) λv H3 _ hv=>?_
      obtain⟨rfl,b3,hs3,C9⟩:=hv
      rw[fC]
      refine aR.all (λt' H'=>H3=H'/\GT t' [(0,pA sb 0),(1,vS l),(4,iN c)]) ?_ ?_
      ·simp +decide only[iK,mC,yA,Xo 2,go_sem]
      rintro t7 _ ⟨rfl,iA,n9,Ja, -⟩
      refine qD _ _ ?_
      refine WK.exit ?_
      have en:=adB h1 hic hgt hlt
      refine⟨rfl,rfl,⟨b3,25+24*i,_,hs3,qB.trans C9,.inl ⟨by omega,en.symm,by omega,by rw[en]⟩⟩,iA,n9,Ja⟩
     case neg =>
      have Qd:decide (((c:Nat):Int)<((25+24*i:Nat):Int))=false:=decide_eq_false (by omega)
      refine aR.all (λt' H'=>Hl=H'/\GT t' [(0,pA sb 0),(1,vS l),(4,iN c),(16,sC H.nx 0 4 8),(17,iN 4),(18,iN i),(24,.bool false)]) ?_ ?_
      ·simp +decide only[CG,kz,yI,FX,sO,sQ,aju,Vu,Qd,Xo 2,go_sem]
      rintro t6 _ ⟨rfl,iK,mC,yA,MM,ajt,ajp,Vh, -⟩
      refine WK.cond (v:=false) (by rw[af,Vh];rfl) ?_
      refine WK.skip ?_
      refine WK.av ?_
      have w_:Value.int .i64 (aN .i64 (((i:Nat):Int)+(1:Int)))=.int .i64 (((i+1):Nat):Int):=wF (by omega)
      refine aR.all (λt' H'=>Hl=H'/\GT t' [(0,pA sb 0),(1,vS l),(4,iN c),(16,sC H.nx 0 4 8),(17,iN 4),(18,iN (i+1))]) ?_ ?_
      ·simp +decide only[LP,iK,mC,yA,MM,ajt,ajp,w_,Xo 2,go_sem]
      rintro t7 _ ⟨rfl,iA,n9,Ja,F4,yK,ajo, -⟩
      exact⟨_,by omega,rfl,rfl,i+1,rfl,by omega,by omega,iA,n9,Ja,F4,yK,ajo⟩
    case neg =>
     obtain rfl:i=4:=by omega
     refine WK.av ?_
     have d_:decide (((4:Nat):Int)<((4:Nat):Int))=false:=rfl
     refine aR.all (λt' H'=>Hl=H'/\GT t' [(0,pA sb 0),(1,vS l),(4,iN c),(19,.bool false)]) ?_ ?_
     ·simp +decide only[CH,ku,yG,yz,abL,abK,abJ,d_,Xo 2,go_sem]
     rintro t4 _ ⟨rfl,gV,oT,yB,yJ, -⟩
     refine WK.seq ?_
     refine WK.cond (v:=false) (by rw[af,yJ];rfl) ?_
     refine WK.exit ?_
     exact⟨rfl,rfl,⟨bb,c,[],by simpa using hs2,qB,.inr ⟨by omega,rfl,rfl⟩⟩,gV,oT,yB⟩
   ·rintro x tq dq Hq _ ⟨rfl,rfl,⟨b',c',P,Z5,Z4,ahy⟩,Gg,Jf,aaf⟩
    show WK _ _ _ _ _ _ _ _ _
    obtain⟨r_,Cm,_⟩:=Z5.ldc he
    refine WK.seq ?_
    refine WK.av ?_
    rcases ahy with⟨h97,rfl,hne,rfl⟩|⟨h97,rfl,rfl⟩
    ·have d_:decide (((uV c:Nat):Int)=((c:Nat):Int))=false:=decide_eq_false (by omega)
     refine aR.all (λt' H'=>Hq=H'/\GT t' [(0,pA sb 0),(1,vS l),(34,.bool false)]) ?_ ?_
     ·simp +decide only[CF,Gg,Jf,aaf,r_,Cm,d_,Xo 2,go_sem]
     rintro t4 _ ⟨rfl,gV,oT,U9, -⟩
     refine WK.cond (v:=false) (by rw[af,U9];rfl) ?_
     refine WK.skip ?_
     refine⟨rfl,rfl,⟨b',?_,Z4⟩,gV,oT⟩
     unfold Ce
     rw[if_neg h1,if_pos h97];exact Z5
    ·have d_:decide (((c':Nat):Int)=((c':Nat):Int))=true:=decide_eq_true rfl
     refine aR.all (λt' H'=>Hq=H'/\GT t' [(0,pA sb 0),(1,vS l),(34,.bool true)]) ?_ ?_
     ·simp +decide only[CF,Gg,Jf,aaf,r_,Cm,d_,Xo 2,go_sem]
     rintro t4 _ ⟨rfl,gV,oT,U9, -⟩
     refine WK.cond (v:=true) (by rw[af,U9];rfl) ?_
     refine WK.av ?_
     refine aR.iX λK0 qD=>?_
     simp +decide only[FA,gV,Xo 2,go_sem]
     refine EC.mono (Nc S Z5 he (k:=1) (by omega) (by simp<;>omega)) λv H3 _ hv=>?_
     obtain⟨rfl,b3,hs3,C9⟩:=hv
     rw[fC]
     refine aR.all (λt' H'=>H3=H'/\GT t' [(0,pA sb 0),(1,vS l)]) ?_ ?_
     ·simp +decide only[gV,oT,Xo 2,go_sem]
     rintro t7 _ ⟨rfl,iA,n9, -⟩
     refine qD _ _ ?_
     refine⟨rfl,rfl,⟨b3,?_,Z4.trans C9⟩,iA,n9⟩
     rw[Zj h97]
     unfold Ce
     rw[if_neg h1,if_neg (by omega)]
     simpa using hs3
 ·rintro x tq dq Hq _ ⟨rfl,rfl,⟨b',Z5,Z4⟩,Gg,Jf⟩
  show WK _ _ _ _ _ _ _ _ _
  obtain⟨r_,Cm,_⟩:=Z5.ldc he
  have qC:=Ib c
  generalize hN:uV c=N at Z5 r_ qC ⊢
  have ao6:(Ce c).length<=200:=by
   unfold Ce
   split
   ·simp
   ·split
    ·rw[List.length_replicate,hN];omega
    ·simp
  refine WK.seq ?_
  refine WK.seq ?_
  refine WK.av ?_
  refine aR.all (λt' H'=>Hq=H'/\GT t' [(0,pA sb 0),(1,vS l),(51,.bool false)]) ?_ ?_
  ·by_cases h1:N=1
   ·subst h1
    have uH:decide (((1:Nat):Int)=(1:Int))=true:=rfl
    simp +decide only[yh,Gg,Jf,r_,Cm,uH,Xo 2,go_sem]
   ·have uH:decide (((N:Nat):Int)=(1:Int))=false:=decide_eq_false (by omega)
    have w_:Value.int .i64 (aN .i64 ((121:Int)-((N:Nat):Int)))=.int .i64 ((121-N:Nat):Int):=wF (by omega)
    have Qe:decide (((121-N:Nat):Int)<((l.length:Nat):Int))=false:=decide_eq_false (by omega)
    simp +decide only[yh,Gg,Jf,r_,Cm,uH,w_,Qe,Xo 2,go_sem]
  rintro t1 _ ⟨rfl,dQ,iJ,aiZ, -⟩
  refine WK.cond (v:=false) (by rw[af,aiZ];rfl) ?_
  refine WK.skip ?_
  refine WK.av ?_
  refine aR.iX λK0 qD=>?_
  refine aR.cut 2 (λt' H'=>Hq=H'/\GT t' [(54,pA sb 0),(55,vS l)]) ?_ ?_
  ·simp +decide only[yf,List.take,dQ,iJ,Xo 2,go_sem]
  rintro t2 _ ⟨rfl,aiY,aiX, -⟩
  obtain⟨H2,nX,f2,nx2,hrow,old2⟩:=abh Z5.fn (t:=t2) (z:=.string ⟨#[]⟩) (o:=.tmp 55) (l:=l) (by rw[af];exact aiX)
  have DZ:Hq.nx<=H2.nx:=by omega
  obtain⟨hs2,qB⟩:=Z5.kept f2 old2 DZ
  have hgq:=Z5.lt
  simp +decide only[yf,List.drop,aiY,nX,DZ,Xo 2,go_sem]
  refine EC.mono (Q3 S hs2 he (l:=l) (by rw[List.length_append];omega) hrow (by omega) (by omega) hl) λv H3 _ hv=>?_
  obtain⟨rfl,b3,hs3,C9⟩:=hv
  rw[fC]
  refine aR.all (λt' H'=>H3=H') ?_ ?_
  ·simp +decide only[Xo 2,go_sem]
  rintro t3 _ rfl
  refine qD _ _ ?_
  exact⟨.inl rfl,rfl,[],0,rfl,.zero _ _,rfl,b3,hs3,(Z4.trans qB).trans C9⟩
end
section
variable [dj]
theorem ZD (l:List UInt8):l.map uB=qW (λi=>l.getD i 0) l.length:=by
 apply List.ext_getElem?
 intro i
 by_cases h:i<l.length
 ·rw[gx h,List.getElem?_map,List.getElem?_eq_getElem h]
  simp[List.getD_eq_getElem?_getD,List.getElem?_eq_getElem h]
 ·rw[List.getElem?_eq_none (by simp<;>omega),List.getElem?_eq_none (by rw[cA];omega)]
theorem X_ (l:List UInt8):gJ (λi=>l.getD i 0) l.length=l:=by
 apply List.ext_getElem?
 intro i
 by_cases h:i<l.length
 ·rw[Ei h,List.getElem?_eq_getElem h]
  simp[List.getD_eq_getElem?_getD,List.getElem?_eq_getElem h]
 ·rw[List.getElem?_eq_none (by rw[xj];omega),List.getElem?_eq_none (by omega)]
end
section
attribute [local go_sem] au aj GT dF gF aR fe Yj Yk Yl Ym Yn Yo Yp Yq Yr and_self and_true cV cU cQ cP cN cM bx ig ic de dR aP bw af cJ cI bP cH cG cF cE if_false if_true dM dD bM run true_and ck bL bK bJ bI bf bu l9
variable [dj] {sp:Nat->List Value->Hp->Option (Value×Hp×Nat×Nat)} {e:Env}
theorem p_.slice {H:Hp} {n sb bb c:Nat} {L:List Value} (hs:p_ H n sb bb L c):∃ w,dA (pA sb 1) H=.val w H (bit sb) 0/\(∀ Hq,fY 1 w Hq=.val (iN L.length) Hq 0 0)/\bQ w=true/\((L=[]/\w=.slice none 0 0)\/GW n 5 H bb w L):=by
 have hge:=hs.ge
 rcases hs.form with⟨hr,rfl,_⟩|⟨w,hr,ho,_⟩
 ·exact⟨_,aV hr rfl,λ_=>rfl,rfl,.inl ⟨rfl,rfl⟩⟩
 ·obtain⟨_,_,_,hw⟩:=ho.row
  exact⟨w,aV hr rfl,λ_=>by rw[hw];rfl,by rw[hw];rfl,.inr ho⟩
theorem aaO (S:SpW sp) {H:Hp} {n sb bb c:Nat} {L:List Value} (hs:p_ H n sb bb L c) (tA:e.ok (bit sb) 0 H):EC dm sp e 324 [pA sb 0] H λv H'=>v=iN L.length/\H'=H:=by
 refine EC.i1 aj1 Qu Qv (S.no 324 (by decide) _ _) (by show 1<=8;decide) λt0 g0=>?_
 show WK dm sp e ⟨2,8,none,false⟩ J0 t0 [] H _
 unfold J0
 obtain⟨w,lQ,nX,_,_⟩:=hs.slice
 refine WK.seq ?_
 refine WK.av ?_
 refine aR.all (λt' H'=>H=H'/\GT t' [(0,pA sb 0)]) ?_ ?_
 ·simp +decide only[ND,g0,Xo 2,go_sem]
 rintro t1 _ ⟨rfl,dQ, -⟩
 refine WK.seq ?_
 refine WK.av ?_
 refine aR.all (λt' H'=>H=H'/\GT t' [(2,iN L.length)]) ?_ ?_
 ·simp +decide only[NC,dQ,lQ,tA,nX,Xo 2,go_sem]
 rintro t2 _ ⟨rfl,oS, -⟩
 refine WK.ret ⟨.inr rfl,rfl,[iN L.length],0,?_,.zero _ _,rfl,rfl⟩
 show eg dm 8 t2 _ [.tmp 2]=_
 simp only[eg,oS];rfl
theorem XS {H:Hp} {n bb:Nat} {w:Value} {L:List Value} (ho:GW n 5 H bb w L) (h0:0<L.length) (Hq:Hp):ve w Hq=.val (pA bb 0) Hq 0 0:=by
 rcases ho.form with⟨_,rfl⟩|⟨_,rfl⟩
 ·unfold ve
  rw[BF]
  show Bc (Nat.beq L.length 0) _ _=_
  rw[show Nat.beq L.length 0=false from by rw[Bool.eq_false_iff];intro h;have:=(beq_iff _ _).1 h;omega,au];rfl
 ·unfold ve
  rw[BG]
  show Bc (Nat.beq L.length 0) _ _=_
  rw[show Nat.beq L.length 0=false from by rw[Bool.eq_false_iff];intro h;have:=(beq_iff _ _).1 h;omega,au];rfl
theorem Rk {H:Hp} (hf:H.bG=true) {n bb:Nat} {w:Value} {l:List UInt8} (ho:GW n 5 H bb w (l.map uB)) (h0:0<l.length) (h1:l.length<100000) :
 ∃ H1,yR 5 (pA bb 0) (iN l.length) H=.val (vS l) H1 (bit bb) (bit bb)/\H1.bG=true/\H1.nx=H.nx/\∀ b,b≠bb->H1.blk b=H.blk b:=by
 obtain⟨op,cc,hr,_⟩:=ho.row
 have hlt:=ho.lt
 obtain⟨t,hb,ht⟩:=hr
 obtain⟨m,hm⟩:∃ m,l.length=m+1:=⟨l.length-1,by omega⟩
 have hlen:(l.map uB).length=m+1:=by rw[List.length_map];exact hm
 have hrd:rP t (m+1) 0=l.map uB:=by
  rw[xF ht (m+1) 0 (by omega),List.drop_zero,<-hlen,List.take_length]
 have hst:zD (l.map uB)=some (vS l):=by
  rw[ZD]
  simp only[zD,YY,Aw,X_]
 refine⟨H.put bb (.cells t (l.map uB).length 5 op (lD 0 0 0 (m+1)).1 (lD 0 0 0 (m+1)).2),?_,by rw[sx];exact hf,cW _ _ _,λb hne=>j9 (vc hf) _ hlt hne⟩
 rw[hm]
 show(match H.blk bb with|.cells t k ty op lo hi=>Bc (Nat.beq ty 5&&Nat.ble (0+(m+1)) k&&Nat.ble lo hi&&Nat.ble k 1073741824) (match zD (rP t (m+1) 0)with|some s=>R.val s (H.put bb (.cells t k ty op (lD lo hi 0 (m+1)).1 (lD lo hi 0 (m+1)).2)) (bit bb) (bit bb)|none=>R.fail) R.fail|_=>R.fail)=_
 rw[hb]
 simp only[]
 rw[hrd,hst,show(Nat.beq 5 5&&Nat.ble (0+(m+1)) (l.map uB).length&&Nat.ble 0 0&&Nat.ble (l.map uB).length 1073741824)=true from by
  rw[hlen,(aE (0+(m+1)) (m+1)).2 (by omega),(aE (m+1) 1073741824).2 (by omega)];rfl]
 rfl
theorem aaL (S:SpW sp) {H:Hp} {n sb bb c:Nat} {l:List UInt8} (hs:p_ H n sb bb (l.map uB) c) (he:e.n0<=H.nx) (tA:e.ok (bit sb) 0 H) (o4:∀ H1:Hp,H1.nx=H.nx->e.ok (bit bb) (bit bb) H1) (h0:0<l.length) (hl:l.length<100000):EC dm sp e 65 [pA sb 0] H λv H'=>v=vS l/\H'.bG=true/\H'.nx=H.nx/\∀ b,b≠bb->H'.blk b=H.blk b:=by
 refine EC.i1 aoa Qr Qs (S.no 65 (by decide) _ _) (by show 1<=14;decide) λt0 g0=>?_
 show WK dm sp e ⟨2,14,none,false⟩ JW t0 [] H _
 unfold JW
 have hge:=hs.ge
 have hlt:=hs.lt
 obtain⟨w,lQ,nX,_,hw⟩:=hs.slice
 have ho:GW n 5 H bb w (l.map uB):=by
  rcases hw with⟨h,_⟩|h
  ·have:=congrArg List.length h;rw[List.length_map]at this;simp at this;rw[this]at h0;simp at h0
  ·exact h
 have CC:∀ Hq,ve w Hq=.val (pA bb 0) Hq 0 0:=XS ho (by rw[List.length_map];exact h0)
 obtain⟨H1,wA,f1,nx1,old1⟩:=Rk hs.fn ho h0 hl
 have n1_:H.nx<=H1.nx:=by omega
 have nX:∀ Hq,fY 1 w Hq=.val (iN l.length) Hq 0 0:=λHq=>by rw[nX,List.length_map]
 have Tm:e.ok (bit bb) (bit bb) H1:=o4 H1 nx1
 refine WK.seq ?_
 refine WK.av ?_
 refine aR.all (λt' H'=>H=H'/\GT t' [(0,pA sb 0)]) ?_ ?_
 ·simp +decide only[Nz,g0,Xo 2,go_sem]
 rintro t1 _ ⟨rfl,dQ, -⟩
 refine WK.seq ?_
 have zw:∀ cq,(bit sb).testBit cq=true->cq<H.nx:=dH (P:=λcq=>cq<H.nx) hlt.1
 refine WK.gw (λ_=>False) [.p,.p,.p,.q,.p,.p,.p,.p,.q,.p,.x,.p] (by omega) rfl ?_
 refine fe.all (λt' H'=>H1=H'/\GT t' [(2,vS l)]) ?_ ?_
 ·simp +decide only[Ny,dQ,lQ,tA,zw,nX,CC,wA,Tm,n1_,Xo 2,go_sem]
  exact zw
 rintro t2 _ ⟨rfl,oS, -⟩
 refine WK.ret ⟨.inr rfl,rfl,[vS l],0,?_,.zero _ _,rfl,f1,nx1,old1⟩
 show eg dm 14 t2 _ [.tmp 2]=_
 simp only[eg,oS];rfl
end
def ir (x:Int):List Value:=[.int .i64 x,.string ⟨#[]⟩]
def kG:List Value:=[.int .i64 2,.int .i64 15,.int .i64 0,.bool false,.string ⟨#[]⟩]
def kV (xs:Nat->Int):List Value:=((List.range 12).map λi=>ir (xs i)).flatten
def kX:List Value:=((List.range 12).map λ_=>kG).flatten
def j7 (tx:Nat->List UInt8):Nat->Nat
 |0=>1
 |i+1=>uV (j7 tx i)+(tx i).length
def nU (c:Nat):List UInt8:=if c=1 then []else if c<97 then List.replicate (uV c-c) 32 else [10]
def gp (tx:Nat->List UInt8):Nat->List UInt8
 |0=>[]
 |i+1=>gp tx i++nU (j7 tx i)++tx i
theorem adP {i:Nat} (h:i<12):i=0\/i=1\/i=2\/i=3\/i=4\/i=5\/i=6\/i=7\/i=8\/i=9\/i=10\/i=11:=by omega
theorem An (xs:Nat->Int) {i:Nat} (h:i<12):((kV xs).drop (2*i)).take 2=ir (xs i):=by
 rcases adP h with rfl|rfl|rfl|rfl|rfl|rfl|rfl|rfl|rfl|rfl|rfl|rfl<;>rfl
theorem At {i:Nat} (h:i<12):(kX.drop (5*i)).take 5=kG:=by
 rcases adP h with rfl|rfl|rfl|rfl|rfl|rfl|rfl|rfl|rfl|rfl|rfl|rfl<;>rfl
section
variable [dj]
theorem adn (c:Nat):Ce c=(nU c).map uB:=by
 unfold Ce nU
 split
 ·rfl
 ·split
  ·rw[List.map_replicate]
  ·rfl
theorem DF {tx:Nat->List UInt8} (h:∀ i,i<12->(tx i).length<=6):∀ i,i<=12->1<=j7 tx i/\j7 tx i<=103:=by
 intro i hi
 cases i with
 |zero=>exact⟨Nat.le_refl _,by show 1<=103;omega⟩
 |succ i =>
  have:=Ib (j7 tx i)
  have h2:=h i (by omega)
  show 1<=uV (j7 tx i)+(tx i).length/\uV (j7 tx i)+(tx i).length<=103
  omega
theorem SZ (c:Nat):(nU c).length<=97:=by
 have:=Ib c
 unfold nU
 split
 ·simp
 ·split
  ·rw[List.length_replicate];omega
  ·simp
theorem Cg {tx:Nat->List UInt8} (h:∀ i,i<12->(tx i).length<=6):∀ i,i<=12->(gp tx i).length<=103*i:=by
 intro i
 induction i with
 |zero=>intro _;simp[gp]
 |succ i ih =>
  intro hi
  have h1:=ih (by omega)
  have h2:=h i (by omega)
  have h3:=SZ (j7 tx i)
  simp only[gp,List.length_append]
  omega
def KT:List Value:=(List.range 20).map λi=>Value.int .u64 (.ofNat (Nat.pow 10 i))
structure SpP (sp:Nat->List Value->Hp->Option (Value×Hp×Nat×Nat)) (tx:Int->List UInt8) (P:Int->Prop):Prop extends SpW sp where
 ag5:∀ H,sp 409 [.slice none 0 0] H=some (iN 0,H,0,0)
 ag4:∀ H,sp 458 [.slice none 0 0] H=some (.bool true,H,0,0)
 ag3:∀ x H,P x->sp 459 [.agg ⟨ir x⟩,.agg ⟨kG⟩] H=some (iN 0,H,0,0)
 ag2:∀ o H,Row H o 222 0 [vS [],iN 0]->sp 460 [pA o 0] H=some (iN 1,H,bit o,0)
 ag1:∀ x H,P x->Row H 2 214 0 KT->sp 463 [.agg ⟨ir x⟩,.agg ⟨kG⟩] H=some (vS (tx x),H,bit 2,0)
 tx1:∀ x,P x->1<=(tx x).length
 tx6:∀ x,P x->(tx x).length<=6/\∀ u∈tx x,u≠10
end
section
attribute [local go_sem] au aj GT dF gF aR fe Yj Yk Yl Ym Yn Yo Yp Yq Yr and_self and_true cV cU cQ cP cN cM bx ig ic de dR aP bw af cJ cI bP cH cG cF cE if_false if_true dM dD bM run true_and ck bL bK bJ bI bf bu l9
variable [dj] {sp:Nat->List Value->Hp->Option (Value×Hp×Nat×Nat)} {e:Env} {tx:Int->List UInt8} {P:Int->Prop}
theorem wX {cx:Cx} {B:Array Nat} {o:CO} {cos:List CO} {i:Nat} {t:T Value} {ds:List Deferred} {H:Hp} {A:List En} {K:T Value->List Deferred->Hp->Prop} {v:Value} (hg:dn t o.guard=true) (hr:run o.op t H=.val v H 0 0)
 (h:WD dm sp e cx B cos (i+1) (eF cx.d t o.dst v) ds H A K):WD dm sp e cx B (o::cos) i t ds H A K :=
 WD.cons hg (by rw[hr];exact⟨Env.ok.zero _ _,Nat.le_refl _,.inl ⟨rfl,rfl,rfl,h⟩⟩)
theorem abW {H:Hp} (hf:H.bG=true) (x:Int):∃ H1 H2,aS (aG [.int .i64 0,.string ⟨#[]⟩] 32 0) H ptrTo 0 0=.val (pA H.nx 0) H1 0 0/\i_ 2 (pA H.nx 0) (.agg ⟨ir x⟩) H1=.val U H2 0 (bit H.nx)/\H.nx<=H1.nx/\H1.nx<=H2.nx/\Kept H H2/\Row H2 H.nx 32 0 (ir x):=by
 obtain⟨H1,nb⟩:=nW hf [.int .i64 0,.string ⟨#[]⟩] 32
 obtain⟨H2,e2,wr⟩:=j4 (vs:=ir x) nb.kept.fn nb.row (o:=0) (by show 0+2<=2;decide)
 exact⟨H1,H2,nb.al,e2,nb.kept.nx,by rw[wr.nx];exact Nat.le_refl _,⟨wr.fn,by rw[wr.nx];exact nb.kept.nx,λb hb=>(wr.dS b (by omega)).trans (nb.kept.old b hb)⟩,wr.row⟩
theorem adh (S:SpP sp tx P) {H:Hp} (hf:H.bG=true) (he:e.n0<=H.nx) {o vb tt cv ct opv opt tyt:Nat} {xs:Nat->Int} (ho:Row H o 222 0 [vS [],iN 0]) (hv:Row H vb 32 opv (kV xs)) (ht:Row H tt tyt opt kX) (hp2:Row H 2 214 0 KT) (FQ:o≠2) (hpp:2<e.n0->e.Rd 2)
 (hpo:o<e.n0->e.Rd o) (hpw:o<e.n0->e.Wr o) (hpv:vb<e.n0->e.Rd vb) (hpt:tt<e.n0->e.Rd tt) (hP:∀ i,i<12->P (xs i)) :
 EC dm sp e 407 [pA o 0,iN 0,.slice none 0 0,sC vb 0 12 cv,sC tt 0 12 ct] H λv H'=>v=iN 0/\Row H' o 222 0 [vS (gp (λi=>tx (xs i)) 12),iN (gp (λi=>tx (xs i)) 12).length]/\H'.bG=true/\∀ b,b<H.nx->b≠o->H'.blk b=H.blk b:=by
 refine EC.i5 aj0 OJ OK (S.no 407 (by decide) _ _) (by show 5<=163;decide) λt0 g0 g1 g2 g3 g4=>?_
 show WK dm sp e ⟨3,163,none,false⟩ HX t0 [] H _
 unfold HX
 refine WK.seq ?_
 refine WK.av ?_
 refine aR.all (λt' H'=>H=H'/\GT t' [(0,pA o 0),(1,iN 0),(2,.slice none 0 0),(3,sC vb 0 12 cv),(4,sC tt 0 12 ct)]) ?_ ?_
 ·simp +decide only[La,g0,g1,g2,g3,g4,Xo 3,go_sem]
 rintro t1 _ ⟨rfl,dQ,iJ,zY,aeJ,zV, -⟩
 refine WK.seq ?_
 refine WK.seq ?_
 refine WK.av ?_
 refine aR.iX λK0 qD=>?_
 simp +decide only[K_,zY,Xo 3,go_sem]
 refine l8 (S.ag5 _) rfl (Env.ok.zero _ _) (Nat.le_refl _) ?_
 rw[fC]
 refine aR.all (λt' H'=>H=H'/\GT t' [(0,pA o 0),(1,iN 0),(2,.slice none 0 0),(3,sC vb 0 12 cv),(4,sC tt 0 12 ct),(11,iN 0)]) ?_ ?_
 ·simp +decide only[dQ,iJ,zY,aeJ,zV,Xo 3,go_sem]
 rintro t2 _ ⟨rfl,dV,jL,oS,aeI,mB,ajJ, -⟩
 refine qD _ _ ?_
 refine WK.seq ?_
 refine WK.av ?_
 have uH:decide (((0:Nat):Int)=(0:Int))=true:=rfl
 refine aR.all (λt' H'=>H=H'/\GT t' [(0,pA o 0),(1,iN 0),(2,.slice none 0 0),(3,sC vb 0 12 cv),(4,sC tt 0 12 ct),(25,.bool false)]) ?_ ?_
 ·simp +decide only[K9,dV,jL,oS,aeI,mB,ajJ,uH,Xo 3,go_sem]
 rintro t3 _ ⟨rfl,iq,oU,vJ,PI,zU,aje, -⟩
 refine WK.cond (v:=false) (by rw[af,aje];rfl) ?_
 refine WK.skip ?_
 refine WK.seq ?_
 refine WK.seq ?_
 refine WK.av ?_
 refine aR.iX λK1 hK1=>?_
 have lQ:∀ Hq,jo false (.one .p) (pA o 0) (.pointer none) Hq=.val (.bool false) Hq 0 0:=λ_=>rfl
 have Qe:decide (((0:Nat):Int)<(0:Int))=false:=rfl
 have XC:decide ((99:Int)<((0:Nat):Int))=false:=rfl
 have d4_:decide (((12:Nat):Int)=((12:Nat):Int))=true:=rfl
 have d5_:decide ((16:Int)<((12:Nat):Int))=false:=rfl
 have Qd:decide ((0:Int)<((12:Nat):Int))=true:=rfl
 simp +decide only[K8,iq,oU,vJ,PI,zU,lQ,Qe,XC,d4_,d5_,Xo 3,go_sem]
 refine l8 (S.ag4 _) rfl (Env.ok.zero _ _) (Nat.le_refl _) ?_
 rw[fC]
 refine aR.all (λt' H'=>H=H'/\GT t' [(0,pA o 0),(1,iN 0),(2,.slice none 0 0),(3,sC vb 0 12 cv),(4,sC tt 0 12 ct),(58,.bool false)]) ?_ ?_
 ·simp +decide only[iq,oU,vJ,PI,zU,Qd,Xo 3,go_sem]
 rintro t4 _ ⟨rfl,gV,oT,Dn,zW,yB,aiV, -⟩
 refine hK1 _ _ ?_
 refine WK.cond (v:=false) (by rw[af,aiV];rfl) ?_
 refine WK.skip ?_
 refine WK.seq (WK.mono (K:=λx t' ds' H'=>x=.normal/\ds'=[]/\Kept H H'/\t'.get 0=pA o 0/\t'.get 1=iN 0/\t'.get 2=.slice none 0 0/\t'.get 3=sC vb 0 12 cv/\t'.get 4=sC tt 0 12 ct) ?_ ?_)
 ·refine WK.seq ?_
  refine WK.av ?_
  refine aR.all (λt' H'=>H=H'/\GT t' [(0,pA o 0),(1,iN 0),(2,.slice none 0 0),(3,sC vb 0 12 cv),(4,sC tt 0 12 ct),(59,sC vb 0 12 cv),(60,iN 12),(61,iN 0)]) ?_ ?_
  ·simp +decide only[K7,gV,oT,Dn,zW,yB,Xo 3,go_sem]
   exact rfl
  rintro t5 _ ⟨rfl,kz,yI,zX,FZ,FX,aiU,aiM,aiF, -⟩
  refine WK.block (WK.eR (λm t' ds' H'=>ds'=[]/\∃ i:Nat,m=12-i/\i<=12/\Kept H H'/\(t'.get 0=pA o 0/\t'.get 1=iN 0/\t'.get 2=.slice none 0 0/\t'.get 3=sC vb 0 12 cv/\t'.get 4=sC tt 0 12 ct)/\t'.get 59=sC vb 0 12 cv/\t'.get 60=iN 12/\t'.get 61=iN i) ?_ _ t5 [] H ⟨rfl,0,rfl,by omega,.refl hf,⟨kz,yI,zX,FZ,FX⟩,aiU,aiM,aiF⟩)
  rintro m_ tl ds_ Hl ⟨rfl,i,rfl,hi,kl,⟨ku,yG,F1,FY,yz⟩,abx,abw,abv⟩
  unfold E7
  refine WK.seq ?_
  by_cases hlt:i<12
  case pos =>
   refine WK.av ?_
   have d_:decide (((i:Nat):Int)<((12:Nat):Int))=true:=decide_eq_true (by omega)
   refine aR.all (λt' H'=>Hl=H'/\GT t' [(0,pA o 0),(1,iN 0),(2,.slice none 0 0),(3,sC vb 0 12 cv),(4,sC tt 0 12 ct),(59,sC vb 0 12 cv),(60,iN 12),(61,iN i),(62,.bool true)]) ?_ ?_
   ·simp +decide only[Cj,ku,yG,F1,FY,yz,abx,abw,abv,d_,Xo 3,go_sem]
   rintro t6 _ ⟨rfl,iK,mC,vI,Dl,yA,aiT,aiL,aiE,U5, -⟩
   refine WK.seq ?_
   refine WK.cond (v:=true) (by rw[af,U5];rfl) ?_
   refine WK.skip ?_
   refine WK.seq ?_
   refine WK.block ?_
   refine WK.seq ?_
   refine WK.av ?_
   have hvl:=hv.mv kl
   have htl:=ht.mv kl
   have nX:∀ Hq,eT 2 (sC vb 0 12 cv) (iN i) Hq=.val (pA vb (2*i)) Hq 0 0:=λHq=>by rw[dW (by omega) (by omega)];simp<;>omega
   have CC:ia 2 (pA vb (2*i)) Hl=.val (.agg ⟨ir (xs i)⟩) Hl (bit vb) 0:=by rw[eS hvl (by show 2*i+2<=24;omega),An _ hlt]
   have zM:e.ok (bit vb) 0 Hl:=.read hvl.lt hpv
   obtain⟨H1,H2,e1_,e2_,n1_,DZ,k2,hrow⟩:=abW kl.fn (xs i)
   have IW:=kl.nx
   have Tm:e.ok 0 (bit Hl.nx) H2:=wm hrow (by omega)
   refine aR.all (λt' H'=>H2=H'/\GT t' [(0,pA o 0),(1,iN 0),(2,.slice none 0 0),(3,sC vb 0 12 cv),(4,sC tt 0 12 ct),(12,iN i),(13,pA Hl.nx 0),(59,sC vb 0 12 cv),(60,iN 12),(61,iN i)]) ?_ ?_
   ·simp +decide only[K6,iK,mC,vI,Dl,yA,aiT,aiL,aiE,nX,CC,zM,e1_,e2_,n1_,DZ,Tm,Xo 3,go_sem]
   rintro t7 _ ⟨rfl,iA,n9,sP,Jd,Ja,Bb,ajE,aiS,aiK,aiD, -⟩
   refine WK.seq ?_
   have wA:ia 2 (pA Hl.nx 0) H2=.val (.agg ⟨ir (xs i)⟩) H2 (bit Hl.nx) 0:=by rw[eS hrow (by show 0+2<=2;omega)];rfl
   have zw:e.ok (bit Hl.nx) 0 H2:=pV hrow (by omega)
   have wv:∀ Hq,eT 5 (sC tt 0 12 ct) (iN i) Hq=.val (pA tt (5*i)) Hq 0 0:=λHq=>by rw[dW (by omega) (by omega)];simp<;>omega
   have Ux:=htl.mv k2
   have r_:ia 5 (pA tt (5*i)) H2=.val (.agg ⟨kG⟩) H2 (bit tt) 0:=by rw[eS Ux (by show 5*i+5<=60;omega),At hlt]
   have Cm:e.ok (bit tt) 0 H2:=.read Ux.lt hpt
   have b5_:∀ cq,(bit Hl.nx).testBit cq=true->cq<H2.nx:=dH (P:=λcq=>cq<H2.nx) hrow.lt
   have b6_:∀ cq,(bit tt).testBit cq=true->cq<H2.nx:=dH (P:=λcq=>cq<H2.nx) Ux.lt
   refine WK.gw (λ_=>False) [.q,.p,.p,.p,.q,.q,.p] (by have:=k2.nx;omega) rfl ?_
   refine fe.iX λK2 hK2=>?_
   refine fe.cut 5 (λt' H'=>H2=H'/\GT t' [(0,pA o 0),(1,iN 0),(2,.slice none 0 0),(3,sC vb 0 12 cv),(4,sC tt 0 12 ct),(12,iN i),(13,pA Hl.nx 0),(59,sC vb 0 12 cv),(60,iN 12),(61,iN i),(66,.agg ⟨ir (xs i)⟩),(70,.agg ⟨kG⟩)]) rfl ?_ ?_
   ·simp +decide only[Ci,List.take,iA,n9,sP,Jd,Ja,Bb,ajE,aiS,aiK,aiD,wA,zw,wv,r_,Cm,Xo 3,go_sem]
    exact⟨b5_,b6_⟩
   rintro t8 _ ⟨rfl,uA,Vo,Dm,Jc,I_,aoP,aoO,aiR,aiJ,aiC,aiy,air, -⟩
   simp +decide only[Ci,List.drop,aiy,air,Xo 3,go_sem]
   refine l8 (S.ag3 _ _ (hP i hlt)) rfl (Env.ok.zero _ _) (Nat.le_refl _) ?_
   rw[o8]
   refine fe.all (λt' H'=>H2=H'/\GT t' [(0,pA o 0),(1,iN 0),(2,.slice none 0 0),(3,sC vb 0 12 cv),(4,sC tt 0 12 ct),(14,iN 0),(59,sC vb 0 12 cv),(60,iN 12),(61,iN i)]) ?_ ?_
   ·simp +decide only[uA,Vo,Dm,Jc,I_,aiR,aiJ,aiC,Xo 3,go_sem]
   rintro t9 _ ⟨rfl,uz,Vn,yD,Jb,aeF,VA,aiQ,aiI,aiB, -⟩
   refine hK2 _ _ ?_
   refine WK.seq ?_
   refine WK.av ?_
   refine aR.all (λt' H'=>H2=H'/\GT t' [(0,pA o 0),(1,iN 0),(2,.slice none 0 0),(3,sC vb 0 12 cv),(4,sC tt 0 12 ct),(59,sC vb 0 12 cv),(60,iN 12),(61,iN i),(73,.bool false)]) ?_ ?_
   ·simp +decide only[E5,uz,Vn,yD,Jb,aeF,VA,aiQ,aiI,aiB,uH,Xo 3,go_sem]
   rintro ta _ ⟨rfl,Jp,aeO,Je,U8,aeE,aiP,aiH,aiA,aiq, -⟩
   refine WK.cond (v:=false) (by rw[af,aiq];rfl) ?_
   refine WK.skip ?_
   refine WK.av ?_
   have w_:Value.int .i64 (aN .i64 (((i:Nat):Int)+(1:Int)))=.int .i64 (((i+1):Nat):Int):=wF (by omega)
   refine aR.all (λt' H'=>H2=H'/\GT t' [(0,pA o 0),(1,iN 0),(2,.slice none 0 0),(3,sC vb 0 12 cv),(4,sC tt 0 12 ct),(59,sC vb 0 12 cv),(60,iN 12),(61,iN (i+1))]) ?_ ?_
   ·simp +decide only[E3,Jp,aeO,Je,U8,aeE,aiP,aiH,aiA,w_,Xo 3,go_sem]
   rintro tb_ _ ⟨rfl,VM,aeN,aeL,aeH,aeD,aiO,aiG,aiz, -⟩
   exact⟨_,by omega,rfl,i+1,rfl,by omega,kl.trans k2,⟨VM,aeN,aeL,aeH,aeD⟩,aiO,aiG,aiz⟩
  case neg =>
   obtain rfl:i=12:=by omega
   refine WK.av ?_
   have d_:decide (((12:Nat):Int)<((12:Nat):Int))=false:=rfl
   refine aR.all (λt' H'=>Hl=H'/\GT t' [(0,pA o 0),(1,iN 0),(2,.slice none 0 0),(3,sC vb 0 12 cv),(4,sC tt 0 12 ct),(62,.bool false)]) ?_ ?_
   ·simp +decide only[Cj,ku,yG,F1,FY,yz,abx,abw,abv,d_,Xo 3,go_sem]
   rintro t6 _ ⟨rfl,iK,mC,vI,Dl,yA,U5, -⟩
   refine WK.seq ?_
   refine WK.cond (v:=false) (by rw[af,U5];rfl) ?_
   refine WK.exit ?_
   exact⟨rfl,rfl,kl,iK,mC,vI,Dl,yA⟩
 ·rintro x tq dq Hq _ ⟨rfl,rfl,kq,Gg,Jf,an7,an6,aaf⟩
  show WK _ _ _ _ _ _ _ _ _
  have hoq:=ho.mv kq
  have nq:=kq.nx
  have IU:∀ i,i<12->(tx (xs i)).length<=6:=λi hi=>(S.tx6 _ (hP i hi)).1
  refine WK.seq ?_
  refine WK.av ?_
  refine aR.iX λK0 qD=>?_
  have lQ:∀ (t:T Value) (k:List Value->R),bD (bH (eF 3 t (some 77) (iN 1)) [.pointer none,.slice none 0 0,.int .i64 0] [(2,1,.tmp 77)]) k=k [.pointer none,.slice none 0 0,iN 1]:=λt k=>by
   have h77:aA (eF 3 t (some 77) (iN 1)) (.tmp 77)=iN 1:=by rw[af,Xo 3 (by decide) (by decide)];rfl
   simp only[bH,h77];rfl
  obtain⟨Hs,hHs⟩:∃ Hs,Hs=Hq.push (aG [.pointer none,.slice none 0 0,iN 1] 559 0):=⟨_,rfl⟩
  have nX:bD (gX (.agg ⟨[.pointer none,.slice none 0 0,iN 1]⟩)) (λl=>aS (aG l 559 0) Hq ptrTo 0 0)=.val (pA Hq.nx 0) Hs 0 0:=by rw[hHs];exact ED (aO kq.fn) _ _
  have ns:Hs.nx=Hq.nx+1:=by rw[hHs,aZ]
  have n1_:Hq.nx<=Hs.nx:=by omega
  have rs:Row Hs Hq.nx 559 0 [.pointer none,.slice none 0 0,iN 1]:=by rw[hHs];exact fq (aO kq.fn) _ _ _
  have ks:Kept Hq Hs:=⟨by rw[hHs,cg];exact kq.fn,n1_,λb hb=>by rw[hHs];exact a_ (aO kq.fn) _ hb⟩
  have hs0:p_ Hs Hq.nx Hq.nx Hq.nx [] 1:=⟨ks.fn,Nat.le_refl _,.inl ⟨rs,rfl,rfl⟩⟩
  have heq:e.n0<=Hq.nx:=by omega
  simp +decide only[E2,Gg,Xo 3,go_sem]
  refine l8 (S.ag2 _ _ hoq) rfl (Env.ok.read hoq.lt hpo) (Nat.le_refl _) ?_
  rw[fC]
  refine aR.all (λt' H'=>Hs=H'/\GT t' [(0,pA o 0),(1,iN 0),(2,.slice none 0 0),(3,sC vb 0 12 cv),(4,sC tt 0 12 ct),(15,pA Hq.nx 0)]) ?_ ?_
  ·simp +decide only[Gg,Jf,an7,an6,aaf,lQ,nX,n1_,Xo 3,go_sem]
  rintro t1 _ ⟨rfl,dQ,iJ,zY,aeJ,zV,va, -⟩
  refine qD _ _ ?_
  refine WK.seq ?_
  refine WK.av ?_
  refine aR.iX λK1 hK1=>?_
  simp +decide only[E1,va,iJ,Xo 3,go_sem]
  refine EC.mono (Nc S.toSpW hs0 heq (k:=0) (by omega) (by show 0<90000;omega)) λv H1 _ hv=>?_
  obtain⟨rfl,b1,hs1,FO⟩:=hv
  rw[fC]
  refine aR.all (λt' H'=>H1=H'/\GT t' [(0,pA o 0),(1,iN 0),(2,.slice none 0 0),(3,sC vb 0 12 cv),(4,sC tt 0 12 ct),(15,pA Hq.nx 0)]) ?_ ?_
  ·simp +decide only[dQ,iJ,zY,aeJ,zV,va,Xo 3,go_sem]
  rintro t2 _ ⟨rfl,dV,jL,oS,aeI,mB,kR, -⟩
  refine hK1 _ _ ?_
  refine WK.seq (WK.mono (K:=λx t' ds' H'=>x=.normal/\ds'=[]/\(∃ b',p_ H' Hq.nx Hq.nx b' ((gp (λi=>tx (xs i)) 12).map uB) (j7 (λi=>tx (xs i)) 12)/\BI Hs H' Hq.nx Hq.nx b')/\(t'.get 0=pA o 0/\t'.get 1=iN 0/\t'.get 2=.slice none 0 0/\t'.get 3=sC vb 0 12 cv/\t'.get 4=sC tt 0 12 ct)/\t'.get 15=pA Hq.nx 0) ?_ ?_)
  ·refine WK.seq ?_
   refine WK.av ?_
   refine aR.all (λt' H'=>H1=H'/\GT t' [(0,pA o 0),(1,iN 0),(2,.slice none 0 0),(3,sC vb 0 12 cv),(4,sC tt 0 12 ct),(15,pA Hq.nx 0),(83,sC vb 0 12 cv),(84,iN 12),(85,iN 0)]) ?_ ?_
   ·simp +decide only[E0,dV,jL,oS,aeI,mB,kR,Xo 3,go_sem]
    exact rfl
   rintro t3 _ ⟨rfl,iq,oU,vJ,PI,zU,MO,aih,ah_,ah4, -⟩
   refine WK.block (WK.eR (λm t' ds' H'=>ds'=[]/\∃ i:Nat,m=12-i/\i<=12/\(∃ b',p_ H' Hq.nx Hq.nx b' ((gp (λi=>tx (xs i)) i).map uB) (j7 (λi=>tx (xs i)) i)/\BI Hs H' Hq.nx Hq.nx b')/\(t'.get 0=pA o 0/\t'.get 1=iN 0/\t'.get 2=.slice none 0 0/\t'.get 3=sC vb 0 12 cv/\t'.get 4=sC tt 0 12 ct)/\t'.get 15=pA Hq.nx 0/\t'.get 83=sC vb 0 12 cv/\t'.get 84=iN 12/\t'.get 85=iN i) ?_ _ t3 [] H1 ⟨rfl,0,rfl,by omega,⟨b1,hs1,FO⟩,⟨iq,oU,vJ,PI,zU⟩,MO,aih,ah_,ah4⟩)
   rintro m_ tl ds_ Hl ⟨rfl,i,rfl,hi,⟨bl,nY,hst⟩,⟨ku,yG,F1,FY,yz⟩,F7,abu,abt,abr⟩
   unfold E6
   refine WK.seq ?_
   by_cases hlt:i<12
   case pos =>
    refine WK.av ?_
    have d_:decide (((i:Nat):Int)<((12:Nat):Int))=true:=decide_eq_true (by omega)
    refine aR.all (λt' H'=>Hl=H'/\GT t' [(0,pA o 0),(1,iN 0),(2,.slice none 0 0),(3,sC vb 0 12 cv),(4,sC tt 0 12 ct),(15,pA Hq.nx 0),(83,sC vb 0 12 cv),(84,iN 12),(85,iN i),(86,.bool true)]) ?_ ?_
    ·simp +decide only[xO,ku,yG,F1,FY,yz,F7,abu,abt,abr,d_,Xo 3,go_sem]
    rintro t6 _ ⟨rfl,iK,mC,vI,Dl,yA,u_,aif,ah',ah3,UU, -⟩
    refine WK.seq ?_
    refine WK.cond (v:=true) (by rw[af,UU];rfl) ?_
    refine WK.skip ?_
    refine WK.seq ?_
    refine WK.block ?_
    refine WK.seq ?_
    refine WK.av ?_
    have lv:=hv.lt
    have lt_:=ht.lt
    have hvl:Row Hl vb 32 opv (kV xs):=((hv.mv kq).mv ks).bF (hst.old vb (by omega) (by omega) (by omega))
    have htl:Row Hl tt tyt opt kX:=((ht.mv kq).mv ks).bF (hst.old tt (by omega) (by omega) (by omega))
    have D2:=hp2.lt
    have h2l:Row Hl 2 214 0 KT:=((hp2.mv kq).mv ks).bF (hst.old 2 (by omega) (by omega) (by omega))
    have CC:∀ Hq,eT 2 (sC vb 0 12 cv) (iN i) Hq=.val (pA vb (2*i)) Hq 0 0:=λHq=>by rw[dW (by omega) (by omega)];simp<;>omega
    have wA:ia 2 (pA vb (2*i)) Hl=.val (.agg ⟨ir (xs i)⟩) Hl (bit vb) 0:=by rw[eS hvl (by show 2*i+2<=24;omega),An _ hlt]
    have Tm:e.ok (bit vb) 0 Hl:=.read hvl.lt hpv
    obtain⟨Ha,H2,e1_,e2_,DZ,n3_,k2,hrow⟩:=abW nY.fn (xs i)
    have IW:=hst.nx
    have zw:e.ok 0 (bit Hl.nx) H2:=wm hrow (by omega)
    refine aR.all (λt' H'=>H2=H'/\GT t' [(0,pA o 0),(1,iN 0),(2,.slice none 0 0),(3,sC vb 0 12 cv),(4,sC tt 0 12 ct),(15,pA Hq.nx 0),(16,iN i),(17,pA Hl.nx 0),(83,sC vb 0 12 cv),(84,iN 12),(85,iN i)]) ?_ ?_
    ·simp +decide only[EZ,iK,mC,vI,Dl,yA,u_,aif,ah',ah3,CC,wA,Tm,e1_,e2_,DZ,n3_,zw,Xo 3,go_sem]
    rintro t7 _ ⟨rfl,iA,n9,sP,Jd,Ja,F9,F4,yK,aie,ah9,ah2, -⟩
    obtain⟨hs2,qB⟩:=nY.kept k2.fn k2.old k2.nx
    refine WK.seq ?_
    refine WK.seq ?_
    refine WK.av ?_
    have d7_:decide (((0:Nat):Int)=(0:Int))=true:=rfl
    refine aR.all (λt' H'=>H2=H'/\GT t' [(0,pA o 0),(1,iN 0),(2,.slice none 0 0),(3,sC vb 0 12 cv),(4,sC tt 0 12 ct),(15,pA Hq.nx 0),(16,iN i),(17,pA Hl.nx 0),(83,sC vb 0 12 cv),(84,iN 12),(85,iN i),(92,.bool true)]) ?_ ?_
    ·simp +decide only[EY,iA,n9,sP,Jd,Ja,F9,F4,yK,aie,ah9,ah2,d7_,Xo 3,go_sem]
    rintro t8 _ ⟨rfl,uA,Vo,Dm,Jc,I_,yO,Vy,ajs,aid,ah8,ah1,ahT, -⟩
    refine WK.cond (v:=true) (by rw[af,ahT];rfl) ?_
    refine WK.seq ?_
    have wv:ia 2 (pA Hl.nx 0) H2=.val (.agg ⟨ir (xs i)⟩) H2 (bit Hl.nx) 0:=by rw[eS hrow (by show 0+2<=2;omega)];rfl
    have Cm:e.ok (bit Hl.nx) 0 H2:=pV hrow (by omega)
    have r_:∀ Hq,eT 5 (sC tt 0 12 ct) (iN i) Hq=.val (pA tt (5*i)) Hq 0 0:=λHq=>by rw[dW (by omega) (by omega)];simp<;>omega
    have Ux:=htl.mv k2
    have m7_:ia 5 (pA tt (5*i)) H2=.val (.agg ⟨kG⟩) H2 (bit tt) 0:=by rw[eS Ux (by show 5*i+5<=60;omega),At hlt]
    have Xv:e.ok (bit tt) 0 H2:=.read Ux.lt hpt
    have b5_:∀ cq,(bit Hl.nx).testBit cq=true->cq<H2.nx:=dH (P:=λcq=>cq<H2.nx) hrow.lt
    have b6_:∀ cq,(bit tt).testBit cq=true->cq<H2.nx:=dH (P:=λcq=>cq<H2.nx) Ux.lt
    refine WK.gw (λ_=>False) [.p,.q,.p,.p,.p,.q,.q,.x] (by have:=k2.nx;omega) rfl ?_
    refine fe.iX λK2 hK2=>?_
    refine fe.cut 6 (λt' H'=>H2=H'/\GT t' [(0,pA o 0),(1,iN 0),(2,.slice none 0 0),(3,sC vb 0 12 cv),(4,sC tt 0 12 ct),(15,pA Hq.nx 0),(83,sC vb 0 12 cv),(84,iN 12),(85,iN i),(93,pA Hq.nx 0),(94,.agg ⟨ir (xs i)⟩),(98,.agg ⟨kG⟩)]) rfl ?_ ?_
    ·simp +decide only[xN,List.take,uA,Vo,Dm,Jc,I_,yO,Vy,ajs,aid,ah8,ah1,wv,Cm,r_,m7_,Xv,Xo 3,go_sem]
     exact⟨b5_,b6_⟩
    rintro t9 _ ⟨rfl,uz,Vn,yD,Jb,aeF,yN,aic,ah7,ah0,ahS,ahR,ahQ, -⟩
    simp +decide only[xN,List.drop,ahR,ahQ,Xo 3,go_sem]
    have h22:=h2l.mv k2
    refine l8 (S.ag1 _ _ (hP i hlt) h22) rfl (Env.ok.read h22.lt λ_=>⟨by have:=h22.lt;omega,hpp⟩) (Nat.le_refl _) ?_
    rw[o8]
    simp +decide only[ahS,Xo 3,go_sem]
    have hcb:=DF IU i (by omega)
    have hob:=Cg IU i (by omega)
    refine EC.mono (toX (ZF S.toSpW hs2 heq (l:=tx (xs i)) hcb.1 (by omega) (by have:=IU i hlt;omega) (S.tx6 _ (hP i hlt)).2 (by rw[List.length_map];omega))) λv H3 _ hv=>?_
    obtain⟨rfl,b3,hs3,C9⟩:=hv
    rw[o8]
    refine fe.all (λt' H'=>H3=H'/\GT t' [(0,pA o 0),(1,iN 0),(2,.slice none 0 0),(3,sC vb 0 12 cv),(4,sC tt 0 12 ct),(15,pA Hq.nx 0),(83,sC vb 0 12 cv),(84,iN 12),(85,iN i)]) ?_ ?_
    ·simp +decide only[uz,Vn,yD,Jb,aeF,yN,aic,ah7,ah0,Xo 3,go_sem]
    rintro ta _ ⟨rfl,Jp,aeO,Je,U8,aeE,F8,aib,ah6,ahZ, -⟩
    refine hK2 _ _ ?_
    refine WK.exit ?_
    refine WK.av ?_
    have w_:Value.int .i64 (aN .i64 (((i:Nat):Int)+(1:Int)))=.int .i64 (((i+1):Nat):Int):=wF (by omega)
    refine aR.all (λt' H'=>H3=H'/\GT t' [(0,pA o 0),(1,iN 0),(2,.slice none 0 0),(3,sC vb 0 12 cv),(4,sC tt 0 12 ct),(15,pA Hq.nx 0),(83,sC vb 0 12 cv),(84,iN 12),(85,iN (i+1))]) ?_ ?_
    ·simp +decide only[EX,Jp,aeO,Je,U8,aeE,F8,aib,ah6,ahZ,w_,Xo 3,go_sem]
    rintro tb_ _ ⟨rfl,VM,aeN,aeL,aeH,aeD,Vz,aia,ah5,ahY, -⟩
    refine⟨_,by omega,rfl,i+1,rfl,by omega,⟨b3,?_,(hst.trans qB).trans C9⟩,⟨VM,aeN,aeL,aeH,aeD⟩,Vz,aia,ah5,ahY⟩
    simp only[gp,j7,List.map_append,<-adn]
    exact hs3
   case neg =>
    obtain rfl:i=12:=by omega
    refine WK.av ?_
    have d_:decide (((12:Nat):Int)<((12:Nat):Int))=false:=rfl
    refine aR.all (λt' H'=>Hl=H'/\GT t' [(0,pA o 0),(1,iN 0),(2,.slice none 0 0),(3,sC vb 0 12 cv),(4,sC tt 0 12 ct),(15,pA Hq.nx 0),(86,.bool false)]) ?_ ?_
    ·simp +decide only[xO,ku,yG,F1,FY,yz,F7,abu,abt,abr,d_,Xo 3,go_sem]
    rintro t6 _ ⟨rfl,iK,mC,vI,Dl,yA,u_,UU, -⟩
    refine WK.seq ?_
    refine WK.cond (v:=false) (by rw[af,UU];rfl) ?_
    refine WK.exit ?_
    exact⟨rfl,rfl,⟨bl,nY,hst⟩,⟨iK,mC,vI,Dl,yA⟩,u_⟩
  ·rintro x tr dr Hr _ ⟨rfl,rfl,⟨br,Pu,ad7⟩,⟨an_,apk,apj,api,aph⟩,ajw⟩
   show WK _ _ _ _ _ _ _ _ _
   have hnr:=ad7.nx
   have lo:=ho.lt
   have Px:Row Hr o 222 0 [vS [],iN 0]:=(hoq.mv ks).bF (ad7.old o (by omega) (by omega) (by omega))
   have hob:=Cg IU 12 (Nat.le_refl _)
   have hU0:0<(gp (λi=>tx (xs i)) 12).length:=by
    have:=S.tx1 _ (hP 11 (by omega))
    show 0<(gp (λi=>tx (xs i)) 11++nU _++tx (xs 11)).length
    rw[List.length_append];omega
   generalize hU:gp (λi=>tx (xs i)) 12=U at Pu hob hU0 ⊢
   have her:e.n0<=Hr.nx:=by omega
   have hlr:=Pu.lt
   refine WK.seq ?_
   refine WK.seq ?_
   have lQ:dA (pA o 0) Hr=.val (vS []) Hr (bit o) 0:=aV Px rfl
   have tA:e.ok (bit o) 0 Hr:=.read Px.lt hpo
   have b1_:∀ cq,(bit o).testBit cq=true->cq<Hr.nx:=dH (P:=λcq=>cq<Hr.nx) Px.lt
   refine WK.gw (λ_=>False) [.p,.p,.p,.p,.q,.p,.p,.p,.p,.q,.p,.p] her rfl ?_
   refine fe.iX λK2 hK2=>?_
   refine fe.cut 9 (λt' H'=>Hr=H'/\GT t' [(0,pA o 0),(15,pA Hq.nx 0),(133,iN 0),(136,pA Hq.nx 0)]) rfl ?_ ?_
   ·simp +decide only[xM,List.take,an_,ajw,lQ,tA,Xo 3,go_sem]
    exact⟨b1_,rfl⟩
   rintro t1 _ ⟨rfl,dQ,va,ae5,ae4, -⟩
   simp +decide only[xM,List.drop,ae4,Xo 3,go_sem]
   refine EC.mono (aaO S.toSpW Pu ⟨λb _ hb=>⟨(aB _ _).1 hb▸hlr.1,λh=>absurd ((aB _ _).1 hb) (by omega)⟩,λb _ hb=>by simp at hb,λb hb=>by rcases hb with hb|hb;(have:=(aB _ _).1 hb;omega);(simp at hb)⟩) λv Hb _ hv=>?_
   obtain⟨rfl,hh⟩:=hv
   rw[hh];clear hh
   rw[o8]
   have w1_:Value.int .i64 (aN .i64 (((0:Nat):Int)+(((U.map uB).length:Nat):Int)))=.int .i64 (((U.map uB).length:Nat):Int):=wF (by rw[List.length_map];omega)
   have uH:decide ((65536:Int)<(((U.map uB).length:Nat):Int))=false:=decide_eq_false (by rw[List.length_map];omega)
   refine fe.all (λt' H'=>Hr=H'/\GT t' [(0,pA o 0),(15,pA Hq.nx 0),(139,.bool false)]) ?_ ?_
   ·simp +decide only[dQ,va,ae5,w1_,uH,Xo 3,go_sem]
   rintro t2 _ ⟨rfl,dV,kR,ae3, -⟩
   refine hK2 _ _ ?_
   refine WK.cond (v:=false) (by rw[af,ae3];rfl) ?_
   refine WK.skip ?_
   refine WK.seq ?_
   have hbr:Hq.nx<=br:=by
    rcases Pu.form with⟨_,_,h⟩|⟨_,_,h,_⟩
    ·omega
    ·exact h.ge
   have me_:EC dm sp ⟨Hr.nx,λb=>b=Hq.nx\/b=br,λb=>b=br⟩ 65 [pA Hq.nx 0] Hr (λv H'=>v=vS U/\H'.bG=true/\H'.nx=Hr.nx/\∀ b,b≠br->H'.blk b=Hr.blk b):=by
    refine aaL S.toSpW Pu (Nat.le_refl _) ?_ ?_ hU0 (by omega)
    ·exact⟨λb _ hb=>.inl ((aB _ _).1 hb),λb _ hb=>by simp at hb,λb hb=>by rcases hb with hb|hb;(have:=(aB _ _).1 hb;omega);(simp at hb)⟩
    ·exact λH1 hn=>⟨λb _ hb=>.inr ((aB _ _).1 hb),λb _ hb=>(aB _ _).1 hb,λb hb=>by rcases hb with hb|hb<;>(have:=(aB _ _).1 hb;omega)⟩
   refine WK.draw ?_
   unfold EW
   refine wX (v:=pA o 0) rfl (by simp +decide only[dV,kR,Xo 3,go_sem]) ?_
   refine wX (v:=pA o 0) rfl (by simp +decide only[dV,kR,Xo 3,go_sem]) ?_
   refine wX (v:=pA o 0) rfl (by simp +decide only[dV,kR,Xo 3,go_sem]) ?_
   refine wX (v:=pA o 0) rfl (by simp +decide only[dV,kR,Xo 3,go_sem]) ?_
   refine WD.cons rfl ?_
   have r4_:∀ t':T Value,t'.get 143=pA o 0->run (.jd (.tmp 143)) t' Hr=.val (vS []) Hr (bit o) 0:=λt' g=>by rw[run,af,g];exact lQ
   rw[r4_ _ (by simp +decide only[dV,Xo 3,go_sem])]
   refine⟨tA,Nat.le_refl _,.inr ⟨λb=>b=o,λ_=>False,λb hb=>(aB _ _).1 hb,λb hb=>by rcases hb with hb|hb;(simp at hb);omega,λen hen=>(by cases hen),?_⟩⟩
   refine wX (v:=pA Hq.nx 0) rfl (by simp +decide only[dV,kR,Xo 3,go_sem]) ?_
   refine wX (v:=pA Hq.nx 0) rfl (by simp +decide only[dV,kR,Xo 3,go_sem]) ?_
   refine wX (v:=pA Hq.nx 0) rfl (by simp +decide only[dV,kR,Xo 3,go_sem]) ?_
   refine WD.cons rfl ?_
   have r8_:∀ t':T Value,t'.get 147=pA Hq.nx 0->run (.call (.func 65) [.tmp 147]) t' Hr=.call 65 [pA Hq.nx 0]:=λt' g=>by simp +decide only[g,Xo 3,go_sem]
   rw[r8_ _ (by simp +decide only[kR,Xo 3,go_sem])]
   refine⟨_,her,rfl,λb hb h=>by rcases h with h|h<;>omega,λb hb h=>by have h:b=br:=h;omega,me_.mono λv Hb _ hv R W hR hW=>⟨λen hen=>?_,?_⟩⟩
   ·rw[List.mem_singleton.1 hen]
    refine .inr ⟨λb h=>h.elim,λb hw h=>?_⟩
    have h:b=o:=h
    rcases(hW b).1 hw with⟨_,h2⟩|⟨h2,_⟩
    ·have h2:b=br:=h2
     omega
    ·omega
   ·obtain⟨rfl,fb,nb,eb⟩:=hv
    have madd0:gD .add (vS []) (vS U)=some (vS U):=by
     show Bc (Nat.ble (0+U.length) 1073741824) (some (Value.string ⟨⟨[]++U⟩⟩)) none=_
     rw[(aE _ _).2 (by omega)];rfl
    have madd:dK .add (vS []) (vS U)=some (vS U):=by
     unfold dK
     rw[madd0]
     rfl
    refine wX (v:=vS U) rfl (by simp +decide only[madd,Xo 3,go_sem]) ?_
    refine wX (v:=pA o 0) rfl (by simp +decide only[dV,Xo 3,go_sem]) ?_
    refine wX (v:=pA o 0) rfl (by simp +decide only[dV,Xo 3,go_sem]) ?_
    refine wX (v:=pA o 0) rfl (by simp +decide only[dV,Xo 3,go_sem]) ?_
    have anl:Row Hb o 222 0 [vS [],iN 0]:=Px.bF (eb o (by omega))
    obtain⟨Hz,ez,wz⟩:=fA (v:=vS U) rfl fb anl (o:=0) (by show 0+1<=2;decide)
    refine WD.cons rfl ?_
    have amn:∀ t':T Value,t'.get 152=pA o 0->t'.get 149=vS U->run (.st 1 (.tmp 152) (.tmp 149)) t' Hb=.val Go.Ev.U Hz 0 (bit o):=λt' g h=>by rw[run,af,af,g,h];exact ez
    rw[amn _ (by simp +decide only[dV,Xo 3,go_sem]) (by simp +decide only[Xo 3,go_sem])]
    refine⟨.write wz.row.lt hpw,by rw[wz.nx];exact Nat.le_refl _,.inr ⟨λ_=>False,λb=>b=o,λb hb=>by simp at hb,λb hb=>by rcases hb with hb|hb;exact(aB _ _).1 hb;(have:=wz.nx;omega),λen hen=>.inl ?_,WD.nil ?_⟩⟩
    ·rcases List.mem_cons.1 hen with rfl|hen
     ·show(8191:Nat).testBit 8=true
      decide
     ·rw[List.mem_singleton.1 hen]
      show(8191:Nat).testBit 4=true
      decide
    ·have roz:Row Hz o 222 0 [vS U,iN 0]:=wz.row
     have mz:dA (pA o 0) Hz=.val (vS U) Hz (bit o) 0:=aV roz rfl
     have oz:e.ok (bit o) 0 Hz:=.read roz.lt hpo
     obtain⟨Hy,ey,wy⟩:=fA (v:=iN U.length) rfl wz.fn roz (o:=1) (by show 1+1<=2;decide)
     have oy:e.ok 0 (bit o) Hy:=.write wy.row.lt hpw
     have ny:Hz.nx<=Hy.nx:=by rw[wy.nx];exact Nat.le_refl _
     refine WK.seq ?_
     refine WK.av ?_
     refine aR.all (λt' H'=>Hy=H') ?_ ?_
     ·simp +decide only[EV,dV,mz,oz,ey,oy,ny,Xo 3,go_sem]
     rintro t3 _ rfl
     refine WK.seq ?_
     refine WK.av ?_
     refine aR.all (λt' H'=>Hy=H'/\GT t' [(10,iN 0)]) ?_ ?_
     ·simp +decide only[EU,Xo 3,go_sem]
      exact rfl
     rintro t4 _ ⟨rfl,Bg, -⟩
     refine WK.ret ⟨.inr rfl,rfl,[iN 0],0,?_,.zero _ _,rfl,wy.row,wy.fn,λb hb hne=>?_⟩
     ·show eg dm 163 t4 _ [.tmp 10]=_
      simp only[eg,Bg];rfl
     ·rw[wy.dS b hne,wz.dS b hne,eb b (by omega),ad7.old b (by omega) (by omega) (by omega),ks.old b (by omega),kq.old b hb]
end
end Go.Proofs.CA
end
noncomputable section
namespace Go.Proofs.CA
open Go Go.Ev Go.Proofs Go.Ev.SM Go.Proofs.MN Go.Proofs.CN
theorem acX {z:Int} (h0:z≠0) (h:z.natAbs<32768):th (KJ (nd z.natAbs) (decide (z<0))) z:=by
 have h1:=Tv (m:=z.natAbs) (by omega)
 have h2:=Tu (m:=z.natAbs) (by omega)
 have hp:=lu z.natAbs
 have e:KJ (nd z.natAbs) (decide (z<0))=⟨nd z.natAbs,6,decide (z<0),10 ^ (nd z.natAbs-1),min (10 ^ nd z.natAbs-1) 32767⟩:=by
  unfold KJ
  rw[show Nat.beq (nd z.natAbs) 0=false from by rw[<-Bool.not_eq_true,beq_iff];omega];rfl
 rw[e]
 exact⟨rfl,λh=>absurd h (Nat.lt_irrefl 6),h1,by show _<=min _ _;omega,by show min _ _<_;omega,Tt z⟩
theorem agl:th (KJ 0 false) 0:=Sb
theorem WE {z:Int} {P:Nat->Bool->Prop} (h : -32767<=z/\z<=32767) (h0:z=0->P 0 false) (hp:∀ L,1<=L->L<=5->0<z->L=nd z.natAbs->P L false) (hn:∀ L,1<=L->L<=5->z<0->L=nd z.natAbs->P L true):∃ L ng,th (KJ L ng) z/\P L ng:=by
 by_cases hz:z=0
 ·exact⟨0,false,by rw[hz];exact agl,h0 hz⟩
 ·have h5:=Ik (m:=z.natAbs) (by omega)
  have h1:=lu z.natAbs
  refine⟨nd z.natAbs,decide (z<0),acX hz (by omega),?_⟩
  by_cases hs:z<0
  ·rw[decide_eq_true hs];exact hn _ h1 h5 hs rfl
  ·rw[decide_eq_false hs];exact hp _ h1 h5 (by omega) rfl
theorem wh {O I:dj} {ng:Nat} {f:FuncId} {args cargs:List Value} {H H' h0 h1:Hp} {v u:Value} {r w rr ww:Nat} (hcan:Go.Ev.Can H H' ww)
 (hc:@aI I Tryz.prog ng (.call f cargs) h0 (.k (eO u h1 r w)))
 (h:∀ (β:Mp) (W:World) (args':Array Value),@cX O ng β->Pre β H H' rr ww W->ak β args args'.toList->∃ β',@cX I ng β'/\Pre β' h0 h1 r w W/\ak β' cargs args'.toList /\
   ∀ e W',EP β' h0 h1 w W u e W'->EP β H H' ww W v e W') :
 @aI O Tryz.prog ng (.call f args) H (.k (eO v H' rr ww)):=by
 refine(@fI O _ _ _ _ _ _ _ _ _).2 ⟨hcan,λβ W hg p args' hl=>?_⟩
 obtain⟨β',g',p',l',k⟩:=h β W args' hg p hl
 have:=(@fI I _ _ _ _ _ _ _ _ _).1 hc
 exact(this.2 β' W g' p' args' l').mono k
theorem tT {β β0 β1:Mp} {H h0 h1:Hp} {W W':World} (q:Post β0 β1 h0 h1 0 W W') (hd:∀ b m,β b=some m->m.rb<W.heap.size):Post β β H H 0 W W':=by
 refine⟨Mp.le.refl _,λb m h h'=>?_,λb hb ha=>?_,λrb o h _=>q.frame rb o h (λb m _ hb _=>by simp at hb),q.size,λb m h=>Nat.lt_of_lt_of_le (hd b m h) q.size,λb m _ h h'=>?_,λb c mb mc hb hc ha _ _ _ _=>?_,q.env⟩
 ·rw[h']at h;cases h
 ·rcases hb with h|h
  ·have:=ha.1;omega
  ·simp at h
 ·rw[h]at h';cases h'
 ·rcases hb with h|h
  ·have:=ha.1;omega
  ·simp at h
end Go.Proofs.CA
end
noncomputable section
namespace Go.Ev
def Qg (tab:Nat->Option Value) (sv pm:Nat->Nat->Bool):Nat->Value->Value->Bool
 |0,_,_=>false
 |d+1,c,v=>match c with
  |.bool a=>(match v with|.bool b=>(a&&b)||(!a&&!b)|_=>false)
  |.int k x=>(match v with|.int j y=>tD k j&&nQ x y|_=>false)
  |.string s=>(match v with|.string s'=>p8 s.data.toList s'.data.toList|_=>false)
  |.pointer a=>(match a,v with
   |none,.pointer none=>true
   |some ⟨b,o,none⟩,.pointer (some ⟨b',o',none⟩)=>pm b b'&&Nat.beq o o'
   |_,_=>false)
  |.slice a l k=>(match a,v with
   |none,.slice none l' k'=>Nat.beq l l'&&Nat.beq k k'
   |some ⟨b,o,none⟩,.slice (some ⟨b',o',none⟩) l' k'=>pm b b'&&Nat.beq o o'&&Nat.beq l l'&&(Nat.beq k k'||(Nat.beq (k % 2) 1&&Nat.beq (k' % 2) 1&&Nat.ble k k'))
   |_,_=>false)
  |.chan (some k)=>(match v with
   |.chan (some j)=>sv k j||Nat.beq k 0
   |.int i x=>Nat.beq k 0||(match tab k with|some (.int j y)=>tD j i&&nQ y x|_=>false)
   |v=>Nat.beq k 0&&bQ v&&Ig v)
  |.func (.func f) ps cs=>(match v with|.func (.func f') ps' cs'=>Nat.beq f f'&&(ps.toList.isEmpty&&ps'.toList.isEmpty)&&(cs.toList.isEmpty&&cs'.toList.isEmpty)|_=>false)
  |.nilFunc=>(match v with|.nilFunc=>true|_=>false)
  |.agg a=>(match v with|.agg b=>a.toList.all bQ&&o7 (Qg tab sv pm d) a.toList b.toList|_=>false)
  |_=>false
structure aa1 (tab:Nat->Option Value) (sv pm:Nat->Nat->Bool) (β β':Mp):Prop where
 blk:∀ b b' m,pm b b'=true->β b'=some m->β' b=some m
 sy:∀ k j v',sv k j=true->ai β (.chan (some j)) v'->ai β' (.chan (some k)) v'
 un:∃ m,β' (SY+0)=some m/\m.Dz=4
 tb:∀ k v,tab k=some v->ai β' (.chan (some k)) v
theorem wO [dj] {tab:Nat->Option Value} {sv pm:Nat->Nat->Bool} {β β':Mp} (hm:aa1 tab sv pm β β'):∀ (d:Nat) (c v v':Value),Qg tab sv pm d c v=true->ai β v v'->ai β' c v'
 |0,_,_,_,h,_=>by cases h
 |d+1, c,v,v',h,hv=>by
  have ih:=wO hm d
  unfold Qg at h
  split at h
  ·rename_i a
   split at h
   ·rename_i b
    cases a<;>cases b<;>first|(cases hv;exact .bool _)|(simp at h)
   ·cases h
  ·rename_i k x
   split at h
   ·rename_i j y
    simp only[Bool.and_eq_true,dY,beq_iff_eq]at h
    have:=iB h.1;have:=h.2
    subst_vars;cases hv;exact .int _ _
   ·cases h
  ·rename_i s
   split at h
   ·rename_i s'
    rw[gv,beq_iff_eq]at h
    cases hv
    have:s=s':=by cases s;cases s';congr 1;exact Array.toList_inj.1 h
    subst this;exact .string _
   ·cases h
  ·split at h
   ·cases hv;exact .HU
   ·rename_i b o b' o'
    simp only[Bool.and_eq_true,beq_iff]at h
    obtain⟨h1,h2⟩:=h
    subst h2
    cases hv with|ptr _ _ m e=>exact .ptr _ _ m (hm.blk _ _ _ h1 e)
   ·cases h
  ·rename_i l k
   split at h
   ·rename_i l' k'
    simp only[Bool.and_eq_true,beq_iff]at h
    obtain⟨h1,h2⟩:=h
    subst h1 h2
    cases hv;exact .AA _ _
   ·rename_i b o b' o' l' k'
    simp only[Bool.and_eq_true,Bool.or_eq_true,beq_iff,an,aE]at h
    obtain⟨⟨⟨h1,h2⟩,h4⟩,h5⟩:=h
    subst h2 h4
    cases hv with|sl _ _ _ _ c' m e hc =>
    refine .sl _ _ _ _ c' m (hm.blk _ _ _ h1 e) ?_
    rcases h5 with h5|⟨⟨h5,h6⟩,h7⟩
    ·subst h5;exact hc
    ·refine⟨λh=>by omega,λ_=>?_⟩
     have:=hc.2 h6
     exact⟨Nat.le_trans (Nat.div_le_div_right h7) this.1,this.2⟩
   ·cases h
  ·rename_i k
   have un:k=0->bQ v=true->Ig v=true->ai β' (.chan (some k)) v':=λe h1 h2=>by
    subst e
    obtain⟨m,em,h4⟩:=hm.un
    exact .sym 0 m v' em (.inr (.inr (.inr (.inr (.inl ⟨h4,Ld hv h1 h2⟩)))))
   split at h
   ·rename_i j
    rw[Bool.or_eq_true,beq_iff]at h
    rcases h with h|h
    ·exact hm.sy _ _ _ h hv
    ·exact un h rfl rfl
   ·rename_i i x
    rw[Bool.or_eq_true,beq_iff]at h
    rcases h with h|h
    ·exact un h rfl rfl
    ·split at h
     ·rename_i j y e
      simp only[Bool.and_eq_true,dY,beq_iff_eq]at h
      have:=iB h.1;have:=h.2
      subst_vars
      cases hv
      exact hm.tb _ _ e
     ·cases h
   ·simp only[Bool.and_eq_true,beq_iff]at h
    exact un h.1.1 h.1.2 h.2
  ·rename_i f ps cs
   split at h
   ·rename_i f' ps' cs'
    simp only[Bool.and_eq_true,beq_iff,List.isEmpty_iff]at h
    obtain⟨⟨h1,h2,h3⟩,h4,h5⟩:=h
    subst h1
    cases hv with|func _ xs xs' ys ys' e1 e2 e3 e4 =>
    have l1:ak β xs xs':=⟨e1,e2⟩
    have l2:ak β ys ys':=⟨e3,e4⟩
    have h3:xs=[]:=h3
    have h5:ys=[]:=h5
    subst h3 h5
    have:=l1.aL;subst this
    have:=l2.aL;subst this
    have l3:ak β' ps.toList []:=by rw[h2];exact ak.nil _
    have l4:ak β' cs.toList []:=by rw[h4];exact ak.nil _
    exact .func _ ps.toList [] cs.toList [] l3.1 l3.2 l4.1 l4.2
   ·cases h
  ·split at h
   ·cases hv;exact .nilFunc
   ·cases h
  ·rename_i a
   split at h
   ·rename_i b
    simp only[Bool.and_eq_true]at h
    cases hv with|agg xs xs' e0 e1 e2 =>
    have l1:=jN ih h.2 (show ak β xs xs' from ⟨e1,e2⟩)
    exact .agg a.toList xs' h.1 l1.1 l1.2
   ·cases h
  ·cases h
def yY (tab:Nat->Option Value) (sv pm:Nat->Nat->Bool) (x y:dB):Bool:=match x with
 |.cells t n ty op lo hi=>(match y with
  |.cells t2 n2 ty2 op2 lo2 hi2=>Nat.beq ty ty2&&(Nat.beq op op2&&(Nat.beq lo lo2&&(Nat.beq hi hi2&&(Nat.beq n n2&&Wl (Bu (Qg tab sv pm 12)) t t2 n))))
  |_=>false)
 |_=>false
theorem DE [dj] {tab:Nat->Option Value} {sv pm:Nat->Nat->Bool} {β β':Mp} (hm:aa1 tab sv pm β β') {W:World} {x y:dB} {m:Bm} (h:yY tab sv pm x y=true) (hb:fM β W y m):fM β' W x m:=by
 obtain⟨o,ho,hr⟩:=hb
 refine⟨o,ho,?_⟩
 unfold yY at h
 split at h
 ·rename_i t n ty op lo hi
  split at h
  ·rename_i t2 n2 ty2 op2 lo2 hi2
   simp only[Bool.and_eq_true,beq_iff]at h
   obtain⟨h2,h3,h4,h5,h6,h7⟩:=h
   subst h2 h3 h4 h5 h6
   obtain⟨cs,fr,g1,g2,g3,g4,g5,g6,g7⟩:=hr
   refine⟨cs,fr,g1,g2,g3,g4,g5,λi hi=>?_,g7⟩
   obtain⟨c1,v',c2,c3⟩:=g6 i hi
   have:=yZ h7 i hi
   simp only[Bu,Bool.and_eq_true,Bool.or_eq_true,Bool.not_eq_true']at this
   refine⟨?_,v',c2,wO hm 12 _ _ _ this.1 c3⟩
   rcases this.2 with h|h
   ·exact h
   ·rw[c1]at h;cases h
  ·cases h
 ·cases h
end Go.Ev
end
noncomputable section
namespace Go.Proofs.CA
open Go Go.Ev Go.Proofs Go.Ev.SM Go.Proofs.MN Go.Proofs.CN
structure Ae where
 f:Nat->Nat×Nat
 tx:List UInt8
instance:CoeFun Ae (λ_=>Nat->Nat×Nat):=⟨Ae.f⟩
def gT (zs:Nat->Int) (ob:Ae):CN.Sem:=λk=>if k=9000000 then .string ⟨⟨ob.tx⟩⟩else if k<10000000 then aJ zs k else .complex .f64 (ob (k-10000000)).1 ((ob (k-10000000)).2+1)
def PX (zs:Nat->Int) (ob:Ae):CN.Sem->Prop:=λs=>s=gT zs ob
theorem B3 (zs:Nat->Int) (ob:Ae) (k:Nat):uo (gT zs ob k)=true:=by
 unfold gT
 split
 ·rfl
 split
 ·exact cy zs k
 ·rfl
def aei:er->List Value->Option Value:=λ_ _=>none
theorem hkX (zs:Nat->Int) (ob:Ae):gO (PX zs ob) aei:=⟨λs e=>by rw[e];exact B3 zs ob,λs _ h l v e=>by cases e⟩
abbrev SX (zs:Nat->Int) (ob:Ae):dj:=jj (PX zs ob) aei (hkX zs ob)
def RE:List Nat:=[0,2,0,15,0,0,2,4]
def lR (v b:Nat):List Nat:=Bc (Nat.blt v 4) ([0,1,0,0,0,0,0,16*v,5,5]++RE) (Bc (Nat.blt v 8) ([0,1,0,0,0,0,0,64,5,6,b,1,1]++RE) ([0,2,0,0,0,0,0,16*(v-8),5,5]++RE))
def lI (n:Int):List Nat:=match n with|.ofNat n=>[0,n]|.negSucc n=>[1,n]
def lK (n:Int):List Nat:=[0,1]++RE++lI n++[4,0,0,5,5]
def lL (b:Nat):List Nat:=[0,2]++RE++[0,0,4,0,0,5,6,b,1,1]
def lS (v:Nat):List Nat:=lK (v:Nat)++[0,4,0,7,0,16]
def rSl (b:Nat):Value:=.slice (some ⟨b,0,none⟩) 1 1
def rR (v b:Nat):List Value:=Bc (Nat.blt v 4) ([iI 1,iI 0,iI 0,iI (16*v:Nat),aT,aT]++kY) (Bc (Nat.blt v 8) ([iI 1,iI 0,iI 0,iI 64,aT,rSl b]++kY) ([iI 2,iI 0,iI 0,iI (16*(v-8):Nat),aT,aT]++kY))
def rK (n:Int):List Value:=cK (iI n)
def rL (b:Nat):List Value:=[iI 2]++kY++[iI 0,s0,iI 0,aT,rSl b]
def rS (v:Nat):List Value:=rK (v:Nat)++[iI 4,iI 7,iI 16]
theorem aao (v b:Nat):iZ (lR v b)=rR v b:=by
 unfold lR rR
 cases Nat.blt v 4 with
 |true=>rfl
 |false=>cases Nat.blt v 8<;>rfl
theorem akb (n:Int):iZ (lK n)=rK n:=by cases n<;>rfl
theorem aka (b:Nat):iZ (lL b)=rL b:=rfl
theorem aan (v:Nat):iZ (lS v)=rS v:=rfl
structure iH where
 v:Nat
 ld:Bool
 n:Int
 b:Nat->Nat
def iH.arr (a:iH):Bool:=Nat.blt 3 a.v&&Nat.blt a.v 8
structure GV (ob:Ae) (i:Nat) (a:iH):Prop where
 v:a.v<12
 n : -32768<a.n/\a.n<32768
 r:ob (10*i)=(j5 (28::lR a.v (a.b 2)),a.b 0)
 e:ob (10*i+1)=(j5 (35::(if a.ld then lL (a.b 3)else lK a.n)),a.b 1)
 s:a.arr=true->ob (10*i+2)=(j5 (76::lS a.v),a.b 2)
 l:a.ld=true->ob (10*i+3)=(j5 (28::lR a.v (a.b 4)),a.b 3)
 t:a.ld=true->a.arr=true->ob (10*i+4)=(j5 (76::lS a.v),a.b 4)
theorem aco {zs:Nat->Int} {ob:Ae} {β:Mp} {W:World} {k ty:Nat} {l:List Nat} {rb:Nat} {m:Bm} (tb:uM (gT zs ob) β) (ho:ob k=(j5 (ty::l),rb)) (hb:fM β W (exB (10000000+k)) m) :
 m.rb=rb/\m.sh=0/\m.tot=(iZ l).length/\∃ fr:Nat×Nat,fr.1=fr.2/\W.heap[rb]?=some (.cells ⟨iZ l⟩ ty fr):=by
 obtain⟨o,hw,mk,ty',l',h1,h2,⟨fr,hfr,h3⟩,h4,h5,h6⟩:=hb
 have e:=tb (10000000+k)
 rw[e]at h1
 have e2:vK (gT zs ob) (10000000+k)=⟨0,j5 (ty::l),rb+1,7⟩:=by
  unfold vK
  rw[if_neg (by omega)]
  unfold gT
  rw[if_neg (by omega),if_neg (by omega),show 10000000+k-10000000=k from by omega,ho]
  rfl
 rw[e2]at h1
 have h1:=Option.some.inj h1
 subst h1
 have hl:=Gs h2
 obtain⟨rfl,rfl⟩:=List.cons.inj hl
 have hr:m.rb=rb:=by simpa using h4
 exact⟨hr,h5,h6,fr,hfr,by rw[<-hr,hw,h3]⟩
theorem ac2 [dj] {β:Mp} {W:World} {L R:List Value} {ty rb:Nat} {m:Bm} {fr:Nat×Nat} (hfr:fr.1=fr.2) (hw:W.heap[rb]?=some (.cells ⟨R⟩ ty fr)) (hr:m.rb=rb) (hs:m.sh=0) (ht:m.tot=R.length) (hl:ak β L R) (h1:L.all bQ=true):fM β W (aG L ty 0) m:=by
 obtain⟨t,e,hc⟩:=bW L ty 0
 rw[e]
 have hlen:=hl.1
 refine⟨_,by rw[hr];exact hw,⟨R⟩,fr,rfl,ht.symm,by rw[hs,ht,hlen];omega,λ_=>⟨hs,by rw[ht,hlen]⟩,λk h=>(by cases h),λi hi=>?_,.inl ⟨Nat.le_refl _,.inl hfr⟩⟩
 have hv:L[i]?=some L[i]:=List.getElem?_eq_getElem hi
 rw[hc i _ hv]
 obtain⟨v',ev,Uy⟩:=hl.get hv
 refine⟨List.all_eq_true.1 h1 _ (List.getElem_mem hi),v',?_,Uy⟩
 rw[hs,Nat.zero_add]
 show(R.toArray)[i]?=some v'
 rw[List.getElem?_toArray];exact ev
def YO:List Nat:=[0,1,2,3,4,5,6,7,8,9,10,11]
noncomputable def J9 (f:Nat->Bool):List Nat->Bool:=λl=>@List.rec Nat (λ_=>Bool) true (λq _ ih=>Bc (f q) ih false) l
theorem stF:Nat.beq (Bc (J9 (λv=>stB v false) YO) 1 0) 1=true:=by kernel_rfl
theorem stT:Nat.beq (Bc (J9 (λv=>stB v true) YO) 1 0) 1=true:=by kernel_rfl
theorem msF:Nat.beq (Bc (J9 (λv=>msB v false) YO) 1 0) 1=true:=by kernel_rfl
theorem msT:Nat.beq (Bc (J9 (λv=>msB v true) YO) 1 0) 1=true:=by kernel_rfl
theorem mN {f:Nat->Bool}:∀ {l:List Nat},J9 f l=true->∀ q∈l,f q=true
 | [],_,x,hx=>by cases hx
 |y::l,h,x,hx=>by
  have h:Bc (f y) (J9 f l) false=true:=h
  cases e:f y with
  |false=>rw[e,au]at h;cases h
  |true =>
   rw[e,aj]at h
   rcases List.mem_cons.1 hx with rfl|hx
   ·exact e
   ·exact mN h x hx
theorem rQ {v:Nat} (h:v<12):v∈YO:=by
 have:YO=List.range 12:=rfl
 rw[this];exact List.mem_range.2 h
theorem Un {zs:Nat->Int} (h6:0<=zs 6/\zs 6<=9999):zn (PW (One zs)) ivT:=by
 rintro s ⟨z,rfl,hl,hr,rfl⟩ k kd a b e
 unfold ivT at e
 cases c1:Nat.beq k 4000 with
 |true =>
  rw[c1,aj]at e;cases e
  rw[beq_iff]at c1;subst c1
  exact⟨by omega,z 4,J6 z 4,by omega,by omega⟩
 |false =>
 rw[c1,au]at e
 obtain⟨c2,e⟩:=aq e
 rw[beq_iff]at c2;subst c2
 cases e
 exact⟨by omega,z 6,J6 z 6,h6.1,h6.2⟩
theorem uu {zs:Nat->Int} (h6:0<=zs 6/\zs 6<=9999):ki (PW (One zs)) Dc:=ki.or (Dd (Un h6)) (aej (Un h6))
section
variable {zs:Nat->Int} {hk:er->List Value->Option Value} {hok:gO (PW (One zs)) hk}
theorem cl4 (h4 : -32768<zs 4/\zs 4<32768):∀ c∈[zZ 4000 gB,Ab 4000 gB],Cl zs hk hok c:=by
 have f4:=aal (zs:=zs) (hk:=hk) (hok:=hok) (k:=4) (by omega) aj7.2.2.2.1 (by omega) (by omega)
 intro c hc
 simp only[List.mem_cons,List.mem_nil_iff,or_false]at hc
 rcases hc with rfl|rfl
 ·exact f4.1
 ·exact f4.2
theorem acE (h4 : -32768<zs 4/\zs 4<32768):@oa (jj (PW (One zs)) hk hok) Tryz.prog NG spT:=by
 letI:=jj (PW (One zs)) hk hok
 intro f args H v H' r w hw h
 unfold spT at h
 cases h1:Nat.testBit vu f with
 |true=>rw[h1,aj]at h;exact cm h λh=>pq hw h
 |false =>
 rw[h1,au]at h
 cases h3:Nat.testBit Fk f with
 |true=>rw[h3,aj]at h;exact cm h λh=>ou hw h
 |false =>
 rw[h3,au]at h
 obtain⟨_,h⟩:=aq h
 exact vZ (cl4 h4) hw h
theorem Kx (h4 : -32768<zs 4/\zs 4<32768):@oa (jj (PW (One zs)) hk hok) Tryz.prog NG Ol:=by
 letI:=jj (PW (One zs)) hk hok
 intro f args H v H' r w hw h
 unfold Ol at h
 cases h1:Nat.testBit vu f with
 |true=>rw[h1,aj]at h;exact cm h λh=>pq hw h
 |false =>
 rw[h1,au]at h
 cases h3:Nat.testBit Fk f with
 |true=>rw[h3,aj]at h;exact cm h λh=>ou hw h
 |false =>
 rw[h3,au]at h
 cases h5:Nat.beq f 137 with
 |true=>rw[h5,aj]at h;rw[(beq_iff _ _).1 h5];exact cm h λh=>Ax hw h
 |false =>
 rw[h5,au]at h
 cases h6:Nat.beq f 308 with
 |true=>rw[h6,aj]at h;rw[(beq_iff _ _).1 h6];exact cm h λh=>Ay hw h
 |false =>
 rw[h6,au]at h
 cases h7:Nat.beq f 230 with
 |true => rw[h7,aj]at h;rw[(beq_iff _ _).1 h7];exact cm h λh=>by
           have e:H'=H/\r=0/\w=0:=by
            unfold tJ at h
            split at h
            ·have h:=(aq h).2;cases h;exact⟨rfl,rfl,rfl⟩
            ·cases h
           obtain⟨rfl,rfl,rfl⟩:=e
           exact Az hw h
 |false =>
 rw[h7,au]at h
 obtain⟨_,h⟩:=aq h
 exact vZ (cl4 h4) hw h
theorem RT (h4 : -32768<zs 4/\zs 4<32768) (h6:0<=zs 6/\zs 6<=9999) {v:Nat} (hv:v<12) (ld:Bool):Cl zs hk hok (stC v ld):=by
 letI:=jj (PW (One zs)) Dc (ki.ok (uu h6))
 have hr:stB v ld=true:=by
  cases ld with
  |false=>exact mN (az stF) v (rQ hv)
  |true=>exact mN (az stT) v (rQ hv)
 have:=jz (sp:=spT) (acE h4) (tab:=fR) fK.none hr
 exact⟨kD.hk this.1,this.2⟩
theorem Mw (h8:zs 8=zs 7+1) (h7:0<=zs 7/\zs 7<=1000):ki (PW (One zs)) hkU:=by
 rintro s ⟨z,rfl,hl,hr,rfl⟩ h l v e
 unfold hkU at e
 split at e
 ·obtain⟨c,e⟩:=aq e
  rw[beq_iff]at c;subst c
  cases e
  refine⟨rfl,rfl,?_⟩
  show gD .add (aJ z 7000) (.int .i64 1)=some (aJ z 8000)
  rw[show aJ z 7000=.int .i64 (z 7)from J6 z 7,show aJ z 8000=.int .i64 (z 8)from J6 z 8]
  exact WZ h8.symm (by omega) (by omega)
 ·cases e
theorem agR (h4 : -32768<zs 4/\zs 4<32768) (h6:0<=zs 6/\zs 6<=9999) (h8:zs 8=zs 7+1) (h7:0<=zs 7/\zs 7<=1000) {v:Nat} (hv:v<12) (ld:Bool):Cl zs hk hok (Zu v ld):=by
 have hks:ki (PW (One zs)) nv:=ki.or (uu h6) (ki.or (Mw h8 h7) (ki.or (De _) (wE _)))
 letI:=jj (PW (One zs)) nv (ki.ok hks)
 have hr:msB v ld=true:=by
  cases ld with
  |false=>exact mN (az msF) v (rQ hv)
  |true=>exact mN (az msT) v (rQ hv)
 have:=jz (sp:=Ol) (Kx h4) (tab:=fR) fK.none hr
 exact⟨kD.hk this.1,this.2⟩
end
end Go.Proofs.CA
end
