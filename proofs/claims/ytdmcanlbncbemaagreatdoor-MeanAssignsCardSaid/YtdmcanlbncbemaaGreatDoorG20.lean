/-
 A part of the proof that pliantlaw16.MeanAssigns returns true and leaves its arguments alone. Conditions: those of the card in the last text.
-/
import Derived.Test.YtdmcanlbncbemaaGreatDoorG13
import Derived.Test.YtdmcanlbncbemaaGreatDoorG15
import Derived.Test.YtdmcanlbncbemaaGreatDoorG16
import Derived.Test.YtdmcanlbncbemaaGreatDoorG17
import Derived.Test.YtdmcanlbncbemaaGreatDoorG18
import Derived.Test.YtdmcanlbncbemaaGreatDoorG19
set_option linter.unusedSimpArgs false
set_option linter.unusedVariables false
set_option linter.unusedSectionVars false
set_option maxRecDepth 100000
set_option maxHeartbeats 8000000
noncomputable section
namespace Go.Proofs.MN
open Go Go.Ev Go.Proofs Go.Ev.SM
structure Good [dj] (c:ff):Prop where
 ok:kD Tryz.prog NG c
 fits:Fits NG c
 args:o7 (iL fR (Cd c.n0) 12) c.args c.args=true
 np:dL c.v=none
section
variable [dj]
theorem gM [jb] {sp:F.Sp} (hsp:oa Tryz.prog NG sp) {c:ff} {src:List Nat} (hn:dL c.v=none) (h:vL sp fR c src=true):Good c:=by
 obtain⟨h1,h2⟩:=jz hsp vW h
 obtain⟨v,H,r,w,_,_,_,he⟩:=GC h
 exact⟨h1,h2,(Nq vW he).args,hn⟩
theorem l_ [jb] {c:ff} (g:Good c) (hn:c.n1=c.n0) (hw:c.w=0) {H:Hp} (hwf:H.wf) (hb:∀ x∈c.pre,qM (iL fR (Cd c.n0) 12) x.2 (H.blk x.1)=true):aI Tryz.prog NG (.call c.f c.args) H (.k (.ret c.v H c.r 0)) :=
 by have h:=O4 vW g.fits hn hw g.ok hwf g.args hb;unfold eO at h;rw[g.np]at h;exact h
theorem af3:∀ c∈Rq,dL c.v=none:=by
 intro c hc
 simp only[Rq,List.mem_cons,List.mem_nil_iff,or_false]at hc
 rcases hc with rfl|rfl|rfl|rfl|rfl|rfl<;>rfl
theorem XV [jb]:∀ c∈Rq,Good c:=λc hc=>gM acQ (af3 c hc) (GP (az XU) c hc)
theorem O5 {v:Value} {args:List Value} {H:Hp} {q:Value×Hp×Nat×Nat} (h:r9 v args H=some q):args=[gB]/\q=(v,H,0,0):=by
 unfold r9 at h
 split at h
 ·have h2:=aq h
  exact⟨by rw[su h2.1];rfl,iE h2.2⟩
 ·cases h
theorem pq [jb] {f:Nat} {args:List Value} {H H':Hp} {v:Value} {r w:Nat} (hw:H.wf) (h:Ej f args H=some (v,H',r,w)):aI Tryz.prog NG (.call f args) H (.k (.ret v H' r w)):=by
 have use:∀ (c:ff),c∈Rq->c.args=[gB]->c.n1=c.n0->c.w=0->c.pre=[]->c.r=0->∀ q,r9 c.v args H=some q->q=(v,H',r,w)->f=c.f->aI Tryz.prog NG (.call f args) H (.k (.ret v H' r w)):=by
  intro c hc h1 h2 h3 h4 h5 q hq hq2 hf
  obtain⟨ha,hq3⟩:=O5 hq
  rw[hq3]at hq2
  cases hq2
  have:=l_ (XV c hc) h2 h3 hw (by rw[h4];intro x hx;cases hx)
  rw[h1,h5]at this
  rw[ha,hf];exact this
 unfold Ej at h
 cases h1:Nat.beq f 234 with
 |true=>rw[h1,aj]at h;exact use (eM 234 [gB] (nV 0)) (by simp[Rq]) rfl rfl rfl rfl rfl _ h rfl ((beq_iff _ _).1 h1)
 |false =>
 rw[h1,au]at h
 cases h2:Nat.beq f 166 with
 |true=>rw[h2,aj]at h;exact use (eM 166 [gB] (nV 0)) (by simp[Rq]) rfl rfl rfl rfl rfl _ h rfl ((beq_iff _ _).1 h2)
 |false =>
 rw[h2,au]at h
 cases h3:Nat.beq f 165 with
 |true=>rw[h3,aj]at h;exact use (eM 165 [gB] (nV 16)) (by simp[Rq]) rfl rfl rfl rfl rfl _ h rfl ((beq_iff _ _).1 h3)
 |false =>
 rw[h3,au]at h
 cases h4:Nat.beq f 229 with
 |true=>rw[h4,aj]at h;exact use (eM 229 [gB] (.bool true)) (by simp[Rq]) rfl rfl rfl rfl rfl _ h rfl ((beq_iff _ _).1 h4)
 |false =>
 rw[h4,au]at h
 cases h5:Nat.beq f 164 with
 |true=>rw[h5,aj]at h;exact use (eM 164 [gB] (nV 16)) (by simp[Rq]) rfl rfl rfl rfl rfl _ h rfl ((beq_iff _ _).1 h5)
 |false =>
 rw[h5,au]at h
 obtain⟨h6,h⟩:=aq h
 exact use (eM 123 [gB] (.bool true)) (by simp[Rq]) rfl rfl rfl rfl rfl _ h rfl ((beq_iff _ _).1 h6)
theorem mV [jb]:oa Tryz.prog NG sp1:=λf args H v H' r w hw h=>by
 unfold sp1 at h
 cases h1:Nat.testBit vu f with
 |true=>rw[h1,aj]at h;exact cm h λh=>pq hw h
 |false =>
  rw[h1,au]at h
  exact cm (aq h).2 λh=>ou hw h
theorem KS {x:Nat} (h:x<60):x∈r60:=by
 have:(List.range 60)=r60:=by decide
 rw[<-this];exact List.mem_range.2 h
theorem nc {x:Nat} (h:x<61):x∈YN:=by
 have:(List.range 61)=YN:=by decide
 rw[<-this];exact List.mem_range.2 h
theorem RJ [jb] {x:Nat} (h:x<60):Good (acv x):=gM mV rfl (gN (az RI) x (KS h))
theorem Xb [jb] {x:Nat} (h:x<60):Good (afR x):=gM mV rfl (gN (az Xa) x (KS h))
theorem X0 [jb] {x:Nat} (h:x<61):Good (toC x):=gM mV rfl (gN (az XZ) x (nc h))
theorem Rt [jb] {x:Nat} (h:x<61):Good (toC (Hi x)):=gM mV rfl (gN (az Rs) x (nc h))
theorem Wq [jb] {x:Nat} (h:x<61):Good (afv x):=gM mV (by cases x<;>rfl) (gN (az Wp) x (nc h))
theorem GD [jb] {x:Nat} (h:x<61):Good (afw x):=gM mV rfl (gN (az Wt) x (nc h))
theorem Bl [jb] {x:Nat} (h:x<61):Good (VU x):=gM mV rfl (gN (az PV) x (nc h))
theorem Gr [jb] {x:Nat} (h:x<61):Good (afi x):=gM mV rfl (gN (az V7) x (nc h))
theorem Wd [jb] {x:Nat} (h:x<61):Good (afp x):=gM mV rfl (gN (az Wc) x (nc h))
end
theorem fE (β:Mp):∀ {l:List Value},l.all (aW 10)=true->ak β l l
 | [],_=>ak.nil β
 |v::l,h=>by
  simp only[List.all_cons,Bool.and_eq_true]at h
  exact ak.cons (ai.flat β 10 v h.1) (fE β h.2)
theorem jk {P:Nat->Prop} {f:Nat} {args:List Value} {v:Value} {H:Hp} {r:Nat} (hwf:H.wf)
 (h:∀ (n:Nat) (β:Mp) (as':List Value),P n->n<=60->G2 n β->ak β args as'->∃ c:ff,@Good (pR P) c/\c.f=f/\c.r=r/\c.w=0/\c.n1=c.n0/\as'=c.args/\c.args.all (aW 10)=true/\aW 10 c.v=true /\
   (∀ x∈c.pre,qM (iL fR (Cd c.n0) 12) x.2 (H.blk x.1)=true)/\∀ β',G2 n β'->ai β' v c.v):@aI (pR P) Tryz.prog NG (.call f args) H (.k (.ret v H r 0)):=by
 letI:=pR P
 refine aI.afu hwf λβ W as' hg p hl=>?_
 obtain⟨zB,n,hP,hn,tb⟩:=hg
 obtain⟨c,hc,rfl,rfl,hw,A7,rfl,hfa,hfv,hb,hv⟩:=h n β as' hP hn tb hl
 refine⟨c.args,c.v,λargs'' ha=>?_,λβ' v' hle hv'=>?_⟩
 ·exact(l_ hc A7 hw hwf hb).2 β W ⟨zB,n,hP,hn,tb⟩ p args'' (by rw[ha];exact fE β hfa)
 ·rw[b8 10 _ _ hfv hv']
  exact hv β' (tb.mono hle)
theorem fy {β:Mp} {a a2:Value} {l as':List Value} (h:ak β (a::l) as') (ha:∀ a',ai β a a'->a'=a2):∃ l',as'=a2::l'/\ak β l l':=by
 obtain⟨x,l',rfl,hx,hl⟩:=h.cons_inv
 exact⟨l',by rw[ha x hx],hl⟩
theorem fl {β:Mp} {v:Value} (hf:aW 10 v=true):∀ a',ai β v a'->a'=v:=λa' h=>b8 10 _ _ hf h
theorem BR {n k:Nat} {β:Mp} (tb:G2 n β) (h1:100<=k) (h2:k<162):β (SY+k)=some ⟨0,n-(k-100),0,0⟩:=by rw[tb k,aow h1 h2]
theorem acs {n k:Nat} {β:Mp} (tb:G2 n β) (h1:300<=k) (h2:k<362):β (SY+k)=some ⟨0,Hi (n-(k-300)),0,0⟩:=by rw[tb k,aox h1 h2]
theorem af_ {n k:Nat} {β:Mp} (tb:G2 n β) (h1:500<=k) (h2:k<562):β (SY+k)=some ⟨0,n-(k-500),0,5⟩:=by rw[tb k,afG h1 h2]
theorem lq {H:Hp} {c:ff} (h:c.pre=[]):∀ x∈c.pre,qM (iL fR (Cd c.n0) 12) x.2 (H.blk x.1)=true:=by rw[h];intro x hx;cases hx
theorem vn {v:Value} (h:nu 15 v=true):v=gB:=su h
theorem akM {v:Value} (h:nu 16 v=true):v=T16:=su h
section
variable {P:Nat->Prop} {args:List Value} {H H':Hp} {v:Value} {r w:Nat}
theorem Yt {lim:Nat} (vB:∀ n,P n->lim<=n) (hw:H.wf) (h:acO lim args H=some (v,H',r,w)):@aI (pR P) Tryz.prog NG (.call 148 args) H (.k (.ret v H' r w)):=by
 letI:=pR P
 unfold acO at h
 split at h
 case h_2=>cases h
 rename_i op a ta b tb0
 split at h
 case h_2=>cases h
 rename_i k hk
 have hk:=iS hk
 have h2:=aq h
 clear h
 obtain⟨h1,h⟩:=h2
 simp only[Bool.and_eq_true]at h1
 have e1:=vn h1.1
 have e2:=vn h1.2
 subst hk e1 e2
 cases h7:isI 7 op with
 |true =>
  rw[h7,aj]at h
  have h2:=aq h
  clear h
  obtain⟨h3,h⟩:=h2
  simp only[Bool.and_eq_true,aE,an]at h3
  obtain⟨hb,hk1,hk2⟩:=h3
  have e1:=Mm h7
  have e2:=FI hb
  subst e1 e2
  cases iE h
  refine jk hw λn β as' hP hn tb hl=>?_
  have vB:=vB n hP
  obtain⟨y,hy⟩:∃ y,n-(k-100)=Nat.succ y:=⟨n-(k-100)-1,by omega⟩
  have ek:=BR tb hk1 (by omega)
  rw[hy]at ek
  refine⟨acv y,RJ (by omega),rfl,rfl,rfl,rfl,?_,rfl,rfl,lq rfl,λβ' tb'=>?_⟩
  ·obtain⟨l1,rfl,q1⟩:=fy hl (fl rfl)
   obtain⟨l2,rfl,q2⟩:=fy q1 (λa' ha=>oq ek ha)
   obtain⟨l3,rfl,q3⟩:=fy q2 (fl rfl)
   obtain⟨l4,rfl,q4⟩:=fy q3 (fl rfl)
   obtain⟨l5,rfl,q5⟩:=fy q4 (fl rfl)
   have:=q5.aL;subst this;rfl
  ·have ek':=BR tb' (k:=Nat.succ k) (by omega) (by omega)
   rw[show n-(Nat.succ k-100)=y from by omega]at ek'
   exact tV (ak.cons (C7 ek') (fE β' (l:=[nV 0,nV 0]) rfl))
 |false =>
  rw[h7,au]at h
  have h2:=aq h
  clear h
  obtain⟨h6,h⟩:=h2
  split at h
  case h_2=>cases h
  rename_i l hb
  have h2:=aq h
  clear h
  obtain⟨h3,h⟩:=h2
  simp only[Bool.and_eq_true,aE,an,beq_iff]at h3
  obtain⟨hk1,hk2,hkl⟩:=h3
  have e1:=Mm h6
  have e2:=iS hb
  subst e1 e2
  cases iE h
  refine jk hw λn β as' hP hn tb hl=>?_
  have vB:=vB n hP
  obtain⟨y,hy⟩:∃ y,n-(k-100)=Nat.succ y:=⟨n-(k-100)-1,by omega⟩
  have ek:=BR tb hk1 (by omega)
  rw[hy]at ek
  have el:=acs tb (k:=l) (by omega) (by omega)
  rw[show n-(l-300)=y from by omega]at el
  refine⟨afR y,Xb (by omega),rfl,rfl,rfl,rfl,?_,rfl,rfl,lq rfl,λβ' tb'=>?_⟩
  ·obtain⟨l1,rfl,q1⟩:=fy hl (fl rfl)
   obtain⟨l2,rfl,q2⟩:=fy q1 (λa' ha=>oq ek ha)
   obtain⟨l3,rfl,q3⟩:=fy q2 (fl rfl)
   obtain⟨l4,rfl,q4⟩:=fy q3 (λa' ha=>oq el ha)
   obtain⟨l5,rfl,q5⟩:=fy q4 (fl rfl)
   have:=q5.aL;subst this;rfl
  ·have ek':=acs tb' (k:=k+200) (by omega) (by omega)
   rw[show n-(k+200-300)=Nat.succ y from by omega]at ek'
   exact tV (ak.cons (C7 ek') (fE β' (l:=[nV 0,nV 0]) rfl))
theorem Yc (hw:H.wf) (h:acD args H=some (v,H',r,w)):@aI (pR P) Tryz.prog NG (.call 144 args) H (.k (.ret v H' r w)):=by
 letI:=pR P
 unfold acD at h
 split at h
 case h_2=>cases h
 rename_i a ta tb0
 split at h
 case h_2=>cases h
 rename_i k hk
 have hk:=iS hk
 have h2:=aq h
 clear h
 obtain⟨h1,h⟩:=h2
 simp only[Bool.and_eq_true,Bool.or_eq_true,aE,an]at h1
 obtain⟨h1,h3,h4⟩:=h1
 have e1:=akM h1
 have e2:=vn h3
 subst hk e1 e2
 have h2:=aq h
 clear h
 obtain⟨hp,h⟩:=h2
 cases h
 refine jk (r:=4) hw λn β as' hP hn tb hl=>?_
 have fin:∀ y,Good (toC y)->(∀ β,G2 n β->β (SY+k)=some ⟨0,y,0,0⟩)->∃ c:ff,Good c/\c.f=144/\c.r=4/\c.w=0/\c.n1=c.n0/\as'=c.args/\c.args.all (aW 10)=true/\aW 10 c.v=true /\
  (∀ x∈c.pre,qM (iL fR (Cd c.n0) 12) x.2 (H.blk x.1)=true)/\∀ β',G2 n β'->ai β' (.tuple ⟨[vl (sy k),nV 0,nV 0]⟩) c.v:=λy gy ey=>by
  refine⟨toC y,gy,rfl,rfl,rfl,rfl,?_,rfl,rfl,?_,λβ' tb'=>?_⟩
  ·obtain⟨l1,rfl,q1⟩:=fy hl (λa' ha=>oq (ey β tb) ha)
   obtain⟨l2,rfl,q2⟩:=fy q1 (fl rfl)
   obtain⟨l3,rfl,q3⟩:=fy q2 (fl rfl)
   have:=q3.aL;subst this;rfl
  ·intro x hx
   have:x=(2,zH):=by simpa [toC] using hx
   subst this;exact hp
  ·exact tV (ak.cons (C7 (ey β' tb')) (fE β' (l:=[nV 0,nV 0]) rfl))
 rcases h4 with⟨a1,a2⟩|⟨a1,a2⟩
 ·exact fin _ (X0 (x:=n-(k-100)) (by omega)) λβ tb=>BR tb a1 a2
 ·exact fin _ (Rt (x:=n-(k-300)) (by omega)) λβ tb=>acs tb a1 a2
theorem R4 {lim:Nat} {base:Bool} (vB:∀ n,P n->lim<=n/\(base=true->n=lim)) (Z8:lim<=61) (hw:H.wf) (h:R5 lim base args H=some (v,H',r,w)):@aI (pR P) Tryz.prog NG (.call 150 args) H (.k (.ret v H' r w)):=by
 letI:=pR P
 unfold R5 at h
 split at h
 case h_2=>cases h
 rename_i a ta b tb0
 split at h
 case h_2=>cases h
 rename_i k hk
 have hk:=iS hk
 have h2:=aq h
 clear h
 obtain⟨h1,h⟩:=h2
 simp only[Bool.and_eq_true,aE]at h1
 obtain⟨h1,h3,h4,h5⟩:=h1
 have e1:=vn h1
 have e2:=vn h3
 have e3:=FI h4
 subst hk e1 e2 e3
 have fin:∀ (z:Int),(∀ n,P n->n<=60->k<162/\Bc (Nat.beq (n-(k-100)) 0) (nV 0) (nV 1)=nV z)->NL (.tuple ⟨[nV z,nV 0]⟩) H=some (v,H',r,w)->aI Tryz.prog NG (.call 150 [vl (sy k),gB,vl (nV 0),gB]) H (.k (.ret v H' r w)):=λz hz h=>by
  cases iE h
  refine jk hw λn β as' hP hn tb hl=>?_
  obtain⟨hk2,hz⟩:=hz n hP hn
  have ek:=BR tb h5 hk2
  refine⟨afv (n-(k-100)),Wq (by omega),rfl,rfl,rfl,rfl,?_,rfl,?_,lq rfl,λβ' tb'=>?_⟩
  ·obtain⟨l1,rfl,q1⟩:=fy hl (λa' ha=>oq ek ha)
   obtain⟨l2,rfl,q2⟩:=fy q1 (fl rfl)
   obtain⟨l3,rfl,q3⟩:=fy q2 (fl rfl)
   obtain⟨l4,rfl,q4⟩:=fy q3 (fl rfl)
   have:=q4.aL;subst this;rfl
  ·show aW 10 (vU [_,nV 0])=true
   rw[hz];rfl
  ·show ai β' _ (vU [_,nV 0])
   rw[hz]
   exact ai.flat β' 10 _ rfl
 cases jK:Nat.blt k (100+lim)with
 |true =>
  rw[jK,aj]at h
  have jK:=(an _ _).1 jK
  refine fin 1 (λn hP hn=>?_) h
  have:=(vB n hP).1
  refine⟨by omega,?_⟩
  cases e:Nat.beq (n-(k-100)) 0 with
  |true=>have:=(beq_iff _ _).1 e;omega
  |false=>rfl
 |false =>
  rw[jK,au]at h
  have h2:=aq h
  clear h
  obtain⟨h6,h⟩:=h2
  simp only[Bool.and_eq_true,beq_iff]at h6
  refine fin 0 (λn hP hn=>?_) h
  have:=(vB n hP).2 h6.1
  refine⟨by omega,?_⟩
  rw[(beq_iff _ _).2 (by omega),aj]
end
section
variable {P:Nat->Prop} {args:List Value} {H H':Hp} {v:Value} {r w:Nat}
theorem C6 {k:Nat} (h:isV k=true):100<=k/\k<162:=by
 unfold isV at h
 simp only[Bool.and_eq_true,aE,an]at h
 exact h
theorem R6 (hw:H.wf) (h:R7 args H=some (v,H',r,w)):@aI (pR P) Tryz.prog NG (.call 163 args) H (.k (.ret v H' r w)):=by
 letI:=pR P
 unfold R7 at h
 split at h
 case h_2=>cases h
 rename_i ta a
 split at h
 ·rename_i k hk
  have hk:=iS hk
  have h2:=aq h
  clear h
  obtain⟨h1,h⟩:=h2
  simp only[Bool.and_eq_true]at h1
  have e1:=vn h1.1
  obtain⟨k1,k2⟩:=C6 h1.2
  subst hk e1
  cases iE h
  refine jk hw λn β as' hP hn tb hl=>?_
  have ek:=BR tb k1 k2
  refine⟨afw (n-(k-100)),GD (by omega),rfl,rfl,rfl,rfl,?_,rfl,rfl,lq rfl,λβ' tb'=>ai.flat β' 10 _ rfl⟩
  ·obtain⟨l1,rfl,q1⟩:=fy hl (fl rfl)
   obtain⟨l2,rfl,q2⟩:=fy q1 (λa' ha=>oq ek ha)
   have:=q2.aL;subst this;rfl
 ·split at h
  case h_2=>cases h
  rename_i m hm
  obtain⟨hm,hm2⟩:=tY hm
  have h2:=aq h
  clear h
  obtain⟨h1,h⟩:=h2
  have e1:=vn h1
  subst hm e1
  cases iE h
  exact l_ (GD hm2) rfl rfl hw (lq rfl)
theorem Oo (hw:H.wf) (h:HF args H=some (v,H',r,w)):@aI (pR P) Tryz.prog NG (.call 199 args) H (.k (.ret v H' r w)):=by
 letI:=pR P
 unfold HF at h
 split at h
 case h_2=>cases h
 rename_i a ta
 split at h
 ·rename_i k hk
  have hk:=iS hk
  have h2:=aq h
  clear h
  obtain⟨h1,h⟩:=h2
  simp only[Bool.and_eq_true]at h1
  have e1:=vn h1.1
  obtain⟨k1,k2⟩:=C6 h1.2
  subst hk e1
  cases iE h
  refine jk hw λn β as' hP hn tb hl=>?_
  have ek:=BR tb k1 k2
  refine⟨VU (n-(k-100)),Bl (by omega),rfl,rfl,rfl,rfl,?_,rfl,rfl,lq rfl,λβ' tb'=>ai.flat β' 10 _ rfl⟩
  ·obtain⟨l1,rfl,q1⟩:=fy hl (λa' ha=>oq ek ha)
   obtain⟨l2,rfl,q2⟩:=fy q1 (fl rfl)
   have:=q2.aL;subst this;rfl
 ·split at h
  case h_2=>cases h
  rename_i m hm
  obtain⟨hm,hm2⟩:=tY hm
  have h2:=aq h
  clear h
  obtain⟨h1,h⟩:=h2
  have e1:=vn h1
  subst hm e1
  cases iE h
  exact l_ (Bl hm2) rfl rfl hw (lq rfl)
theorem R0 (hw:H.wf) (h:R1 args H=some (v,H',r,w)):@aI (pR P) Tryz.prog NG (.call 135 args) H (.k (.ret v H' r w)):=by
 letI:=pR P
 unfold R1 at h
 split at h
 case h_2=>cases h
 rename_i ta a
 split at h
 ·rename_i k hk
  have hk:=iS hk
  have h2:=aq h
  clear h
  obtain⟨h1,h⟩:=h2
  simp only[Bool.and_eq_true]at h1
  have e1:=vn h1.1
  obtain⟨k1,k2⟩:=C6 h1.2
  subst hk e1
  cases iE h
  refine jk hw λn β as' hP hn tb hl=>?_
  have ek:=BR tb k1 k2
  refine⟨afi (n-(k-100)),Gr (by omega),rfl,rfl,rfl,rfl,?_,rfl,rfl,lq rfl,λβ' tb'=>?_⟩
  ·obtain⟨l1,rfl,q1⟩:=fy hl (fl rfl)
   obtain⟨l2,rfl,q2⟩:=fy q1 (λa' ha=>oq ek ha)
   have:=q2.aL;subst this;rfl
  ·have e2:=af_ tb' (k:=k+400) (by omega) (by omega)
   rw[show n-(k+400-500)=n-(k-100)from by omega]at e2
   exact tV (ak.cons (Tj e2) (fE β' (l:=[nV 0]) rfl))
 ·split at h
  case h_2=>cases h
  rename_i m hm
  obtain⟨hm,hm2⟩:=tY hm
  have h2:=aq h
  clear h
  obtain⟨h1,h⟩:=h2
  have e1:=vn h1
  subst hm e1
  cases iE h
  exact l_ (Gr hm2) rfl rfl hw (lq rfl)
theorem R2 (hw:H.wf) (h:R3 args H=some (v,H',r,w)):@aI (pR P) Tryz.prog NG (.call 307 args) H (.k (.ret v H' r w)):=by
 letI:=pR P
 unfold R3 at h
 split at h
 case h_2=>cases h
 rename_i ta k
 have h2:=aq h
 clear h
 obtain⟨h1,h⟩:=h2
 simp only[Bool.and_eq_true,aE,an]at h1
 have e1:=vn h1.1
 subst e1
 cases iE h
 refine jk hw λn β as' hP hn tb hl=>?_
 have ek:=af_ tb h1.2.1 h1.2.2
 refine⟨afp (n-(k-500)),Wd (by omega),rfl,rfl,rfl,rfl,?_,rfl,rfl,lq rfl,λβ' tb'=>?_⟩
 ·obtain⟨l1,rfl,q1⟩:=fy hl (fl rfl)
  obtain⟨l2,rfl,q2⟩:=fy q1 (λa' ha=>RO ek ha)
  have:=q2.aL;subst this;rfl
 ·have e2:=BR tb' (k:=Nat.sub k 400) (by show 100<=k-400;omega) (by show k-400<162;omega)
  rw[show n-(Nat.sub k 400-100)=n-(k-500)from by show n-(k-400-100)=_;omega]at e2
  exact tV (ak.cons (C7 e2) (fE β' (l:=[nV 0]) rfl))
theorem Yd {f lim:Nat} {base:Bool} (vB:∀ n,P n->lim<=n/\(base=true->n=lim)) (Z8:lim<=61) (hw:H.wf) (h:acF lim base f args H=some (v,H',r,w)):@aI (pR P) Tryz.prog NG (.call f args) H (.k (.ret v H' r w)):=by
 unfold acF at h
 cases h1:Nat.beq f 148 with
 |true=>rw[h1,aj]at h;rw[(beq_iff _ _).1 h1];exact Yt (λn hn=>(vB n hn).1) hw h
 |false =>
 rw[h1,au]at h
 cases h2:Nat.beq f 144 with
 |true=>rw[h2,aj]at h;rw[(beq_iff _ _).1 h2];exact Yc hw h
 |false =>
 rw[h2,au]at h
 cases h3:Nat.beq f 150 with
 |true=>rw[h3,aj]at h;rw[(beq_iff _ _).1 h3];exact R4 vB Z8 hw h
 |false =>
 rw[h3,au]at h
 cases h4:Nat.beq f 163 with
 |true=>rw[h4,aj]at h;rw[(beq_iff _ _).1 h4];exact R6 hw h
 |false =>
 rw[h4,au]at h
 cases h5:Nat.beq f 199 with
 |true=>rw[h5,aj]at h;rw[(beq_iff _ _).1 h5];exact Oo hw h
 |false =>
 rw[h5,au]at h
 cases h6:Nat.beq f 135 with
 |true=>rw[h6,aj]at h;rw[(beq_iff _ _).1 h6];exact R0 hw h
 |false =>
 rw[h6,au]at h
 cases h7:Nat.beq f 307 with
 |true=>rw[h7,aj]at h;rw[(beq_iff _ _).1 h7];exact R2 hw h
 |false =>
 rw[h7,au]at h
 cases h8:Nat.beq f 308 with
 |true=>rw[h8,aj]at h;rw[(beq_iff _ _).1 h8];exact RY hw h
 |false =>
 rw[h8,au]at h
 obtain⟨h9,h⟩:=aq h
 rw[(beq_iff _ _).1 h9];exact RV hw h
end
theorem acB {P:Nat->Prop} {lim g:Nat} {base:Bool} {nest:List Value->Hp->kE} (vB:∀ n,P n->lim<=n/\(base=true->n=lim)) (Z8:lim<=61)
 (ahi:∀ args H v H' r w,H.wf->nest args H=some (v,H',r,w)->@aI (pR P) Tryz.prog NG (.call g args) H (.k (eO v H' r w))):@oa (pR P) Tryz.prog NG (spX lim base g nest):=by
 letI:=pR P
 intro f args H v H' r w hw h
 unfold spX at h
 cases h1:Nat.testBit vu f with
 |true=>rw[h1,aj]at h;exact cm h λh=>pq hw h
 |false =>
 rw[h1,au]at h
 cases h2:Nat.testBit agS f with
 |true=>rw[h2,aj]at h;exact cm h λh=>Yd vB Z8 hw h
 |false =>
 rw[h2,au]at h
 cases h3:Nat.beq f g with
 |true=>rw[h3,aj]at h;rw[(beq_iff _ _).1 h3];exact ahi _ _ _ _ _ _ hw h
 |false =>
 rw[h3,au]at h
 cases h4:Nat.testBit Fk f with
 |true=>rw[h4,aj]at h;exact cm h λh=>ou hw h
 |false =>
 rw[h4,au]at h
 obtain⟨h5,h⟩:=aq h
 rw[(beq_iff _ _).1 h5];exact cm h λh=>xo jS oF hw h
end Go.Proofs.MN
end
noncomputable section
namespace Go.Proofs.CN
open Go Go.Ev Go.Proofs Go.Ev.SM Go.Proofs.MN
theorem Yy {args:List Value} {H H':Hp} {v:Value} {r w:Nat} (h:ot args H=some (v,H',r,w)):dL v=none:=by
 unfold ot at h
 split at h
 case h_2=>cases h
 split at h
 case h_2=>cases h
 have h:=(aq h).2
 split at h
 case h_2=>cases h
 split at h
 case h_2=>cases h
 have h:=(aq h).2
 cases h;rfl
theorem KN (P:Nat->Prop):@kD (pR P) Tryz.prog NG fH/\Fits NG fH:=by
 letI:=pR P
 have hr:vL (spX 0 false 33 ot) fR fH []=true:=by have:=az Sk;unfold abc at this;exact this
 exact jz (sp:=spX 0 false 33 ot) (acB (P:=P) (lim:=0) (base:=false) (g:=33) (nest:=ot) (λn hn=>⟨Nat.zero_le _,λh=>by cases h⟩) (by omega) λargs H v H' r w hw h=>by have h2:=Ok (P:=P) hw h;unfold eO;rw[Yy h];exact h2) vW hr
def B9 (β:Mp):Mp:=λk=>if k<SY then β k else some (vO 0 (k-SY))
def MW (B:dB):Bool:=match B with|.cells t n _ _ _ _=>(List.range n).all λi=>aW 10 (t.get i)|_=>false
theorem WW {β β2:Mp} {W:World} {B:dB} {m:Bm} (hf:MW B=true) (h:fM β W B m):fM β2 W B m:=by
 unfold MW at hf
 split at hf
 case h_2=>cases hf
 rename_i t n ty op lo hi
 obtain⟨o,ho,cs,fr,rfl,h1,h2,h3,h4,h5,h6⟩:=h
 refine⟨_,ho,cs,fr,rfl,h1,h2,h3,h4,λi hi=>?_,h6⟩
 obtain⟨q1,v',q2,q3⟩:=h5 i hi
 have q4:=List.all_eq_true.1 hf i (List.mem_range.2 hi)
 have:=b8 10 _ _ q4 q3
 subst this
 exact⟨q1,_,q2,ai.flat _ 10 _ q4⟩
theorem aae (b:Nat) (h:alive fH.h0 b):MW (fH.h0.blk b)=true:=by
 have key:((List.range 15).all λb=>match fH.h0.blk b with|.no=>true|B=>MW B)=true:=by kernel_rfl
 have hb:b<15:=h.1
 have hk:=List.all_eq_true.1 key b (List.mem_range.2 hb)
 have h2:=h.2
 generalize fH.h0.blk b=B at hk h2
 cases B with
 |no=>exact absurd rfl h2
 |_=>exact hk
theorem tS {β β0 β1:Mp} {H:Hp} {W W':World} (q:Post β0 β1 H H 0 W W') (hd:∀ b m,β b=some m->m.rb<W.heap.size):Post β β H H 0 W W':=by
 refine⟨Mp.le.refl _,λb m h h'=>?_,λb hb ha=>?_,λrb o h _=>q.frame rb o h (λb m _ hb _=>by simp at hb),q.size,λb m h=>Nat.lt_of_lt_of_le (hd b m h) q.size,λb m _ h h'=>?_,λb c mb mc hb hc ha _ _ _ _=>?_,q.env⟩
 ·rw[h']at h;cases h
 ·rcases hb with h|h
  ·have:=ha.1;omega
  ·simp at h
 ·rw[h]at h';cases h'
 ·rcases hb with h|h
  ·have:=ha.1;omega
  ·simp at h
theorem Sl [dj]:kD Tryz.prog NG fH:=by
 have h0:=(KN (λn=>n=0)).1
 have h0:=(@fI (pR λn=>n=0) _ _ _ _ _ _ _ _ _).1 h0
 refine fI.2 ⟨h0.1,λβ W hg p args' hl=>?_⟩
 have hsy:(15:Nat)<SY:=by unfold SY;omega
 have hsz:0<W.heap.size:=by
  obtain⟨m,e,_⟩:=hg.1 0 (by decide)
  exact Nat.lt_of_le_of_lt (Nat.zero_le _) (p.dom 0 m e)
 have hd:∀ b m,B9 β b=some m->m.rb<W.heap.size:=λb m e=>by
  unfold B9 at e
  by_cases hb:b<SY
  ·rw[if_pos hb]at e;exact p.dom b m e
  ·rw[if_neg hb]at e
   have e:=Option.some.inj e
   have:(vO 0 (b-SY)).rb=0:=by
    generalize b-SY=j
    unfold vO
    by_cases h1:100<=j/\j<162
    ·rw[if_pos h1]
    rw[if_neg h1]
    by_cases h2:200<=j/\j<262
    ·rw[if_pos h2]
    rw[if_neg h2]
    by_cases h3:300<=j/\j<362
    ·rw[if_pos h3]
    rw[if_neg h3]
    by_cases h4:j=400
    ·rw[if_pos h4]
    rw[if_neg h4]
    by_cases h5:j=401
    ·rw[if_pos h5]
    rw[if_neg h5]
    by_cases h6:500<=j/\j<562
    ·rw[if_pos h6]
    rw[if_neg h6]
   rw[<-e,this];exact hsz
 have Df:@cX (pR λn=>n=0) NG (B9 β):=by
  refine⟨λg h=>?_,0,rfl,by omega,λk=>?_⟩
  ·have:g<SY:=Nat.lt_trans h (by unfold SY;decide)
   unfold B9;rw[if_pos this];exact hg.1 g h
  ·unfold B9;rw[if_neg (by omega),show SY+k-SY=k from by omega]
 have hp:Pre (B9 β) fH.h0 fH.h1 fH.r fH.w W:=by
  refine⟨λb hb ha=>?_,λb c mb mc hb=>by simp[fH]at hb,λb h1 h2=>?_,hd⟩
  ·obtain⟨m,em,hok⟩:=p.rel b hb ha
   refine⟨m,?_,WW (aae b ha) hok⟩
   have:b<15:=ha.1
   unfold B9;rw[if_pos (by omega)];exact em
  ·have h1:15<=b:=h1
   have h2:b<15:=h2
   omega
 have sL:ak (B9 β) fH.args args'.toList:=by
  have:args'.toList=[]:=hl.aL
  rw[this];exact ak.nil _
 refine(h0.2 (B9 β) W Df hp args' sL).mono λe W' h=>?_
 obtain⟨β1,v',he,hv,q⟩:=h
 have:=b8 10 _ _ (rfl:aW 10 fH.v=true) hv
 subst this
 exact⟨β,_,he,ai.flat _ 10 _ rfl,tS q p.dom⟩
theorem HG {P:Sem->Prop} {hk:er->List Value->Option Value} {hok:gO P hk} {lt:DX} (hlt:aa2 P lt):@oa (jj P hk hok) Tryz.prog NG (Yv lt):=by
 letI:=jj P hk hok
 intro f args H v H' r w hw h
 unfold Yv at h
 cases h1:Nat.testBit vu f with
 |true=>rw[h1,aj]at h;exact cm h λh=>pq hw h
 |false =>
 rw[h1,au]at h
 cases h2:Nat.testBit LA f with
 |true => rw[h2,aj]at h;exact cm h λh=>by
           have hw0:w=0:=by
            unfold uQ at h
            split at h
            ·rename_i u e
             cases e2:Nat.beq f 13 with
             |true=>rw[e2,aj]at h;obtain⟨_,h⟩:=aq h;cases h;rfl
             |false=>rw[e2,au]at h;cases h;rfl
            ·cases h
           subst hw0
           have hH:H'=H:=by
            unfold uQ at h
            split at h
            ·rename_i u e
             cases e2:Nat.beq f 13 with
             |true=>rw[e2,aj]at h;obtain⟨_,h⟩:=aq h;cases h;rfl
             |false=>rw[e2,au]at h;cases h;rfl
            ·cases h
           exact T5 hlt hw h
 |false =>
 rw[h2,au]at h
 obtain⟨h3,h⟩:=aq h
 exact cm h λh=>ou hw h
theorem ki.ok {Q:(Nat->Int)->Prop} {hk:er->List Value->Option Value} (h:ki (PW Q) hk):gO (PW Q) hk:=⟨λs ⟨zs,e,_⟩=>by rw[e];exact cy zs,h⟩
theorem zn.or {P:Sem->Prop} {f g:QS} (hf:zn P f) (hg:zn P g):zn P (ZT f g):=λs hP k kd a b e=>by
 unfold ZT at e
 cases e1:f k with
 |some x=>rw[e1]at e;cases e;exact hf s hP k _ _ _ e1
 |none=>rw[e1]at e;exact hg s hP k _ _ _ e
theorem adZ (Q:(Nat->Int)->Prop):zn (PW Q) iv4:=by
 rintro s ⟨zs,rfl,hl,hr,hq⟩ k kd a b e
 unfold iv4 at e
 obtain⟨c,e⟩:=aq e
 rw[beq_iff]at c;subst c
 cases e
 exact⟨by omega,zs 4,o3 zs (j:=0) (by omega),by omega,by omega⟩
def One (zs:Nat->Int):(Nat->Int)->Prop:=λz=>z=zs
theorem ael {zs:Nat->Int} {sh:Sh} {cut:Bool} (o:th sh (zs 3)) (h4:zs 4=(zs 3).tmod 32768) (hc:cut=false->sh.hi<32768):gO (PW (One zs)) (hkA sh cut) :=
 ki.ok (ki.or (Dd (zn.or (Uo λz e=>by rw[e];exact o) (adZ _))) (ki.or (aeg λz e=>by rw[e];exact⟨o,h4,hc⟩) (UF λz e=>by rw[e];exact o)))
theorem X3 {zs:Nat->Int} {hk:er->List Value->Option Value} {hok:gO (PW (One zs)) hk} {b:Bool} (h:b=true->zs 4=0):@fK (jj (PW (One zs)) hk hok) (X4 b):=by
 intro β k v hq hv
 obtain⟨s,⟨z,rfl,_,_,rfl⟩,tb⟩:=hq
 unfold X4 at hv
 obtain⟨c,e⟩:=aq hv
 rw[Bool.and_eq_true,beq_iff]at c
 obtain⟨c1,rfl⟩:=c
 cases e
 have hb:=tb 4000
 unfold vK at hb
 rw[if_neg (by omega)]at hb
 have h40:aJ z 4000=.int .i64 0:=by
  rw[show aJ z 4000=.int .i64 (z 4)from o3 z (j:=0) (by omega),h c1]
 rw[h40]at hb
 exact⟨_,hb,(rz rfl).2 rfl,λv' hv'=>(rz rfl).1 hv'⟩
theorem kD.hk {P:Sem->Prop} {hk hk':er->List Value->Option Value} {hok:gO P hk} {ank:gO P hk'} {c:ff} (h:@kD (jj P hk hok) Tryz.prog NG c):@kD (jj P hk' ank) Tryz.prog NG c:=h
theorem Rv {zs:Nat->Int} {hk:er->List Value->Option Value} {hok:gO (PW (One zs)) hk} {sh:Sh} {cut:Bool} {from_ x:Value} {cond:Int} (o:th sh (zs 3)) (h4:zs 4=(zs 3).tmod 32768) (hc:cut=false->sh.hi<32768) (h:toB sh cut from_ x cond=true) :
 @kD (jj (PW (One zs)) hk hok) Tryz.prog NG (toK from_ x cond)/\Fits NG (toK from_ x cond):=by
 letI:=jj (PW (One zs)) (hkA sh cut) (ael o h4 hc)
 have:=jz (sp:=Yv (ltD 3 sh)) (HG (Iy λz e=>by rw[e];exact o)) (tab:=X4 (Nat.beq sh.hi 0)) (X3 λhz=>by
  rw[beq_iff]at hz
  have:=o.hi
  rw[h4,show zs 3=0 from by omega];rfl) h
 exact⟨kD.hk this.1,this.2⟩
theorem uJ {b:Bool} (h:Nat.beq (Bc b 1 0) 1=true):b=true:=az h
theorem Tt (z:Int):if decide (z<0)then z<0 else 0<=z:=by
 by_cases h:z<0
 ·rw[if_pos (by simpa using h)];exact h
 ·rw[if_neg (by simpa using h)];omega
theorem acY {z:Int} (h0:0<z.natAbs) (h:z.natAbs<32768):th (shM (nd z.natAbs) (nz z.natAbs) (decide (z<0))) z:=by
 have h1:=Tv h0
 have h2:=Tu (m:=z.natAbs) (by omega)
 exact⟨rfl,λ_=>⟨rfl,h0⟩,h1,by show _<=min _ _;omega,by show min _ _<_;omega,Tt z⟩
theorem Sb:th shZ 0:=⟨rfl,λh=>absurd h (by decide),Nat.le_refl _,Nat.le_refl _,by decide,by decide⟩
theorem xz {q n:Nat} {l:List Nat} (h:q<n) (hl:l=List.range n):q∈l:=by rw[hl];exact List.mem_range.2 h
theorem Ik {m:Nat} (h:m<32768):nd m<=5:=by unfold nd;repeat' split
                                           all_goals omega
section
variable {zs:Nat->Int} {hk:er->List Value->Option Value} {hok:gO (PW (One zs)) hk}
theorem Rw (h:(zs 3).natAbs<32768) (h4:zs 4=zs 3):@kD (jj (PW (One zs)) hk hok) Tryz.prog NG (toK T31 v3 0)/\Fits NG (toK T31 v3 0):=by
 have h4':zs 4=(zs 3).tmod 32768:=by rw[h4,mS h]
 by_cases h0:zs 3=0
 ·exact Rv (sh:=shZ) (cut:=false) (by rw[h0];exact Sb) h4' (λ_=>by decide) (uJ af9)
 have hq:=To (m:=(zs 3).natAbs) (by omega) (by omega)
 have hn:=Ik h
 have hp:=lu (zs 3).natAbs
 refine Rv (cut:=false) (acY (by omega) h) h4' (λ_=>by show min _ _<_;omega) ?_
 generalize hL:nd (zs 3).natAbs=L at hq hn hp
 rcases(by omega:L=1\/L=2\/L=3\/L=4\/L=5)with rfl|rfl|rfl|rfl|rfl
 ·exact mO (uJ af8) _ (xz hq.1 rfl) _
 ·exact mO (uJ af7) _ (xz hq.1 rfl) _
 ·exact mO (uJ af6) _ (xz hq.1 rfl) _
 ·exact mO (uJ af5) _ (xz hq.1 rfl) _
 ·exact mO (uJ af4) _ (xz hq.1 rfl) _
end
structure Cs where
 K:Nat
 bz:Bool
 rn:Bool
 cut:Bool
 m8:Nat
def is (k n:Nat):Bool:=Nat.beq k n
def hkL (c:Cs):er->List Value->Option Value
 |.bin .rem,[.chan (some k),.int .i64 (.ofNat m)] =>
  Bc (Nat.beq m 32768) (Bc (Nat.beq k 9000) (some (sy 1000)) (Bc (Nat.beq k 10000) (some (Bc c.bz (nV 0) (sy 2000))) (Bc (Nat.beq k 3000&&Nat.beq c.K 1) (some (sy 4000)) none)))
  (Bc (Nat.beq m 4) (Bc (Nat.beq k 11000) (some (sy 12000)) (Bc (Nat.beq k 13000) (some (nI .i64 c.K)) none)) (Bc (Nat.beq m 8&&Nat.beq k 2000) (some (sy 8000)) none))
 |.bin .rem,[.chan (some k),.chan (some j)]=>Bc (Nat.beq c.K 0&&!c.bz)
  (Bc (Nat.beq k 1000&&(Nat.beq j 2000||Nat.beq j 15000)) (some (sy (Bc c.rn 5000 4000)))
  (Bc (Nat.beq j 15000&&Nat.beq k (Bc c.rn 4000 6000)) (some (sy 3000)) none)) none
 |.bin .add,[.chan (some k),.chan (some j)]=>Bc (Nat.beq k 7000&&(Nat.beq j 8000&&Nat.beq c.K 1)) (some (sy 3000))
  (Bc (Nat.beq c.K 0&&(!c.bz&&Nat.beq j 15000)) (Bc c.rn (Bc (Nat.beq k 5000) (some (sy 4000)) none) (Bc (Nat.beq k 4000) (some (sy 6000)) none)) none)
 |.bin .add,[.chan (some k),.int .i64 (.ofNat 4)]=>Bc (Nat.beq k 12000) (some (sy 13000)) none
 |.bin .mul,[.chan (some k),.int .i64 (.ofNat m)]=>Bc (Nat.beq m 8&&Nat.beq k 1000) (some (sy 7000)) (Bc (Nat.beq m 1&&(Nat.beq k 1000||Nat.beq k 2000)) (some (sy k)) none)
 |.neg,[.chan (some k)]=>Bc (Nat.beq k 2000) (some (sy 14000)) none
 |.mm false,[.chan (some k),.chan (some j)]=>Bc (Nat.beq k 2000&&Nat.beq j 14000) (some (sy 15000)) none
 |.eq .i,[.chan (some k),.int .i64 (.ofNat 0)]=>Bc (Nat.beq k 2000&&(Nat.beq c.K 0&&!c.bz)) (some (.bool false)) none
 |.eq .i,[.chan (some k),.chan (some j)]=>Bc (Nat.beq k 4000&&(Nat.beq j 3000&&Nat.beq c.K 1)) (some (.bool (!c.cut))) none
 |.bin .and,[.chan (some k),.int .i64 (.ofNat 7)]=>Bc (Nat.beq k 2000&&Nat.beq c.K 3) (some (nI .i64 c.m8)) none
 |.eq .s,[.chan (some k),.chan (some j)]=>Bc (Nat.beq k 4004&&(Nat.beq j 3004&&Nat.beq c.K 2)) (some (.bool true)) none
 |_,_=>none
theorem J6 (zs:Nat->Int) (S:Nat):aJ zs (1000*S)=.int .i64 (zs S):=gz zs S (j:=0) (by omega)
theorem WZ {x y z:Int} (h:x+y=z) (h1 : -9223372036854775808<=z) (h2:z<=9223372036854775807):gD .add (.int .i64 x) (.int .i64 y)=some (.int .i64 z):=by
 show some (Value.int .i64 (aN .i64 (x+y)))=_
 rw[h,wrap64 h1 h2]
def zZ (k:Nat) (ty:Value):ff:=eM 199 [vl (sy k),ty] (nV 0)
noncomputable def PZ (k:Nat) (ty:Value) (lo hi:Int):Bool:=@vL (zk (UE λj=>Bc (Nat.beq j k) (some (.i64,lo,hi)) none)) (Yv λ_ _=>none) fR (zZ k ty) []
def Ab (k:Nat) (ty:Value):ff:=eM 163 [ty,vl (sy k)] (nV 0)
noncomputable def Ql (k:Nat) (ty:Value) (lo hi:Int):Bool:=@vL (zk (UE λj=>Bc (Nat.beq j k) (some (.i64,lo,hi)) none)) (Yv λ_ _=>none) fR (Ab k ty) []
noncomputable def aj8 (k:Nat) (ty:Value):Bool:=Bc (PZ k ty (-300000) (-1)) (Bc (PZ k ty 0 0) (Bc (PZ k ty 1 300000) (Bc (Ql k ty (-300000) (-1)) (Bc (Ql k ty 0 0) (Ql k ty 1 300000) false) false) false) false) false
noncomputable def z_ (k:Nat) (ty:Value):Bool:=Bc (PZ k ty (-32767) (-1)) (Bc (PZ k ty 0 0) (Bc (PZ k ty 1 32767) (Bc (Ql k ty (-32767) (-1)) (Bc (Ql k ty 0 0) (Ql k ty 1 32767) false) false) false) false) false
theorem VV:Nat.beq (Bc (Bc (z_ 1000 gB) (Bc (z_ 2000 gB) (Bc (z_ 3000 gB) (Bc (z_ 4000 gB) (aj8 3000 T31) false) false) false) false) 1 0) 1=true:=by kernel_rfl
def Oq:List ff->Nat->List Value->Hp->kE
 | [],_,_,_=>none
 |c::l,f,args,H=>match spC fR c f args H with|some q=>some q|none=>Oq l f args H
def amK:Nat:=2 ^ 7+2 ^ 144+2 ^ 199+2 ^ 163
def spL (lt:DX) (cl:List ff) (f:Nat) (args:List Value) (H:Hp):kE :=
 Bc (Nat.testBit vu f) (rW (Ej f args H)) (Bc (Nat.testBit LA f) (rW (uQ lt f args H)) (Bc (Nat.testBit Fk f) (rW (Yi f args H))
 (Bc (Nat.beq f 54) (rW (El args H)) (Bc (Nat.beq f 137) (rW (BU args H)) (Bc (Nat.beq f 308) (rW (BW args H)) (Bc (Nat.beq f 230) (rW (tJ args H)) (Bc (Nat.testBit amK f) (Oq cl f args H) none)))))))
def ivL (c:Cs):QS:=λk=>Bc (Nat.beq k 1000||(Nat.beq k 2000||(Nat.beq k 4000||(Nat.beq k 3000&&!(Nat.beq c.K 1))))) (some (.i64, -32767,32767)) (Bc (Nat.beq k 5000&&(Nat.beq c.K 0&&(!c.bz&&c.rn))) (some (.i64, -32767, -1)) none)
def hk0 (c:Cs):er->List Value->Option Value:=yp (UE (ivL c)) (hkL c)
def lt0:DX:=λ_ _=>none
def KJ (L:Nat) (ng:Bool):Sh:=Bc (Nat.beq L 0) shZ ⟨L,6,ng,10 ^ (L-1),min (10 ^ L-1) 32767⟩
noncomputable def uL (f:Nat->Bool):List Nat->Bool:=λl=>@List.rec Nat (λ_=>Bool) true (λq _ ih=>Bc (f q) ih false) l
section
variable {zs:Nat->Int} {hk:er->List Value->Option Value} {hok:gO (PW (One zs)) hk}
abbrev Cl (zs:Nat->Int) (hk:er->List Value->Option Value) (hok:gO (PW (One zs)) hk) (c:ff):Prop:=@kD (jj (PW (One zs)) hk hok) Tryz.prog NG c/\Fits NG c
theorem uk {k:Nat} {lo hi:Int} {c:ff} (hk0:0<k) (h:@vL (zk (UE λj=>Bc (Nat.beq j (1000*k)) (some (.i64,lo,hi)) none)) (Yv λ_ _=>none) fR c []=true) (h1:lo<=zs k) (h2:zs k<=hi):Cl zs hk hok c:=by
 have hI:gO (PW (One zs)) (UE λj=>Bc (Nat.beq j (1000*k)) (some (.i64,lo,hi)) none):=ki.ok (Dd (by
  rintro s ⟨z,rfl,_,_,rfl⟩ j kd a b e
  replace e:=aq e
  obtain⟨e1,e⟩:=e
  rw[beq_iff]at e1;subst e1
  cases e
  exact⟨by omega,z k,J6 z k,h1,h2⟩))
 letI:=jj (PW (One zs)) (UE λj=>Bc (Nat.beq j (1000*k)) (some (.i64,lo,hi)) none) hI
 have:=jz (sp:=Yv λ_ _=>none) (HG (P:=PW (One zs)) (λs _ f l v e=>by cases e)) (tab:=fR) fK.none h
 exact⟨kD.hk this.1,this.2⟩
theorem cB {a b:Bool} (h:Bc a b false=true):a=true/\b=true:=by
 cases a with
 |true=>exact⟨rfl,h⟩
 |false=>cases h
theorem aal {k:Nat} {ty:Value} (hk0:0<k) (h:z_ (1000*k) ty=true) (h1 : -32767<=zs k) (h2:zs k<=32767):Cl zs hk hok (zZ (1000*k) ty)/\Cl zs hk hok (Ab (1000*k) ty):=by
 unfold z_ at h
 obtain⟨q1,h⟩:=cB h
 obtain⟨q2,h⟩:=cB h
 obtain⟨q3,h⟩:=cB h
 obtain⟨q4,h⟩:=cB h
 obtain⟨q5,q6⟩:=cB h
 rcases(by omega:zs k <= -1\/zs k=0\/1<=zs k)with h3|h3|h3
 ·exact⟨uk hk0 q1 h1 h3,uk hk0 q4 h1 h3⟩
 ·exact⟨uk hk0 q2 (by omega) (by omega),uk hk0 q5 (by omega) (by omega)⟩
 ·exact⟨uk hk0 q3 h3 h2,uk hk0 q6 h3 h2⟩
theorem aj7:z_ (1000*1) gB=true/\z_ (1000*2) gB=true/\z_ (1000*3) gB=true/\z_ (1000*4) gB=true/\aj8 (1000*3) T31=true:=by
 have h:=az VV
 obtain⟨q1,h⟩:=cB h
 obtain⟨q2,h⟩:=cB h
 obtain⟨q3,h⟩:=cB h
 obtain⟨q4,h⟩:=cB h
 exact⟨q1,q2,q3,q4,h⟩
theorem aaB:Cl zs hk hok fH:=by
 letI:=jj (PW (One zs)) hk hok
 exact⟨Sl,(KN (λn=>n=0)).2⟩
theorem vZ:∀ {cl:List ff},(∀ c∈cl,Cl zs hk hok c)->∀ {f:Nat} {args:List Value} {H H':Hp} {v:Value} {r w:Nat},H.wf->Oq cl f args H=some (v,H',r,w)->@aI (jj (PW (One zs)) hk hok) Tryz.prog NG (.call f args) H (.k (eO v H' r w))
 | [],_,_,_,_,_,_,_,_,_,h=>by cases h
 |c::l,hc,f,args,H,H',v,r,w,hw,h=>by
  letI:=jj (PW (One zs)) hk hok
  unfold Oq at h
  cases e:spC fR c f args H with
  |some q =>
   rw[e]at h
   have h:some q=some (v,H',r,w):=h
   cases h
   exact acP fK.none (hc c List.mem_cons_self).2 (hc c List.mem_cons_self).1 hw e
  |none =>
   rw[e]at h
   exact vZ (λc hc'=>hc c (List.mem_cons_of_mem _ hc')) hw h
theorem On {lt:DX} {f:Nat} {args:List Value} {H H':Hp} {v:Value} {r w:Nat} (h:uQ lt f args H=some (v,H',r,w)):w=0/\H'=H:=by
 unfold uQ at h
 split at h
 ·rename_i u e
  cases e2:Nat.beq f 13 with
  |true=>rw[e2,aj]at h;obtain⟨_,h⟩:=aq h;cases h;exact⟨rfl,rfl⟩
  |false=>rw[e2,au]at h;cases h;exact⟨rfl,rfl⟩
 ·cases h
theorem BV {lt:DX} {cl:List ff} (hlt:aa2 (PW (One zs)) lt) (eG:∀ c∈cl,Cl zs hk hok c):@oa (jj (PW (One zs)) hk hok) Tryz.prog NG (spL lt cl):=by
 letI:=jj (PW (One zs)) hk hok
 intro f args H v H' r w hw h
 unfold spL at h
 cases h1:Nat.testBit vu f with
 |true=>rw[h1,aj]at h;exact cm h λh=>pq hw h
 |false =>
 rw[h1,au]at h
 cases h2:Nat.testBit LA f with
 |true => rw[h2,aj]at h;exact cm h λh=>by
           obtain⟨rfl,rfl⟩:=On h
           exact T5 hlt hw h
 |false =>
 rw[h2,au]at h
 cases h3:Nat.testBit Fk f with
 |true=>rw[h3,aj]at h;exact cm h λh=>ou hw h
 |false =>
 rw[h3,au]at h
 cases h4:Nat.beq f 54 with
 |true=>rw[h4,aj]at h;rw[(beq_iff _ _).1 h4];exact cm h λh=>xo jS oF hw h
 |false =>
 rw[h4,au]at h
 cases h5:Nat.beq f 137 with
 |true=>rw[h5,aj]at h;rw[(beq_iff _ _).1 h5];exact cm h λh=>Ax hw h
 |false =>
 rw[h5,au]at h
 cases h6:Nat.beq f 308 with
 |true=>rw[h6,aj]at h;rw[(beq_iff _ _).1 h6];exact cm h λh=>Ay hw h
 |false =>
 rw[h6,au]at h
 cases h7:Nat.beq f 230 with
 |true => rw[h7,aj]at h;rw[(beq_iff _ _).1 h7];exact cm h λh=>by
           have e:H'=H/\r=0/\w=0:=by
            unfold tJ at h
            split at h
            ·have h:=(aq h).2;cases h;exact⟨rfl,rfl,rfl⟩
            ·cases h
           obtain⟨rfl,rfl,rfl⟩:=e
           exact Az hw h
 |false =>
 rw[h7,au]at h
 obtain⟨_,h⟩:=aq h
 exact vZ eG hw h
end
end Go.Proofs.CN
end
noncomputable section
namespace Go.Proofs.CA
open Go Go.Ev Go.Proofs Go.Ev.SM Go.Proofs.MN Go.Proofs.CN
def iI (n:Int):Value:=.int .i64 n
def cD (b l c:Nat):Value:=.slice (some ⟨b,0,none⟩) l c
def aT:Value:=.slice none 0 0
def kY:List Value:=[iI 2,iI 15,iI 0,.bool false,s0]
def cK (x:Value):List Value:=[iI 1]++kY++[x,s0,iI 0,aT,aT]
def cL (b c:Nat):List Value:=[iI 2]++kY++[iI 0,s0,iI 0,aT,cD b 1 c]
def cR (v sb c:Nat):List Value:=Bc (Nat.blt v 4) ([iI 1,iI 0,iI 0,iI (16*v:Nat),aT,aT]++kY)
 (Bc (Nat.blt v 8) ([iI 1,iI 0,iI 0,iI 64,aT,cD sb 1 c]++kY) ([iI 2,iI 0,iI 0,iI (16*(v-8):Nat),aT,aT]++kY))
def cS (v:Nat):List Value:=cK (iI v)++[iI 4,iI 7,iI 16]
def cT (no:Value) (r e:Nat):List Value:=[iI 2,no,cD r 1 2,cD e 1 2,iI 0,iI 0,iI 0,aT,iI 0,.bool false,.bool false]
def uU (v:Nat) (ld:Bool):List (Nat×dB):=[(15,aG (cR v 17 2) 28 0),(16,aG (Bc ld (cL 18 2) (cK (sy 4000))) 35 0)] ++
 Bc (Nat.blt 3 v&&Nat.blt v 8) [(17,aG (cS v) 76 0)] []++Bc ld ([(18,aG (cR v 19 2) 28 0)]++Bc (Nat.blt 3 v&&Nat.blt v 8) [(19,aG (cS v) 76 0)] []) []
def Nu:List (Nat×dB):=[(20,aG [cD 21 1 2,iI 64,aT,sy 0,aT,aT,iI 0,cD 23 1 3] 229 0),(21,aG [.string ⟨#[77,65,73,78]⟩,iI (-1),iI 0,iI 128,aT,sy 0,aT] 49 0),(23,aG [iI 0] 3 2)]
def stC (v:Nat) (ld:Bool):ff :=
 let pre:=[(3,Ox),(6,OM)]++uU v ld++Nu
 ⟨76,[.pointer (some ⟨20,0,none⟩),.agg ⟨cT (sy 6000) 15 16⟩],pre,30,.tuple ⟨[]⟩,[],30,eE pre,0⟩
def ivT:QS:=λk=>Bc (Nat.beq k 4000) (some (.i64, -32767,32767)) (Bc (Nat.beq k 6000) (some (.i64,0,9999)) none)
def abQ:BinOp->BinOp
 |.lss=>.gtr|.leq=>.geq|.gtr=>.lss|.geq=>.leq|_=>.add
def hkJ (iv:QS):er->List Value->Option Value
 |.bin op,[.int kd c,.chan (some k)]=>(match iv k with
  |some (kd',a,b)=>Bc (tD kd' kd) (bo (aay (abQ op) a b c)) none
  |none=>none)
 |_,_=>none
theorem aai {op:BinOp} {kd:IntKind} {c n:Int} {r:Bool} (h:gD (abQ op) (.int kd n) (.int kd c)=some (.bool r)):gD op (.int kd c) (.int kd n)=some (.bool r):=by
 have ek:∀ k:IntKind,tD k k=true:=λk=>by cases k<;>rfl
 cases op<;>try exact h
 all_goals
  replace h:Bc (tD kd kd) _ none=_:=h
  rw[ek,aj]at h
  first
   |(cases h;done)
   |(show Bc (tD kd kd) _ none=_;rw[ek,aj];exact h)
theorem aej {P:CN.Sem->Prop} {iv:QS} (hi:zn P iv):ki P (hkJ iv):=by
 intro s hP h l v e
 unfold hkJ at e
 split at e
 ·rename_i op kd c k
  cases e1:iv k with
  |none=>simp only[e1]at e;cases e
  |some q =>
   obtain⟨kd',a,b⟩:=q
   simp only[e1]at e
   obtain⟨h1,e9⟩:=aq e
   have:=iB h1;subst this
   obtain⟨h0,n,hn,ha,hb⟩:=hi s hP k _ a b e1
   obtain⟨r,e2,rfl⟩:=DK e9
   refine⟨agN h0,rfl,?_⟩
   show iW (.bin op) [.int kd' c,s k]=some (.bool r)
   rw[hn]
   exact aai (Ns e2 ha hb)
 ·cases e
def Dc:er->List Value->Option Value:=yp (UE ivT) (hkJ ivT)
def mkT:Nat:=2 ^ 199+2 ^ 163
def spT (f:Nat) (args:List Value) (H:Hp):kE :=
 Bc (Nat.testBit vu f) (rW (Ej f args H)) (Bc (Nat.testBit Fk f) (rW (Yi f args H)) (Bc (Nat.testBit mkT f) (Oq [zZ 4000 gB,Ab 4000 gB] f args H) none))
noncomputable def stB (v:Nat) (ld:Bool):Bool:=@vL (zk Dc) spT fR (stC v ld) []
def adr (v:Nat):Nat:=Bc (Nat.blt v 8) (24+2*v) (16+2*(v-8))
def Fs (sl:Nat->Nat):T Value:=(List.range 12).foldl (λt u=>T.set 6 (T.set 6 t (adr u) (sy (1000*sl u+8))) (adr u+1) (sy (1000*sl u+9))) (.e (.int .u8 0))
def oE (sl:Nat->Nat):dB:=.cells (Fs sl) 65536 199 0 0 0
def opsL:List Value:=[.nilFunc]++[84,85,86,87,88,88,88,88,88,88,88,88,88,89,89,89,89,90,89,89,89,89,89,89,91,92,94,97,99,101,102].map λf=>.func (.func f) ⟨[]⟩ ⟨[]⟩
def RS:List Value:=[cD 25 1 3,iI 64,aT,sy 0,aT,aT,.pointer (some ⟨23,0,none⟩),cD 24 1 3,iI 40,sy 0,sy 0,sy 0,sy 0,.pointer none,aT,sy 0,iI 1000,sy 0,.bool false,.bool false,iI 0,iI 0]
def adI (sl:Nat->Nat):List (Nat×dB):=[(20,aG [.pointer (some ⟨21,0,none⟩),sy 0,iI 64,aT,sy 0,aT,aT,cD 22 32 64,sy 0,iI (-1)] 98 0),(21,aG RS 130 0),(22,aG opsL 189 0),(23,oE sl),
 (24,aG [iI 0,aT,iI 24,iI (-1),aT,iI 0,iI 0,iI 0,s0,s0] 137 11),(25,aG [.string ⟨#[77,65,73,78]⟩,iI (-1),iI 0,iI 128,aT,aT,aT] 49 8)]
def KH (v:Nat) (ld:Bool) (u:Nat):Nat:=Bc (ld&&Nat.beq u v) 4 (100+u)
def Ov (v u:Nat):Nat:=Bc (Nat.beq u v) 4 (100+u)
def Zu (v:Nat) (ld:Bool):ff :=
 let pre:=uU v ld++adI (KH v ld)
 ⟨227,[.pointer (some ⟨20,0,none⟩),.agg ⟨cT (sy 6000) 15 16⟩,sy 7000],pre,30,sy 8000,[(23,oE (Ov v))],30,eE pre,2 ^ 23⟩
def hkU:er->List Value->Option Value
 |.bin .add,[.chan (some k),.int .i64 (.ofNat 1)]=>Bc (Nat.beq k 7000) (some (sy 8000)) none
 |_,_=>none
def nv:er->List Value->Option Value:=yp Dc (yp hkU (yp hkB aek))
def Ol (f:Nat) (args:List Value) (H:Hp):kE :=
 Bc (Nat.testBit vu f) (rW (Ej f args H)) (Bc (Nat.testBit Fk f) (rW (Yi f args H)) (Bc (Nat.beq f 137) (rW (BU args H)) (Bc (Nat.beq f 308) (rW (BW args H)) (Bc (Nat.beq f 230) (rW (tJ args H)) (Bc (Nat.testBit mkT f) (Oq [zZ 4000 gB,Ab 4000 gB] f args H) none)))))
noncomputable def msB (v:Nat) (ld:Bool):Bool:=@vL (zk nv) Ol fR (Zu v ld) []
def P0 (i j:Nat):Nat:=100+5*i+j
def ab4 (m:Nat):List Value:=((List.range m).map λi=>cT (iI (10*i+10:Nat)) (P0 i 0) (P0 i 1)).flatten++[iI 15,iI (10*m+10:Nat),aT,cD 19 12 25,iI 0,iI 0,iI 0,aT,iI 0,.bool false,.bool false]
def agH:List (Nat×dB):=[(19,aG (((List.range 12).map λv=>cL (20+v) 2).flatten) 35 12)]++((List.range 12).map λv=>(20+v,aG (cR v (32+(v-4)) 2) 28 0))++((List.range 4).map λv=>(32+v,aG (cS (v+4)) 76 0))
def exB (k:Nat):dB:=.obj (.cells #[] k (0,0))
def YS (m:Nat):List (Nat×dB):=[(16,aG [.string ⟨#[77,65,73,78]⟩,iI (-1),iI 0,iI 128,aT,cD 18 (m+1) (2*(m+1)+1),aT] 49 0),(17,aG [.string ⟨#[83,89,83,80,82,73,78,84]⟩,iI 2] 90 0),(18,aG (ab4 m) 41 12)]++agH ++
 ((List.range m).map λi=>(List.range 5).map λj=>(P0 i j,exB (10000000+10*i+j))).flatten
def kj (i v:Nat):Nat:=100+12*i+v
def pC9:ff:=eM 409 [aT] (iI 0)
def pC8:ff:=eM 458 [aT] (.bool true)
def pCf:ff:=eM 459 [vl (sy 4000),gB] (nV 0)
def pCc:ff:=⟨460,[.pointer (some ⟨20,0,none⟩)],[(20,aG [s0,iI 0] 222 0)],21,iI 1,[],21,eE [(20,aG [s0,iI 0] 222 0)],0⟩
def pCt (v:Value):ff:=⟨463,[vl (sy 4000),gB],[(2,zH)],NG,v,[],NG,4,0⟩
def qg:er->List Value->Option Value:=λ_ _=>none
def acL (f:Nat) (args:List Value) (H:Hp):kE:=spL (λ_ _=>none) [zZ 4000 gB,Ab 4000 gB] f args H
noncomputable def vq (c:ff):Bool:=@vL (zk qg) acL fR c []
def hkN (sh:Sh):er->List Value->Option Value:=yp (UE (ZT (ivD 4 sh) iv4)) (yp (hkP 4 sh) (hkD 4 sh))
noncomputable def fxB (L:Nat) (ng:Bool):Bool:=@vL (zk (hkN (KJ L ng))) (spL (ltD 4 (KJ L ng)) [zZ 4000 gB,Ab 4000 gB]) fR pCf []
noncomputable def txB (L:Nat) (ng:Bool):Bool:=@vL (zk (hkN (KJ L ng))) (spL (ltD 4 (KJ L ng)) [zZ 4000 gB,Ab 4000 gB]) fR (pCt (Bc (Nat.beq L 0) (sI [48]) (sy 4004))) []
theorem pR0:Nat.beq (Bc (Bc (vq pC9) (Bc (vq pC8) (vq pCc) false) false) 1 0) 1=true:=by kernel_rfl
theorem pR1:Nat.beq (Bc (Bc (fxB 0 false) (Bc (uL (λL=>fxB L false) [1,2,3,4,5]) (uL (λL=>fxB L true) [1,2,3,4,5]) false) false) 1 0) 1=true:=by kernel_rfl
theorem pR2:Nat.beq (Bc (Bc (txB 0 false) (Bc (uL (λL=>txB L false) [1,2,3,4,5]) (uL (λL=>txB L true) [1,2,3,4,5]) false) false) 1 0) 1=true:=by kernel_rfl
end Go.Proofs.CA
end
noncomputable section
namespace Go.Proofs.CA
open Go Go.Ev Go.Proofs Go.Proofs.MN
noncomputable def l7:Code:=(Tryz.f407.body).getD .skip
def La:List CO:=[
 ⟨(some 10),none,.mv (.const (.int .i64 (0)))⟩]
def K_:List CO:=[
 ⟨(some 22),none,.mv (.tmp 2)⟩,
 ⟨(some 23),none,.call (.func 409) [(.tmp 22)]⟩,
 ⟨(some 11),none,.mv (.tmp 23)⟩]
def K9:List CO:=[
 ⟨(some 24),none,.mv (.tmp 11)⟩,
 ⟨(some 25),none,.eq true (.one .i) (.tmp 24) (.const (.int .i64 (0)))⟩]
def Y0:List CO:=[
 ⟨(some 26),none,.mv (.tmp 11)⟩,
 ⟨(some 10),none,.mv (.tmp 26)⟩]
def K8:List CO:=[
 ⟨(some 27),none,.mv (.tmp 0)⟩,
 ⟨(some 28),none,.eq false (.one .p) (.tmp 27) (.const (.pointer none))⟩,
 ⟨(some 29),none,.mv (.tmp 28)⟩,
 ⟨(some 30),(some (29,false)),.mv (.tmp 1)⟩,
 ⟨(some 31),(some (29,false)),.bin .lss (.tmp 30) (.const (.int .i64 (0)))⟩,
 ⟨(some 32),none,.pick (.tmp 29) (.const (.bool true)) (.tmp 31)⟩,
 ⟨(some 33),none,.mv (.tmp 32)⟩,
 ⟨(some 34),(some (33,false)),.mv (.tmp 1)⟩,
 ⟨(some 35),(some (33,false)),.bin .gtr (.tmp 34) (.const (.int .i64 (99)))⟩,
 ⟨(some 36),none,.pick (.tmp 33) (.const (.bool true)) (.tmp 35)⟩,
 ⟨(some 37),none,.mv (.tmp 36)⟩,
 ⟨(some 38),(some (37,false)),.mv (.tmp 3)⟩,
 ⟨(some 39),(some (37,false)),.len 1 (.tmp 38)⟩,
 ⟨(some 40),(some (37,false)),.mv (.tmp 4)⟩,
 ⟨(some 41),(some (37,false)),.len 1 (.tmp 40)⟩,
 ⟨(some 42),(some (37,false)),.eq true (.one .i) (.tmp 39) (.tmp 41)⟩,
 ⟨(some 43),none,.pick (.tmp 37) (.const (.bool true)) (.tmp 42)⟩,
 ⟨(some 44),none,.mv (.tmp 43)⟩,
 ⟨(some 45),(some (44,false)),.mv (.tmp 3)⟩,
 ⟨(some 46),(some (44,false)),.len 1 (.tmp 45)⟩,
 ⟨(some 47),(some (44,false)),.bin .gtr (.tmp 46) (.const (.int .i64 (16)))⟩,
 ⟨(some 48),none,.pick (.tmp 44) (.const (.bool true)) (.tmp 47)⟩,
 ⟨(some 49),none,.mv (.tmp 48)⟩,
 ⟨(some 50),(some (49,false)),.mv (.tmp 2)⟩,
 ⟨(some 51),(some (49,false)),.call (.func 458) [(.tmp 50)]⟩,
 ⟨(some 52),(some (49,false)),.un .not (.tmp 51)⟩,
 ⟨(some 53),(some (49,false)),.mv (.tmp 52)⟩,
 ⟨(some 54),(some (53,true)),.mv (.tmp 3)⟩,
 ⟨(some 55),(some (53,true)),.len 1 (.tmp 54)⟩,
 ⟨(some 56),(some (53,true)),.bin .gtr (.tmp 55) (.const (.int .i64 (0)))⟩,
 ⟨(some 57),(some (49,false)),.pick (.tmp 53) (.tmp 56) (.const (.bool false))⟩,
 ⟨(some 58),none,.pick (.tmp 49) (.const (.bool true)) (.tmp 57)⟩]
def YZ:List CO:=[
 ⟨(some 10),none,.mv (.const (.int .i64 (1)))⟩]
def K7:List CO:=[
 ⟨(some 59),none,.mv (.tmp 3)⟩,
 ⟨(some 60),none,.len 1 (.tmp 59)⟩,
 ⟨(some 61),none,.mv (.const (.int .i64 (0)))⟩]
def Cj:List CO:=[
 ⟨(some 62),none,.bin .lss (.tmp 61) (.tmp 60)⟩]
def K6:List CO:=[
 ⟨(some 63),none,.mv (.tmp 61)⟩,
 ⟨(some 64),none,.sJ 2 (.tmp 59) (.tmp 61)⟩,
 ⟨(some 65),none,.uh 2 (.tmp 64)⟩,
 ⟨(some 13),none,.alloc (aG [.int .i64 (0),.string ⟨#[]⟩] 32 0)⟩,
 ⟨(some 12),none,.mv (.tmp 63)⟩,
 ⟨none,none,.st 2 (.tmp 13) (.tmp 65)⟩]
def Ci:List CO:=[
 ⟨(some 66),none,.uh 2 (.tmp 13)⟩,
 ⟨(some 67),none,.mv (.tmp 4)⟩,
 ⟨(some 68),none,.mv (.tmp 12)⟩,
 ⟨(some 69),none,.sJ 5 (.tmp 67) (.tmp 68)⟩,
 ⟨(some 70),none,.uh 5 (.tmp 69)⟩,
 ⟨(some 71),none,.call (.func 459) [(.tmp 66),(.tmp 70)]⟩,
 ⟨(some 14),none,.mv (.tmp 71)⟩]
def E5:List CO:=[
 ⟨(some 72),none,.mv (.tmp 14)⟩,
 ⟨(some 73),none,.eq true (.one .i) (.tmp 72) (.const (.int .i64 (0)))⟩]
def S9:List CO:=[
 ⟨(some 74),none,.mv (.tmp 14)⟩,
 ⟨(some 10),none,.mv (.tmp 74)⟩]
def E3:List CO:=[
 ⟨(some 75),none,.bin .add (.tmp 61) (.const (.int .i64 (1)))⟩,
 ⟨(some 61),none,.mv (.tmp 75)⟩]
noncomputable def E7:KC :=
 (.seq (.bp Cj)
 (.seq (.cond (.tmp 62) .skip
  (.exit 0))
 (.seq (.block 1 (.seq (.bp K6)
  (.seq (.draw #[0,0,0,6,14,31,63] Ci)
  (.seq (.bp E5)
  (.cond (.tmp 73) (.seq (.bp S9)
   .ret)
   .skip)))))
 (.bp E3))))
def E2:List CO:=[
 ⟨(some 76),none,.mv (.tmp 0)⟩,
 ⟨(some 77),none,.call (.func 460) [(.tmp 76)]⟩,
 ⟨(some 78),none,.build [.pointer none,.slice none 0 0,.int .i64 (0)] [(2,1,(.tmp 77))]⟩,
 ⟨(some 79),none,.box 559 (.tmp 78)⟩,
 ⟨(some 15),none,.mv (.tmp 79)⟩]
def E1:List CO:=[
 ⟨(some 80),none,.mv (.tmp 15)⟩,
 ⟨(some 81),none,.mv (.tmp 1)⟩,
 ⟨(some 82),none,.call (.func 461) [(.tmp 80),(.tmp 81)]⟩]
def E0:List CO:=[
 ⟨(some 83),none,.mv (.tmp 3)⟩,
 ⟨(some 84),none,.len 1 (.tmp 83)⟩,
 ⟨(some 85),none,.mv (.const (.int .i64 (0)))⟩]
def xO:List CO:=[
 ⟨(some 86),none,.bin .lss (.tmp 85) (.tmp 84)⟩]
def EZ:List CO:=[
 ⟨(some 87),none,.mv (.tmp 85)⟩,
 ⟨(some 88),none,.sJ 2 (.tmp 83) (.tmp 85)⟩,
 ⟨(some 89),none,.uh 2 (.tmp 88)⟩,
 ⟨(some 17),none,.alloc (aG [.int .i64 (0),.string ⟨#[]⟩] 32 0)⟩,
 ⟨(some 16),none,.mv (.tmp 87)⟩,
 ⟨none,none,.st 2 (.tmp 17) (.tmp 89)⟩]
def EY:List CO:=[
 ⟨(some 90),none,.mv (.tmp 2)⟩,
 ⟨(some 91),none,.len 1 (.tmp 90)⟩,
 ⟨(some 92),none,.eq false (.one .i) (.tmp 91) (.const (.int .i64 (0)))⟩]
def xN:List CO:=[
 ⟨(some 93),none,.mv (.tmp 15)⟩,
 ⟨(some 94),none,.uh 2 (.tmp 17)⟩,
 ⟨(some 95),none,.mv (.tmp 4)⟩,
 ⟨(some 96),none,.mv (.tmp 16)⟩,
 ⟨(some 97),none,.sJ 5 (.tmp 95) (.tmp 96)⟩,
 ⟨(some 98),none,.uh 5 (.tmp 97)⟩,
 ⟨(some 99),none,.call (.func 463) [(.tmp 94),(.tmp 98)]⟩,
 ⟨(some 100),none,.call (.func 462) [(.tmp 93),(.tmp 99)]⟩]
def S8:List CO:=[
 ⟨(some 102),none,.mv (.tmp 2)⟩,
 ⟨(some 103),none,.mv (.tmp 16)⟩,
 ⟨(some 104),none,.call (.func 464) [(.tmp 102),(.tmp 103)]⟩,
 ⟨(some 101),none,.mv (.tmp 104)⟩,
 ⟨(some 105),none,.ext (.tmp 101) 0⟩,
 ⟨(some 106),none,.ext (.tmp 101) 1⟩,
 ⟨(some 19),none,.alloc (aG [.int .i64 (0),.int .i64 (0),.int .i64 (0),.string ⟨#[]⟩] 338 0)⟩,
 ⟨(some 18),none,.mv (.tmp 105)⟩,
 ⟨none,none,.st 4 (.tmp 19) (.tmp 106)⟩]
def S7:List CO:=[
 ⟨(some 107),none,.mv (.tmp 18)⟩,
 ⟨(some 108),none,.len 1 (.tmp 107)⟩,
 ⟨(some 109),none,.mv (.const (.int .i64 (0)))⟩]
def S6:List CO:=[
 ⟨(some 110),none,.bin .lss (.tmp 109) (.tmp 108)⟩]
def S5:List CO:=[
 ⟨(some 111),none,.sJ 4 (.tmp 107) (.tmp 109)⟩,
 ⟨(some 112),none,.uh 4 (.tmp 111)⟩,
 ⟨(some 21),none,.alloc (aG [.int .i64 (0),.int .i64 (0),.int .i64 (0),.string ⟨#[]⟩] 338 0)⟩,
 ⟨none,none,.st 4 (.tmp 21) (.tmp 112)⟩]
def S4:List CO:=[
 ⟨(some 113),none,.mv (.tmp 15)⟩,
 ⟨(some 114),none,.uh 4 (.tmp 21)⟩,
 ⟨(some 115),none,.call (.func 465) [(.tmp 113),(.tmp 114)]⟩]
def S3:List CO:=[
 ⟨(some 116),none,.bin .add (.tmp 109) (.const (.int .i64 (1)))⟩,
 ⟨(some 109),none,.mv (.tmp 116)⟩]
noncomputable def S_:KC :=
 (.seq (.bp S6)
 (.seq (.cond (.tmp 110) .skip
  (.exit 4))
 (.seq (.block 5 (.seq (.bp S5)
  (.bp S4)))
 (.bp S3))))
def S2:List CO:=[
 ⟨(some 117),none,.mv (.tmp 15)⟩,
 ⟨(some 118),none,.uh 4 (.tmp 19)⟩,
 ⟨(some 119),none,.uh 2 (.tmp 17)⟩,
 ⟨(some 120),none,.mv (.tmp 4)⟩,
 ⟨(some 121),none,.mv (.tmp 16)⟩,
 ⟨(some 122),none,.sJ 5 (.tmp 120) (.tmp 121)⟩,
 ⟨(some 123),none,.uh 5 (.tmp 122)⟩,
 ⟨(some 124),none,.call (.func 467) [(.tmp 118),(.tmp 119),(.tmp 123)]⟩,
 ⟨(some 125),none,.eX 1 9 [.string ⟨#[]⟩] [(0,1,(.tmp 124))]⟩,
 ⟨(some 126),none,.call (.func 466) [(.tmp 117),(.tmp 125)]⟩]
def EX:List CO:=[
 ⟨(some 127),none,.bin .add (.tmp 85) (.const (.int .i64 (1)))⟩,
 ⟨(some 85),none,.mv (.tmp 127)⟩]
noncomputable def E6:KC :=
 (.seq (.bp xO)
 (.seq (.cond (.tmp 86) .skip
  (.exit 2))
 (.seq (.block 3 (.seq (.bp EZ)
  (.seq (.seq (.bp EY)
  (.cond (.tmp 92) (.seq (.draw #[0,0,0,0,12,28,62,127] xN)
   (.exit 3))
   .skip))
  (.seq (.bp S8)
  (.seq (.seq (.bp S7)
  (.block 4 (.loop l7.sr.sr.sr.sr.sr.sr.sl.sr.bl.lp.sr.sr.sl.bl.sr.sr.sr.sl.sr.bl.lp S_)))
  (.draw #[0,0,0,0,0,24,56,126,254,511] S2))))))
 (.bp EX))))
def xM:List CO:=[
 ⟨(some 128),none,.mv (.tmp 0)⟩,
 ⟨(some 129),none,.dU (.tmp 128)⟩,
 ⟨(some 130),none,.fa 0 (.tmp 129)⟩,
 ⟨(some 131),none,.fa 0 (.tmp 130)⟩,
 ⟨(some 132),none,.jd (.tmp 131)⟩,
 ⟨(some 133),none,.len 0 (.tmp 132)⟩,
 ⟨(some 134),none,.mv (.tmp 15)⟩,
 ⟨(some 135),none,.dU (.tmp 134)⟩,
 ⟨(some 136),none,.fa 0 (.tmp 135)⟩,
 ⟨(some 137),none,.call (.func 324) [(.tmp 136)]⟩,
 ⟨(some 138),none,.bin .add (.tmp 133) (.tmp 137)⟩,
 ⟨(some 139),none,.bin .gtr (.tmp 138) (.const (.int .i64 (65536)))⟩]
def S1:List CO:=[
 ⟨(some 10),none,.mv (.const (.int .i64 (2)))⟩]
def EW:List CO:=[
 ⟨(some 140),none,.mv (.tmp 0)⟩,
 ⟨(some 141),none,.dU (.tmp 140)⟩,
 ⟨(some 142),none,.fa 0 (.tmp 141)⟩,
 ⟨(some 143),none,.fa 0 (.tmp 142)⟩,
 ⟨(some 144),none,.jd (.tmp 143)⟩,
 ⟨(some 145),none,.mv (.tmp 15)⟩,
 ⟨(some 146),none,.dU (.tmp 145)⟩,
 ⟨(some 147),none,.fa 0 (.tmp 146)⟩,
 ⟨(some 148),none,.call (.func 65) [(.tmp 147)]⟩,
 ⟨(some 149),none,.bin .add (.tmp 144) (.tmp 148)⟩,
 ⟨(some 150),none,.dU (.tmp 140)⟩,
 ⟨(some 151),none,.fa 0 (.tmp 150)⟩,
 ⟨(some 152),none,.fa 0 (.tmp 151)⟩,
 ⟨none,none,.st 1 (.tmp 152) (.tmp 149)⟩]
def EV:List CO:=[
 ⟨(some 153),none,.mv (.tmp 0)⟩,
 ⟨(some 154),none,.mv (.tmp 0)⟩,
 ⟨(some 155),none,.dU (.tmp 154)⟩,
 ⟨(some 156),none,.fa 0 (.tmp 155)⟩,
 ⟨(some 157),none,.fa 0 (.tmp 156)⟩,
 ⟨(some 158),none,.jd (.tmp 157)⟩,
 ⟨(some 159),none,.len 0 (.tmp 158)⟩,
 ⟨(some 160),none,.dU (.tmp 153)⟩,
 ⟨(some 161),none,.fa 0 (.tmp 160)⟩,
 ⟨(some 162),none,.fa 1 (.tmp 161)⟩,
 ⟨none,none,.st 1 (.tmp 162) (.tmp 159)⟩]
def EU:List CO:=[
 ⟨(some 10),none,.mv (.const (.int .i64 (0)))⟩]
noncomputable def HX:KC :=
 (.seq (.bp La)
 (.seq (.seq (.bp K_)
 (.seq (.bp K9)
 (.cond (.tmp 25) (.seq (.bp Y0)
  .ret)
  .skip)))
 (.seq (.seq (.bp K8)
 (.cond (.tmp 58) (.seq (.bp YZ)
  .ret)
  .skip))
 (.seq (.seq (.bp K7)
 (.block 0 (.loop l7.sr.sr.sr.sl.sr.bl.lp E7)))
 (.seq (.bp E2)
 (.seq (.bp E1)
 (.seq (.seq (.bp E0)
 (.block 2 (.loop l7.sr.sr.sr.sr.sr.sr.sl.sr.bl.lp E6)))
 (.seq (.seq (.draw #[0,1,3,7,15,31,0,64,192,448,1023,2047] xM)
 (.cond (.tmp 139) (.seq (.bp S1)
  .ret)
  .skip))
 (.seq (.draw #[0,1,3,7,15,0,32,96,224,511,1023,2047,4095,8191] EW)
 (.seq (.bp EV)
 (.seq (.bp EU)
 .ret)))))))))))
theorem OK:bC dm Tryz.f407.ntmps l7=HX:=by kernel_rfl
theorem OJ:Tryz.f407.body=some l7:=rfl
noncomputable def ue:Code:=(Tryz.f462.body).getD .skip
def CI:List CO:=[
 ⟨(some 7),none,.mv (.tmp 0)⟩,
 ⟨(some 8),none,.dU (.tmp 7)⟩,
 ⟨(some 9),none,.fa 2 (.tmp 8)⟩,
 ⟨(some 10),none,.jd (.tmp 9)⟩,
 ⟨(some 11),none,.eq true (.one .i) (.tmp 10) (.const (.int .i64 (1)))⟩]
def LU:List CO:=[
 ⟨(some 12),none,.mv (.tmp 0)⟩,
 ⟨(some 13),none,.dU (.tmp 12)⟩,
 ⟨(some 14),none,.fa 2 (.tmp 13)⟩,
 ⟨(some 15),none,.jd (.tmp 14)⟩,
 ⟨(some 4),none,.mv (.tmp 15)⟩]
def LS:List CO:=[
 ⟨(some 16),none,.eX 4 3 [.int .i64 (0),.int .i64 (0),.int .i64 (0),.int .i64 (0)] [(0,1,(.const (.int .i64 (25)))),(1,1,(.const (.int .i64 (49)))),(2,1,(.const (.int .i64 (73)))),(3,1,(.const (.int .i64 (97))))]⟩,
 ⟨(some 17),none,.len 1 (.tmp 16)⟩,
 ⟨(some 18),none,.mv (.const (.int .i64 (0)))⟩]
def CH:List CO:=[
 ⟨(some 19),none,.bin .lss (.tmp 18) (.tmp 17)⟩]
def LR:List CO:=[
 ⟨(some 20),none,.sJ 1 (.tmp 16) (.tmp 18)⟩,
 ⟨(some 21),none,.jd (.tmp 20)⟩,
 ⟨(some 6),none,.mv (.tmp 21)⟩]
def CG:List CO:=[
 ⟨(some 22),none,.mv (.tmp 6)⟩,
 ⟨(some 23),none,.mv (.tmp 4)⟩,
 ⟨(some 24),none,.bin .gtr (.tmp 22) (.tmp 23)⟩]
def LQ:List CO:=[
 ⟨(some 25),none,.mv (.tmp 0)⟩,
 ⟨(some 26),none,.mv (.tmp 6)⟩,
 ⟨(some 27),none,.call (.func 507) [(.tmp 25),(.tmp 26)]⟩]
def LP:List CO:=[
 ⟨(some 28),none,.bin .add (.tmp 18) (.const (.int .i64 (1)))⟩,
 ⟨(some 18),none,.mv (.tmp 28)⟩]
noncomputable def LV:KC :=
 (.seq (.bp CH)
 (.seq (.cond (.tmp 19) .skip
  (.exit 0))
 (.seq (.block 1 (.seq (.bp LR)
  (.seq (.bp CG)
  (.cond (.tmp 24) (.seq (.bp LQ)
   (.exit 0))
   .skip))))
 (.bp LP))))
def CF:List CO:=[
 ⟨(some 29),none,.mv (.tmp 0)⟩,
 ⟨(some 30),none,.dU (.tmp 29)⟩,
 ⟨(some 31),none,.fa 2 (.tmp 30)⟩,
 ⟨(some 32),none,.jd (.tmp 31)⟩,
 ⟨(some 33),none,.mv (.tmp 4)⟩,
 ⟨(some 34),none,.eq false (.one .i) (.tmp 32) (.tmp 33)⟩]
def FA:List CO:=[
 ⟨(some 35),none,.mv (.tmp 0)⟩,
 ⟨(some 36),none,.call (.func 461) [(.tmp 35),(.const (.int .i64 (1)))]⟩]
def yh:List CO:=[
 ⟨(some 37),none,.mv (.tmp 0)⟩,
 ⟨(some 38),none,.dU (.tmp 37)⟩,
 ⟨(some 39),none,.fa 2 (.tmp 38)⟩,
 ⟨(some 40),none,.jd (.tmp 39)⟩,
 ⟨(some 41),none,.eq true (.one .i) (.tmp 40) (.const (.int .i64 (1)))⟩,
 ⟨(some 42),none,.mv (.tmp 41)⟩,
 ⟨(some 43),(some (42,true)),.mv (.tmp 1)⟩,
 ⟨(some 44),(some (42,true)),.len 0 (.tmp 43)⟩,
 ⟨(some 45),(some (42,true)),.mv (.tmp 0)⟩,
 ⟨(some 46),(some (42,true)),.dU (.tmp 45)⟩,
 ⟨(some 47),(some (42,true)),.fa 2 (.tmp 46)⟩,
 ⟨(some 48),(some (42,true)),.jd (.tmp 47)⟩,
 ⟨(some 49),(some (42,true)),.bin .sub (.const (.int .i64 (121))) (.tmp 48)⟩,
 ⟨(some 50),(some (42,true)),.bin .gtr (.tmp 44) (.tmp 49)⟩,
 ⟨(some 51),none,.pick (.tmp 42) (.tmp 50) (.const (.bool false))⟩]
def TY:List CO:=[
 ⟨(some 52),none,.mv (.tmp 0)⟩,
 ⟨(some 53),none,.call (.func 461) [(.tmp 52),(.const (.int .i64 (1)))]⟩]
def yf:List CO:=[
 ⟨(some 54),none,.mv (.tmp 0)⟩,
 ⟨(some 55),none,.mv (.tmp 1)⟩,
 ⟨(some 56),none,.eX 1 9 [.string ⟨#[]⟩] [(0,1,(.tmp 55))]⟩,
 ⟨(some 57),none,.call (.func 466) [(.tmp 54),(.tmp 56)]⟩]
noncomputable def IA:KC :=
 (.seq (.seq (.bp CI)
 (.cond (.tmp 11) (.seq (.bp LU)
  (.seq (.seq (.bp LS)
  (.block 0 (.loop ue.sl.sr.ca.sr.sl.sr.bl.lp LV)))
  (.seq (.bp CF)
  (.cond (.tmp 34) (.bp FA)
   .skip))))
  .skip))
 (.seq (.seq (.bp yh)
 (.cond (.tmp 51) (.bp TY)
  .skip))
 (.bp yf)))
theorem Pc:bC dm Tryz.f462.ntmps ue=IA:=by kernel_rfl
theorem Pb:Tryz.f462.body=some ue:=rfl
noncomputable def xb:Code:=(Tryz.f507.body).getD .skip
def Ht:List CO:=[
 ⟨(some 4),none,.mv (.tmp 0)⟩,
 ⟨(some 5),none,.dU (.tmp 4)⟩,
 ⟨(some 6),none,.fa 2 (.tmp 5)⟩,
 ⟨(some 7),none,.jd (.tmp 6)⟩,
 ⟨(some 8),none,.mv (.tmp 1)⟩,
 ⟨(some 9),none,.bin .lss (.tmp 7) (.tmp 8)⟩]
def Ho:List CO:=[
 ⟨(some 10),none,.mv (.tmp 0)⟩,
 ⟨(some 11),none,.eX 1 9 [.string ⟨#[]⟩] [(0,1,(.const (.string ⟨#[32]⟩)))]⟩,
 ⟨(some 12),none,.call (.func 466) [(.tmp 10),(.tmp 11)]⟩]
noncomputable def RB:KC :=
 (.seq (.seq (.bp Ht)
 (.cond (.tmp 9) .skip
  (.exit 0)))
 (.block 1 (.bp Ho)))
noncomputable def RC:KC :=
 (.block 0 (.loop xb.bl.lp RB))
theorem RD:bC dm Tryz.f507.ntmps xb=RC:=by kernel_rfl
theorem RA:Tryz.f507.body=some xb:=rfl
noncomputable def qY:Code:=(Tryz.f466.body).getD .skip
def Q2:List CO:=[
 ⟨(some 7),none,.mv (.tmp 1)⟩,
 ⟨(some 8),none,.len 1 (.tmp 7)⟩,
 ⟨(some 9),none,.mv (.const (.int .i64 (0)))⟩]
def G7:List CO:=[
 ⟨(some 10),none,.bin .lss (.tmp 9) (.tmp 8)⟩]
def Q1:List CO:=[
 ⟨(some 11),none,.sJ 1 (.tmp 7) (.tmp 9)⟩,
 ⟨(some 12),none,.jd (.tmp 11)⟩,
 ⟨(some 5),none,.mv (.tmp 12)⟩]
def Q0:List CO:=[
 ⟨(some 13),none,.mv (.tmp 5)⟩,
 ⟨(some 14),none,.len 0 (.tmp 13)⟩,
 ⟨(some 15),none,.mv (.const (.int .i64 (0)))⟩]
def G6:List CO:=[
 ⟨(some 16),none,.bin .lss (.tmp 15) (.tmp 14)⟩]
def QZ:List CO:=[
 ⟨(some 17),none,.mv (.tmp 15)⟩,
 ⟨(some 6),none,.mv (.tmp 17)⟩]
def QY:List CO:=[
 ⟨(some 18),none,.mv (.tmp 0)⟩,
 ⟨(some 19),none,.dU (.tmp 18)⟩,
 ⟨(some 20),none,.fa 2 (.tmp 19)⟩,
 ⟨(some 21),none,.jd (.tmp 20)⟩,
 ⟨(some 22),none,.bin .gtr (.tmp 21) (.const (.int .i64 (120)))⟩]
def ab8:List CO:=[
 ⟨(some 23),none,.mv (.tmp 0)⟩,
 ⟨(some 24),none,.call (.func 461) [(.tmp 23),(.const (.int .i64 (1)))]⟩]
def QX:List CO:=[
 ⟨(some 25),none,.mv (.tmp 0)⟩,
 ⟨(some 26),none,.dU (.tmp 25)⟩,
 ⟨(some 27),none,.fa 0 (.tmp 26)⟩,
 ⟨(some 28),none,.mv (.tmp 5)⟩,
 ⟨(some 29),none,.mv (.tmp 6)⟩,
 ⟨(some 30),none,.A5 (.tmp 28) (.tmp 29)⟩,
 ⟨(some 31),none,.call (.func 506) [(.tmp 27),(.tmp 30)]⟩]
def QW:List CO:=[
 ⟨(some 32),none,.mv (.tmp 0)⟩,
 ⟨(some 33),none,.dU (.tmp 32)⟩,
 ⟨(some 34),none,.fa 2 (.tmp 33)⟩,
 ⟨(some 35),none,.jd (.tmp 34)⟩,
 ⟨(some 36),none,.bin .add (.tmp 35) (.const (.int .i64 (1)))⟩,
 ⟨(some 37),none,.dU (.tmp 32)⟩,
 ⟨(some 38),none,.fa 2 (.tmp 37)⟩,
 ⟨none,none,.st 1 (.tmp 38) (.tmp 36)⟩]
def Km:List CO:=[
 ⟨(some 39),none,.mv (.tmp 5)⟩,
 ⟨(some 40),none,.mv (.tmp 6)⟩,
 ⟨(some 41),none,.A5 (.tmp 39) (.tmp 40)⟩,
 ⟨(some 42),none,.eq false (.one .i) (.tmp 41) (.const (.int .u8 (10)))⟩]
def XI:List CO:=[
 ⟨(some 43),none,.mv (.tmp 0)⟩,
 ⟨(some 44),none,.dU (.tmp 43)⟩,
 ⟨(some 45),none,.fa 2 (.tmp 44)⟩,
 ⟨none,none,.st 1 (.tmp 45) (.const (.int .i64 (1)))⟩]
def Kl:List CO:=[
 ⟨(some 46),none,.bin .add (.tmp 15) (.const (.int .i64 (1)))⟩,
 ⟨(some 15),none,.mv (.tmp 46)⟩]
noncomputable def Ko:KC :=
 (.seq (.bp G6)
 (.seq (.cond (.tmp 16) .skip
  (.exit 2))
 (.seq (.block 3 (.seq (.bp QZ)
  (.seq (.seq (.bp QY)
  (.cond (.tmp 22) (.bp ab8)
   .skip))
  (.seq (.draw #[0,1,3,0,0,24,63] QX)
  (.seq (.bp QW)
  (.seq (.bp Km)
  (.cond (.tmp 42) (.bp XI)
   .skip)))))))
 (.bp Kl))))
def Kk:List CO:=[
 ⟨(some 47),none,.bin .add (.tmp 9) (.const (.int .i64 (1)))⟩,
 ⟨(some 9),none,.mv (.tmp 47)⟩]
noncomputable def Kn:KC :=
 (.seq (.bp G7)
 (.seq (.cond (.tmp 10) .skip
  (.exit 0))
 (.seq (.block 1 (.seq (.bp Q1)
  (.seq (.bp Q0)
  (.block 2 (.loop qY.sr.bl.lp.sr.sr.sl.bl.sr.sr.bl.lp Ko)))))
 (.bp Kk))))
noncomputable def Q4:KC :=
 (.seq (.bp Q2)
 (.block 0 (.loop qY.sr.bl.lp Kn)))
theorem Q5:bC dm Tryz.f466.ntmps qY=Q4:=by kernel_rfl
theorem QV:Tryz.f466.body=some qY:=rfl
noncomputable def uE:Code:=(Tryz.f461.body).getD .skip
def Nb:List CO:=[
 ⟨(some 4),none,.mv (.tmp 1)⟩,
 ⟨(some 5),none,.mv (.const (.int .i64 (0)))⟩]
def Dv:List CO:=[
 ⟨(some 6),none,.bin .lss (.tmp 5) (.tmp 4)⟩]
def Na:List CO:=[
 ⟨(some 7),none,.mv (.tmp 0)⟩,
 ⟨(some 8),none,.dU (.tmp 7)⟩,
 ⟨(some 9),none,.fa 0 (.tmp 8)⟩,
 ⟨(some 10),none,.call (.func 506) [(.tmp 9),(.const (.int .u8 (10)))]⟩]
def M_:List CO:=[
 ⟨(some 11),none,.mv (.tmp 0)⟩,
 ⟨(some 12),none,.dU (.tmp 11)⟩,
 ⟨(some 13),none,.fa 2 (.tmp 12)⟩,
 ⟨none,none,.st 1 (.tmp 13) (.const (.int .i64 (1)))⟩]
def MZ:List CO:=[
 ⟨(some 14),none,.bin .add (.tmp 5) (.const (.int .i64 (1)))⟩,
 ⟨(some 5),none,.mv (.tmp 14)⟩]
noncomputable def Nd:KC :=
 (.seq (.bp Dv)
 (.seq (.cond (.tmp 6) .skip
  (.exit 0))
 (.seq (.block 1 (.seq (.bp Na)
  (.bp M_)))
 (.bp MZ))))
noncomputable def Jw:KC :=
 (.seq (.bp Nb)
 (.block 0 (.loop uE.sr.bl.lp Nd)))
theorem P3:bC dm Tryz.f461.ntmps uE=Jw:=by kernel_rfl
theorem P2:Tryz.f461.body=some uE:=rfl
noncomputable def Ec:Code:=(Tryz.f506.body).getD .skip
def Ra:List CO:=[
 ⟨(some 4),none,.mv (.const (.nilIface))⟩]
def Q_:List CO:=[
 ⟨(some 5),none,.mv (.tmp 0)⟩,
 ⟨(some 6),none,.call (.func 306) [(.tmp 5)]⟩]
def G_:List CO:=[
 ⟨(some 7),none,.mv (.tmp 0)⟩,
 ⟨(some 8),none,.mv (.tmp 0)⟩,
 ⟨(some 9),none,.dU (.tmp 8)⟩,
 ⟨(some 10),none,.fa 1 (.tmp 9)⟩,
 ⟨(some 11),none,.jd (.tmp 10)⟩,
 ⟨(some 12),none,.mv (.tmp 1)⟩,
 ⟨(some 13),none,.eX 1 5 [.int .u8 (0)] [(0,1,(.tmp 12))]⟩,
 ⟨(some 14),none,.app 5 1 1 (.tmp 11) (.tmp 13)⟩,
 ⟨(some 15),none,.dU (.tmp 7)⟩,
 ⟨(some 16),none,.fa 1 (.tmp 15)⟩,
 ⟨none,none,.st 1 (.tmp 16) (.tmp 14)⟩]
def Q9:List CO:=[
 ⟨(some 4),none,.mv (.const (.nilIface))⟩]
noncomputable def Rc:KC :=
 (.seq (.bp Ra)
 (.seq (.bp Q_)
 (.seq (.bp G_)
 (.seq (.bp Q9)
 .ret))))
theorem Re:bC dm Tryz.f506.ntmps Ec=Rc:=by kernel_rfl
theorem Q8:Tryz.f506.body=some Ec:=rfl
noncomputable def Gx:Code:=(Tryz.f306.body).getD .skip
def JJ:List CO:=[
 ⟨(some 2),none,.mv (.tmp 0)⟩,
 ⟨(some 3),none,.dU (.tmp 2)⟩,
 ⟨(some 4),none,.fa 0 (.tmp 3)⟩,
 ⟨(some 5),none,.jd (.tmp 4)⟩,
 ⟨(some 6),none,.eq false (.one .p) (.tmp 5) (.const (.pointer none))⟩]
def Wh:List CO:=[
 ⟨(some 7),none,.mv (.tmp 0)⟩,
 ⟨(some 8),none,.mv (.tmp 0)⟩,
 ⟨(some 9),none,.Rx (.tmp 8)⟩,
 ⟨(some 10),none,.call (.func 367) [(.tmp 9)]⟩,
 ⟨(some 11),none,.frU [(127,2,0),(128,2,0),(129,22,13),(130,22,13),(558,3,0),(559,3,0)] (.tmp 10)⟩,
 ⟨(some 12),none,.dU (.tmp 7)⟩,
 ⟨(some 13),none,.fa 0 (.tmp 12)⟩,
 ⟨none,none,.st 1 (.tmp 13) (.tmp 11)⟩]
def Wg:List CO:=[
 ⟨(some 14),none,.mv (.tmp 0)⟩,
 ⟨(some 15),none,.dU (.tmp 14)⟩,
 ⟨(some 16),none,.fa 0 (.tmp 15)⟩,
 ⟨(some 17),none,.jd (.tmp 16)⟩,
 ⟨(some 18),none,.mv (.tmp 0)⟩,
 ⟨(some 19),none,.eq true (.one .p) (.tmp 17) (.tmp 18)⟩]
noncomputable def Wi:KC :=
 (.seq (.bp JJ)
 (.cond (.tmp 6) (.bp Wh)
  (.seq (.bp Wg)
  (.cond (.tmp 19) .bad
   .skip))))
theorem Wj:bC dm Tryz.f306.ntmps Gx=Wi:=by kernel_rfl
theorem Wf:Tryz.f306.body=some Gx:=rfl
noncomputable def BB:Code:=(Tryz.f65.body).getD .skip
def Nz:List CO:=[
 ⟨(some 2),none,.mv (.const (.string ⟨#[]⟩))⟩]
def Ny:List CO:=[
 ⟨(some 3),none,.mv (.tmp 0)⟩,
 ⟨(some 4),none,.dU (.tmp 3)⟩,
 ⟨(some 5),none,.fa 1 (.tmp 4)⟩,
 ⟨(some 6),none,.jd (.tmp 5)⟩,
 ⟨(some 7),none,.usd (.tmp 6)⟩,
 ⟨(some 8),none,.mv (.tmp 0)⟩,
 ⟨(some 9),none,.dU (.tmp 8)⟩,
 ⟨(some 10),none,.fa 1 (.tmp 9)⟩,
 ⟨(some 11),none,.jd (.tmp 10)⟩,
 ⟨(some 12),none,.len 1 (.tmp 11)⟩,
 ⟨(some 13),none,.Rl 5 (.tmp 7) (.tmp 12)⟩,
 ⟨(some 2),none,.mv (.tmp 13)⟩]
noncomputable def JW:KC :=
 (.seq (.bp Nz)
 (.seq (.draw #[0,1,3,7,15,0,32,96,224,480,1023,2047] Ny)
 .ret))
theorem Qs:bC dm Tryz.f65.ntmps BB=JW:=by kernel_rfl
theorem Qr:Tryz.f65.body=some BB:=rfl
noncomputable def BC:Code:=(Tryz.f324.body).getD .skip
def ND:List CO:=[
 ⟨(some 2),none,.mv (.const (.int .i64 (0)))⟩]
def NC:List CO:=[
 ⟨(some 3),none,.mv (.tmp 0)⟩,
 ⟨(some 4),none,.dU (.tmp 3)⟩,
 ⟨(some 5),none,.fa 1 (.tmp 4)⟩,
 ⟨(some 6),none,.jd (.tmp 5)⟩,
 ⟨(some 7),none,.len 1 (.tmp 6)⟩,
 ⟨(some 2),none,.mv (.tmp 7)⟩]
noncomputable def J0:KC :=
 (.seq (.bp ND)
 (.seq (.bp NC)
 .ret))
theorem Qv:bC dm Tryz.f324.ntmps BC=J0:=by kernel_rfl
theorem Qu:Tryz.f324.body=some BC:=rfl
end Go.Proofs.CA
end
noncomputable section
namespace Go.Proofs.CA
open Go Go.Ev Go.Proofs Go.Proofs.MN
open Go.Ar (By)
theorem aj3:dm.fn 306=some Tryz.f306:=by kernel_rfl
theorem ajW:dm.fn 506=some Tryz.f506:=by kernel_rfl
theorem ajZ:dm.fn 461=some Tryz.f461:=by kernel_rfl
theorem ajX:dm.fn 466=some Tryz.f466:=by kernel_rfl
theorem ajV:dm.fn 507=some Tryz.f507:=by kernel_rfl
theorem ajY:dm.fn 462=some Tryz.f462:=by kernel_rfl
theorem aj0:dm.fn 407=some Tryz.f407:=by kernel_rfl
theorem aoa:dm.fn 65=some Tryz.f65:=by kernel_rfl
theorem aj1:dm.fn 324=some Tryz.f324:=by kernel_rfl
section
variable [dj]
structure p_ (H:Hp) (n sb bb:Nat) (L:List Value) (c:Nat):Prop where
 fn:H.bG=true
 ge:n<=sb
 form:(Row H sb 559 0 [.pointer none,.slice none 0 0,iN c]/\L=[]/\bb=sb)\/∃ v,Row H sb 559 0 [pA sb 0,v,iN c]/\GW n 5 H bb v L/\bb≠sb
structure BI (H H':Hp) (sb bb bb':Nat):Prop where
 nx:H.nx<=H'.nx
 old:∀ b,b<H.nx->b≠sb->b≠bb->H'.blk b=H.blk b
 new:bb'=bb\/H.nx<=bb'
theorem BI.refl (H:Hp) (sb bb:Nat):BI H H sb bb bb:=⟨Nat.le_refl _,λ_ _ _ _=>rfl,.inl rfl⟩
theorem BI.trans {H H1 H2:Hp} {sb b0 b1 b2:Nat} (h:BI H H1 sb b0 b1) (k:BI H1 H2 sb b1 b2):BI H H2 sb b0 b2 :=
 ⟨Nat.le_trans h.nx k.nx,λb hb h1 h2=>by
   have h3:b≠b1:=by rcases h.new with e|e<;>omega
   rw[k.old b (Nat.lt_of_lt_of_le hb h.nx) h1 h3,h.old b hb h1 h2],by
   rcases k.new with e|e
   ·rcases h.new with e1|e1
    ·exact .inl (e.trans e1)
    ·exact .inr (by omega)
   ·exact .inr (by have:=h.nx;omega)⟩
end
section
attribute [local go_sem] au aj GT dF gF aR Yj Yk Yl Ym Yn Yo Yp Yq Yr and_self and_true cV cU cQ cP cN cM bx ig ic de dR aP bw af cJ cI bP cG cF cE if_false if_true dM dD bM run true_and ck bL bK bJ bI bf bu
variable [dj] {sp:Nat->List Value->Hp->Option (Value×Hp×Nat×Nat)} {e:Env}
structure SpW (sp:Nat->List Value->Hp->Option (Value×Hp×Nat×Nat)):Prop where
 no:∀ f,f∈[306,506,461,466,507,462,407,65,324]->∀ args H,sp f args H=none
 esc:∀ x H,dL x=none->sp 367 [x] H=some (x,H,0,0)
theorem l8 {tb:Tb} {f:FuncId} {args:List Value} {H H':Hp} {v:Value} {r w:Nat} {K:Value->Hp->Prop} (h:sp f args H=some (v,H',r,w)) (hp:dL v=none) (hok:e.ok r w H') (hn:H.nx<=H'.nx) (hk:K v H'):EC tb sp e f args H K:=by
 refine⟨1,v,H',r,w,?_,hok,hn,hk⟩
 show f_ tb sp (ev tb sp 0) (.call f args) H=_
 simp only[f_,h,eO,hp]
theorem l9 (b o:Nat) (Hq:Hp):mF (pA b o) Hq=.val (pA b o) Hq 0 0:=rfl
theorem aft (S:SpW sp) {H:Hp} {n sb bb c:Nat} {L:List Value} (hs:p_ H n sb bb L c) (he:e.n0<=n) :
 EC dm sp e 306 [pA sb 0] H λv H'=>v=.tuple #[]/\H'.nx=H.nx/\H'.bG=true/\(∀ b,b≠sb->H'.blk b=H.blk b)/\∃ w,Row H' sb 559 0 [pA sb 0,w,iN c]/\((L=[]/\w=.slice none 0 0/\bb=sb)\/(GW n 5 H' bb w L/\bb≠sb)):=by
 refine EC.i1 aj3 Wf Wj (S.no 306 (by decide) _ _) (by show 1<=20;decide) λt0 g0=>?_
 show WK dm sp e ⟨2,20,none,false⟩ Wi t0 [] H _
 unfold Wi
 refine WK.seq ?_
 have hge:=hs.ge
 have hf:=hs.fn
 rcases hs.form with⟨hr,rfl,rfl⟩|⟨w,hr,ho,hne⟩
 ·have lQ:dA (pA bb 0) H=.val (.pointer none) H (bit bb) 0:=aV hr rfl
  have tA:e.ok (bit bb) 0 H:=pV hr (by omega)
  have CC:∀ Hq,jo false (.one .p) (.pointer none) (.pointer none) Hq=.val (.bool true) Hq 0 0:=λ_=>rfl
  refine WK.av ?_
  refine aR.all (λt' H'=>H=H'/\GT t' [(0,pA bb 0),(6,.bool true)]) ?_ ?_
  ·simp +decide only[JJ,g0,lQ,tA,l9,CC,Xo 2,go_sem]
  rintro t1 _ ⟨rfl,dQ,ux, -⟩
  refine WK.cond (v:=true) (by rw[af,ux];rfl) ?_
  have hsh:=hr
  obtain⟨t,hb,ht⟩:=hsh
  have wA:Gh (pA bb 0) H=.val (pA bb 0) H (bit bb) 0:=by
   show(match H.blk bb with|.cells _ n _ _ _ _=>_|_=>_)=_
   rw[hb];rfl
  have wv:Gk [(127,2,0),(128,2,0),(129,22,13),(130,22,13),(558,3,0),(559,3,0)] (pA bb 0) H=.val (pA bb 0) H (bit bb) 0:=by
   show(match H.blk bb with|.cells _ n ty 0 _ _=>_|_=>_)=_
   rw[hb];rfl
  obtain⟨H1,e1,wr⟩:=fA (v:=pA bb 0) rfl hf hr (o:=0) (by show 0+1<=3;decide)
  have Tn:e.ok 0 (bit bb) H1:=wm wr.row (by omega)
  have qC:H.nx<=H1.nx:=by rw[wr.nx];exact Nat.le_refl _
  refine WK.av ?_
  refine aR.iX λK0 qD=>?_
  simp +decide only[Wh,dQ,wA,tA,Xo 2,go_sem]
  refine l8 (S.esc _ _ rfl) rfl (Env.ok.zero _ _) (Nat.le_refl _) ?_
  rw[fC]
  refine aR.all (λt' H'=>H1=H') ?_ ?_
  ·simp +decide only[dQ,wv,tA,l9,e1,Tn,qC,Xo 2,go_sem]
  rintro t2 _ rfl
  refine qD _ _ ?_
  refine⟨.inl rfl,rfl,[],0,rfl,.zero _ _,rfl,wr.nx,wr.fn,wr.dS,_,wr.row,.inl ⟨rfl,rfl,rfl⟩⟩
 ·have lQ:dA (pA sb 0) H=.val (pA sb 0) H (bit sb) 0:=aV hr rfl
  have tA:e.ok (bit sb) 0 H:=pV hr (by omega)
  have CC:∀ Hq,jo false (.one .p) (pA sb 0) (.pointer none) Hq=.val (.bool false) Hq 0 0:=λ_=>rfl
  have wA:∀ Hq,jo true (.one .p) (pA sb 0) (pA sb 0) Hq=.val (.bool false) Hq 0 0:=λHq=>by
   have h:V2 (.one .p) (pA sb 0) (pA sb 0)=some true:=by
    show Bc (Nat.beq sb sb) (some (Nat.beq 0 0)) none=_
    rw[(beq_iff sb sb).2 rfl];rfl
   unfold jo
   rw[h];rfl
  refine WK.av ?_
  refine aR.all (λt' H'=>H=H'/\GT t' [(0,pA sb 0),(6,.bool false)]) ?_ ?_
  ·simp +decide only[JJ,g0,lQ,tA,l9,CC,Xo 2,go_sem]
  rintro t1 _ ⟨rfl,dQ,ux, -⟩
  refine WK.cond (v:=false) (by rw[af,ux];rfl) ?_
  refine WK.seq ?_
  refine WK.av ?_
  refine aR.all (λt' H'=>H=H'/\GT t' [(0,pA sb 0),(19,.bool false)]) ?_ ?_
  ·simp +decide only[Wg,dQ,lQ,tA,l9,wA,Xo 2,go_sem]
  rintro t2 _ ⟨rfl,dV,ajn, -⟩
  refine WK.cond (v:=false) (by rw[af,ajn];rfl) ?_
  refine WK.skip ?_
  refine⟨.inl rfl,rfl,[],0,rfl,.zero _ _,rfl,rfl,hf,λ_ _=>rfl,_,hr,.inr ⟨ho,hne⟩⟩
theorem Rb (S:SpW sp) {H:Hp} {n sb bb c:Nat} {x:UInt8} {L:List Value} (hs:p_ H n sb bb L c) (he:e.n0<=n) (hL:L.length<100000) :
 EC dm sp e 506 [pA sb 0,uB x] H λv H'=>v=.nilIface/\∃ bb',p_ H' n sb bb' (L++[uB x]) c/\BI H H' sb bb bb':=by
 refine EC.i2 ajW Q8 Re (S.no 506 (by decide) _ _) (by show 2<=17;decide) λt0 g0 g1=>?_
 show WK dm sp e ⟨2,17,none,false⟩ Rc t0 [] H _
 unfold Rc
 have hge:=hs.ge
 refine WK.seq ?_
 refine WK.av ?_
 refine aR.all (λt' H'=>H=H'/\GT t' [(0,pA sb 0),(1,uB x)]) ?_ ?_
 ·simp +decide only[Ra,g0,g1,Xo 2,go_sem]
 rintro t1 _ ⟨rfl,dQ,iJ, -⟩
 refine WK.seq ?_
 refine WK.av ?_
 refine aR.iX λK0 qD=>?_
 simp +decide only[Q_,dQ,Xo 2,go_sem]
 refine EC.mono (aft S hs he) λv H1 _ hv=>?_
 obtain⟨rfl,ahh,My,hel,w,hr,hw⟩:=hv
 rw[fC]
 refine aR.all (λt' H'=>H1=H'/\GT t' [(0,pA sb 0),(1,uB x)]) ?_ ?_
 ·simp +decide only[dQ,iJ,Xo 2,go_sem]
 rintro t2 _ ⟨rfl,dV,jL, -⟩
 refine qD _ _ ?_
 refine WK.seq ?_
 have lQ:dA (pA sb (0+1)) H1=.val w H1 (bit sb) 0:=aV hr rfl
 have tA:e.ok (bit sb) 0 H1:=pV hr (by omega)
 have ad8:=hr.lt
 obtain⟨H2,hH2⟩:∃ H2,H2=H1.push (aG [uB x] 5 0):=⟨_,rfl⟩
 have nX:∀ t':T Value,t'.get 12=uB x->bD (bH t' [.int .u8 0] [(0,1,.tmp 12)]) (λl=>aS (aG l 5 0) H1 (λi=>c_ (some (i,0)) 1 1 false) 0 0)=.val (sC H1.nx 0 1 2) H2 0 0:=λt' g=>by
  rw[uD (w:=uB x) (by rw[af,g];rfl),bS,hH2]
  exact pQ My [uB x] 5 1
 have UH:H2.bG=true:=by rw[hH2,cg];exact My
 have nx2:H2.nx=H1.nx+1:=by rw[hH2,aZ]
 have hrow:Row H2 H1.nx 5 0 [uB x]:=by rw[hH2];exact fq (aO My) _ _ _
 have old2:∀ b,b<H1.nx->H2.blk b=H1.blk b:=λb hb=>by rw[hH2];exact a_ (aO My) _ hb
 have hc:eI H2 1 1 (sC H1.nx 0 1 2)=some ([uB x],bit H1.nx):=jf hrow (by show 0+1*1<=1;decide)
 have Z6:e.ok (bit H1.nx) 0 H2:=pV hrow (by omega)
 have anE:∃ w' H3 r' w'',iQ 5 1 1 w (sC H1.nx 0 1 2) H2=.val w' H3 r' w''/\e.ok r' w'' H3/\H3.nx=H2.nx+1/\GW n 5 H3 H2.nx w' (L++[uB x])/\H3.bG=true/\(∀ b,b<H2.nx->b≠bb->H3.blk b=H2.blk b)/\H3.blk sb=H2.blk sb:=by
  rcases hw with⟨rfl,rfl,rfl⟩|⟨ho,hne⟩
  ·refine⟨_,_,_,_,pL (aO UH) rfl (by decide) hc (jX (by decide) (by decide)),⟨Z6.rd,Z6.wr,λb h=>by rw[aZ];have:=Z6.lt b h;omega⟩,aZ _ _,⟨by omega,.inr ⟨fq (aO UH) _ _ _,rfl⟩⟩,by rw[cg];exact UH,λb hb _=>a_ (aO UH) _ hb,a_ (aO UH) _ (by omega)⟩
  ·have FQ:=ho.bF (old2 bb ho.lt)
   obtain⟨w',H3,r',w'',a1,a2,a3,a4,a5,a6⟩:=FQ.app (by_:=1) he UH rfl (by decide) hc rfl Z6 (by omega)
   exact⟨w',H3,r',w'',a1,a2,a3,a4,a5,a6,a6 sb (by omega) (λh=>hne h.symm)⟩
 obtain⟨w',H3,r',w'',CC,zM,nx3,own3,hf3,old3,sb3⟩:=anE
 have ape:bb<H1.nx:=by
  rcases hw with⟨_,_,rfl⟩|⟨ho,_⟩
  ·exact ad8
  ·exact ho.lt
 have hr3:Row H3 sb 559 0 [pA sb 0,w,iN c]:=(hr.bF (old2 sb ad8)).bF sb3
 have hone:bQ w'=true:=by
  obtain⟨_,_,_,rfl⟩:=own3.row;rfl
 obtain⟨H4,e4,wr4⟩:=fA (v:=w') hone hf3 hr3 (o:=1) (by show 1+1<=3;decide)
 have Tm:e.ok 0 (bit sb) H4:=wm wr4.row (by omega)
 have n1_:H1.nx<=H2.nx:=by omega
 have DZ:H2.nx<=H3.nx:=by omega
 have n3_:H3.nx<=H4.nx:=by rw[wr4.nx];exact Nat.le_refl _
 have e4:i_ 1 (pA sb (0+1)) w' H3=.val U H4 0 (bit sb):=e4
 refine WK.av ?_
 refine aR.cut 6 (λt' H'=>H1=H'/\GT t' [(7,pA sb 0),(11,w),(12,uB x)]) ?_ ?_
 ·simp +decide only[G_,List.take,dV,jL,lQ,tA,l9,Xo 2,go_sem]
 rintro tq _ ⟨rfl,an1,ajG,ajF, -⟩
 refine aR.all (λt' H'=>H4=H') ?_ ?_
 ·simp +decide only[G_,List.drop,an1,ajG,nX _ ajF,l9,CC,zM,e4,Tm,n1_,DZ,n3_,Xo 2,go_sem]
 rintro t3 _ rfl
 refine WK.seq ?_
 refine WK.av ?_
 refine aR.all (λt' H'=>H4=H'/\GT t' [(4,.nilIface)]) ?_ ?_
 ·simp +decide only[Q9,Xo 2,go_sem]
 rintro t4 _ ⟨rfl,yB, -⟩
 have ahj:H2.nx≠sb:=by omega
 refine WK.ret ⟨.inr rfl,rfl,[.nilIface],0,?_,.zero _ _,rfl,H2.nx,⟨wr4.fn,hge,.inr ⟨w',wr4.row,own3.bF (wr4.dS _ ahj),ahj⟩⟩,⟨by omega,λb hb h1 h2=>?_,.inr (by omega)⟩⟩
 ·show eg dm 17 t4 _ [.tmp 4]=_
  simp only[eg,yB];rfl
 ·rw[wr4.dS b h1,old3 b (by omega) h2,old2 b (by omega),hel b h1]
end
section
variable [dj] {e:Env}
theorem p_.ldc {H:Hp} {n sb bb c:Nat} {L:List Value} (hs:p_ H n sb bb L c) (he:e.n0<=n):dA (pA sb 2) H=.val (iN c) H (bit sb) 0/\e.ok (bit sb) 0 H/\sb<H.nx:=by
 have hge:=hs.ge
 rcases hs.form with⟨hr,_,_⟩|⟨w,hr,_,_⟩
 ·exact⟨aV hr rfl,pV hr (by omega),hr.lt⟩
 ·exact⟨aV hr rfl,pV hr (by omega),hr.lt⟩
theorem p_.stc {H:Hp} {n sb bb c:Nat} {L:List Value} (hs:p_ H n sb bb L c) (he:e.n0<=n) (c':Nat) :
 ∃ H1,i_ 1 (pA sb 2) (iN c') H=.val U H1 0 (bit sb)/\e.ok 0 (bit sb) H1/\p_ H1 n sb bb L c'/\H1.nx=H.nx/\BI H H1 sb bb bb:=by
 have hge:=hs.ge
 rcases hs.form with⟨hr,h1,h2⟩|⟨w,hr,ho,hne⟩
 ·obtain⟨H1,e1,wr⟩:=fA (v:=iN c') rfl hs.fn hr (o:=2) (by show 2+1<=3;decide)
  exact⟨H1,e1,wm wr.row (by omega),⟨wr.fn,hge,.inl ⟨wr.row,h1,h2⟩⟩,wr.nx,by rw[wr.nx];exact Nat.le_refl _,λb _ h _=>wr.dS b h,.inl rfl⟩
 ·obtain⟨H1,e1,wr⟩:=fA (v:=iN c') rfl hs.fn hr (o:=2) (by show 2+1<=3;decide)
  exact⟨H1,e1,wm wr.row (by omega),⟨wr.fn,hge,.inr ⟨w,wr.row,ho.bF (wr.dS _ hne),hne⟩⟩,wr.nx,by rw[wr.nx];exact Nat.le_refl _,λb _ h _=>wr.dS b h,.inl rfl⟩
end
section
attribute [local go_sem] au aj GT dF gF aR Yj Yk Yl Ym Yn Yo Yp Yq Yr and_self and_true cV cU cQ cP cN cM bx ig ic de dR aP bw af cJ cI bP cG cF cE if_false if_true dM dD bM run true_and ck bL bK bJ bI bf bu l9
variable [dj] {sp:Nat->List Value->Hp->Option (Value×Hp×Nat×Nat)} {e:Env}
theorem EF (L:List Value) (i:Nat) (v:Value):L++List.replicate i v++[v]=L++List.replicate (i+1) v:=by
 rw[List.append_assoc,List.replicate_succ']
theorem Nc (S:SpW sp) {H:Hp} {n sb bb c k:Nat} {L:List Value} (hs:p_ H n sb bb L c) (he:e.n0<=n) (hk:k<=99) (hL:L.length<90000) :
 EC dm sp e 461 [pA sb 0,iN k] H λv H'=>v=.tuple #[]/\∃ bb',p_ H' n sb bb' (L++List.replicate k (uB 10)) (if k=0 then c else 1)/\BI H H' sb bb bb':=by
 refine EC.i2 ajZ P2 P3 (S.no 461 (by decide) _ _) (by show 2<=15;decide) λt0 g0 g1=>?_
 show WK dm sp e ⟨2,15,none,false⟩ Jw t0 [] H _
 unfold Jw
 refine WK.seq ?_
 refine WK.av ?_
 refine aR.all (λt' H'=>H=H'/\GT t' [(0,pA sb 0),(4,iN k),(5,iN 0)]) ?_ ?_
 ·simp +decide only[Nb,g0,g1,Xo 2,go_sem]
  exact rfl
 rintro t1 _ ⟨rfl,dQ,zV,yy, -⟩
 refine WK.block (WK.eR (λm t' ds' H'=>ds'=[]/\∃ i:Nat,m=k-i/\i<=k/\(∃ b',p_ H' n sb b' (L++List.replicate i (uB 10)) (if i=0 then c else 1)/\BI H H' sb bb b')/\t'.get 0=pA sb 0/\t'.get 4=iN k/\t'.get 5=iN i) ?_ _ t1 [] H ⟨rfl,0,rfl,by omega,⟨bb,by simpa using hs,.refl _ _ _⟩,dQ,zV,yy⟩)
 rintro m_ tl ds_ Hl ⟨rfl,i,rfl,hi,⟨bl,nY,hst⟩,ku,yz,zT⟩
 unfold Nd
 refine WK.seq ?_
 by_cases hlt:i<k
 case pos =>
  refine WK.av ?_
  have d_:decide (((i:Nat):Int)<((k:Nat):Int))=true:=decide_eq_true (by omega)
  refine aR.all (λt' H'=>Hl=H'/\GT t' [(0,pA sb 0),(4,iN k),(5,iN i),(6,.bool true)]) ?_ ?_
  ·simp +decide only[Dv,ku,yz,zT,d_,Xo 2,go_sem]
  rintro t2 _ ⟨rfl,dV,mB,qF,lC, -⟩
  refine WK.seq ?_
  refine WK.cond (v:=true) (by rw[af,lC];rfl) ?_
  refine WK.skip ?_
  refine WK.seq ?_
  refine WK.block ?_
  refine WK.seq ?_
  refine WK.av ?_
  refine aR.iX λK0 qD=>?_
  simp +decide only[Na,dV,Xo 2,go_sem]
  refine EC.mono (Rb S (x:=10) nY he (by rw[List.length_append,List.length_replicate];omega)) λv H1 _ hv=>?_
  obtain⟨rfl,b1,hs1,FO⟩:=hv
  rw[fC]
  refine aR.all (λt' H'=>H1=H'/\GT t' [(0,pA sb 0),(4,iN k),(5,iN i)]) ?_ ?_
  ·simp +decide only[dV,mB,qF,Xo 2,go_sem]
  rintro t3 _ ⟨rfl,iq,zU,n8, -⟩
  refine qD _ _ ?_
  obtain⟨H2,e2,o2,hs2,nx2,qB⟩:=hs1.stc he 1
  have DZ:H1.nx<=H2.nx:=by omega
  have e2:i_ 1 (pA sb 2) (.int .i64 1) H1=.val U H2 0 (bit sb):=e2
  refine WK.av ?_
  refine aR.all (λt' H'=>H2=H'/\GT t' [(0,pA sb 0),(4,iN k),(5,iN i)]) ?_ ?_
  ·simp +decide only[M_,iq,zU,n8,e2,o2,DZ,Xo 2,go_sem]
  rintro t4 _ ⟨rfl,gV,yB,nC, -⟩
  refine WK.av ?_
  have w_:Value.int .i64 (aN .i64 (((i:Nat):Int)+(1:Int)))=.int .i64 (((i+1):Nat):Int):=wF (by omega)
  refine aR.all (λt' H'=>H2=H'/\GT t' [(0,pA sb 0),(4,iN k),(5,iN (i+1))]) ?_ ?_
  ·simp +decide only[MZ,gV,yB,nC,w_,Xo 2,go_sem]
  rintro t5 _ ⟨rfl,kz,FX,uy, -⟩
  refine⟨_,by omega,rfl,i+1,rfl,by omega,⟨b1,?_,(hst.trans FO).trans qB⟩,kz,FX,uy⟩
  rw[if_neg (by omega),<-EF];exact hs2
 case neg =>
  obtain rfl:i=k:=by omega
  refine WK.av ?_
  have d_:decide (((i:Nat):Int)<((i:Nat):Int))=false:=decide_eq_false (by omega)
  refine aR.all (λt' H'=>Hl=H'/\GT t' [(6,.bool false)]) ?_ ?_
  ·simp +decide only[Dv,yz,zT,d_,Xo 2,go_sem]
  rintro t3 _ ⟨rfl,nZ, -⟩
  refine WK.seq ?_
  refine WK.cond (v:=false) (by rw[af,nZ];rfl) ?_
  refine WK.exit ?_
  exact⟨.inl rfl,rfl,[],0,rfl,.zero _ _,rfl,bl,nY,hst⟩
end
end Go.Proofs.CA
end
