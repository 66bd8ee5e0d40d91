/-
 A part of the reckoner for the statements of a Go program: what it answers,the model answers. Holds for every program whose tables are as given.
-/
import Derived.Test.YtdmcanlbncbemaaGreatDoorG04
set_option linter.unusedSimpArgs false
set_option linter.unusedVariables false
set_option linter.unusedSectionVars false
set_option maxRecDepth 100000
set_option maxHeartbeats 8000000
noncomputable section
namespace Go.Ev
variable [dj]
section
variable {P:Program} {tb:Tb} {d nt:Nat} {eL:Option Nat} {ops:Array Oper} {B:Array Nat} {n:Nat} (D:Dr P tb d nt eL ops B n)
theorem Ez {S:Nat->Bool} {rt wt j b:Nat} (hj:j<n) (hb:∀ i,i<j->(B.getD j 0).testBit i=true->S i=true) (hr:sub (D.r j) rt) (hw:sub (D.w j) wt)
 (hf:(D.r j).testBit b=true\/(D.w j).testBit b=true) (hlt:b<(D.H j).nx):D.scope S rt wt b:=by
 rcases Nat.lt_or_ge b (D.H 0).nx with h0|h0
 ·exact .inl ⟨h0,hf.imp (hr b) (hw b)⟩
 ·obtain⟨k,hk,Mu⟩:=o6 D j (by omega) h0 hlt
  refine .inr ⟨k,by omega,?_,Mu⟩
  cases hs:S k with
  |true=>rfl
  |false =>
   exfalso
   rcases D.ind k j hk hj with h|⟨h,_⟩
   ·rw[hb k hk h]at hs;cases hs
   ·have:=h b (.inr Mu)
    rcases hf with hf|hf
    ·rw[this.1]at hf;cases hf
    ·rw[this.2.1]at hf;cases hf
theorem Aj {S:Nat->Bool} {wt j b:Nat} (hj:j<n) (hb:∀ i,i<j->(B.getD j 0).testBit i=true->S i=true) (hw:sub (D.w j) wt) (hf:(D.w j).testBit b=true) (hlt:b<(D.H j).nx):D.mQ S wt b:=by
 rcases Ez D (rt:=D.r j) hj hb (λ_ h=>h) hw (.inr hf) hlt with h|h
 ·exact .inl ⟨h.1,hw b hf⟩
 ·exact .inr h
theorem xI {S:Nat->Bool} (hS:o_ B S) {β0 β:Mp} {W0 W:World} {a:Act} {rt wt r0 w0 j:Nat} {ds:List Deferred} (hj:j<n) (hn:S j=false) (hb:∀ i,i<j->(B.getD j 0).testBit i=true->S i=true) (hr:sub (D.r j) rt) (hw:sub (D.w j) wt)
 (p0:Pre β0 (D.H 0) (D.H n) r0 w0 W0) (I:GZ D S β0 W0 rt wt ds β W a):Pre β (D.H j) (D.H (j+1)) (D.r j) (D.w j) W:=by
 have hsc:=λ{b:Nat} (hf:oe (D.r j) (D.w j) b) (ha:alive (D.H j) b)=>Ez D hj hb hr hw hf ha.1
 have u0:=λ{b:Nat} (hf:(D.w j).testBit b=true) (ha:alive (D.H j) b)=>Aj D hj hb hw hf ha.1
 have hce:=λ{b:Nat} (hf:oe (D.r j) (D.w j) b) (ha:alive (D.H j) b)=>D.Nt hS hj hn hb hf ha.1
 refine⟨λb hf ha=>?_,λb c mb mc hfb hfc hab hac eb ec e=>?_,λb h1 h2=>?_,I.dom⟩
 ·have h1:=hce hf ha
  obtain⟨m,e,hB⟩:=I.rel b (hsc hf ha) (by rw[h1];exact ha.2)
  exact⟨m,e,by rw[h1]at hB;exact hB⟩
 ·exact I.inj b c mb mc (u0 hfb hab) (hsc hfc hac) (by rw[hce (qf hfb) hab];exact hab.2) (by rw[hce hfc hac];exact hac.2) eb ec e
 ·cases e:β b with
  |none=>rfl
  |some m =>
   exfalso
   have hm0:=D.mono (i:=0) (j:=j) (by omega) (by omega)
   have hmn:=D.mono (i:=j+1) (j:=n) (by omega) (by omega)
   have Xz:=p0.fresh b (by omega) (by omega)
   obtain⟨k,hk,hs,Mu⟩:=I.only b m e Xz
   have:=QA D hk hj Mu ⟨h1,h2⟩
   subst this
   rw[hn]at hs;cases hs
end
end Go.Ev
end
noncomputable section
namespace Go.Ev
variable [dj]
section
variable {P:Program} {tb:Tb} {d nt:Nat} {eL:Option Nat} {ops:Array Oper} {B:Array Nat} {n:Nat} (D:Dr P tb d nt eL ops B n)
theorem AM {S:Nat->Bool} {j b:Nat} (h:D.rX (di S j) b):D.rX S b\/((D.H j).nx<=b/\b<(D.H (j+1)).nx):=by
 obtain⟨k,hk,hs,hb⟩:=h
 by_cases e:k=j
 ·subst e;exact .inr hb
 ·exact .inl ⟨k,hk,by simpa [di,e] using hs,hb⟩
theorem Ij {S:Nat->Bool} {j b:Nat} (h:D.rX S b):D.rX (di S j) b:=by
 obtain⟨k,hk,hs,hb⟩:=h
 exact⟨k,hk,by simp[di,hs],hb⟩
theorem AG {S:Nat->Bool} (hS:o_ B S) {β0 β β':Mp} {W0 W W':World} {a:Act} {rt wt r0 w0 j:Nat} {ds:List Deferred} {o:Oper} {v':Value} (hap:QI ops B) (hj:j<n) (ho:ops[j]?=some o) (hn:S j=false)
 (hb:∀ i,i<j->(B.getD j 0).testBit i=true->S i=true) (hr:sub (D.r j) rt) (hw:sub (D.w j) wt)
 (p0:Pre β0 (D.H 0) (D.H n) r0 w0 W0) (hrt:sub rt r0) (gR:sub wt w0) (I:GZ D S β0 W0 rt wt ds β W a) (hv:ai β' (D.v j) v') (q:Post β β' (D.H j) (D.H (j+1)) (D.w j) W W') :
 GZ D (di S j) β0 W0 rt wt ds β' W' (a.put o.dst v'):=by
 have hm0:=D.mono (i:=0) (j:=j) (by omega) (by omega)
 have Da:=D.mono (i:=j) (j:=j+1) (by omega) (by omega)
 have hmn:=D.mono (i:=j+1) (j:=n) (by omega) (by omega)
 have pj:=xI D hS hj hn hb hr hw p0 I
 have hcan:=D.can hj
 have ct:=λ{b:Nat} (h:D.fQ j b=true)=>D.JK hS hj hn h
 have co:=λ{b:Nat} (h:D.fQ j b=false)=>D.JL hn h n
 have wr:∀ b,(D.w j).testBit b=true->b<(D.H j).nx->D.mQ S wt b/\D.cont S n b=(D.H j).blk b/\(D.H j).blk b≠.no:=λb h1 h2 =>
  ⟨Aj D hj hb hw h1 h2,D.Nt hS hj hn hb (.inr h1) h2,(hcan.He b h2 h1).2⟩
 have tq:∀ b,D.fQ j b=true->D.cont (di S j) n b≠.no->((D.H j).nx<=b\/(D.w j).testBit b=true)/\alive (D.H (j+1)) b:=by
  intro b h1 h2
  rw[ct h1]at h2
  refine⟨?_,(aH _ _).2 h2⟩
  rcases(eB D).1 h1 with h|h
  ·exact .inr h
  ·exact .inl h.1
 have sc:∀ b,D.fQ j b=false->D.scope (di S j) rt wt b->D.scope S rt wt b:=by
  intro b h1 h2
  rcases h2 with h2|h2
  ·exact .inl h2
  ·rcases AM D h2 with h|h
   ·exact .inr h
   ·rw[(eB D).2 (.inr h)]at h1;cases h1
 have scw:∀ b,D.fQ j b=false->D.mQ (di S j) wt b->D.mQ S wt b:=by
  intro b h1 h2
  rcases h2 with h2|h2
  ·exact .inl h2
  ·rcases AM D h2 with h|h
   ·exact .inr h
   ·rw[(eB D).2 (.inr h)]at h1;cases h1
 have known:∀ b m,D.fQ j b=false->D.scope (di S j) rt wt b->D.cont (di S j) n b≠.no->β' b=some m->β b=some m/\D.scope S rt wt b/\D.cont S n b≠.no:=by
  intro b m h1 h2 h3 e
  rw[co h1]at h3
  have hs:=sc b h1 h2
  obtain⟨m1,e1,_⟩:=I.rel b hs h3
  have:=q.le _ _ e1
  rw[e]at this;cases this
  exact⟨e1,hs,h3⟩
 refine⟨I.le.trans q.le,q.dom,λb m e h0=>?_,λb hs hc=>?_,λb c mb mc hsb hsc hcb lz eb ec e=>?_,λrb ob h1 h2=>?_,Nat.le_trans I.size q.size,λb m hb0 h0 e=>?_,
  ⟨q.env.1.trans I.env.1,q.env.2.1.trans I.env.2.1,q.env.2.2.trans I.env.2.2⟩,?_,?_,?_⟩
 ·cases e1:β b with
  |some m1=>exact Ij D (I.only b m1 e1 h0)
  |none =>
   have:=q.only b m e e1
   exact⟨j,hj,by simp[di],this⟩
 ·cases ht:D.fQ j b with
  |true =>
   obtain⟨t1,t2⟩:=tq b ht hc
   rw[ct ht]
   exact q.rel b t1 t2
  |false =>
   rw[co ht]at hc ⊢
   have hs':=sc b ht hs
   obtain⟨m,e,o1,G0,hr1⟩:=I.rel b hs' hc
   refine⟨m,q.le _ _ e,o1,?_,hr1.mono q.le⟩
   refine q.frame m.rb o1 G0 λc mc eG kg ec he=>?_
   obtain⟨s1,s2,s3⟩:=wr c kg eG
   have:=I.inj c b mc m s1 hs' (by rw[s2];exact s3) hc ec e he
   subst this
   rw[(eB D).2 (.inl kg)]at ht;cases ht
 ·
  have cross:∀ b c mb mc,D.fQ j b=true->D.fQ j c=false->D.scope (di S j) rt wt c->D.cont (di S j) n b≠.no->D.cont (di S j) n c≠.no->β' b=some mb->β' c=some mc->mb.rb=mc.rb->False:=by
   intro b c mb mc htb Uw hsc hcb lz eb ec e
   obtain⟨k1,k2,k3⟩:=known c mc Uw hsc lz ec
   obtain⟨t1,t2⟩:=tq b htb hcb
   by_cases hbl:b<(D.H j).nx
   ·have zR:(D.w j).testBit b=true:=t1.resolve_left (by omega)
    obtain⟨s1,s2,s3⟩:=wr b zR hbl
    obtain⟨m1,e1,_⟩:=I.rel b s1.scope (by rw[s2];exact s3)
    have:=q.le _ _ e1;rw[eb]at this;cases this
    have:=I.inj b c mb mc s1 k2 (by rw[s2];exact s3) k3 e1 k1 e
    subst this
    rw[htb]at Uw;cases Uw
   ·have hbf:β b=none:=pj.fresh b (by omega) t2.1
    rcases q.new b mb (by omega) hbf eb with h|⟨x,mx,hx,hxw,ex,erb,_⟩
    ·have:=I.dom c mc k1;omega
    ·obtain⟨s1,s2,s3⟩:=wr x hxw hx
     have:=I.inj x c mx mc s1 k2 (by rw[s2];exact s3) k3 ex k1 (by omega)
     subst this
     rw[(eB D).2 (.inl hxw)]at Uw;cases Uw
  cases htb:D.fQ j b with
  |true =>
   cases Uw:D.fQ j c with
   |true =>
    obtain⟨b1,b2⟩:=tq b htb hcb
    obtain⟨c1,c2⟩:=tq c Uw lz
    exact q.inj b c mb mc b1 c1 b2 c2 eb ec e
   |false=>exact(cross b c mb mc htb Uw hsc hcb lz eb ec e).elim
  |false =>
   cases Uw:D.fQ j c with
   |true=>exact(cross c b mc mb Uw htb hsb.scope lz hcb ec eb e.symm).elim
   |false =>
    obtain⟨b1,b2,b3⟩:=known b mb htb hsb.scope hcb eb
    obtain⟨c1,c2,c3⟩:=known c mc Uw hsc lz ec
    exact I.inj b c mb mc (scw b htb hsb) c2 b3 c3 b1 c1 e
 ·refine q.frame rb ob (I.frame rb ob h1 h2) λc mc eG kg ec=>?_
  obtain⟨s1,s2,s3⟩:=wr c kg eG
  by_cases hc0:c<(D.H 0).nx
  ·have ha0:=zg D hc0 (by omega:j<=n) s3
   obtain⟨m1,e1,_⟩:=p0.rel c (.inr (gR c (hw c kg))) ((aH _ _).2 ha0)
   have:=I.le _ _ e1;rw[ec]at this;cases this
   exact h2 c mc hc0 (hw c kg) e1
  ·have Xz:=p0.fresh c (by omega) (by omega)
   rcases I.new c mc (by omega) Xz ec with h|⟨x,mx,hx,hxw,ex,erb,_⟩
   ·have:rb<W0.heap.size:=by
     rcases Nat.lt_or_ge rb W0.heap.size with h'|h'
     ·exact h'
     ·simp[Array.getElem?_eq_none h']at h1
    omega
   ·have:=h2 x mx hx hxw ex;omega
 ·
  have deadkeep:∀ x,x<(D.H 0).nx->D.cont S n x=.no->D.cont (di S j) n x=.no:=by
   intro x hx hc
   cases ht:D.fQ j x with
   |false=>rw[co ht];exact hc
   |true =>
    rcases(eB D).1 ht with h|h
    ·obtain⟨s1,s2,s3⟩:=wr x h (by omega)
     rw[s2]at hc;exact absurd hc s3
    ·omega
  cases e1:β b with
  |some m1 =>
   have:=q.le _ _ e1;rw[e]at this;cases this
   rcases I.new b m hb0 h0 e1 with h|⟨c,mc,hc,kg,ec,erb,hd⟩
   ·exact .inl h
   ·exact .inr ⟨c,mc,hc,kg,ec,erb,deadkeep c hc hd⟩
  |none =>
   have hbb:=q.only b m e e1
   rcases q.new b m hbb.1 e1 e with h|⟨c,mc,hc,kg,ec,erb,hd⟩
   ·exact .inl (Nat.le_trans I.size h)
   ·obtain⟨s1,s2,s3⟩:=wr c kg hc
    by_cases hc0:c<(D.H 0).nx
    ·have ha0:=zg D hc0 (by omega:j<=n) s3
     obtain⟨m1,e2,_⟩:=p0.rel c (.inr (gR c (hw c kg))) ((aH _ _).2 ha0)
     have:=I.le _ _ e2;rw[ec]at this;cases this
     refine .inr ⟨c,mc,hc0,hw c kg,e2,erb,?_⟩
     rw[ct ((eB D).2 (.inl kg))]
     cases e3:(D.H (j+1)).blk c with
     |no=>rfl
     |_=>exact absurd ((aH _ _).2 (by rw[e3];simp)) hd
    ·have Xz:=p0.fresh c (by omega) (by omega)
     rcases I.new c mc (by omega) Xz ec with h|⟨x,mx,hx,hxw,ex,erb',IY⟩
     ·exact .inl (by omega)
     ·exact .inr ⟨x,mx,hx,hxw,ex,by omega,deadkeep x hx IY⟩
 ·cases o.dst<;>simp[Act.put,I.Xn]
 ·intro x hx
  rw[Oe D hap hS hj hn x]
  have hold:=(I.tmp x hx).mono q.le
  cases jv:o.dst with
  |none =>
   have:iC ops j x=false:=by simp[iC,ho,jv]
   rw[if_neg (by simp[this])]
   exact hold
  |some i =>
   have hsz:x<a.tmps.size:=by rw[I.Xn];exact hx
   by_cases e:i=x
   ·subst e
    have:iC ops j i=true:=(ja ho).2 jv
    rw[if_pos this]
    simpa [Act.put,Array.getD,hsz] using hv
   ·have:¬ (iC ops j x=true):=λh=>by
     have:=(ja ho).1 h;rw[jv]at this;cases this;exact e rfl
    rw[if_neg this]
    have hg:(a.put (some i) v').tmps.getD x undef=a.tmps.getD x undef:=by
     simp[Act.put,Array.getD,hsz,Array.getElem_setIfInBounds,e]
    rw[hg];exact hold
 ·have:(a.put o.dst v').defers=a.defers:=by cases o.dst<;>rfl
  rw[this];exact I.aax.mono q.le
end
end Go.Ev
end
noncomputable section
namespace Go.Ev
variable [dj]
def lJ (acc:Array Nat) (o:Oper):Array Nat:=acc.push (o.after.foldl (λs e=>if Region.binds .any e then s ||| 2 ^ e.on ||| acc.getD e.on 0 else s) 0)
theorem Qy (ops:Array Oper):Region.before ops=ops.toList.foldl lJ #[]:=by
 unfold Region.before
 rw[<-Array.foldl_toList]
 rfl
theorem PS (acc:Array Nat) (i:Nat):∀ (l:List Edge) (s:Nat),(l.foldl (λs e=>if Region.binds .any e then s ||| 2 ^ e.on ||| acc.getD e.on 0 else s) s).testBit i=true ->
 s.testBit i=true\/∃ e∈l,Region.binds .any e=true/\(i=e.on\/(acc.getD e.on 0).testBit i=true):=by
 intro l
 induction l with
 |nil=>intro s h;exact .inl h
 |cons e l ih =>
  intro s h
  rw[List.foldl_cons]at h
  rcases ih _ h with h1|⟨x,hx,h2⟩
  ·by_cases hb:Region.binds .any e=true
   ·rw[if_pos hb]at h1
    rw[Nat.testBit_or,Nat.testBit_or]at h1
    simp only[Bool.or_eq_true]at h1
    rcases h1 with(h1|h1)|h1
    ·exact .inl h1
    ·rw[Nat.testBit_two_pow]at h1
     exact .inr ⟨e,by simp,hb,.inl (by simp at h1;exact h1.symm)⟩
    ·exact .inr ⟨e,by simp,hb,.inr h1⟩
   ·rw[if_neg hb]at h1
    exact .inl h1
  ·exact .inr ⟨x,by simp[hx],h2⟩
theorem aaU:∀ (l:List Oper) (acc:Array Nat),(∀ k,k<acc.size->(l.foldl lJ acc).getD k 0=acc.getD k 0) /\
 ∀ (k:Nat) o,l[k]?=some o->∀ i,((l.foldl lJ acc).getD (acc.size+k) 0).testBit i=true->∃ e∈o.after.toList,Region.binds .any e=true/\(i=e.on\/((l.foldl lJ acc).getD e.on 0).testBit i=true):=by
 intro l
 induction l with
 |nil=>intro acc;exact⟨λk _=>rfl,λk o h=>by simp at h⟩
 |cons o l ih =>
  intro acc
  have hsz:(lJ acc o).size=acc.size+1:=by simp[lJ]
  obtain⟨h1,h2⟩:=ih (lJ acc o)
  have old:∀ k,k<acc.size->(lJ acc o).getD k 0=acc.getD k 0:=by
   intro k hk
   rw[Array.getD_eq_getD_getElem?,Array.getD_eq_getD_getElem?]
   show(((acc.push _)[k]?).getD 0)=_
   rw[Array.getElem?_push_lt hk]
   simp[hk]
  have keep:∀ k,k<acc.size->(List.foldl lJ acc (o::l)).getD k 0=acc.getD k 0:=by
   intro k hk
   rw[List.foldl_cons,h1 k (by omega),old k hk]
  refine⟨keep,λk o1 ho i hi=>?_⟩
  cases k with
  |zero =>
   simp at ho;subst ho
   rw[List.foldl_cons,Nat.add_zero,h1 acc.size (by omega)]at hi
   have hnew:(lJ acc o).getD acc.size 0=o.after.foldl (λs e=>if Region.binds .any e then s ||| 2 ^ e.on ||| acc.getD e.on 0 else s) 0:=by
    rw[Array.getD_eq_getD_getElem?]
    show(((acc.push _)[acc.size]?).getD 0)=_
    rw[Array.getElem?_push_size];rfl
   rw[hnew,<-Array.foldl_toList]at hi
   rcases PS acc i _ _ hi with h|⟨e,he,hb,h⟩
   ·simp at h
   ·refine⟨e,he,hb,h.imp id λh=>?_⟩
    have hlt:e.on<acc.size:=by
     rcases Nat.lt_or_ge e.on acc.size with h'|h'
     ·exact h'
     ·simp[Array.getD,Nat.not_lt.2 h']at h
    rw[keep _ hlt];exact h
  |succ k =>
   simp at ho
   have:=h2 k o1 ho i (by rw[hsz,show acc.size+1+k=acc.size+(k+1)from by omega];exact hi)
   exact this
theorem vk {ops:Array Oper} {j:Nat} {o:Oper} (ho:ops[j]?=some o) {i:Nat} (h:((Region.before ops).getD j 0).testBit i=true) :
 ∃ e∈o.after,Region.binds .any e=true/\(i=e.on\/((Region.before ops).getD e.on 0).testBit i=true):=by
 rw[Qy]at h ⊢
 obtain⟨e,he,hb,hx⟩:=(aaU ops.toList #[]).2 j o (by simpa using ho) i (by simpa using h)
 exact⟨e,by simpa using he,hb,hx⟩
end Go.Ev
end
noncomputable section
namespace Go.Ev
variable [dj]
section
variable {P:Program} {tb:Tb} {d nt:Nat} {eL:Option Nat} {ops:Array Oper} (D:Dr P tb d nt eL ops (Region.before ops) ops.size)
def tw (ops:Array Oper) (S:Nat->Bool):Prop:=∀ k,S k=true->∀ i,((Region.before ops).getD k 0).testBit i=true->S i=true
theorem tw.closed {S:Nat->Bool} (h:tw ops S):o_ (Region.before ops) S:=λk hk i _ hb=>h k hk i hb
def gU (listed:Array Bool):Nat->Bool:=λk=>listed.getD k false
theorem gQ {listed:Array Bool} {j:Nat} (hj:j<listed.size):gU (listed.setIfInBounds j true)=di (gU listed) j:=by
 funext k
 unfold gU di
 by_cases e:j=k
 ·subst e;simp[hj]
 ·have:(k==j)=false:=by simp;exact λh=>e h.symm
  rw[this,Bool.or_false]
  exact getD_set_ne false e
def aa4 (ops:Array Oper):Prop:=∀ (j:Nat) o,ops[j]?=some o->∀ e∈o.after,Region.binds .any e=true->e.on<j
theorem AF {listed:Array Bool} (hf:aa4 ops) (hs:listed.size=ops.size) (h:Region.ready .any ops listed=[]):∀ k,k<ops.size->gU listed k=true:=by
 intro k
 induction k using Nat.strongRecOn with
 |_ k ih =>
  intro hk
  cases hl:gU listed k with
  |true=>rfl
  |false =>
   exfalso
   obtain⟨o,ho⟩:∃ o,ops[k]?=some o:=⟨ops[k],by simp[hk]⟩
   have:k∈Region.ready .any ops listed:=by
    rw[mem_ready]
    refine⟨?_,o,ho,λe he hb=>ih e.on (hf k o ho e he hb) (by have:=hf k o ho e he hb;omega)⟩
    have hk':k<listed.size:=by omega
    simp only[gU,Array.getD,hk',dif_pos]at hl ⊢
    exact hl
   rw[h]at this;cases this
theorem V9 {β0:Mp} {W0:World} {rt wt r0 w0:Nat} {ds:List Deferred} {F:Fence} {Q:Exit->Act->World->Prop} (hd:nt<8 ^ d) (hap:QI ops (Region.before ops)) (hf:aa4 ops)
 (hrw:∀ i,i<ops.size->sub (D.r i) rt/\sub (D.w i) wt) (p0:Pre β0 (D.H 0) (D.H ops.size) r0 w0 W0) (hrt:sub rt r0) (gR:sub wt w0) (hg:cX tb.ng β0) (hF:o9 β0 eL F)
 (hQ:∀ (S:Nat->Bool) β W a,(∀ k,k<ops.size->S k=true)->GZ D S β0 W0 rt wt ds β W a->Q .normal a W) :
 ∀ (fuel:Nat) (listed:Array Bool) (a:Act) (W:World) (β:Mp),listed.size=ops.size->tw ops (gU listed)->GZ D (gU listed) β0 W0 rt wt ds β W a->((List.range ops.size).filter λk=>!gU listed k).length<=fuel ->
  wpAnyIn F 0 P .any ops Q fuel listed a W:=by
 intro fuel
 induction fuel with
 |zero =>
  intro listed a W β hs hc I hfuel
  have hall:∀ k,k<ops.size->gU listed k=true:=by
   intro k hk
   have h0:((List.range ops.size).filter λk=>!gU listed k)=[]:=List.length_eq_zero_iff.1 (by omega)
   have:=List.filter_eq_nil_iff.1 h0 k (List.mem_range.2 hk)
   simpa using this
  refine⟨?_,hQ _ _ _ _ hall I⟩
  cases hr:Region.ready .any ops listed with
  |nil=>rfl
  |cons j l =>
   exfalso
   have hj:j∈Region.ready .any ops listed:=by rw[hr];simp
   obtain⟨h1,o,ho,_⟩:=mem_ready.1 hj
   have hlt:j<ops.size:=(Array.getElem?_eq_some_iff.1 ho).1
   have:=hall j hlt
   have hj':j<listed.size:=by omega
   simp only[gU,Array.getD,hj',dif_pos]at this h1
   rw[this]at h1;cases h1
 |succ fuel ih =>
  intro listed a W β hs hc I hfuel
  refine⟨λh=>hQ _ _ _ _ (AF hf hs h) I,λj hj=>?_⟩
  obtain⟨h1,o,ho,h2⟩:=mem_ready.1 hj
  have hlt:j<ops.size:=(Array.getElem?_eq_some_iff.1 ho).1
  have hj':j<listed.size:=by omega
  have hn:gU listed j=false:=by
   simp only[gU,Array.getD,hj',dif_pos]at h1 ⊢
   exact h1
  have QM:∀ i,((Region.before ops).getD j 0).testBit i=true->gU listed i=true:=by
   intro i hi
   obtain⟨e,he,hb,hx⟩:=vk ho hi
   rcases hx with rfl|hx
   ·exact h2 e he hb
   ·exact hc e.on (h2 e he hb) i hx
  have hb:∀ i,i<j->((Region.before ops).getD j 0).testBit i=true->gU listed i=true:=λi _ h=>QM i h
  have pj:=xI D hc.closed hlt hn hb (hrw j hlt).1 (hrw j hlt).2 p0 I
  have st:=D.step j o hlt ho
  refine st.run β W a F _ Q (hg.mono I.le) (hF.mono I.le) (λx hx=>?_) (λjg w dg h3 h4 h5=>?_) pj (λβ' v' W' hv q=>?_)
  ·have hok:=st.qe x hx
   cases x with
   |tmp i =>
    have hi:=(an _ _).1 hok
    have:=I.tmp i hi
    rw[ru D hd hap hc.closed hlt hn hb hi ho (List.mem_append_left _ (List.mem_filterMap.2 ⟨.tmp i,hx,rfl⟩))]at this
    exact this
   |const v=>exact ai.flat β 10 v hok
   |global g =>
    obtain⟨m,e,h1,h2⟩:=(hg.mono I.le).1 g ((an _ _).1 hok)
    have:=ai.ptr g 0 m e
    rw[h1,h2]at this;exact this
   |func f=>exact .func f [] [] [] [] rfl (λi v v' h=>by simp at h) rfl (λi v v' h=>by simp at h)
  ·have:=I.tmp dg h5
   rw[ru D hd hap hc.closed hlt hn hb h5 ho (List.mem_append_right _ (by rw[h3];simp[h4]))]at this
   exact⟨this,I.Xn⟩
  ·refine ih (listed.setIfInBounds j true) _ W' β' (by simp[hs]) ?_ ?_ ?_
   ·rw[gQ hj']
    intro k hk i hi
    simp only[di,Bool.or_eq_true,beq_iff_eq]at hk ⊢
    rcases hk with hk|rfl
    ·exact .inl (hc k hk i hi)
    ·exact .inl (QM i hi)
   ·rw[gQ hj']
    exact AG D hc.closed hap hlt ho hn hb (hrw j hlt).1 (hrw j hlt).2 p0 hrt gR I hv q
   ·rw[gQ hj']
    have hlen:∀ (l:List Nat),j∈l->(l.filter λk=>!di (gU listed) j k).length<(l.filter λk=>!gU listed k).length:=by
     intro l
     induction l with
     |nil=>intro h;cases h
     |cons x l ihl =>
      intro hm
      have hle:∀ (l:List Nat),(l.filter λk=>!di (gU listed) j k).length<=(l.filter λk=>!gU listed k).length:=by
       intro l
       induction l with
       |nil=>simp
       |cons y l ihy =>
        simp only[List.filter_cons]
        cases h1:gU listed y<;>cases h2:di (gU listed) j y<;>simp<;>first|omega|(simp[di,h1]at h2)
      by_cases e:x=j
      ·subst e
       simp only[List.filter_cons,hn]
       have:di (gU listed) x x=true:=by simp[di]
       simp only[this,Bool.not_true,Bool.not_false,if_true,Bool.false_eq_true,if_false,List.length_cons]
       have:=hle l;omega
      ·have hm':j∈l:=(List.mem_cons.1 hm).resolve_left (λh=>e h.symm)
       have:=ihl hm'
       have hx:di (gU listed) j x=gU listed x:=by simp[di,e]
       simp only[List.filter_cons,hx]
       cases gU listed x<;>simp<;>omega
    have:=hlen (List.range ops.size) (List.mem_range.2 hlt)
    omega
end
end Go.Ev
end
noncomputable section
namespace Go.Ev
variable [dj]
section
variable {P:Program} {tb:Tb} {d nt:Nat} {eL:Option Nat} {ops:Array Oper}
theorem ado (ok:dI P tb) {rec:Rec} (bX:kf P tb.ng rec) {cx:Cx} {o:Oper} {i:Nat} (ho:ops[i]?=some o) {t:T Value} {ds:List Deferred} {H:Hp} {acc:Acc} {r w:Nat} {v:Value}
 {t':T Value} {ds':List Deferred} {H':Hp} {acc':Acc} {r' w':Nat} (h:aY rec cx [mK tb cx.nt ops o] i t ds H acc r w=.mk (.panic v) t' ds' H' acc' r' w') (hw:H.wf) :
 t'=t/\ds'=ds/\∃ r2 w2,r'=Nat.lor r r2/\w'=Nat.lor w w2/\Can H H' w2/\∀ β W (a:Act) F,cX tb.ng β->o9 β cx.eL F->(∀ x∈o.op.operands.toList,qw tb cx.nt x=true->ai β (aA t x) (a.eval x)) ->
  (∀ (j:Nat) (w:Bool) (d:Nat),o.guard=some (j,w)->(ops[j]?).bind (·.dst)=some d->d<cx.nt->ai β (t.get d) (a.tmps.getD d undef)/\a.tmps.size=cx.nt)->Pre β H H' r2 w2 W ->
  ∀ (Q:Exit->Act->World->Prop) (K:Act->World->Prop),(∀ β1 v' old W',Af old->ai β1 v v'->Post β β1 H H' w2 W W'->Q (.panic ({ v:=v',recovered:=false }::old)) a W')->wpOpIn F 0 P ops Q i K a W:=by
 simp only[aY]at h
 rcases mJ (tb:=tb) (nt:=cx.nt) (ops:=ops) (o:=o)with hc|hc
 case inr =>
  rw[hc]at h
  have gR:dn t (none:Option (Tmp×Bool))=true:=rfl
  rw[gR,aj]at h
  simp only[run,cY]at h
  cases h
 generalize mK tb cx.nt ops o=c at h hc
 cases gR:dn t c.guard with
 |false=>rw[gR,au]at h;cases h
 |true =>
  rw[gR,aj]at h
  have hrun:=λ{β:Mp} {W:World} {a:Act} (hgr:cX tb.ng β) (hx:∀ x∈o.op.operands.toList,qw tb cx.nt x=true->ai β (aA t x) (a.eval x))=>B4 (P:=P) (W:=W) (o:=o) (ρ:=a.eval) (t:=t) ok hw hgr.2 (λy hy=>hx y hy (hc.qe y hy))
  rw[<-hc.op]at hrun
  cases hr:run c.op t H with
  |fail=>rw[hr]at h;simp only[cY]at h;cases h
  |recover=>rw[hr]at h;simp only[cY]at h;cases h
  |val v1 H1 r1 w1=>rw[hr]at h;simp only[cY]at h;cases h
  |round m args =>
   rw[hr]at h
   simp only[cY,bt]at h
   split at h<;>cases h
  |defer d1 =>
   rw[hr]at h
   simp only[cY]at h
   split at h<;>cases h
  |call f args =>
   rw[hr]at h hrun
   simp only[cY,bt]at h
   have hk:=bX (.call f args) H hw
   have hne:∀ cc,o.op≠.defer cc:=by
    intro cc lz
    have:=hc.op;unfold cw at this;rw[lz]at this
    simp only at this
    split at this
    ·rw[this]at hr;simp only[run,lH]at hr;split at hr<;>cases hr
    ·rw[this]at hr;simp only[run]at hr;cases hr
   split at h
   ·cases h
   ·rename_i v1 H1 r1 w1 hx
    rw[hx]at hk
    obtain⟨pX,hk⟩:=hk
    cases h
    refine⟨rfl,rfl,r1,w1,rfl,rfl,pX,λβ W a F hg hF hop hgd p Q K hQ=>?_⟩
    have dc:Region.wanted o (yielded ops a.tmps)=dn t c.guard:=om hc hgd
    unfold wpOpIn
    simp only[ho,dc,gR,if_true]
    obtain⟨args',hs,hl⟩:=hrun (W:=W) hg hop
    refine⟨λf _=>fJ hF f,?_⟩
    rw[Oper.semAt_eq _ _ _ hne,hs]
    refine pg hF (hk β W hg p args' hl) (λv' W1 hR=>?_) (λch W1 hR=>?_) (λW1 hR=>?_)
    ·obtain⟨_,_,_,he,_⟩:=hR;cases he
    ·obtain⟨β1,v'',old,he,hno,hv,hpost⟩:=hR
     cases he
     exact hQ _ _ _ _ hno hv hpost
    ·obtain⟨_,_,_,he,_⟩:=hR;cases he
   ·cases h
  |panic v1 =>
   rw[hr]at h hrun
   simp only[cY]at h
   cases h
   refine⟨rfl,rfl,0,0,rfl,rfl,Can.refl hw,λβ W a F hg hF hop hgd p Q K hQ=>?_⟩
   have dc:Region.wanted o (yielded ops a.tmps)=dn t c.guard:=om hc hgd
   unfold wpOpIn
   simp only[ho,dc,gR,if_true]
   obtain⟨v',hs,hv⟩:=hrun (W:=W) hg hop
   have hne:∀ cc,o.op≠.defer cc:=by
    intro cc lz
    have:=hc.op;unfold cw at this;rw[lz]at this
    simp only at this
    split at this
    ·rw[this]at hr;simp only[run,lH]at hr;split at hr<;>cases hr
    ·rw[this]at hr;simp only[run]at hr;cases hr
   refine⟨λf _=>fJ hF f,?_⟩
   rw[Oper.semAt_eq _ _ _ hne,hs]
   exact hQ _ _ _ _ .nil hv (Post.refl p.dom)
theorem Y1 (ok:dI P tb) {o:Oper} {i x:Nat} (ho:ops[i]?=some o) (hf:nD tb nt o=some x):o.dst=some x/\x<nt /\
 ∀ (a:Act) (W:World) (F:Fence) (Q:Exit->Act->World->Prop) (K:Act->World->Prop),(∀ f,F.fn f)->(∀ v' W',(∀ b,v'≠.bool b)->W.heap.size<=W'.heap.size->(∀ (rb:Nat) ob,W.heap[rb]?=some ob->W'.heap[rb]?=some ob) ->
  (W'.os=W.os/\W'.tape=W.tape/\W'.output=W.output)->K (a.put o.dst v') W')->wpOpIn F 0 P ops Q i K a W:=by
 unfold nD at hf
 split at hf
 case h_2=>cases hf
 rename_i el hel
 cases hg:o.guard with
 |some g=>rw[hg]at hf;cases hf
 |none =>
  rw[hg]at hf
  simp only at hf
  split at hf
  case h_2=>cases hf
  rename_i d1 z hcomp
  cases hf
  rcases mJ (tb:=tb) (nt:=nt) (ops:=#[]) (o:=o)with hc|hc
  case inr=>rw[hc]at hcomp;cases hcomp
  rw[hcomp]at hc
  have jv:o.dst=some x:=hc.dst.symm
  have hlt:x<nt:=hc.JI x jv
  refine⟨jv,hlt,λa W F Q K hF hK=>?_⟩
  have hop:cw tb o=.alloc z:=hc.op.symm
  have hwe:(Hp.fn (λ_=>.no) 0).wf:=trivial
  have hrun:=DS (P:=P) (W:=W) (β:=λ_=>none) (H:=Hp.fn (λ_=>.no) 0) (o:=o) (ρ:=a.eval) (t:=T.e U) ok hwe hel
  rw[hop]at hrun
  obtain⟨_,hx⟩:=hrun
  have hp:Pre (λ_=>none) (Hp.fn (λ_=>.no) 0) ((Hp.fn (λ_=>.no) 0).push z) 0 0 W :=
   ⟨λb hb=>by simp[oe]at hb,λb c mb mc hb=>by simp at hb,λb _ _=>rfl,λb m e=>by cases e⟩
  obtain⟨β1,W1,v',hres,hv,hpost⟩:=hx hp
  have hne:∀ cc,o.op≠.defer cc:=λcc e=>by rw[hel]at e;cases e
  unfold wpOpIn
  have dc:Region.wanted o (yielded ops a.tmps)=true:=by unfold Region.wanted;rw[hg]
  simp only[ho,dc,if_true]
  refine⟨λf _=>hF f,?_⟩
  rw[Oper.semAt_eq _ _ _ hne]
  refine qo hres (hK v' W1 (λb e=>?_) hpost.size (λrb ob h=>hpost.frame rb ob h λb m h0=>absurd h0 (Nat.not_lt_zero _)) hpost.env)
  subst e
  cases hv
def Sn (n:Nat) (S:Nat->Bool):Nat->Bool:=λk=>Nat.blt k n&&S k
theorem zl {n:Nat} {S:Nat->Bool} {k:Nat}:Sn n S k=true↔k<n/\S k=true:=by simp[Sn]
def Xd (ops:Array Oper) (n:Nat) (S:Nat->Bool) (a0 a:Act):Prop:=a.tmps.size=a0.tmps.size/\a.defers=a0.defers/\∀ y,a.tmps.getD y undef=a0.tmps.getD y undef \/
 ((∃ k,n<k/\k<ops.size/\S k=true/\((Region.before ops).getD k 0).testBit n=false/\iC ops k y=true)/\∀ b,a.tmps.getD y undef≠.bool b)
theorem Cb (a:Act) (x:Nat) (v:Value) (y:Nat):(a.put (some x) v).tmps.getD y undef=if y=x/\x<a.tmps.size then v else a.tmps.getD y undef:=by
 show(a.tmps.setIfInBounds x v).getD y undef=_
 rw[Array.getD_eq_getD_getElem?,Array.getD_eq_getD_getElem?,Array.getElem?_setIfInBounds]
 by_cases h:x=y
 ·subst h
  by_cases h2:x<a.tmps.size
  ·simp[h2]
  ·simp[h2]
 ·rw[if_neg h,if_neg (λe=>h e.1.symm)]
theorem Xd.put {n:Nat} {S S':Nat->Bool} {a0 a:Act} (h:Xd ops n S a0 a) (hS:∀ k,S k=true->S' k=true) (dst:Option Tmp) (v:Value):Xd ops n S' (a0.put dst v) (a.put dst v):=by
 obtain⟨h1,h2,h3⟩:=h
 cases dst with
 |none=>exact⟨h1,h2,λy=>(h3 y).imp id λ⟨⟨k,q1,q2,q3,q4⟩,hb⟩=>⟨⟨k,q1,q2,hS k q3,q4⟩,hb⟩⟩
 |some x =>
  refine⟨by simp[Act.put,h1],h2,λy=>?_⟩
  rw[Cb,Cb,h1]
  by_cases e:y=x/\x<a0.tmps.size
  ·rw[if_pos e,if_pos e];exact .inl rfl
  ·rw[if_neg e,if_neg e]
   exact(h3 y).imp id λ⟨⟨k,q1,q2,q3,q4⟩,hb⟩=>⟨⟨k,q1,q2,hS k q3,q4⟩,hb⟩
theorem filter_lt (listed:Array Bool) {j:Nat} (hn:gU listed j=false) (m:Nat) (hj:j<m):((List.range m).filter λk=>!di (gU listed) j k).length<((List.range m).filter λk=>!gU listed k).length:=by
 have hlen:∀ (l:List Nat),j∈l->(l.filter λk=>!di (gU listed) j k).length<(l.filter λk=>!gU listed k).length:=by
  intro l
  induction l with
  |nil=>intro h;cases h
  |cons x l ihl =>
   intro hm
   have hle:∀ (l:List Nat),(l.filter λk=>!di (gU listed) j k).length<=(l.filter λk=>!gU listed k).length:=by
    intro l
    induction l with
    |nil=>simp
    |cons y l ihy =>
     simp only[List.filter_cons]
     cases h1:gU listed y<;>cases h2:di (gU listed) j y<;>simp<;>first|omega|(simp[di,h1]at h2)
   by_cases e:x=j
   ·subst e
    simp only[List.filter_cons,hn]
    have:di (gU listed) x x=true:=by simp[di]
    simp only[this,Bool.not_true,Bool.not_false,if_true,Bool.false_eq_true,if_false,List.length_cons]
    have:=hle l;omega
   ·have hm':j∈l:=(List.mem_cons.1 hm).resolve_left (λh=>e h.symm)
    have:=ihl hm'
    have hx:di (gU listed) j x=gU listed x:=by simp[di,e]
    simp only[List.filter_cons,hx]
    cases gU listed x<;>simp<;>omega
 exact hlen _ (List.mem_range.2 hj)
theorem Qc (ok:dI P tb) {n:Nat} (D:Dr P tb d nt eL ops (Region.before ops) n) (ahm:n<ops.size) (hfull:∀ i,i<n->((Region.before ops).getD n 0).testBit i=true)
 (hfree:∀ k,n<k->k<ops.size->((Region.before ops).getD k 0).testBit n=true\/∃ x,nD tb nt (ops.getD k default)=some x) {β0:Mp} {W0:World} {rt wt r0 w0:Nat} {ds:List Deferred} {F:Fence} {Q:Exit->Act->World->Prop} (hd:nt<8 ^ d) (hap:QI ops (Region.before ops)) (hf:aa4 ops)
 (hrw:∀ i,i<n->sub (D.r i) rt/\sub (D.w i) wt) (p0:Pre β0 (D.H 0) (D.H n) r0 w0 W0) (hrt:sub rt r0) (gR:sub wt w0) (hg:cX tb.ng β0) (hF:o9 β0 eL F)
 (hQ:∀ (S SL:Nat->Bool) β W a0 a,(∀ k,k<n->S k=true)->GZ D S β0 W0 rt wt ds β W a0->Xd ops n SL a0 a->∀ K:Act->World->Prop,wpOpIn F 0 P ops Q n K a W) :
 ∀ (fuel:Nat) (listed:Array Bool) (a0 a:Act) (W:World) (β:Mp),listed.size=ops.size->gU listed n=false->tw ops (gU listed)->GZ D (Sn n (gU listed)) β0 W0 rt wt ds β W a0->Xd ops n (gU listed) a0 a->((List.range ops.size).filter λk=>!gU listed k).length<=fuel ->
  wpAnyIn F 0 P .any ops Q fuel listed a W:=by
 intro fuel
 induction fuel with
 |zero =>
  intro listed a0 a W β hs IW hc I ur hfuel
  exfalso
  have h0:((List.range ops.size).filter λk=>!gU listed k)=[]:=List.length_eq_zero_iff.1 (by omega)
  have:=List.filter_eq_nil_iff.1 h0 n (List.mem_range.2 ahm)
  rw[IW]at this
  exact this rfl
 |succ fuel ih =>
  intro listed a0 a W β hs IW hc I ur hfuel
  refine⟨λh=>(by have:=AF hf hs h n ahm;rw[IW]at this;cases this),λj hj=>?_⟩
  obtain⟨h1,o,ho,h2⟩:=mem_ready.1 hj
  have aee:j<ops.size:=(Array.getElem?_eq_some_iff.1 ho).1
  have hj':j<listed.size:=by omega
  have hn:gU listed j=false:=by
   simp only[gU,Array.getD,hj',dif_pos]at h1 ⊢
   exact h1
  have QM:∀ i,((Region.before ops).getD j 0).testBit i=true->gU listed i=true:=by
   intro i hi
   obtain⟨e,he,hb,hx⟩:=vk ho hi
   rcases hx with rfl|hx
   ·exact h2 e he hb
   ·exact hc e.on (h2 e he hb) i hx
  have hfl:=filter_lt listed hn ops.size aee
  have hc':tw ops (gU (listed.setIfInBounds j true)):=by
   rw[gQ hj']
   intro k hk i hi
   simp only[di,Bool.or_eq_true,beq_iff_eq]at hk ⊢
   rcases hk with hk|rfl
   ·exact .inl (hc k hk i hi)
   ·exact .inl (QM i hi)
  rcases Nat.lt_trichotomy j n with hlt|hjn|hgt
  case inr.inl =>
   subst hjn
   exact hQ _ _ _ _ _ _ (λk hk=>zl.2 ⟨hk,QM k (hfull k hk)⟩) I ur _
  case inr.inr =>
   have hnb:((Region.before ops).getD j 0).testBit n=false:=by
    cases e:((Region.before ops).getD j 0).testBit n with
    |false=>rfl
    |true=>have:=QM n e;rw[IW]at this;cases this
   obtain⟨x,hx⟩:=(hfree j hgt aee).resolve_left (by rw[hnb];simp)
   have hgd:ops.getD j default=o:=by rw[Array.getD_eq_getD_getElem?,ho];rfl
   rw[hgd]at hx
   obtain⟨jv,hxn,hgo⟩:=Y1 ok (nt:=nt) ho hx
   refine hgo a W F Q _ (λf=>fJ hF f) λv' W' hnv hsz hfr aen=>?_
   refine ih (listed.setIfInBounds j true) a0 _ W' β (by simp[hs]) (by rw[gQ hj'];simp only[di,IW,Bool.false_or];simp;omega) hc' ?_ ?_ ?_
   ·have hSn:Sn n (gU (listed.setIfInBounds j true))=Sn n (gU listed):=by
     funext k
     rw[gQ hj']
     simp only[Sn,di]
     by_cases hk:k<n
     ·have:(k==j)=false:=by simp;omega
      rw[this,Bool.or_false]
     ·have:Nat.blt k n=false:=by
       cases e:Nat.blt k n with
       |false=>rfl
       |true=>exact absurd ((an _ _).1 e) hk
      rw[this,Bool.false_and,Bool.false_and]
    rw[hSn]
    exact⟨I.le,λb m e=>Nat.lt_of_lt_of_le (I.dom b m e) hsz,I.only,λb h1 h2=>let ⟨m,e,ob,ho,hr⟩:=I.rel b h1 h2;⟨m,e,ob,hfr _ _ ho,hr⟩,I.inj,λrb ob h hh=>hfr _ _ (I.frame rb ob h hh),Nat.le_trans I.size hsz,I.new,
     ⟨aen.1.trans I.env.1,aen.2.1.trans I.env.2.1,aen.2.2.trans I.env.2.2⟩,I.Xn,I.tmp,I.aax⟩
   ·obtain⟨s1,s2,s3⟩:=ur
    rw[gQ hj',jv]
    refine⟨by simp[Act.put,s1],s2,λy=>?_⟩
    rw[Cb]
    by_cases e:y=x/\x<a.tmps.size
    ·rw[if_pos e]
     refine .inr ⟨⟨j,hgt,aee,by simp[di],hnb,by simp[iC,ho,jv,e.1]⟩,hnv⟩
    ·rw[if_neg e]
     exact(s3 y).imp id λ⟨⟨k,q1,q2,q3,q4⟩,hb⟩=>⟨⟨k,q1,q2,by simp[di,q3],q4⟩,hb⟩
   ·rw[gQ hj'];omega
  case inl =>
  have hnS:Sn n (gU listed) j=false:=by simp[Sn,hn]
  have eG:o_ (Region.before ops) (Sn n (gU listed)):=λk hk i hik hb=>zl.2 ⟨by have:=(zl.1 hk).1;omega,hc k (zl.1 hk).2 i hb⟩
  have hb:∀ i,i<j->((Region.before ops).getD j 0).testBit i=true->Sn n (gU listed) i=true:=λi hi h=>zl.2 ⟨by omega,QM i h⟩
  have pj:=xI D eG hlt hnS hb (hrw j hlt).1 (hrw j hlt).2 p0 I
  have st:=D.step j o hlt ho
  have simat:∀ i,i∈looksAt ops o->a.tmps.getD i undef=a0.tmps.getD i undef:=by
   intro i hi
   rcases ur.2.2 i with h|⟨⟨k,q1,q2,q3,q4,q5⟩,_⟩
   ·exact h
   ·exfalso
    have hok:ops[k]?=some (ops[k]'q2):=by simp
    have Db:(ops[k]'q2).dst=some i:=by simpa [iC,hok] using q5
    rcases hap j k o _ (by omega) ho hok with h|h
    ·have:=hc k q3 j h;rw[hn]at this;cases this
    ·simp only[uK,Bool.and_eq_true]at h
     have h2:=h.2
     rw[Db]at h2
     simp only[Bool.not_eq_true',List.contains_eq_mem,decide_eq_false_iff_not]at h2
     exact h2 hi
  have anF:Sn n (gU (listed.setIfInBounds j true))=di (Sn n (gU listed)) j:=by
   funext k
   rw[gQ hj']
   simp only[Sn,di]
   by_cases e:k=j
   ·subst e;simp[hlt]
   ·have:(k==j)=false:=by simpa using e
    simp[this]
  refine st.run β W a F _ Q (hg.mono I.le) (hF.mono I.le) (λx hx=>?_) (λjg w dg h3 h4 h5=>?_) pj (λβ' v' W' hv q=>?_)
  ·have hok:=st.qe x hx
   cases x with
   |tmp i =>
    have hi:=(an _ _).1 hok
    have:=I.tmp i hi
    have hm:i∈looksAt ops o:=List.mem_append_left _ (List.mem_filterMap.2 ⟨.tmp i,hx,rfl⟩)
    rw[ru D hd hap eG hlt hnS hb hi ho hm,<-simat i hm]at this
    exact this
   |const v=>exact ai.flat β 10 v hok
   |global g =>
    obtain⟨m,e,h1,h2⟩:=(hg.mono I.le).1 g ((an _ _).1 hok)
    have:=ai.ptr g 0 m e
    rw[h1,h2]at this;exact this
   |func f=>exact .func f [] [] [] [] rfl (λi v v' h=>by simp at h) rfl (λi v v' h=>by simp at h)
  ·have:=I.tmp dg h5
   have hm:dg∈looksAt ops o:=List.mem_append_right _ (by rw[h3];simp[h4])
   rw[ru D hd hap eG hlt hnS hb h5 ho hm,<-simat dg hm]at this
   exact⟨this,by rw[ur.1];exact I.Xn⟩
  ·refine ih (listed.setIfInBounds j true) (a0.put o.dst v') _ W' β' (by simp[hs]) (by rw[gQ hj'];simp only[di,IW,Bool.false_or];simp;omega) hc' ?_ ?_ ?_
   ·rw[anF]
    exact AG D eG hap hlt ho hnS hb (hrw j hlt).1 (hrw j hlt).2 p0 hrt gR I hv q
   ·exact ur.put (λk hk=>by rw[gQ hj'];simp[di,hk]) _ _
   ·rw[gQ hj'];omega
theorem qG {o:Oper} {x:Nat} (hf:nD tb nt o=some x):x<nt/\o.dst=some x:=by
 unfold nD at hf
 split at hf
 case h_2=>cases hf
 cases hg:o.guard with
 |some g=>rw[hg]at hf;cases hf
 |none =>
  rw[hg]at hf
  simp only at hf
  split at hf
  case h_2=>cases hf
  rename_i d1 z hcomp
  cases hf
  rcases mJ (tb:=tb) (nt:=nt) (ops:=#[]) (o:=o)with hc|hc
  case inr=>rw[hc]at hcomp;cases hcomp
  rw[hcomp]at hc
  exact⟨hc.JI x hc.dst.symm,hc.dst.symm⟩
theorem Ul (hd:nt<8 ^ d) {B:Array Nat} {j:Nat}:∀ (ks:List Nat) (t t':T Value),ym tb nt d ops B j ks t=some t' ->
 (∀ k∈ks,(k<=j\/(B.getD k 0).testBit j=true)\/∃ x,nD tb nt (ops.getD k default)=some x/\t'.get x=.chan none/\zC (t.get x)=none) /\
 (∀ y,y<nt->t'.get y=t.get y\/(t'.get y=.chan none/\zC (t.get y)=none)):=by
 intro ks
 induction ks with
 |nil=>intro t t' h;simp only[ym]at h;cases h;exact⟨λk hk=>by (cases hk),λy _=>.inl rfl⟩
 |cons k ks ih =>
  intro t t' h
  simp only[ym]at h
  cases hb:Nat.ble k j||Nat.testBit (B.getD k 0) j with
  |true =>
   rw[hb]at h
   simp only at h
   obtain⟨a,b⟩:=ih _ _ h
   refine⟨λk' hk'=>?_,b⟩
   rcases List.mem_cons.1 hk' with rfl|hk'
   ·simp only[Bool.or_eq_true,aE]at hb;exact .inl hb
   ·exact a k' hk'
  |false =>
   rw[hb]at h
   simp only at h
   split at h
   ·rename_i x hx
    split at h
    ·rename_i hB
     have hxl:=(qG hx).1
     obtain⟨a,b⟩:=ih _ _ h
     have gs:∀ y,y<nt->(T.set d t x (.chan none)).get y=if y=x then .chan none else t.get y:=λy hy=>T.ef d t x y _ (by omega) (by omega)
     have fin:∀ y,y<nt->t'.get y=t.get y\/(t'.get y=.chan none/\zC (t.get y)=none):=by
      intro y hy
      have:=b y hy
      rw[gs y hy]at this
      by_cases e:y=x
      ·subst e
       rw[if_pos rfl]at this
       exact .inr ⟨this.elim id (·.1),hB⟩
      ·rw[if_neg e]at this;exact this
     refine⟨λk' hk'=>?_,fin⟩
     rcases List.mem_cons.1 hk' with rfl|hk'
     ·refine .inr ⟨x,hx,?_,hB⟩
      have:=b x hxl
      rw[gs x hxl,if_pos rfl]at this
      exact this.elim id (·.1)
     ·rcases a k' hk' with h|⟨x',e1,e2,e3⟩
      ·exact .inl h
      ·refine .inr ⟨x',e1,e2,?_⟩
       rw[gs x' (qG e1).1]at e3
       by_cases e:x'=x
       ·subst e;exact hB
       ·rw[if_neg e]at e3;exact e3
    ·cases h
   ·cases h
theorem aaX {β:Mp} {v v':Value} (h:ai β v v') (e:zC v=none):∀ b,v'≠.bool b:=by
 intro b hb
 subst hb
 cases h with
 |bool b=>cases e
 |dead _ h=>exact h b rfl
 |sym k m _ e hs=>exact(lU hs).1 b rfl
end
end Go.Ev
end
noncomputable section
namespace Go.Ev
variable [dj]
theorem Pre.congr {β:Mp} {H H':Hp} {r w:Nat} {W W2:World} (p:Pre β H H' r w W) (h:W2.heap=W.heap):Pre β H H' r w W2 :=
 ⟨λb hb ha=>let ⟨m,e,o,ho,hr⟩:=p.rel b hb ha;⟨m,e,o,by rw[h];exact ho,hr⟩,p.inj,p.fresh,λb m e=>by rw[h];exact p.dom b m e⟩
theorem Post.from {β β':Mp} {H H':Hp} {w:Nat} {W W1 W2:World} (q:Post β β' H H' w W1 W2) (h:W1.heap=W.heap) (he:W1.os=W.os/\W1.tape=W.tape/\W1.output=W.output):Post β β' H H' w W W2 :=
 ⟨q.le,q.only,q.rel,λrb o h1 h2=>q.frame rb o (by rw[h];exact h1) h2,by rw[<-h];exact q.size,q.dom,λb m h1 h2 h3=>by rw[<-h];exact q.new b m h1 h2 h3,q.inj,
  ⟨q.env.1.trans he.1,q.env.2.1.trans he.2.1,q.env.2.2.trans he.2.2⟩⟩
theorem JH {ops:Array Oper} (h:ew ops (Region.before ops)=true):(∀ o∈ops.toList,AL o=true)/\aa4 ops/\QI ops (Region.before ops):=by
 simp only[ew,Bool.and_eq_true,List.all_eq_true,List.mem_range]at h
 obtain⟨⟨h1,h2⟩,h3⟩:=h
 refine⟨h1,λj o ho e he hb=>?_,λi j oi oj hij hi hj=>?_⟩
 ·have hlt:j<ops.size:=(Array.getElem?_eq_some_iff.1 ho).1
  have:=h2 j hlt
  have hg:ops.getD j default=o:=by
   rw[Array.getD_eq_getD_getElem?,ho];rfl
  rw[hg]at this
  have:=Array.all_eq_true_iff_forall_mem.1 this e he
  rw[hb]at this
  exact(an _ _).1 (by simpa using this)
 ·have hlt:j<ops.size:=(Array.getElem?_eq_some_iff.1 hj).1
  have:=h3 j hlt i hij
  have hgi:ops.getD i default=oi:=by rw[Array.getD_eq_getD_getElem?,hi];rfl
  have hgj:ops.getD j default=oj:=by rw[Array.getD_eq_getD_getElem?,hj];rfl
  rw[hgi,hgj]at this
  simpa using this
section
variable {P:Program} {tb:Tb} {d nt n:Nat} {eL:Option Nat} {ops:Array Oper} (D:Dr P tb d nt eL ops (Region.before ops) n)
theorem SQ {β β1:Mp} {W W1:World} {a1:Act} {S:Nat->Bool} {rt wt:Nat} {ds:List Deferred} (I:GZ D S β W rt wt ds β1 W1 a1) (hall:∀ k,k<n->S k=true):Post β β1 (D.H 0) (D.H n) wt W W1:=by
 have ca:=λb=>D.Gz hall b n (Nat.le_refl _)
 have scp:∀ b,((D.H 0).nx<=b\/wt.testBit b=true)->alive (D.H n) b->D.scope S rt wt b:=by
  intro b hb hab
  rcases Nat.lt_or_ge b (D.H 0).nx with h0|h0
  ·exact .inl ⟨h0,.inr (hb.resolve_left (by omega))⟩
  ·obtain⟨k,hk,Mu⟩:=o6 D n (Nat.le_refl _) h0 hab.1
   exact .inr ⟨k,hk,hall k hk,Mu⟩
 have scw:∀ b,((D.H 0).nx<=b\/wt.testBit b=true)->alive (D.H n) b->D.mQ S wt b:=by
  intro b hb hab
  rcases Nat.lt_or_ge b (D.H 0).nx with h0|h0
  ·exact .inl ⟨h0,hb.resolve_left (by omega)⟩
  ·obtain⟨k,hk,Mu⟩:=o6 D n (Nat.le_refl _) h0 hab.1
   exact .inr ⟨k,hk,hall k hk,Mu⟩
 refine⟨I.le,λb m e h0=>?_,λb hb hab=>?_,λrb o h1 h2=>I.frame rb o h1 (λb m hb=>h2 b m hb),I.size,I.dom,λb m hb h0 e=>?_,λb c mb mc hb hc hab hac eb ec e=>?_,I.env⟩
 ·obtain⟨k,hk,_,Mu⟩:=I.only b m e h0
  have m1:=D.mono (i:=0) (j:=k) (by omega) (by omega)
  have m2:=D.mono (i:=k+1) (j:=n) (by omega) (by omega)
  omega
 ·have:=I.rel b (scp b hb hab) (by rw[ca];exact hab.2)
  rw[ca]at this;exact this
 ·rcases I.new b m hb h0 e with h|⟨c,mc,hc,kg,ec,erb,hdd⟩
  ·exact .inl h
  ·rw[ca]at hdd
   exact .inr ⟨c,mc,hc,kg,ec,erb,λhal=>hal.2 hdd⟩
 ·exact I.inj b c mb mc (scw b hb hab) (scp c hc hac) (by rw[ca];exact hab.2) (by rw[ca];exact hac.2) eb ec e
end
theorem vi {tb:Tb} (nt:Nat) (ops:Array Oper):∀ (l:List Oper) (k:Nat),(bV tb nt ops l).take k=bV tb nt ops (l.take k)
 | [],k=>by simp[bV]
 |x::xs,0=>rfl
 |x::xs,k+1=>by simp only[bV,List.take_succ_cons,vi nt ops xs k]
theorem Bv {tb:Tb} (nt:Nat) (ops:Array Oper):∀ (l:List Oper) (k:Nat) (o:CO),(bV tb nt ops l)[k]?=some o->∃ x,l[k]?=some x/\o=mK tb nt ops x
 | [],k,o,h=>by simp[bV]at h
 |x::xs,0,o,h=>by simp[bV]at h;exact⟨x,rfl,h.symm⟩
 |x::xs,k+1,o,h=>by
  simp only[bV,List.getElem?_cons_succ]at h
  obtain⟨y,h1,h2⟩:=Bv nt ops xs k o h
  exact⟨y,by simpa using h1,h2⟩
theorem uS {P:Program} {tb:Tb} (ok:dI P tb) {rec:Rec} (bX:kf P tb.ng rec) {cx:Cx} (hd:cx.nt<8 ^ cx.d) {ops:Array Oper} {id:Nat} (hdo:ew ops (Region.before ops)=true) {t:T Value} {ds:List Deferred} {H:Hp} {x:Ex}
 {t':T Value} {ds':List Deferred} {H':Hp} {r' w':Nat} (h:nL tb cx.nt cx.d ops (Region.before ops) (aY rec ⟨cx.d,cx.nt,cx.eL,true⟩ (bV tb cx.nt ops ops.toList) 0 t ds H [] 0 0)=.mk x t' ds' H' r' w') (hw:H.wf) :
 Can H H' w'/\∀ β W a F,cX tb.ng β->o9 β cx.eL F->pe β cx.nt t ds a->Pre β H H' r' w' W->(Code.region id ops true).wpIn F 0 P (jG β cx.nt H H' w' W x t' ds') a W:=by
 obtain⟨hnd,hfw,hap⟩:=JH hdo
 unfold nL at h
 split at h
 ·cases h
 ·rename_i x0 t0 ds0 H0 acc r0 w0 ju
  split at h
  ·cases hp:eP (Region.before ops) acc with
   |false=>rw[hp,au]at h;cases h
   |true =>
    rw[hp,aj]at h;cases h
    have hl:∀ (k:Nat) o,ops.toList[k]?=some o->ops[0+k]?=some o:=λk o h=>by simpa using h
    obtain⟨es,c1,rfl,_,_,c5,_,_,c8⟩:=vh ok bX (cx:=⟨cx.d,cx.nt,cx.eL,true⟩) rfl ops (Region.before ops) ops.toList 0 hl hnd _ _ _ _ _ _ _ _ _ _ _ _ ju hw (xP _ _ hp)
    have c1':BL P tb cx.d cx.nt cx.eL ops 0 (ops.toList.take ops.size) t H es t' H':=by rw[show ops.toList.take ops.size=ops.toList from List.take_of_length_le (by simp)];exact c1
    obtain⟨D,d1,d2,d3,d4,d5⟩:=abU (Nat.le_refl _) c1' c5 c8
    obtain⟨r2,w2,e1,e2,hcan,_⟩:=sV ok bX (cx:=⟨cx.d,cx.nt,cx.eL,true⟩) hd ops ops.toList 0 hl _ _ _ _ _ _ _ _ _ _ _ _ _ ju hw
    rw[aK]at e1 e2
    subst e1 e2
    refine⟨hcan,λβ W a F hg hF ha p=>wpIn_region_any ok.mixed ?_⟩
    have Py:gU (Array.replicate ops.size false)=λ_=>false:=by
     funext k
     simp only[gU,Array.getD]
     split<;>simp
    have c0:∀ k b,D.cont (λ_=>false) k b=(D.H 0).blk b:=by
     intro k b
     induction k with
     |zero=>rfl
     |succ k ih=>simp[Dr.cont,ih]
    have t0:∀ k y,D.gI (λ_=>false) k y=(D.t 0).get y:=by
     intro k y
     induction k with
     |zero=>rfl
     |succ k ih=>simp[Dr.gI,ih]
    have nn:∀ b,¬ D.rX (λ_=>false) b:=λb ⟨k,_,hs,_⟩=>by cases hs
    have p1:Pre β (D.H 0) (D.H ops.size) r' w' { W with drawn:=W.drawn+1 }:=by
     rw[d2,d4];exact p.congr rfl
    refine V9 D (β0:=β) (W0:={ W with drawn:=W.drawn+1 }) (rt:=r') (wt:=w') (r0:=r') (w0:=w') (ds:=ds') hd hap hfw d5 p1 (jl _) (jl _) hg hF ?_ ops.size _ a _ β (by simp) ?_ ?_ ?_
    ·intro S β1 W1 a1 hall I
     have ca:=λb=>D.Gz hall b ops.size (Nat.le_refl _)
     have scp:∀ b,(H.nx<=b\/w'.testBit b=true)->alive H' b->D.scope S r' w' b:=by
      intro b hb hab
      rcases Nat.lt_or_ge b (D.H 0).nx with h0|h0
      ·exact .inl ⟨h0,.inr (hb.resolve_left (by rw[<-d2];omega))⟩
      ·obtain⟨k,hk,Mu⟩:=o6 D ops.size (Nat.le_refl _) h0 (by rw[d4];exact hab.1)
       exact .inr ⟨k,hk,hall k hk,Mu⟩
     have scw:∀ b,(H.nx<=b\/w'.testBit b=true)->alive H' b->D.mQ S w' b:=by
      intro b hb hab
      rcases Nat.lt_or_ge b (D.H 0).nx with h0|h0
      ·exact .inl ⟨h0,hb.resolve_left (by rw[<-d2];omega)⟩
      ·obtain⟨k,hk,Mu⟩:=o6 D ops.size (Nat.le_refl _) h0 (by rw[d4];exact hab.1)
       exact .inr ⟨k,hk,hall k hk,Mu⟩
     have q:Post β β1 H H' w' { W with drawn:=W.drawn+1 } W1:=by
      refine⟨I.le,λb m e h0=>?_,λb hb hab=>?_,λrb o h1 h2=>I.frame rb o h1 (λb m hb=>h2 b m (by rw[<-d2];exact hb)),I.size,I.dom,λb m hb h0 e=>?_,λb c mb mc hb hc hab hac eb ec e=>?_,I.env⟩
      ·obtain⟨k,hk,_,Mu⟩:=I.only b m e h0
       have m1:=D.mono (i:=0) (j:=k) (by omega) (by omega)
       have m2:=D.mono (i:=k+1) (j:=ops.size) (by omega) (by omega)
       rw[d2]at m1;rw[d4]at m2
       omega
      ·have:=I.rel b (scp b hb hab) (by rw[ca,d4];exact hab.2)
       rw[ca,d4]at this;exact this
      ·rcases I.new b m (by rw[d2];exact hb) h0 e with h|⟨c,mc,hc,kg,ec,erb,hdd⟩
       ·exact .inl h
       ·rw[ca,d4]at hdd
        exact .inr ⟨c,mc,by rw[<-d2];exact hc,kg,ec,erb,λhal=>hal.2 hdd⟩
      ·exact I.inj b c mb mc (scw b hb hab) (scp c hc hac) (by rw[ca,d4];exact hab.2) (by rw[ca,d4];exact hac.2) eb ec e
     refine⟨β1,trivial,⟨⟨I.Xn,λy v hv=>?_⟩,I.aax⟩,q.from rfl ⟨rfl,rfl,rfl⟩⟩
     have hy:y<cx.nt:=by
      rcases Nat.lt_or_ge y cx.nt with h'|h'
      ·exact h'
      ·rw[Array.getElem?_eq_none (by rw[I.Xn];exact h')]at hv;cases hv
     have:=I.tmp y hy
     rw[As D hd hall hy ops.size (Nat.le_refl _),d3]at this
     rw[Array.getD_eq_getD_getElem?,hv]at this
     exact this
    ·rw[Py];intro k hk;cases hk
    ·rw[Py]
     refine⟨Mp.le.refl _,p1.dom,λb m e h0=>(by rw[h0]at e;cases e),λb hs hc=>?_,λb c mb mc hsb hsc hcb lz eb ec e=>?_,λrb o h _=>h,Nat.le_refl _,λb m _ h0 e=>(by rw[h0]at e;cases e),⟨rfl,rfl,rfl⟩,ha.1.1,λy hy=>?_,ha.2⟩
     ·rw[c0]at hc ⊢
      exact p1.rel b ((hs.resolve_right (nn b)).2) ((aH _ _).2 hc)
     ·rw[c0]at hcb lz
      exact p1.inj b c mb mc ((hsb.resolve_right (nn b)).2) ((hsc.resolve_right (nn c)).2) ((aH _ _).2 hcb) ((aH _ _).2 lz) eb ec e
     ·rw[t0,d1];exact jR ha.1 hy
    ·refine Nat.le_trans (List.length_filter_le _ _) ?_
     simp
  ·rename_i v
   split at h
   ·cases h
   ·rename_i j x1 x2 rest
    cases hp:eP (Region.before ops) rest&&adm (Region.before ops) j with
    |false=>rw[hp,au]at h;cases h
    |true =>
     rw[hp,aj]at h
     cases Ms:ym tb cx.nt cx.d ops (Region.before ops) j (List.range ops.size) t0 with
     |none=>rw[Ms]at h;cases h
     |some tk =>
     rw[Ms]at h;cases h
     simp only[Bool.and_eq_true,adm,List.all_eq_true,List.mem_range]at hp
     obtain⟨hp1,hp2⟩:=hp
     have hl:∀ (k:Nat) o,ops.toList[k]?=some o->ops[0+k]?=some o:=λk o h=>by simpa using h
     obtain⟨r2,w2,e1,e2,hcan,_⟩:=sV ok bX (cx:=⟨cx.d,cx.nt,cx.eL,true⟩) hd ops ops.toList 0 hl _ _ _ _ _ _ _ _ _ _ _ _ _ ju hw
     rw[aK]at e1 e2
     subst e1 e2
     obtain⟨k,co,t1,ds1,H1,acc1,r1,w1,a1,a2,a3,a4⟩:=P8 _ _ _ _ _ _ _ _ _ _ _ _ _ _ _ ju
     cases a4
     rw[Nat.zero_add]at a3 hp2 Ms
     obtain⟨o,ho,rfl⟩:=Bv _ _ _ _ _ a1
     have hko:ops[k]?=some o:=by simpa using ho
     have hk:k<ops.size:=(Array.getElem?_eq_some_iff.1 hko).1
     rw[vi]at a2
     have hlk:∀ (i:Nat) o,(ops.toList.take k)[i]?=some o->ops[0+i]?=some o:=λi o h=>by
      rw[List.getElem?_take]at h
      split at h
      ·simpa using h
      ·cases h
     have anm:∀ o∈ops.toList.take k,AL o=true:=λo h=>hnd o (List.mem_of_mem_take h)
     obtain⟨es,c1,rfl,_,_,c5,_,_,c8⟩:=vh ok bX (cx:=⟨cx.d,cx.nt,cx.eL,true⟩) rfl ops (Region.before ops) (ops.toList.take k) 0 hlk anm _ _ _ _ _ _ _ _ _ _ _ _ a2 hw (xP _ _ hp1)
     obtain⟨rk,wk,f1,f2,FV,_⟩:=sV ok bX (cx:=⟨cx.d,cx.nt,cx.eL,true⟩) hd ops (ops.toList.take k) 0 hlk _ _ _ _ _ _ _ _ _ _ _ _ _ a2 hw
     rw[aK]at f1 f2
     subst f1 f2
     obtain⟨et,ed,rj,wj,g1,g2,hcj,hkj⟩:=ado ok bX (cx:=⟨cx.d,cx.nt,cx.eL,true⟩) hko a3 FV.wf
     subst et ed g1 g2
     obtain⟨kl1,kl2⟩:=Ul hd _ _ _ Ms
     obtain⟨D,d1,d2,d3,d4,d5⟩:=abU (Nat.le_of_lt hk) c1 c5 c8
     refine⟨hcan,λβ W a F hg hF ha p=>wpIn_region_any ok.mixed ?_⟩
     have Py:gU (Array.replicate ops.size false)=λ_=>false:=by
      funext k
      simp only[gU,Array.getD]
      split<;>simp
     have c0:∀ k b,D.cont (λ_=>false) k b=(D.H 0).blk b:=by
      intro k b
      induction k with
      |zero=>rfl
      |succ k ih=>simp[Dr.cont,ih]
     have hsn:Sn k (λ_=>false)=λ_=>false:=by funext x;simp[Sn]
     have tt0:∀ k y,D.gI (λ_=>false) k y=(D.t 0).get y:=by
      intro k y
      induction k with
      |zero=>rfl
      |succ k ih=>simp[Dr.gI,ih]
     have nn:∀ b,¬ D.rX (λ_=>false) b:=λb ⟨k,_,hs,_⟩=>by cases hs
     have p0:Pre β H H' (Nat.lor r1 rj) (Nat.lor w1 wj) { W with drawn:=W.drawn+1 }:=p.congr rfl
     have p1:Pre β (D.H 0) (D.H k) r1 w1 { W with drawn:=W.drawn+1 }:=by
      rw[d2,d4];exact p0.first hcj
     refine Qc ok D hk (λi hi=>hp2 i hi) (λi h1 h2=>?_) (β0:=β) (W0:={ W with drawn:=W.drawn+1 }) (rt:=r1) (wt:=w1) (r0:=r1) (w0:=w1) (ds:=ds') hd hap hfw d5 p1 (jl _) (jl _) hg hF ?_ ops.size _ a a _ β (by simp) (by rw[Py]) ?_ ?_ ⟨rfl,rfl,λy=>.inl rfl⟩ ?_
     ·rcases kl1 i (List.mem_range.2 h2)with(h|h)|⟨x,h,_⟩
      ·omega
      ·exact .inl h
      ·exact .inr ⟨x,h⟩
     ·intro S SL β1 W1 a0 aa hall I ur K
      have q:=SQ D I hall
      rw[d2,d4]at q
      have tq:∀ y,y<cx.nt->ai β1 (t0.get y) (a0.tmps.getD y undef):=λy hy=>by
       have:=I.tmp y hy
       rw[As D hd hall hy k (Nat.le_refl _),d3]at this
       exact this
      have simat:∀ i,i∈looksAt ops o->aa.tmps.getD i undef=a0.tmps.getD i undef:=by
       intro i hi
       rcases ur.2.2 i with h|⟨⟨k2,q1,q2,q3,q4,q5⟩,_⟩
       ·exact h
       ·exfalso
        have hok:ops[k2]?=some (ops[k2]'q2):=by simp
        have Db:(ops[k2]'q2).dst=some i:=by simpa [iC,hok] using q5
        rcases hap k k2 o _ (by omega) hko hok with h|h
        ·rw[q4]at h;cases h
        ·simp only[uK,Bool.and_eq_true]at h
         have h2:=h.2
         rw[Db]at h2
         simp only[Bool.not_eq_true',List.contains_eq_mem,decide_eq_false_iff_not]at h2
         exact h2 hi
      refine hkj β1 W1 aa F (hg.mono q.le) (hF.mono q.le) (λx hx hok=>?_) (λjg wg dg h3 h4 h5=>?_) (Pre.second FV hcj p0 q) _ K λβ2 v' old W2 hno hv hpost=>?_
      ·cases x with
       |tmp i =>
        have hi:=(an _ _).1 hok
        have:=tq i hi
        rw[<-simat i (List.mem_append_left _ (List.mem_filterMap.2 ⟨.tmp i,hx,rfl⟩))]at this
        exact this
       |const v=>exact ai.flat β1 10 v hok
       |global g =>
        obtain⟨m,e,h1,h2⟩:=(hg.mono q.le).1 g ((an _ _).1 hok)
        have:=ai.ptr g 0 m e
        rw[h1,h2]at this;exact this
       |func f=>exact .func f [] [] [] [] rfl (λi v v' h=>by simp at h) rfl (λi v v' h=>by simp at h)
      ·have:=tq dg h5
       rw[<-simat dg (List.mem_append_right _ (by rw[h3];simp[h4]))]at this
       exact⟨this,by rw[ur.1];exact I.Xn⟩
      ·refine jG.comp FV hcj p (q.from rfl ⟨rfl,rfl,rfl⟩) ⟨β2,⟨v',old,rfl,hno,hv⟩,⟨⟨by rw[ur.1];exact I.Xn,λy u hu=>?_⟩,?_⟩,hpost⟩
       ·have hsz:aa.tmps.size=cx.nt:=by rw[ur.1];exact I.Xn
        have hy:y<cx.nt:=by
         rcases Nat.lt_or_ge y cx.nt with h'|h'
         ·exact h'
         ·rw[Array.getElem?_eq_none (by rw[hsz];exact h')]at hu;cases hu
        have hgu:aa.tmps.getD y undef=u:=by rw[Array.getD_eq_getD_getElem?,hu];rfl
        rcases ur.2.2 y with h|⟨⟨k2,q1,q2,q3,q4,q5⟩,hb⟩
        ·have hv0:=(tq y hy).mono hpost.le
         rw[<-h,hgu]at hv0
         rcases kl2 y hy with e|⟨e,e2⟩
         ·rw[e];exact hv0
         ·rw[e];exact .dead _ (aaX hv0 e2)
        ·rcases kl1 k2 (List.mem_range.2 q2)with(h|h)|⟨x,h,h2,_⟩
         ·omega
         ·rw[q4]at h;cases h
         ·have hok:ops[k2]?=some (ops[k2]'q2):=by simp
          have hgd:ops.getD k2 default=ops[k2]'q2:=by rw[Array.getD_eq_getD_getElem?,hok];rfl
          rw[hgd]at h
          have G1:=(qG h).2
          have:x=y:=by
           have:(ops[k2]'q2).dst=some y:=by simpa [iC,hok] using q5
           rw[G1]at this;exact Option.some.inj this
          subst this
          rw[h2,<-hgu]
          exact .dead _ hb
       ·have:=I.aax.mono hpost.le
        rw[<-ur.2.1]at this
        exact this
     ·rw[Py];intro k hk;cases hk
     ·rw[Py,hsn]
      refine⟨Mp.le.refl _,p1.dom,λb m e h0=>(by rw[h0]at e;cases e),λb hs hc=>?_,λb c mb mc hsb hsc hcb lz eb ec e=>?_,λrb o h _=>h,Nat.le_refl _,λb m _ h0 e=>(by rw[h0]at e;cases e),⟨rfl,rfl,rfl⟩,ha.1.1,λy hy=>?_,ha.2⟩
      ·rw[c0]at hc ⊢
       exact p1.rel b ((hs.resolve_right (nn b)).2) ((aH _ _).2 hc)
      ·rw[c0]at hcb lz
       exact p1.inj b c mb mc ((hsb.resolve_right (nn b)).2) ((hsc.resolve_right (nn c)).2) ((aH _ _).2 hcb) ((aH _ _).2 lz) eb ec e
      ·rw[tt0,d1];exact jR ha.1 hy
     ·refine Nat.le_trans (List.length_filter_le _ _) ?_
      simp
  ·cases h
end Go.Ev
end
noncomputable section
namespace Go.Ev
variable [dj]
section
variable {F:Fence} {n:Nat} {P:Program} {Q:Exit->Act->World->Prop} {a:Act} {w:World}
theorem uZ {c:Code} (h:c.wpIn F n P (Exit.then (uf F n P c Q) Q) a w):uf F n P c Q a w:=by
 intro b k cs hro hb hr
 obtain⟨e,a₁,w₁,hq,mA⟩:=h b (.inLoop c::k) cs hro hb hr
 cases e with
 |normal =>
  obtain⟨e₂,a₂,w₂,hq₂,harr₂⟩:=hq b k cs hro hb hr
  exact⟨e₂,a₂,w₂,hq₂,.of_steps (StepsIn.trans mA (.one (fenced_calm hb hr rfl) stepR_inLoop)) harr₂⟩
 |exit id=>exact⟨_,a₁,w₁,hq,.pass (x:=.inLoop c) rfl (λ_ _=>.inl (by simp)) mA⟩
 |goto l=>exact⟨_,a₁,w₁,hq,.pass (x:=.inLoop c) rfl (λ_ _=>.inl (by simp)) mA⟩
 |ret=>exact⟨_,a₁,w₁,hq,.pass (x:=.inLoop c) rfl (λ_ _=>.inl (by simp)) mA⟩
 |panic ch=>exact⟨_,a₁,w₁,hq,.pass (x:=.inLoop c) rfl (λ_ _=>.inl (by simp)) mA⟩
 |outgrown=>exact⟨_,a₁,w₁,hq,.pass (x:=.inLoop c) rfl (λ_ _=>.inl (by simp)) mA⟩
theorem oh {c:Code} (h:uf F n P c Q a w):(Code.loop c).wpIn F n P Q a w:=by
 intro b k cs hro hb hr
 obtain⟨e,a',w',hq,mA⟩:=h b k cs hro hb hr
 exact⟨e,a',w',hq,.of_steps (.one (fenced_calm hb hr rfl) stepR_loop) mA⟩
end
end Go.Ev
end
noncomputable section
namespace Go.Ev
variable [dj]
section
variable {P:Program} {tb:Tb} (ok:dI P tb)
def eA (P:Program) (tb:Tb) (cx:Cx) (c:Code) (t:T Value) (ds:List Deferred) (H:Hp) (y:CR):Prop:=match y with
 |.fail=>True
 |.mk x t' ds' H' r' w'=>Can H H' w'/\∀ β W a F,cX tb.ng β->o9 β cx.eL F->pe β cx.nt t ds a->Pre β H H' r' w' W->c.wpIn F 0 P (jG β cx.nt H H' w' W x t' ds') a W
theorem Wn {cx:Cx} {c1 c2:Code} {t:T Value} {ds:List Deferred} {H:Hp} {y:CR} {k:T Value->List Deferred->Hp->CR} (h1:eA P tb cx c1 t ds H y) (h2:∀ t ds H,H.wf->eA P tb cx c2 t ds H (k t ds H)) :
 eA P tb cx (.seq c1 c2) t ds H (CR.andThen y k):=by
 cases y with
 |fail=>trivial
 |mk x t1 ds1 H1 r1 w1 =>
  obtain⟨g1,g2⟩:=h1
  cases x with
  |normal =>
   show eA P tb cx _ t ds H (CR.join r1 w1 (k t1 ds1 H1))
   have h2':=h2 t1 ds1 H1 g1.wf
   cases hk:k t1 ds1 H1 with
   |fail=>trivial
   |mk x2 t2 ds2 H2 r2 w2 =>
    rw[hk]at h2'
    obtain⟨g3,g4⟩:=h2'
    refine⟨Can.comp g1 g3,λβ W a F hg hF ha p=>wpIn_seq (wpIn_mono (g2 β W a F hg hF ha (p.first g3)) λe a' W' hc=>?_)⟩
    obtain⟨β1,hx,tB,hp⟩:=hc
    cases e<;>try exact hx.elim
    exact wpIn_mono (g4 β1 W' a' F (hg.mono hp.le) (hF.mono hp.le) tB (Pre.second g1 g3 p hp)) λe a2 W2 h=>jG.comp g1 g3 p hp h
  |_ =>
   refine⟨g1,λβ W a F hg hF ha p=>wpIn_seq (wpIn_mono (g2 β W a F hg hF ha p) λe a' W' hc=>?_)⟩
   have hc':=hc
   obtain⟨β1,hx,_⟩:=hc
   cases e<;>first|exact hc'|exact hx.elim
end
end Go.Ev
end
noncomputable section
namespace Go.Ev
variable [dj]
section
variable {P:Program} {tb:Tb} (ok:dI P tb) {cx:Cx} {t:T Value} {ds:List Deferred} {H:Hp}
theorem JO {id:Nat} {c:Code} {y:CR} (h:eA P tb cx c t ds H y):eA P tb cx (.block id c) t ds H (outBlock id y):=by
 cases y with
 |fail=>trivial
 |mk x t1 ds1 H1 r1 w1 =>
  obtain⟨g1,g2⟩:=h
  cases x with
  |exit j =>
   show eA P tb cx _ t ds H (Bc (Nat.beq j id) _ _)
   cases e:Nat.beq j id with
   |true =>
    have:=(beq_iff _ _).1 e;subst this
    refine⟨g1,λβ W a F hg hF ha p=>wpIn_block (wpIn_mono (g2 β W a F hg hF ha p) λe a' W' hc=>?_)⟩
    obtain⟨β1,hx,tB,hp⟩:=hc
    cases e<;>try exact hx.elim
    have:j=_:=hx
    subst this
    simp only[Exit.inBlock,if_true]
    exact⟨β1,trivial,tB,hp⟩
   |false =>
    refine⟨g1,λβ W a F hg hF ha p=>wpIn_block (wpIn_mono (g2 β W a F hg hF ha p) λe' a' W' hc=>?_)⟩
    obtain⟨β1,hx,tB,hp⟩:=hc
    cases e'<;>try exact hx.elim
    have:j=_:=hx
    subst this
    have hne:¬ j=id:=λh=>by rw[(beq_iff _ _).2 h]at e;cases e
    simp only[Exit.inBlock,hne,if_false]
    exact⟨β1,rfl,tB,hp⟩
  |_ =>
   refine⟨g1,λβ W a F hg hF ha p=>wpIn_block (wpIn_mono (g2 β W a F hg hF ha p) λe a' W' hc=>?_)⟩
   obtain⟨β1,hx,tB,hp⟩:=hc
   cases e<;>first|exact⟨β1,hx,tB,hp⟩|exact hx.elim
end
end Go.Ev
end
noncomputable section
namespace Go.Ev
variable [dj]
section
variable {P:Program} {tb:Tb} (ok:dI P tb) {cx:Cx} {t:T Value} {ds:List Deferred} {H:Hp}
theorem GB {rec:Rec} (bX:kf P tb.ng rec) (ok:dI P tb) (hd:cx.nt<8 ^ cx.d) {ops:Array Oper} {id:Nat} (hw:H.wf) :
 eA P tb cx (.region id ops false) t ds H (Tl (aY rec cx (bV tb cx.nt ops ops.toList) 0 t ds H [] 0 0)):=by
 cases h:aY rec cx (bV tb cx.nt ops ops.toList) 0 t ds H [] 0 0 with
 |fail=>trivial
 |mk x t' ds' H' acc r' w' =>
  have hl:∀ (k:Nat) o,ops.toList[k]?=some o->ops[0+k]?=some o:=λk o h=>by simpa using h
  obtain⟨r2,w2,e1,e2,hcan,hk⟩:=sV ok bX hd ops ops.toList 0 hl _ _ _ _ _ _ _ _ _ _ _ _ _ h hw
  rw[aK]at e1 e2
  subst e1 e2
  refine⟨hcan,λβ W a F hg hF ha p=>wpIn_region ?_⟩
  have:=hk β W a F hg hF ha p _ (λe a' W' h=>h)
  rw[List.range_eq_range']
  simpa using this
end
end Go.Ev
end
noncomputable section
namespace Go.Ev
variable [dj]
section
variable {P:Program} {tb:Tb} (ok:dI P tb) {cx:Cx} {t:T Value} {ds:List Deferred} {H:Hp}
theorem Bx {c:Operand} {x y:Code} {z:CR} {b:Bool} (hok:qw tb cx.nt c=true) (hc:zC (aA t c)=some b) (h:eA P tb cx (if b then x else y) t ds H z):eA P tb cx (.cond c x y) t ds H z:=by
 cases z with
 |fail=>trivial
 |mk x1 t1 ds1 H1 r1 w1 =>
  obtain⟨g1,g2⟩:=h
  refine⟨g1,λβ W a F hg hF ha p=>?_⟩
  have hv:=jW hg ha.1 hok
  rw[wR hc]at hv
  generalize hr:a.eval c=v' at hv
  cases hv
  exact wpIn_cond hr (g2 β W a F hg hF ha p)
end
end Go.Ev
end
noncomputable section
namespace Go.Ev
variable [dj]
section
variable {P:Program} {tb:Tb} (ok:dI P tb) {cx:Cx}
theorem Bw {rec:Rec} (bX:kf P tb.ng rec) (hd:cx.nt<8 ^ cx.d) {b:Code} {t:T Value} {ds:List Deferred} {H:Hp} {y:CR} (h:eA P tb cx b t ds H y) :
 (match CR.andThen y (λt ds H=>CR.tW (rec (.loop b cx t ds) H))with
  |.fail=>True
  |.mk x t' ds' H' r' w'=>Can H H' w'/\∀ β W a F,cX tb.ng β->o9 β cx.eL F->pe β cx.nt t ds a->Pre β H H' r' w' W->uf F 0 P b (jG β cx.nt H H' w' W x t' ds') a W):=by
 cases y with
 |fail=>trivial
 |mk x t1 ds1 H1 r1 w1 =>
  obtain⟨g1,g2⟩:=h
  cases x with
  |normal =>
   show(match CR.join r1 w1 (CR.tW (rec (.loop b cx t1 ds1) H1))with|.fail=>True|.mk ..=>_)
   have hr:=bX (.loop b cx t1 ds1) H1 g1.wf
   cases hk:rec (.loop b cx t1 ds1) H1 with
   |k z=>trivial
   |c z =>
    cases z with
    |fail=>trivial
    |mk x2 t2 ds2 H2 r2 w2 =>
     rw[hk]at hr
     obtain⟨g3,g4⟩:=hr hd
     refine⟨Can.comp g1 g3,λβ W a F hg hF ha p=>uZ (wpIn_mono (g2 β W a F hg hF ha (p.first g3)) λe a' W' hc=>?_)⟩
     obtain⟨β1,hx,tB,hp⟩:=hc
     cases e<;>try exact hx.elim
     have:=g4 β1 W' a' F (hg.mono hp.le) (hF.mono hp.le) tB (Pre.second g1 g3 p hp)
     intro b' k cs h1 h2 h3
     obtain⟨e,a2,W2,hq,mA⟩:=this b' k cs h1 h2 h3
     exact⟨e,a2,W2,jG.comp g1 g3 p hp hq,mA⟩
  |_ =>
   refine⟨g1,λβ W a F hg hF ha p=>uZ (wpIn_mono (g2 β W a F hg hF ha p) λe a' W' hc=>?_)⟩
   have hc':=hc
   obtain⟨β1,hx,_⟩:=hc
   cases e<;>first|exact hc'|exact hx.elim
end
end Go.Ev
end
noncomputable section
namespace Go.Ev
variable [dj]
theorem Pre.less {β:Mp} {H H':Hp} {r w r' w':Nat} {W:World} (p:Pre β H H' r w W) (h:∀ b,oe r' w' b->oe r w b) (hw:∀ b,w'.testBit b=true->w.testBit b=true):Pre β H H' r' w' W :=
 ⟨λb hb=>p.rel b (h b hb),λb c mb mc hb hc=>p.inj b c mb mc (hw b hb) (h c hc),p.fresh,p.dom⟩
theorem tu {α:Type} (n:Nat) (x:α):Fz n x=x:=by cases n<;>rfl
section
variable {P:Program} {tb:Tb} {cx:Cx} {t:T Value} {ds:List Deferred} {H:Hp}
theorem Qh (hw:H.wf):eA P tb cx .skip t ds H (.mk .normal t ds H 0 0) :=
 ⟨Can.refl hw,λβ _ _ _ _ _ ha p=>wpIn_skip ⟨β,trivial,ha,Post.refl p.dom⟩⟩
theorem JN (hw:H.wf) (l:Nat):eA P tb cx (.label l) t ds H (.mk .normal t ds H 0 0) :=
 ⟨Can.refl hw,λβ _ _ _ _ _ ha p=>wpIn_label ⟨β,trivial,ha,Post.refl p.dom⟩⟩
theorem Wo (hw:H.wf):eA P tb cx .ret t ds H (.mk .ret t ds H 0 0) :=
 ⟨Can.refl hw,λβ _ _ _ _ _ ha p=>wpIn_ret ⟨β,trivial,ha,Post.refl p.dom⟩⟩
theorem Qj (hw:H.wf) (id:Nat):eA P tb cx (.exit id) t ds H (.mk (.exit id) t ds H 0 0) :=
 ⟨Can.refl hw,λβ _ _ _ _ _ ha p=>wpIn_exit ⟨β,rfl,ha,Post.refl p.dom⟩⟩
theorem Qi (hw:H.wf) (l:Nat):eA P tb cx (.goto l) t ds H (.mk (.goto l) t ds H 0 0) :=
 ⟨Can.refl hw,λβ _ _ _ _ _ ha p=>wpIn_goto ⟨β,rfl,ha,Post.refl p.dom⟩⟩
theorem Qk {rec:Rec} (ok:dI P tb) (bX:kf P tb.ng rec) (hd:cx.nt<8 ^ cx.d) {ops:Array Oper} {id:Nat} (hw:H.wf) :
 eA P tb cx (.region id ops true) t ds H (Bc (ew ops (Region.before ops)) (nL tb cx.nt cx.d ops (Region.before ops) (aY rec ⟨cx.d,cx.nt,cx.eL,true⟩ (bV tb cx.nt ops ops.toList) 0 t ds H [] 0 0)) .fail):=by
 cases hdo:ew ops (Region.before ops)with
 |false=>rw[au];trivial
 |true =>
  rw[aj]
  cases h:nL tb cx.nt cx.d ops (Region.before ops) (aY rec ⟨cx.d,cx.nt,cx.eL,true⟩ (bV tb cx.nt ops ops.toList) 0 t ds H [] 0 0)with
  |fail=>trivial
  |mk x t' ds' H' r' w'=>exact uS ok bX hd hdo h hw
end
end Go.Ev
end
noncomputable section
namespace Go.Ev
variable [dj]
section
variable {P:Program} {tb:Tb} {cx:Cx} {t:T Value} {ds:List Deferred} {H:Hp}
theorem oO (ok:dI P tb) {g:FuncId} (h:kQ tb g=true) (args:Array Value) (W:World):(callFunc g args).run P W=.ok (.enter g args) W:=by
 unfold kQ at h
 split at h
 ·rename_i fn e
  have e1:=ok.fn _ _ e
  have e2:=ok.nog _ _ e
  have e3 : ¬ fn.name = "runtime.NumGoroutine" := by simpa using e2
  have e4:¬ fn.body=none:=by intro h0;simp[h0]at *
  simp[callFunc,e1,e3,e4]
 ·cases h
theorem kM (W:World) (r:Nat) (o:Obj):W.putObj r o=World.fj W r o:=rfl
theorem ZS {F:Fence} {Q:Exit->Act->World->Prop} {a:Act} {W:World} {rd:Bool} {pd:Option Code} {ex:Ex} (h:Gi rd pd=some ex)
 (hq:∀ e,GU (λ_=>none) ex e->Q e a W):(match (generalizing:=false) pd with|none=>Q .normal a W|some c=>c.wpIn F 0 P Q a W):=by
 unfold Gi at h
 split at h
 ·cases rd with
  |true=>rw[aj]at h;cases h;exact hq .normal trivial
  |false=>rw[au]at h;cases h
 ·cases h;exact wpIn_ret (hq .ret trivial)
 ·cases h;exact wpIn_exit (hq _ rfl)
 ·cases h;exact wpIn_goto (hq _ rfl)
 ·cases h
theorem Jz {rd:Bool} {pd:Option Code} {ex:Ex} (h:Gi rd pd=some ex):(if rd then LoopState.ready else if pd.isSome then .done else .busy)≠.busy:=by
 unfold Gi at h
 cases rd with
 |true=>simp
 |false =>
  split at h
  ·rw[au]at h;cases h
  all_goals first|(cases h;done)|simp
theorem NX {β:Mp} {rd:Bool} {pd:Option Code} {ex:Ex} (h:Gi rd pd=some ex) {e:Exit} (hx:GU (λ_=>none) ex e):GU β ex e:=by
 unfold Gi at h
 split at h
 ·cases rd with
  |true=>rw[aj]at h;cases h;cases e<;>first|trivial|exact hx.elim
  |false=>rw[au]at h;cases h
 all_goals first|(cases h;cases e<;>first|exact hx|exact hx.elim)|(cases h;done)
theorem JM {rec:Rec} (ok:dI P tb) (bX:kf P tb.ng rec) {f:Operand} {ps:Array Tmp} {x y:Code} (hw:H.wf) :
 eA P tb cx (.rangeFunc f ps x y) t ds H (kU tb rec cx f ps.toList x y t ds H):=by
 unfold kU
 cases hrnd:cx.eL with
 |some l=>trivial
 |none =>
  simp only[]
  cases hok:(qw tb cx.nt f&&ps.toList.all (λp=>Nat.blt p cx.nt))with
  |false=>rw[au];trivial
  |true =>
   rw[aj,fG]
   by_cases h0:H.room=true
   case neg=>rw[if_neg h0];trivial
   rw[if_pos h0]
   simp only[]
   rw[fG]
   by_cases h1:(H.push (.obj (.deferred (some [])))).room=true
   case neg=>rw[if_neg h1];trivial
   rw[if_pos h1]
   simp only[]
   cases UL:oX (aA t f) [.func (.yield (H.push (.obj (.deferred (some [])))).nx) #[] #[]]with
   |call g args =>
    simp only[]
    cases hbody:kQ tb g with
    |false=>rw[au];trivial
    |true =>
     rw[aj]
     generalize pX:H.push (.obj (.deferred (some [])))=H1 at h1 UL ⊢
     generalize hH2:H1.push (.loop true none cx.nt t ps.toList x y H.nx)=H2
     have c1:Can H H1 0:=by rw[<-pX];exact fB h0
     have c2:Can H1 H2 0:=by rw[<-hH2];exact fB h1
     have hk0:=bX (.call g args) H2 c2.wf
     have n1:H1.nx=H.nx+1:=by rw[<-pX,aZ]
     have head:∀ (H3:Hp) (w3 r3:Nat) (β:Mp) (W:World) (a:Act) (fn:FuncId),Can H2 H3 w3->cX tb.ng β->pe β cx.nt t ds a->Pre β H H3 r3 w3 W ->
      ∃ β1 β2 W1 W2 m1,Post β β1 H H1 0 W W1/\Pre β1 H1 H3 r3 w3 W1/\Post β1 β2 H1 H2 0 W1 W2/\Pre β2 H2 H3 r3 w3 W2/\β2 H1.nx=some m1 /\
       (Instr.enterLoop fn a.tmps ps x y none).run P W=.ok (m1.rb,[{ target:=.collected W.heap.size,args:=#[] }]) W2 /\
       pe β2 cx.nt t ({ target:=.collected H.nx,args:=#[] }::ds) { a with defers:=[{ target:=.collected W.heap.size,args:=#[] }]++a.defers } /\
       ∃ args',(∃ d:Deferred,(resolve a.eval (rangeCall f m1.rb) 0).run P W2=.ok d W2/\(invoke d.target d.args).run P W2=(callFunc g args').run P W2)/\ak β2 args args'.toList:=by
      intro H3 w3 r3 β W a fn c3 hg ha p
      have c23:Can H1 H3 (Nat.lor 0 w3):=Can.comp c2 c3
      have p':Pre β H H3 (Nat.lor 0 r3) (Nat.lor 0 (Nat.lor 0 w3)) W:=by rw[aK,aK,aK];exact p
      have f0:β H.nx=none:=p.fresh H.nx (Nat.le_refl _) (Nat.lt_of_lt_of_le (by rw[n1];omega) (c23.mono))
      let m0:Bm:=⟨W.heap.size,0,0,0⟩
      have q1:Post β (β.put H.nx m0) H H1 0 W (World.hJ W (.deferred (some []))):=by
       rw[<-pX];exact iU _ _ m0 h0 rfl f0 ⟨rfl,rfl⟩ p.dom
      have p1:Pre (β.put H.nx m0) H1 H3 (Nat.lor 0 r3) (Nat.lor 0 w3) (World.hJ W (.deferred (some []))):=by
       have:=Pre.second (r2:=r3) c1 c23 p' q1
       rw[aK];exact this
      let m1:Bm:=⟨(World.hJ W (.deferred (some []))).heap.size,0,0,0⟩
      have f1:(β.put H.nx m0) H1.nx=none:=p1.fresh H1.nx (Nat.le_refl _) (Nat.lt_of_lt_of_le (by rw[<-hH2,aZ];omega) c3.mono)
      have hdb:((β.put H.nx m0).put H1.nx m1) H.nx=some m0:=by
       rw[Mp.jV _ _ (by rw[n1];omega),Mp.dJ]
      have le1:Mp.le β (β.put H.nx m0):=Mp.nk m0 f0
      have le2:Mp.le (β.put H.nx m0) ((β.put H.nx m0).put H1.nx m1):=Mp.nk m1 f1
      have q2:Post (β.put H.nx m0) ((β.put H.nx m0).put H1.nx m1) H1 H2 0 (World.hJ W (.deferred (some [])))
       (World.hJ (World.hJ W (.deferred (some []))) (.loop { state:=.ready,pending:=none,fn,tmps:=a.tmps,params:=ps,assign:=x,body:=y,defers:=W.heap.size })):=by
       rw[<-hH2]
       refine iU _ _ m1 h1 rfl f1 ⟨a.tmps,fn,m0,.ready,rfl,hdb,ha.1.mono (le1.trans le2),rfl,rfl⟩ p1.dom
      have p2:=Pre.second (r2:=r3) c2 c3 p1 q2
      refine⟨_,_,_,_,m1,q1,by rw[<-aK r3,<-aK w3];exact p1,q2,p2,Mp.dJ _ _ _,?_,⟨ha.1.mono (le1.trans le2),gj.cons ⟨⟨m0,hdb,rfl⟩,ak.nil _⟩ (ha.2.mono (le1.trans le2))⟩,?_⟩
      ·rw[run_enterLoop_outer]
       have:W.heap.size+1=(World.hJ W (.deferred (some []))).heap.size:=(tR W _).symm
       show Result.ok (W.heap.size+1,_) _=_
       rw[this];rfl
      ·simp only[Bool.and_eq_true]at hok
       have hv:=jW hg ha.1 hok.1
       have hv2:=hv.mono (le1.trans le2)
       generalize hr:a.eval f=f' at hv2
       generalize aA t f=fv at UL hv2
       unfold oX at UL
       cases hv2<;>simp only[reduceCtorEq,R.call.injEq]at UL
       rename_i f2 as as' cs cs' e1 e2 e3 e4
       obtain⟨rfl,rfl⟩:=UL
       refine⟨((⟨as'⟩:Array Value) ++ #[.func (.yield m1.rb) #[] #[]])++(⟨cs'⟩:Array Value),⟨{ target:=.fn (.func f2) ⟨cs'⟩,args:=(⟨as'⟩:Array Value) ++ #[.func (.yield m1.rb) #[] #[]] },?_,?_⟩,?_⟩
       ·have hce:a.eval (.const (.func (.yield m1.rb) #[] #[]))=.func (.yield m1.rb) #[] #[]:=rfl
        simp[resolve,rangeCall,Deferred.ofValue,hr,hce]
       ·simp[invoke]
       ·have hy:ai ((β.put H.nx m0).put H1.nx m1) (.func (.yield H1.nx) #[] #[]) (.func (.yield m1.rb) #[] #[]):=.yield H1.nx m1 (Mp.dJ _ _ _)
        have:=ak.append (a:=as) (a':=as') ⟨e1,e2⟩ (ak.append (ak.cons hy (ak.nil _)) (b:=cs) (b':=cs') ⟨e3,e4⟩)
        simpa using this
     cases hk:rec (.call g args) H2 with
     |c z=>trivial
     |k z =>
      rw[hk]at hk0
      cases z with
      |fail n=>trivial
      |drop um H3 r w=>trivial
      |n_ v H3 r w=>trivial
      |panic v H3 r w =>
       obtain⟨c3,yq⟩:=hk0
       refine⟨by have:=Can.comp c1 (Can.comp c2 c3);rwa [aK,aK]at this,λβ W a F hg hF ha p=>?_⟩
       rw[hrnd]at hF
       have hF':F=FW:=hF
       subst hF'
       refine wpIn_rangeFunc λfn _=>?_
       obtain⟨β1,β2,W1,W2,m1,q1,p1,q2,p2,em,he,vD,args',⟨d,hres,hinv⟩,hl⟩:=head H3 w r β W a fn c3 hg ha p
       have Df:cX tb.ng β2:=hg.mono (q1.le.trans q2.le)
       have hco:=yq β2 W2 Df p2 args' hl
       have hent:=oO ok hbody args' W2
       refine⟨m1.rb,_,W2,d,W2,g,args',W2,he,hres,λ_ _=>trivial,by rw[hinv];exact hent,(λh=>by cases h),?_⟩
       rcases hco with⟨_,hc⟩|⟨v',W',hc,_⟩
       case inr=>rw[hent]at hc;cases hc
       refine CallsIn.mono hc λe W3 hR=>?_
       obtain⟨β3,v',old,rfl,hno,hv',q3⟩:=hR
       refine⟨β3,⟨v',old,rfl,hno,hv'⟩,vD.mono q3.le,?_⟩
       have c23:Can H1 H3 (Nat.lor 0 w):=Can.comp c2 c3
       have q23:=Post.comp (r1:=0) (r2:=r) c2 c3 (by rw[aK,aK];exact p1) q2 q3
       have:=Post.comp (r1:=0) (r2:=r) c1 c23 (by rw[aK,aK,aK];exact p) q1 q23
       rw[aK,aK]at this
       exact this
      |ret v H3 r w =>
       obtain⟨c3,yq⟩:=hk0
       simp only[gZ]
       cases hb:H3.blk H1.nx with
       |no=>trivial
       |cells=>trivial
       |obj=>trivial
       |loop rd pd nt' t' ps' x' y' db' =>
        simp only[]
        cases hex:Gi rd pd with
        |none=>trivial
        |some ex =>
         simp only[]
         have hal:alive H3 H1.nx:=(aH _ _).2 (by rw[hb];simp)
         have c4:Can H3 (H3.put H1.nx .no) (bit H1.nx):=eJ c3.wf .no hal
         have c34:Can H2 (H3.put H1.nx .no) (Nat.lor w (bit H1.nx)):=Can.comp c3 c4
         have c234:Can H1 (H3.put H1.nx .no) (Nat.lor 0 (Nat.lor w (bit H1.nx))):=Can.comp c2 c34
         refine⟨by have:=Can.comp c1 c234;rwa [aK,aK]at this,λβ W a F hg hF ha p=>?_⟩
         rw[hrnd]at hF
         have hF':F=FW:=hF
         subst hF'
         refine wpIn_rangeFunc λfn _=>?_
         obtain⟨β1,β2,W1,W2,m1,q1,p1,q2,p2,em,he,vD,args',⟨d,hres,hinv⟩,hl⟩:=head _ _ r β W a fn c34 hg ha p
         have Df:cX tb.ng β2:=hg.mono (q1.le.trans q2.le)
         have p2':Pre β2 H2 (H3.put H1.nx .no) (Nat.lor r 0) (Nat.lor w (bit H1.nx)) W2:=by rw[aF];exact p2
         have hco:=yq β2 W2 Df (p2'.first c4) args' hl
         have hent:=oO ok hbody args' W2
         refine⟨m1.rb,_,W2,d,W2,g,args',W2,he,hres,λ_ _=>trivial,by rw[hinv];exact hent,(λh=>by cases h),?_⟩
         rcases hco with⟨_,hc⟩|⟨v',W',hc,_⟩
         case inr=>rw[hent]at hc;cases hc
         refine CallsIn.mono hc λe W3 hR=>?_
         obtain⟨β3,v',rfl,hv',q3⟩:=hR
         have p4:Pre β3 H3 (H3.put H1.nx .no) 0 (bit H1.nx) W3:=Pre.second c3 c4 p2' q3
         obtain⟨m,e4,o,ho,hr⟩:=p4.rel H1.nx (.inr ((aB _ _).2 rfl)) hal
         have:=q3.le _ _ em
         rw[e4]at this
         cases this
         rw[hb]at hr
         obtain⟨tmps,fn',md,st,rfl,_,_,_,hst⟩:=hr
         have hend:=run_endLoop (P:=P) ho (by show st≠.busy;rw[hst];exact Jz hex)
         refine⟨pd,_,hend,?_⟩
         rw[kM]
         have q4:=jm (o':=.loop { state:=.exhausted,pending:=pd,fn:=fn',tmps:=tmps,params:=ps'.toArray,assign:=x',body:=y',defers:=md.rb }) .no c3.wf hal e4 ho trivial p4.dom
         have q34:=Post.comp c3 c4 p2' q3 q4
         have q234:=Post.comp (r1:=0) (r2:=r) c2 c34 (by rw[aK,aK];exact p1) q2 q34
         have q:=Post.comp (r1:=0) (r2:=r) c1 c234 (by rw[aK,aK,aK];exact p) q1 q234
         rw[aK,aK]at q
         have hj:=ZS (P:=P) (F:=FW) (Q:=jG β cx.nt H (H3.put H1.nx .no) (Nat.lor w (bit H1.nx)) W ex t ({ target:=.collected H.nx,args:=#[] }::ds)) (a:={ a with defers:=[{ target:=.collected W.heap.size,args:=#[] }]++a.defers }) hex λe hx=>⟨β3,NX hex hx,vD.mono (q3.le),q⟩
         cases pd<;>exact hj
   |_=>trivial
end
end Go.Ev
end
noncomputable section
namespace Go.Ev
variable [dj]
section
variable {P:Program} {tb:Tb}
theorem Sj {β:Mp} {d nt:Nat} (hd:nt<8 ^ d):∀ (ps:List Tmp) (as as':List Value) (t t':T Value) (tmps:Array Value),rI d nt ps as t=some t'->ak β as as'->jc β nt t tmps ->
 ps.length=as'.length/\jc β nt t' ((ps.zip as').foldl (λtmps x=>tmps.setIfInBounds x.1 x.2) tmps):=by
 intro ps
 induction ps with
 |nil =>
  intro as as' t t' tmps h hl ht
  cases as with
  |nil=>have:=hl.aL;subst this;simp only[rI,Option.some.injEq]at h;subst h;exact⟨rfl,ht⟩
  |cons v as=>simp[rI]at h
 |cons p ps ih =>
  intro as as' t t' tmps h hl ht
  cases as with
  |nil=>simp[rI]at h
  |cons v as =>
   obtain⟨v',as2,rfl,hv,hl'⟩:=hl.cons_inv
   simp only[rI]at h
   cases hp:Nat.blt p nt with
   |false=>rw[hp,au]at h;cases h
   |true =>
    rw[hp,aj]at h
    have hput:jc β nt (T.set d t p v) (tmps.setIfInBounds p v'):=by
     have:=wZ (a:={ tmps:=tmps,defers:=[] }) (dst:=some p) hd ht (λi hi=>by cases hi;exact(an _ _).1 hp) hv
     exact this
    obtain⟨h1,h2⟩:=ih as as2 _ _ _ h hl' hput
    refine⟨by simp[h1],?_⟩
    simpa using h2
theorem xy {rec:Rec} {l:Nat} {args:List Value} {H:Hp} (hw:H.wf)
 (u7:∀ (cx:Cx) c t ds H,cx.nt<8 ^ cx.d->H.wf->eA P tb cx c t ds H (cj tb rec cx c t ds H)) :
 aI P tb.ng (.round l args) H (je tb rec l args H):=by
 unfold je
 cases hb:H.blk l with
 |no=>trivial
 |cells=>trivial
 |obj=>trivial
 |loop rd pd nt lt ps x y db =>
  cases rd with
  |false=>trivial
  |true =>
  cases pd with
  |some c=>trivial
  |none =>
  simp only[]
  cases hs:rI (dep nt) nt ps args lt with
  |none=>trivial
  |some t =>
   simp only[]
   have ha:=u7 ⟨dep nt,nt,some l,false⟩ x t [] H (jY nt) hw
   cases hea:cj tb rec ⟨dep nt,nt,some l,false⟩ x t [] H with
   |fail=>trivial
   |mk e1 t1 ds1 H1 r1 w1 =>
    rw[hea]at ha
    cases e1 with
    |normal =>
     cases ds1 with
     |cons d ds1=>trivial
     |nil =>
      simp only[]
      cases jK:H1.blk l with
      |no=>trivial
      |cells=>trivial
      |obj=>trivial
      |loop OG pd1 nt1 lt1 ps1 x1 y1 db1 =>
       cases OG with
       |false=>trivial
       |true =>
       cases pd1 with
       |some c=>trivial
       |none =>
       simp only[]
       obtain⟨c1,k1⟩:=ha
       have IZ:alive H1 l:=(aH _ _).2 (by rw[jK];simp)
       have c2:Can H1 (H1.put l (.loop false none nt1 lt1 ps1 x1 y1 db1)) (bit l):=eJ c1.wf _ IZ
       generalize anJ:H1.put l (.loop false none nt1 lt1 ps1 x1 y1 db1)=H1' at c2 ⊢
       have hbd:=u7 ⟨dep nt,nt,some l,false⟩ y t1 [] H1' (jY nt) c2.wf
       cases heb:cj tb rec ⟨dep nt,nt,some l,false⟩ y t1 [] H1' with
       |fail=>trivial
       |mk e2 t2 ds2 H2 r2 w2 =>
        rw[heb]at hbd
        obtain⟨c3,k3⟩:=hbd
        have main:∀ (j:Option Code) (rdd:Bool) (nt2:Nat) (lt2:T Value) (ps2:List Tmp) (x2 y2:Code) (db2:Nat),H2.blk l=.loop false none nt2 lt2 ps2 x2 y2 db2 ->
         (∀ e,GU (λ_=>none) e2 e->∀ β,GU β e2 e) ->
         (∀ (R:Ending->World->Prop) β e (a':Act) W',GU β e2 e->(∃ v w',(Instr.endRound ((β l).elim 0 Bm.rb) j).run P W'=.ok v w'/\R (.returned v) w')->roundPost P ((β l).elim 0 Bm.rb) R e a' W') ->
         aI P tb.ng (.round l args) H (.k (.ret (.bool j.isNone) (H2.put l (.loop j.isNone j nt2 lt2 ps2 x2 y2 db2)) (Nat.lor (Nat.lor (bit l) r1) r2) (Nat.lor (Nat.lor w1 (bit l)) (Nat.lor w2 (bit l))))):=by
         intro j rdd nt2 lt2 ps2 x2 y2 db2 wH _ hpost
         have aet:alive H2 l:=(aH _ _).2 (by rw[wH];simp)
         have c4:Can H2 (H2.put l (.loop j.isNone j nt2 lt2 ps2 x2 y2 db2)) (bit l):=eJ c3.wf _ aet
         generalize hH3:H2.put l (.loop j.isNone j nt2 lt2 ps2 x2 y2 db2)=H3 at c4 ⊢
         have c34:Can H1' H3 (Nat.lor w2 (bit l)):=Can.comp c3 c4
         have c234:Can H1 H3 (Nat.lor (bit l) (Nat.lor w2 (bit l))):=Can.comp c2 c34
         refine⟨by have:=Can.comp c1 c234;rwa [<-aU]at this,λβ W hg p m args' em hl=>?_⟩
         have anA:oe (Nat.lor (Nat.lor (bit l) r1) r2) (Nat.lor (Nat.lor w1 (bit l)) (Nat.lor w2 (bit l))) l:=by
          left;rw[aM,aM,(aB l l).2 rfl];rfl
         obtain⟨m',em',o,ho,hr⟩:=p.rel l anA ((aH _ _).2 (by rw[hb];simp))
         rw[em]at em';cases em'
         rw[hb]at hr
         obtain⟨tmps,fn,md,st,rfl,_,htr,_,hst⟩:=hr
         obtain⟨hlen,anb⟩:=Sj (jY nt) _ _ _ _ _ _ hs hl htr
         have hy:=run_yield (P:=P) (args:=args') ho (by show args'.size=ps.toArray.size;have:=Array.length_toList (xs:=args');simp only[List.size_toArray];omega)
         refine⟨fn,_,x,y,hy,?_⟩
         refine roundIn_of_wpIn (n:=0) trivial ?_
         have p':Pre β H H3 (Nat.lor r1 (Nat.lor 0 (Nat.lor r2 0))) (Nat.lor w1 (Nat.lor (bit l) (Nat.lor w2 (bit l)))) W:=by
          rw[aK,aF,<-aU w1]
          exact p.less (λb hb'=>by
           rcases hb' with h|h
           ·left;rw[aM]at h;rw[aM,aM];simp only[Bool.or_eq_true]at h ⊢;rcases h with h|h<;>simp[h]
           ·exact .inr h) λb h=>h
         have ag9:jc β nt t ((ps.toArray.zip args').foldl (λtmps (x:Tmp×Value)=>tmps.setIfInBounds x.1 x.2) tmps):=by
          have e:(ps.toArray.zip args').foldl (λtmps (x:Tmp×Value)=>tmps.setIfInBounds x.1 x.2) tmps=(ps.zip args'.toList).foldl (λtmps x=>tmps.setIfInBounds x.1 x.2) tmps:=by
           rw[<-Array.foldl_toList];simp
          rw[e];exact anb
         have w1':=k1 β W { tmps:=(ps.toArray.zip args').foldl (λtmps (x:Tmp×Value)=>tmps.setIfInBounds x.1 x.2) tmps,defers:=[] } (FW.inRound m.rb) hg ⟨m,em,rfl⟩ ⟨ag9,gj.nil β⟩ (p'.first c234)
         refine wpIn_mono w1' λe a1 W1 hc=>?_
         obtain⟨β1,hx,tB,q1⟩:=hc
         cases e<;>try exact hx.elim
         have p2:=Pre.second c1 c234 p' q1
         obtain⟨m',em',o1,G0,hr1⟩:=p2.rel l (yo (qf ((aB l l).2 rfl))) IZ
         have:=q1.le _ _ em;rw[em']at this;cases this
         rw[jK]at hr1
         obtain⟨tmps1,fn1,md1,st1,rfl,anq,ana,ane,FO⟩:=hr1
         simp only[if_true]at FO
         subst FO
         have anC:=run_beginRound (P:=P) G0 rfl
         refine⟨_,anC,?_⟩
         rw[kM]
         have q2:=jm (H:=H1) (W:=W1) (o':=.loop { state:=.busy,pending:=none,fn:=fn1,tmps:=tmps1,params:=ps1.toArray,assign:=x1,body:=y1,defers:=md1.rb }) (.loop false none nt1 lt1 ps1 x1 y1 db1) c1.wf IZ em' G0
          ⟨tmps1,fn1,md1,.busy,rfl,anq,ana,ane,rfl⟩ p2.dom
         rw[anJ]at q2
         have p3:=Pre.second c2 c34 p2 q2
         have w2':=k3 β1 _ a1 (FW.inRound m.rb) (hg.mono q1.le) ⟨m,em',rfl⟩ tB (p3.first c4)
         refine wpIn_mono w2' λe a2 W2 hc=>?_
         obtain⟨β2,hx2,vD,q3⟩:=hc
         have em2:β2 l=some m:=q3.le _ _ em'
         have p4:=Pre.second c3 c4 p3 q3
         obtain⟨m',em3,o2,FQ,QL⟩:=p4.rel l (.inr ((aB l l).2 rfl)) aet
         rw[em2]at em3;cases em3
         rw[wH]at QL
         obtain⟨tmps2,fn2,md2,st2,rfl,anp,am_,anc,qB⟩:=QL
         have hend:=run_endRound (P:=P) j FQ
         have:=hpost (uN β H H3 (Nat.lor (Nat.lor w1 (bit l)) (Nat.lor w2 (bit l))) W (.bool j.isNone)) β2 e a2 W2 hx2
         rw[em2]at this
         refine this ⟨_,_,hend,β2,.bool j.isNone,rfl,.bool _,?_⟩
         rw[kM]
         have q4:=jm (H:=H2) (W:=W2) (o':=.loop { state:=if j.isNone then .ready else .done,pending:=j,fn:=fn2,tmps:=tmps2,params:=ps2.toArray,assign:=x2,body:=y2,defers:=md2.rb }) (.loop j.isNone j nt2 lt2 ps2 x2 y2 db2) c3.wf aet em2 FQ
          ⟨tmps2,fn2,md2,_,rfl,anp,am_,anc,by cases j<;>rfl⟩ p4.dom
         rw[hH3]at q4
         have q34:=Post.comp c3 c4 p3 q3 q4
         have q234:=Post.comp c2 c34 p2 q2 q34
         have q:=Post.comp c1 c234 p' q1 q234
         rw[<-aU]at q
         exact q
        unfold endRound
        simp only[]
        cases wH:H2.blk l with
        |no=>trivial
        |cells=>trivial
        |obj=>trivial
        |loop rd2 pd2 nt2 lt2 ps2 x2 y2 db2 =>
         cases rd2 with
         |true=>trivial
         |false =>
         cases pd2 with
         |some c=>trivial
         |none =>
         simp only[]
         cases e2 with
         |normal =>
          exact main none true nt2 lt2 ps2 x2 y2 db2 wH (λe h β=>by cases e<;>first|trivial|exact h.elim) (λR β e a' W' hx h=>by cases e<;>first|exact h|exact hx.elim)
         |ret =>
          exact main (some .ret) true nt2 lt2 ps2 x2 y2 db2 wH (λe h β=>by cases e<;>first|trivial|exact h.elim) (λR β e a' W' hx h=>by cases e<;>first|exact h|exact hx.elim)
         |exit id =>
          refine main (some (.exit id)) true nt2 lt2 ps2 x2 y2 db2 wH (λe h β=>by cases e<;>first|exact h|exact h.elim) (λR β e a' W' hx h=>?_)
          cases e<;>try exact hx.elim
          have:id=_:=hx
          subst this;exact h
         |goto id =>
          refine main (some (.goto id)) true nt2 lt2 ps2 x2 y2 db2 wH (λe h β=>by cases e<;>first|exact h|exact h.elim) (λR β e a' W' hx h=>?_)
          cases e<;>try exact hx.elim
          have:id=_:=hx
          subst this;exact h
         |panic v=>trivial
    |_=>trivial
end
end Go.Ev
end
