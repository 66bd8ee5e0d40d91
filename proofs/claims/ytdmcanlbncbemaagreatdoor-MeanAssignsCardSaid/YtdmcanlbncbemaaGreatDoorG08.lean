/-
 A part of the reckoner for the statements of a Go program: what it answers,the model answers. Holds for every program whose tables are as given.
-/
import Derived.Test.YtdmcanlbncbemaaGreatDoorG06
import Derived.Test.YtdmcanlbncbemaaGreatDoorG07
set_option linter.unusedSimpArgs false
set_option linter.unusedVariables false
set_option linter.unusedSectionVars false
set_option maxRecDepth 100000
set_option maxHeartbeats 8000000
noncomputable section
namespace Go.Ev
theorem CE {w n b:Nat} (h:w<2 ^ n) (hb:w.testBit b=true):b<n:=by
 rcases Nat.lt_or_ge b n with h1|h1
 ·exact h1
 ·have:=Nat.testBit_lt_two_pow (Nat.lt_of_lt_of_le h (Nat.pow_le_pow_right (by decide) h1))
  rw[hb]at this;cases this
variable [dj]
def Mp.cut (β:Mp) (n:Nat):Mp:=λb=>open Classical in if b<n\/SY<=b then β b else none
theorem Mp.eU {β:Mp} {n b:Nat} (h:b<n):β.cut n b=β b:=by unfold Mp.cut;rw[if_pos (.inl h)]
theorem Mp.DC {β:Mp} {n b:Nat} (h:SY<=b):β.cut n b=β b:=by unfold Mp.cut;rw[if_pos (.inr h)]
theorem Mp.qL {β:Mp} {n b:Nat} (h:n<=b) (h':b<SY):β.cut n b=none:=by unfold Mp.cut;rw[if_neg (by omega)]
theorem Mp.jy (β:Mp) (n:Nat):Mp.le (β.cut n) β:=λb m h=>by
 unfold Mp.cut at h
 split at h
 ·exact h
 ·cases h
theorem cX.cut {ng n:Nat} {β:Mp} (hn:ng<=n) (h:cX ng β):cX ng (β.cut n) :=
 ⟨λg hg=>by rw[Mp.eU (Nat.lt_of_lt_of_le hg hn)];exact h.1 g hg,dj.loc (λk hk=>Mp.DC hk) h.2⟩
def fK (tab:Nat->Option Value):Prop:=∀ (β:Mp) (k:Nat) (v:Value),lN.Q β->tab k=some v->∃ m,β (SY+k)=some m/\RG m v/\∀ v',RG m v'->v'=v
theorem fK.none:fK λ_=>none:=λβ k v h h'=>by cases h'
theorem jN {f:Value->Value->Bool} {β β':Mp} (h:∀ c v v',f c v=true->ai β v v'->ai β' c v'):∀ {cs vs vs':List Value},o7 f cs vs=true->ak β vs vs'->ak β' cs vs'
 | [],[],vs',_,hl=>by rw[hl.aL];exact ak.nil β'
 | [],_::_,_,ha,_=>by cases ha
 |_::_,[],_,ha,_=>by cases ha
 |c::cs,v::vs,vs',ha,hl=>by
  simp only[o7,Bool.and_eq_true]at ha
  obtain⟨v',l',rfl,hv,hl'⟩:=hl.cons_inv
  exact ak.cons (h c v v' ha.1 hv) (jN h ha.2 hl')
theorem Ld {β:Mp} {v v':Value} (h:ai β v v') (h1:bQ v=true) (h2:Ig v=true):(∀ b,v'≠.bool b)/\bQ v'=true/\v'.cells = #[v']:=by
 cases h<;>first
  |(cases h2;done)
  |(rename_i hs;exact lU hs)
  |exact⟨(λb h=>by cases h),rfl,rfl⟩
  |(cases h1;done)
theorem Tq {β:Mp} {v v':Value} (h:ai β v v') (h2:Ig v=true):∀ b,v'≠.bool b:=by
 intro b hb
 subst hb
 cases h with
 |bool=>cases h2
 |dead _ h=>exact h b rfl
 |sym k m _ e hs=>exact(lU hs).1 b rfl
structure BJ (pm:Nat->Nat->Bool) (β β':Mp):Prop where
 blk:∀ b b' m,pm b b'=true->β b'=some m->β' b=some m
 sy:∀ k m,β (SY+k)=some m->β' (SY+k)=some m
theorem iV (β:Mp) (n0:Nat):BJ (Cd n0) β (β.cut n0):=⟨λb b' m h e=>by
 unfold Cd at h
 rw[Bool.and_eq_true,beq_iff,an]at h
 obtain⟨rfl,h⟩:=h
 rw[Mp.eU h];exact e,λk m e=>by rw[Mp.DC (by omega)];exact e⟩
theorem pM [jb] {tab:Nat->Option Value} (ht:fK tab) {pm:Nat->Nat->Bool} {β β':Mp} (hm:BJ pm β β') (hq:lN.Q β):∀ (d:Nat) (c v v':Value),iL tab pm d c v=true->ai β v v'->ai β' c v'
 |0,_,_,_,h,_=>by cases h
 |d+1,c,v,v',h,hv=>by
  have ih:=pM ht hm hq d
  unfold iL at h
  split at h
  ·rename_i a
   split at h
   ·rename_i b
    cases a<;>cases b<;>first|(cases hv;exact .bool _)|(simp at h)
   ·cases h
  ·rename_i k x
   split at h
   ·rename_i j y
    simp only[Bool.and_eq_true,dY,beq_iff_eq]at h
    have:=iB h.1;have:=h.2
    subst_vars;cases hv;exact .int _ _
   ·rename_i j
    split at h
    ·rename_i i y e
     simp only[Bool.and_eq_true,dY,beq_iff_eq]at h
     have:=iB h.1;have:=h.2
     subst_vars
     cases hv with|sym _ m _ em hs =>
     obtain⟨m',em',_,hu⟩:=ht β j _ hq e
     rw[em]at em';cases em'
     rw[hu _ hs];exact .int _ _
    ·cases h
   ·cases h
  ·rename_i s
   split at h
   ·rename_i s'
    rw[gv,beq_iff_eq]at h
    cases hv
    have:s=s':=by cases s;cases s';congr 1;exact Array.toList_inj.1 h
    subst this;exact .string _
   ·cases h
  ·split at h
   ·cases hv;exact .HU
   ·rename_i b o b' o'
    simp only[Bool.and_eq_true,beq_iff]at h
    obtain⟨h1,h2⟩:=h
    subst h2
    cases hv with|ptr _ _ m e=>exact .ptr _ _ m (hm.blk _ _ _ h1 e)
   ·cases h
  ·rename_i l k
   split at h
   ·rename_i l' k'
    simp only[Bool.and_eq_true,beq_iff]at h
    obtain⟨h1,h2⟩:=h
    subst h1 h2
    cases hv;exact .AA _ _
   ·rename_i b o b' o' l' k'
    simp only[Bool.and_eq_true,Bool.or_eq_true,beq_iff,an,aE]at h
    obtain⟨⟨⟨h1,h2⟩,h4⟩,h5⟩:=h
    subst h2 h4
    cases hv with|sl _ _ _ _ c' m e hc =>
    refine .sl _ _ _ _ c' m (hm.blk _ _ _ h1 e) ?_
    rcases h5 with h5|⟨⟨h5,h6⟩,h7⟩
    ·subst h5;exact hc
    ·refine⟨λh=>by omega,λ_=>?_⟩
     have:=hc.2 h6
     exact⟨Nat.le_trans (Nat.div_le_div_right h7) this.1,this.2⟩
   ·cases h
  ·split at h
   ·cases hv;exact .TJ
   ·rename_i b b'
    cases hv with|map _ m e=>exact .map _ m (hm.blk _ _ _ h e)
   ·cases h
  ·exact .dead _ (Tq hv h)
  ·rename_i k
   have un:k=0->bQ v=true->Ig v=true->ai β' (.chan (some k)) v':=λe h1 h2=>by
    subst e
    obtain⟨m,em,h4⟩:=jb.unk hq
    exact .sym 0 m v' (hm.sy 0 m em) (.inr (.inr (.inr (.inr (.inl ⟨h4,Ld hv h1 h2⟩)))))
   split at h
   ·rename_i j
    rw[Bool.or_eq_true,beq_iff,beq_iff]at h
    rcases h with h|h
    ·subst h
     cases hv with|sym _ m _ e hs=>exact .sym k m v' (hm.sy _ _ e) hs
    ·exact un h rfl rfl
   ·rename_i i x
    rw[Bool.or_eq_true,beq_iff]at h
    rcases h with h|h
    ·exact un h rfl rfl
    ·split at h
     ·rename_i j y e
      simp only[Bool.and_eq_true,dY,beq_iff_eq]at h
      have:=iB h.1;have:=h.2
      subst_vars
      cases hv
      obtain⟨m,em,hs,_⟩:=ht β k _ hq e
      exact .sym k m _ (hm.sy _ _ em) hs
     ·cases h
   ·simp only[Bool.and_eq_true,beq_iff]at h
    exact un h.1.1 h.1.2 h.2
  ·rename_i f as cs
   split at h
   ·rename_i f' as' cs'
    simp only[Bool.and_eq_true,beq_iff]at h
    obtain⟨⟨h1,h2⟩,h3⟩:=h
    subst h1
    cases hv with|func _ xs xs' ys ys' e1 e2 e3 e4 =>
    have l1:=jN ih h2 (show ak β xs xs' from ⟨e1,e2⟩)
    have l2:=jN ih h3 (show ak β ys ys' from ⟨e3,e4⟩)
    exact .func _ as.toList xs' cs.toList ys' l1.1 l1.2 l2.1 l2.2
   ·cases h
  ·split at h
   ·cases hv;exact .nilFunc
   ·cases h
  ·rename_i t x
   split at h
   ·rename_i t' y
    simp only[Bool.and_eq_true,beq_iff]at h
    obtain⟨h1,h2⟩:=h
    subst h1
    cases hv with|iface _ _ y' hy=>exact .iface _ _ _ (ih _ _ _ h2 hy)
   ·cases h
  ·split at h
   ·cases hv;exact .nilIface
   ·cases h
  ·rename_i a
   split at h
   ·rename_i b
    simp only[Bool.and_eq_true]at h
    cases hv with|agg xs xs' e0 e1 e2 =>
    have l1:=jN ih h.2 (show ak β xs xs' from ⟨e1,e2⟩)
    exact .agg a.toList xs' h.1 l1.1 l1.2
   ·cases h
  ·rename_i a
   split at h
   ·rename_i b
    cases hv with|tuple xs xs' e1 e2 =>
    have l1:=jN ih h (show ak β xs xs' from ⟨e1,e2⟩)
    exact .tuple a.toList xs' l1.1 l1.2
   ·cases h
  ·cases h
theorem eH {f:Value->Value->Bool}:∀ (d:Nat) (x y:Oc Value d),p9 f d x y=true->∀ i,f (nw Value d x i) (nw Value d y i)=true
 |0,x,y,h,i=>h
 |d+1,x,y,h,i=>by
  rw[pK,pK]
  obtain⟨a,b,c,e,g,h1,i1,j⟩:=(x:N8 (Oc Value d))
  obtain⟨a',b',c',e',g',h',i',j'⟩:=(y:N8 (Oc Value d))
  simp only[p9,Bool.and_eq_true]at h
  obtain⟨p0,p1,p2,p3,p4,p5,p6,p7⟩:=h
  cases dg i with
  |d0=>exact eH d _ _ p0 _
  |d1=>exact eH d _ _ p1 _
  |d2=>exact eH d _ _ p2 _
  |d3=>exact eH d _ _ p3 _
  |d4=>exact eH d _ _ p4 _
  |d5=>exact eH d _ _ p5 _
  |d6=>exact eH d _ _ p6 _
  |d7=>exact eH d _ _ p7 _
theorem Gy {f:Value->Value->Bool} {s t:T Value} (h:Wk f s t=true) (i:Nat):f (s.get i) (t.get i)=true:=by
 unfold Wk at h
 split at h
 ·exact h
 ·exact eH 1 _ _ h i
 ·exact eH 2 _ _ h i
 ·exact eH 3 _ _ h i
 ·exact eH 4 _ _ h i
 ·exact eH 5 _ _ h i
 ·exact eH 6 _ _ h i
 ·cases h
theorem yZ {f:Value->Value->Bool} {s t:T Value}:∀ {n:Nat},Wl f s t n=true->∀ i,i<n->f (s.get i) (t.get i)=true
 |0,_,i,hi=>by omega
 |n+1,h,i,hi=>by
  simp only[Wl,Bool.and_eq_true]at h
  by_cases e:i=n
  ·subst e;exact h.1
  ·exact yZ h.2 i (by omega)
theorem sY [jb] {tab:Nat->Option Value} (ht:fK tab) {pm:Nat->Nat->Bool} {β β':Mp} (hm:BJ pm β β') (hq:lN.Q β) {d:Nat} {W:World} {x y:dB} {m:Bm} (h:qM (iL tab pm d) x y=true) (hb:fM β W y m):fM β' W x m:=by
 obtain⟨o,ho,hr⟩:=hb
 refine⟨o,ho,?_⟩
 unfold qM at h
 split at h
 ·trivial
 ·rename_i t n ty op lo hi
  split at h
  ·rename_i t2 n2 ty2 op2 lo2 hi2
   simp only[Bool.and_eq_true,Bool.or_eq_true,beq_iff,an,aE]at h
   obtain⟨h2,h3,h4,h5,h6⟩:=h
   subst h2 h3 h4 h5
   obtain⟨cs,fr,g1,g2,g3,g4,g5,g6,g7⟩:=hr
   have hn:n<=n2:=by rcases h6 with h|h<;>omega
   refine⟨cs,fr,g1,g2,by omega,λh0=>⟨(g4 h0).1,?_⟩,g5,λi hi=>?_,g7⟩
   ·rcases h6 with h|h
    ·have:=(g4 h0).2;omega
    ·omega
   obtain⟨c1,v',c2,c3⟩:=g6 i (by omega)
   have:Bu (iL tab pm d) (t.get i) (t2.get i)=true:=by
    rcases h6 with h|h
    ·rcases h.2 with h'|h'
     ·omega
     ·exact Gy h' i
    ·exact yZ h.2.2 i hi
   simp only[Bu,Bool.and_eq_true,Bool.or_eq_true,Bool.not_eq_true']at this
   refine⟨?_,v',c2,pM ht hm hq d _ _ _ this.1 c3⟩
   rcases this.2 with h|h
   ·exact h
   ·rw[c1]at h;cases h
  ·cases h
 ·split at h
  ·split at h
   ·split at h
    ·have:=(beq_iff _ _).1 h;subst this
     obtain⟨mk,ty,l,g1,g2⟩:=hr
     exact⟨mk,ty,l,hm.sy _ _ g1,g2⟩
    ·cases h
   ·cases h
  ·cases h
 ·cases h
theorem j6 {f:Value->Value->Bool} {x y:dB} (h:qM f x y=true) (hx:x≠.no):y≠.no:=by
 unfold qM at h
 split at h
 ·exact absurd rfl hx
 ·split at h
  ·intro e;cases e
  ·cases h
 ·split at h
  ·split at h
   ·intro e;cases e
   ·cases h
  ·cases h
 ·cases h
theorem g_:∀ (l:List (Nat×dB)) (t:T dB) (b:Nat),(∀ x∈l,x.1<32768)->b<32768->(jE l t).get b=(match ug l b with|some x=>x|none=>t.get b)
 | [],_,_,_,_=>rfl
 |(i,B)::l,t,b,hl,hb=>by
  simp only[jE,ug]
  rw[g_ l _ b (λx hx=>hl x (by simp[hx])) hb]
  have hi:i<32768:=hl (i,B) (by simp)
  rw[T.ef 5 t i b B (by omega) (by omega)]
  cases ug l b with
  |some x=>rfl
  |none =>
   simp only[]
   by_cases e:b=i
   ·rw[if_pos e,if_pos e]
   ·rw[if_neg e,if_neg e]
theorem kN:∀ {l:List (Nat×dB)} {b:Nat} {B:dB},ug l b=some B->(b,B)∈l
 | [],b,B,h=>by simp[ug]at h
 |(i,C)::l,b,B,h=>by
  simp only[ug]at h
  split at h
  ·rename_i x e
   cases h
   exact List.mem_cons_of_mem _ (kN e)
  ·split at h
   ·rename_i e;cases h;subst e;exact List.mem_cons_self
   ·cases h
theorem sk:∀ {l:List (Nat×dB)} {b:Nat},(l.any λx=>Nat.beq x.1 b)=true->∃ B,ug l b=some B
 | [],b,h=>by simp at h
 |(i, C)::l,b,h=>by
  simp only[ug]
  cases e:ug l b with
  |some x=>exact⟨x,rfl⟩
  |none =>
   simp only[List.any_cons,Bool.or_eq_true,beq_iff]at h
   rcases h with h|h
   ·exact⟨C,by rw[if_pos h.symm]⟩
   ·obtain⟨B,hB⟩:=sk h
    rw[e]at hB;cases hB
theorem lO.mono {P:Program} {f:FuncId} {args:Array Value} {W:World} {R R':Ending->World->Prop} (h:lO P f args W R) (hr:∀ e W',R e W'->R' e W'):lO P f args W R':=by
 rcases h with⟨h1,h2⟩|⟨v,W',h1,h2⟩
 ·exact .inl ⟨h1,h2.mono hr⟩
 ·exact .inr ⟨v,W',h1,hr _ _ h2⟩
def Kh (v:Value) (e:Ending) (v':Value):Prop:=match dL v with
 |none=>e=.returned v'
 |some _=>∃ x' old,v'=zJ x'/\e=.panicked ({ v:=x',recovered:=false }::old)/\Af old
def EP (β:Mp) (H H':Hp) (w:Nat) (W:World) (v:Value):Ending->World->Prop:=λe W'=>∃ β' v',Kh v e v'/\ai β' v v'/\Post β β' H H' w W W'
theorem Hh {v x:Value} (h:dL v=some x):v=zJ x:=by
 unfold dL at h
 split at h
 ·cases h;rfl
 ·cases h
theorem SV {β:Mp} {x x':Value} (h:ai β x x'):ai β (zJ x) (zJ x'):=by
 have l0:ak β [x] [x']:=ak.cons h (ak.nil β)
 have h1:ai β (.tuple ⟨[x]⟩) (.tuple ⟨[x']⟩):=.tuple [x] [x'] l0.1 l0.2
 have l1:ak β [Value.tuple ⟨[x]⟩] [Value.tuple ⟨[x']⟩]:=ak.cons h1 (ak.nil β)
 exact .tuple _ _ l1.1 l1.2
theorem SW {β:Mp} {x x':Value} (h:ai β (zJ x) (zJ x')):ai β x x':=by
 have h:ai β (.tuple ⟨[.tuple ⟨[x]⟩]⟩) (.tuple ⟨[.tuple ⟨[x']⟩]⟩):=h
 cases h with|tuple xs xs' e1 e2 =>
 obtain⟨a,l,e,ha,hl⟩:=(show ak β [Value.tuple ⟨[x]⟩] [Value.tuple ⟨[x']⟩]from ⟨e1,e2⟩).cons_inv
 cases e
 cases ha with|tuple xs xs' e1 e2 =>
 obtain⟨a,l,e,ha,hl⟩:=(show ak β [x] [x']from ⟨e1,e2⟩).cons_inv
 cases e
 exact ha
theorem fI {P:Program} {ng:Nat} {f:FuncId} {args:List Value} {H H':Hp} {v:Value} {r w:Nat}:aI P ng (.call f args) H (.k (eO v H' r w))↔Can H H' w/\∀ β W,cX ng β->Pre β H H' r w W->∀ args':Array Value,ak β args args'.toList->lO P f args' W (EP β H H' w W v):=by
 unfold eO
 cases hu:dL v with
 |none =>
  simp only[]
  have e:∀ β W,EP β H H' w W v=uN β H H' w W v:=λβ W=>by
   funext e W'
   simp only[EP,uN,Kh,hu]
  constructor
  ·rintro⟨h1,h2⟩;exact⟨h1,λβ W hg p args' hl=>by rw[e];exact h2 β W hg p args' hl⟩
  ·rintro⟨h1,h2⟩;exact⟨h1,λβ W hg p args' hl=>by have:=h2 β W hg p args' hl;rw[e]at this;exact this⟩
 |some x =>
  simp only[]
  have hv:=Hh hu
  have e:∀ β W en W',EP β H H' w W v en W'↔Kf β H H' w W x en W':=λβ W en W'=>by
   simp only[EP,Kf,Kh,hu]
   constructor
   ·rintro⟨β',v',⟨x',old,rfl,rfl,hn⟩,hr,q⟩
    rw[hv]at hr
    exact⟨β',x',old,rfl,hn,SW hr,q⟩
   ·rintro⟨β',x',old,rfl,hn,hr,q⟩
    exact⟨β',zJ x',⟨x',old,rfl,rfl,hn⟩,by rw[hv];exact SV hr,q⟩
  constructor
  ·rintro⟨h1,h2⟩;exact⟨h1,λβ W hg p args' hl=>(h2 β W hg p args' hl).mono λen W' h=>(e β W en W').2 h⟩
  ·rintro⟨h1,h2⟩;exact⟨h1,λβ W hg p args' hl=>(h2 β W hg p args' hl).mono λen W' h=>(e β W en W').1 h⟩
def kD (P:Program) (ng:Nat) (c:ff):Prop:=aI P ng (.call c.f c.args) c.h0 (.k (eO c.v c.h1 c.r c.w))
end Go.Ev
end
noncomputable section
namespace Go.Ev
variable [dj]
theorem aa5 {α:Type} {b:Bool} {x y:α} (h:Bc b (some x) none=some y):b=true/\x=y:=by
 cases b with
 |true=>rw[aj]at h;cases h;exact⟨rfl,rfl⟩
 |false=>rw[au]at h;cases h
theorem Yu {tab:Nat->Option Value} {c:ff} {f:Nat} {args:List Value} {H:Hp} {q:Value×Hp×Nat×Nat} (h:spC tab c f args H=some q) :
 ∃ t nx,H=.mk t nx/\f=c.f/\o7 (iL tab (Cd c.n0) 12) c.args args=true/\(nx=c.n0\/(c.n1=c.n0/\c.n0<=nx))/\(∀ x∈c.pre,qM (iL tab (Cd c.n0) 12) x.2 (t.get x.1)=true) /\
  q=(c.v,.mk (jE c.post t) (Bc (Nat.beq c.n1 c.n0) nx c.n1),c.r,c.w):=by
 unfold spC at h
 split at h
 ·rename_i t nx
  obtain⟨hb,hq⟩:=aa5 h
  simp only[Bool.and_eq_true,Bool.or_eq_true,beq_iff,aE,List.all_eq_true]at hb
  exact⟨t,nx,rfl,hb.1,hb.2.1,hb.2.2.1,hb.2.2.2,hq.symm⟩
 ·cases h
structure Fits (ng:Nat) (c:ff):Prop where
 ng:ng<=c.n0
 le:c.n0<=c.n1
 n1:c.n1<=32768
 r:c.r<2 ^ c.n0
 w:c.w<2 ^ c.n0
 pre:∀ x∈c.pre,x.1<c.n0
 post:∀ x∈c.post,x.1<c.n1/\(c.n0<=x.1\/c.w.testBit x.1=true)
 wp:∀ x∈c.pre,c.w.testBit x.1=true->∃ B,ug c.post x.1=some B
 new:∀ b,c.n0<=b->b<c.n1->∃ B,ug c.post b=some B
theorem ff.Ds {ng:Nat} {c:ff} (h:c.fits ng=true):Fits ng c:=by
 unfold ff.fits at h
 simp only[Bool.and_eq_true,Bool.or_eq_true,Bool.not_eq_true',beq_iff,aE,an,List.all_eq_true,List.mem_range]at h
 obtain⟨h1,h2,h3,h4,h5,h6,h7,h8,h9⟩:=h
 refine⟨h1,h2,h3,h4,h5,h6,h7,λx hx hw=>?_,λb hb hb'=>?_⟩
 ·rcases h8 x hx with h|h
  ·rw[hw]at h;cases h
  ·exact sk h
 ·have:=h9 (b-c.n0) (by omega)
  rw[show c.n0+(b-c.n0)=b from by omega]at this
  exact sk this
theorem Hu:32768<SY:=by unfold SY;decide
section
variable {P:Program} {ng:Nat} {tab:Nat->Option Value} {c:ff}
theorem lA (F:Fits ng c) {b:Nat} (ha:alive c.h0 b):∃ B,(b,B)∈c.pre/\c.h0.blk b=B/\B≠.no:=by
 obtain⟨hb,hn⟩:=ha
 have hb:b<c.n0:=hb
 have A7:=F.n1
 have hle:=F.le
 have e:c.h0.blk b=(jE c.pre (.e .no)).get b:=by unfold ff.h0;rw[iD,if_pos hb]
 rw[e,g_ _ _ _ (λx hx=>Nat.lt_of_lt_of_le (F.pre x hx) (by omega)) (by omega)]at hn
 rw[e,g_ _ _ _ (λx hx=>Nat.lt_of_lt_of_le (F.pre x hx) (by omega)) (by omega)]
 cases hl:ug c.pre b with
 |some B=>rw[hl]at hn;exact⟨B,kN hl,rfl,hn⟩
 |none=>rw[hl]at hn;exact absurd rfl hn
theorem Dj (F:Fits ng c) {b:Nat} {B:dB} (hb:b<c.n1) (hl:ug c.post b=some B):c.h1.blk b=B:=by
 have A7:=F.n1
 unfold ff.h1
 rw[iD,if_pos hb,g_ _ _ _ (λx hx=>Nat.lt_of_lt_of_le (F.post x hx).1 A7) (by omega),hl]
theorem acP [jb] (ht:fK tab) (F:Fits ng c) (hc:kD P ng c) {f:Nat} {args:List Value} {H H':Hp} {v:Value} {r w:Nat} (hwf:H.wf) (h:spC tab c f args H=some (v,H',r,w)):aI P ng (.call f args) H (.k (eO v H' r w)):=by
 obtain⟨t,nx,rfl,rfl,hargs,qC,hpre,hq⟩:=Yu h
 cases hq
 have hwf:nx<=32768:=hwf
 have A7:=F.n1
 have hle:=F.le
 obtain⟨can,hc⟩:=fI.1 hc
 have hsy:=Hu
 obtain⟨nx',Uz⟩:∃ nx',Bc (Nat.beq c.n1 c.n0) nx c.n1=nx':=⟨_,rfl⟩
 rw[Uz]
 have hnn:(nx=c.n0/\nx'=c.n1)\/(c.n1=c.n0/\c.n0<=nx/\nx'=nx):=by
  cases e:Nat.beq c.n1 c.n0 with
  |true =>
   rw[e,aj]at Uz
   have:=(beq_iff _ _).1 e
   rcases qC with h|h
   ·exact .inl ⟨h,by omega⟩
   ·exact .inr ⟨this,h.2,Uz.symm⟩
  |false =>
   rw[e,au]at Uz
   rcases qC with h|h
   ·exact .inl ⟨h,Uz.symm⟩
   ·have:=(beq_iff c.n1 c.n0).2 h.1;rw[e]at this;cases this
 have hn0:c.n0<=nx:=by rcases hnn with⟨h,_⟩|⟨_,h,_⟩<;>omega
 have hxx:nx<=nx':=by rcases hnn with⟨h,h'⟩|⟨_,_,h⟩<;>omega
 have hx':nx'<=32768:=by rcases hnn with⟨h,h'⟩|⟨_,_,h⟩<;>omega
 have hp:∀ x∈c.post,x.1<32768:=λx hx=>Nat.lt_of_lt_of_le (F.post x hx).1 A7
 have Z7:∀ {b:Nat} {B:dB},ug c.post b=some B->b<c.n1:=λhl=>(F.post _ (kN hl)).1
 have hlt':∀ {b:Nat} {B:dB},ug c.post b=some B->b<nx':=λhl=>by
  have:=Z7 hl
  rcases hnn with⟨h,h'⟩|⟨h,h',h''⟩<;>omega
 have ahB:∀ {b:Nat} {B:dB},ug c.post b=some B->(Hp.mk (jE c.post t) nx').blk b=B:=λ{b B} hl=>by
  rw[iD,if_pos (hlt' hl),g_ _ _ _ hp (by have:=hlt' hl;omega),hl]
 have ahC:∀ {b:Nat},b<nx'->ug c.post b=none->(Hp.mk (jE c.post t) nx').blk b=t.get b:=λ{b} hb hl=>by
  rw[iD,if_pos hb,g_ _ _ _ hp (by omega),hl]
 have hbH:∀ {b:Nat},b<nx->(Hp.mk t nx).blk b=t.get b:=λ{b} hb=>by rw[iD,if_pos hb]
 have hal:∀ {b:Nat},alive c.h0 b->b<c.n0/\∃ B,(b,B)∈c.pre/\c.h0.blk b=B/\alive (.mk t nx) b:=λ{b} ha=>by
  obtain⟨B,hm,hB,hne⟩:=lA F ha
  have hb:=F.pre _ hm
  refine⟨hb,B,hm,hB,Nat.lt_of_lt_of_le hb hn0,?_⟩
  rw[hbH (Nat.lt_of_lt_of_le hb hn0)]
  exact j6 (hpre _ hm) hne
 have Ut:∀ {b:Nat},c.w.testBit b=true->b<c.n0/\alive c.h0 b/\∃ B,ug c.post b=some B:=λ{b} hw=>by
  have hb:b<c.n0:=CE F.w hw
  have ha:=can.He b hb hw
  obtain⟨B,hm,_⟩:=lA F ha
  exact⟨hb,ha,F.wp _ hm hw⟩
 have hsame:∀ {b:Nat},(nx<=b\/c.w.testBit b=true)->alive (.mk (jE c.post t) nx') b->(c.n0<=b\/c.w.testBit b=true)/\alive c.h1 b/\c.h1.blk b=(Hp.mk (jE c.post t) nx').blk b:=λ{b} hb ha=>by
  have hl:∃ B,ug c.post b=some B:=by
   rcases hb with hb|hb
   ·have hb':b<nx':=ha.1
    rcases hnn with⟨h1,h2⟩|⟨h1,h2,h3⟩
    ·exact F.new b (by omega) (by omega)
    ·omega
   ·exact(Ut hb).2.2
  obtain⟨B,hl⟩:=hl
  have e:c.h1.blk b=(Hp.mk (jE c.post t) nx').blk b:=by rw[Dj F (Z7 hl) hl,ahB hl]
  exact⟨hb.imp (λh=>by omega) id,⟨Z7 hl,by rw[e];exact ha.2⟩,e⟩
 refine fI.2 ⟨⟨hx',hxx,λb hb hw=>?_,λb hb hw=>?_⟩,λβ W hg p args' hl=>?_⟩
 ·have hb:b<nx:=hb
  have hln:ug c.post b=none:=by
   cases e:ug c.post b with
   |none=>rfl
   |some B =>
    rcases(F.post _ (kN e)).2 with h|h
    ·have:=Z7 e
     rcases hnn with⟨h1,h2⟩|⟨h1,h2,h3⟩<;>(simp only at h;omega)
    ·rw[hw]at h;cases h
  rw[ahC (by omega) hln,hbH hb]
 ·obtain⟨h1,h2,_⟩:=Ut hw
  exact(hal h2).2.elim λB h=>h.2.2
 ·have hq:=hg.2
  have hge:=cX.cut F.ng hg
  have pc:Pre (β.cut c.n0) c.h0 c.h1 c.r c.w W:=by
   refine⟨λb hb ha=>?_,λb d mb md hb hd ab ad eb ed=>?_,λb h1 h2=>?_,λb m e=>p.dom b m (Mp.jy _ _ b m e)⟩
   ·obtain⟨hlt,B,hm,hB,PE⟩:=hal ha
    obtain⟨m,e,hr⟩:=p.rel b hb PE
    refine⟨m,by rw[Mp.eU hlt];exact e,?_⟩
    rw[hB]
    rw[hbH (Nat.lt_of_lt_of_le hlt hn0)]at hr
    exact sY ht (iV β c.n0) hq (hpre _ hm) hr
   ·obtain⟨hlb,_,_,_,haB⟩:=hal ab
    obtain⟨hld,_,_,_,haD⟩:=hal ad
    rw[Mp.eU hlb]at eb
    rw[Mp.eU hld]at ed
    exact p.inj b d mb md hb hd haB haD eb ed
   ·have h2:b<c.n1:=h2
    exact Mp.qL h1 (by omega)
  have la:ak (β.cut c.n0) c.args args'.toList:=jN (λx y z hxy hyz=>pM ht (iV β c.n0) hq 12 x y z hxy hyz) hargs hl
  refine(hc (β.cut c.n0) W hge pc args' la).mono λe W' hR=>?_
  obtain⟨βc,v',he,hv,q⟩:=hR
  obtain⟨β',hβ'⟩:∃ β':Mp,β'=λb=>if nx<=b/\b<nx' then βc b else β b:=⟨_,rfl⟩
  have bN:∀ {b},nx<=b->b<nx'->β' b=βc b:=λh1 h2=>by rw[hβ'];simp only[];rw[if_pos ⟨h1,h2⟩]
  have bO:∀ {b},¬ (nx<=b/\b<nx')->β' b=β b:=λh1=>by rw[hβ'];simp only[];rw[if_neg h1]
  have aeq:Mp.le βc β':=λb m hm=>by
   cases e:β.cut c.n0 b with
   |some m2 =>
    have:=q.le _ _ e;rw[hm]at this;cases this
    have e2:=Mp.jy _ _ _ _ e
    rw[bO λh=>by have:=p.fresh b h.1 h.2;rw[this]at e2;cases e2];exact e2
   |none =>
    have:=q.only b m hm e
    have h1:c.n0<=b:=this.1
    have h2:b<c.n1:=this.2
    rcases hnn with⟨g1,g2⟩|⟨g1,g2,g3⟩
    ·rw[bN (by omega) (by omega)];exact hm
    ·omega
  have new:∀ {b m},nx<=b->b<nx'->β' b=some m->βc b=some m/\c.n0<=b:=λh1 h2 h3=>⟨by rw[<-bN h1 h2];exact h3,by omega⟩
  have both:∀ {b m},(nx<=b\/c.w.testBit b=true)->alive (.mk (jE c.post t) nx') b->β' b=some m->βc b=some m:=λ{b m} hb ha e=>by
   by_cases h:nx<=b/\b<nx'
   ·rw[<-bN h.1 h.2];exact e
   ·rw[bO h]at e
    rcases hb with hb|hb
    ·exact absurd ⟨hb,ha.1⟩ h
    ·have:=(Ut hb).1
     exact q.le _ _ (by rw[Mp.eU this];exact e)
  refine⟨β',v',he,hv.mono aeq,?_⟩
  refine⟨λb m e=>?_,λb m e e0=>?_,λb hb ha=>?_,λrb o ho hno=>?_,q.size,λb m e=>?_,λb m hb e0 e=>?_,λb d mb md hb hd ab ad eb ed hrb=>?_,q.env⟩
  ·rw[bO λh=>by have:=p.fresh b h.1 h.2;rw[this]at e;cases e];exact e
  ·by_cases h:nx<=b/\b<nx'
   ·exact h
   ·rw[bO h,e0]at e;cases e
  ·obtain⟨h1,h2,h3⟩:=hsame hb ha
   obtain⟨m,e,o,ho,hr⟩:=q.rel b h1 h2
   rw[h3]at hr
   exact⟨m,aeq _ _ e,o,ho,hr.mono aeq⟩
  ·refine q.frame rb o ho λb m hb hw e=>?_
   exact hno b m (by have hb:b<c.n0:=hb;exact Nat.lt_of_lt_of_le hb hn0) hw (Mp.jy _ _ _ _ e)
  ·by_cases h:nx<=b/\b<nx'
   ·rw[bN h.1 h.2]at e;exact q.dom b m e
   ·rw[bO h]at e;exact Nat.lt_of_lt_of_le (p.dom b m e) q.size
  ·by_cases h:nx<=b/\b<nx'
   ·obtain⟨e1,hn⟩:=new h.1 h.2 e
    have ao8:b<c.n1:=by rcases hnn with⟨g1,g2⟩|⟨g1,g2,g3⟩<;>omega
    rcases q.new b m hn (Mp.qL hn (by omega)) e1 with h|⟨d,md,hd,wG,ed,erb,oN⟩
    ·exact .inl h
    ·refine .inr ⟨d,md,Nat.lt_of_lt_of_le hd hn0,wG,Mp.jy _ _ _ _ ed,erb,λha=>oN (hsame (.inr wG) ha).2.1⟩
   ·rw[bO h,e0]at e;cases e
  ·obtain⟨h1,h2,_⟩:=hsame hb ab
   obtain⟨g1,g2,_⟩:=hsame hd ad
   exact q.inj b d mb md h1 g1 h2 g2 (both hb ab eb) (both hd ad ed) hrb
end
end Go.Ev
end
noncomputable section
namespace Go.Ev
variable [dj]
def Kg (pm:Nat->Nat->Bool) (x y:dB):Prop:=(x≠.no->y≠.no)/\∀ (β β':Mp) (W:World) (m:Bm),BJ pm β β'->lN.Q β->fM β W y m->fM β' W x m
theorem Kg.Tk [jb] {tab:Nat->Option Value} (ht:fK tab) {pm:Nat->Nat->Bool} {d:Nat} {x y:dB} (h:qM (iL tab pm d) x y=true):Kg pm x y:=⟨j6 h,λβ β' W m hm hq hb=>sY ht hm hq h hb⟩
structure ab6 (tab:Nat->Option Value) (c:ff) (src:List Nat) (v':Value) (H':Hp) (r' w':Nat):Prop where
 r:∀ b,b<c.n0->r'.testBit b=true->c.r.testBit b=true
 w:∀ b,b<c.n0->w'.testBit b=true->c.w.testBit b=true
 al:∀ b,c.w.testBit b=true->∃ B,(b,B)∈c.pre
 pre:∀ x∈c.pre,x.2≠.no
 v:iL tab (pmS c.n0 c.n1 src) 12 c.v v'=true
 post:∀ x∈c.post,Kg (pmS c.n0 c.n1 src) x.2 (H'.blk (dG c.n0 src x.1))
 nx:H'.nx<=32768
 self:∀ x∈c.pre,Kg (Cd c.n0) x.2 x.2
 args:o7 (iL tab (Cd c.n0) 12) c.args c.args=true
 small:∀ s∈src,s<32768
 len:src.length=c.n1-c.n0
 nd:src.Nodup
 mv:∀ s∈src,c.n0<=s\/(c.w.testBit s=true/\∀ B,(s,B)∈c.post->B=.no)
theorem AK:∀ {l:List Nat},nodupB l=true->l.Nodup
 | [],_=>List.nodup_nil
 |x::l,h=>by
  simp only[nodupB,Bool.and_eq_true,Bool.not_eq_true',List.any_eq_false,beq_iff]at h
  exact List.nodup_cons.2 ⟨λhx=>h.1 x hx rfl,AK h.2⟩
theorem lM:∀ {l:List (Nat×dB)} {b:Nat},(eE l).testBit b=true->∃ B,(b,B)∈l
 | [],b,h=>by simp[eE]at h
 |(i,B)::l,b,h=>by
  have key:(Nat.lor (bit i) (eE l)).testBit b=true->∃ B',(b,B')∈(i,B)::l:=λh=>by
   rw[aM,Bool.or_eq_true,aB]at h
   rcases h with h|h
   ·subst h;exact⟨B,List.mem_cons_self⟩
   ·obtain⟨B',hB⟩:=lM h;exact⟨B',List.mem_cons_of_mem _ hB⟩
  cases B with
  |no=>obtain⟨B',hB⟩:=lM (l:=l) h;exact⟨B',List.mem_cons_of_mem _ hB⟩
  |cells=>exact key h
  |obj=>exact key h
  |loop=>exact key h
theorem CJ {a b:Nat} (h:Nat.lor a b=b) {i:Nat} (hi:a.testBit i=true):b.testBit i=true:=by
 rw[<-h,aM,hi];rfl
theorem AZ {w n b:Nat} (hb:b<n) (hw:w.testBit b=true):(Nat.land w (2 ^ n-1)).testBit b=true:=by
 show(w &&& (2 ^ n-1)).testBit b=true
 rw[Nat.testBit_and,Nat.testBit_two_pow_sub_one,hw];simp[hb]
theorem Nq [jb] {tab:Nat->Option Value} (ht:fK tab) {c:ff} {src:List Nat} {v':Value} {H':Hp} {r' w':Nat} (h:JG tab c src v' H' r' w'=true):ab6 tab c src v' H' r' w':=by
 unfold JG at h
 simp only[Bool.and_eq_true,beq_iff,aE,an,List.all_eq_true]at h
 obtain⟨h1,h2,h3,h4,h5,h6,k1,k2,k3,k4,h7,h8,h9⟩:=h
 refine⟨λb hb hr=>CJ h1 (AZ hb hr),λb hb hw=>CJ h2 (AZ hb hw),λb hb=>lM (CJ h3 hb),λx hx e=>?_,h5,λx hx=>Kg.Tk ht (h6 x hx),k1,λx hx=>Kg.Tk ht (k2 x hx),k3,k4,h7,AK h8,λs hs=>?_⟩
 ·have:=h4 x hx
  rw[e]at this;cases this
 ·have:=h9 s hs
  simp only[Bool.or_eq_true,aE,Bool.and_eq_true,List.all_eq_true,Bool.not_eq_true']at this
  rcases this with h|⟨h,h'⟩
  ·exact .inl h
  ·refine .inr ⟨h,λB hB=>?_⟩
   rcases h' _ hB with e|e
   ·have:Nat.beq s s=true:=(beq_iff _ _).2 rfl
    simp only at e;rw[this]at e;cases e
   ·cases B with
    |no=>rfl
    |cells=>cases e
    |obj=>cases e
    |loop=>cases e
theorem kI {n0:Nat} {src:List Nat} {b:Nat} (h:b<n0):dG n0 src b=b:=by unfold dG;rw[(an _ _).2 h];rfl
theorem BT {n0:Nat} {src:List Nat} {b:Nat} (h:n0<=b):dG n0 src b=src.getD (b-n0) 0:=by
 unfold dG
 cases e:Nat.blt b n0 with
 |true=>have:=(an _ _).1 e;omega
 |false=>rfl
theorem getD_at {l:List Nat} {i:Nat} (h:i<l.length):l.getD i 0=l[i]:=by simp[List.getD,h]
theorem OU {l:List Nat} (h:l.Nodup) {i j:Nat} (hi:i<l.length) (hj:j<l.length) (e:l[i]=l[j]):i=j:=by
 have hp:=List.pairwise_iff_getElem.1 h
 rcases Nat.lt_trichotomy i j with h1|h1|h1
 ·exact absurd e (hp i j hi hj h1)
 ·exact h1
 ·exact absurd e.symm (hp j i hj hi h1)
section
variable {P:Program} {ng:Nat} {tab:Nat->Option Value} {c:ff} {src:List Nat} {v':Value} {H':Hp} {r' w':Nat}
theorem kD.adw [jb] (ht:fK tab) (F:Fits ng c) (E:ab6 tab c src v' H' r' w') (hp:(dL c.v).isSome=(dL v').isSome) (hrun:aI P ng (.call c.f c.args) c.h0 (.k (eO v' H' r' w'))):kD P ng c:=by
 obtain⟨can,hc⟩:=fI.1 hrun
 have A7:=F.n1
 have hle:=F.le
 have hsy:=Hu
 have ao9:c.n0<=H'.nx:=can.mono
 have Mr:∀ {b:Nat},c.w.testBit b=true->b<c.n0/\alive c.h0 b:=λ{b} hw=>by
  obtain⟨B,hm⟩:=E.al b hw
  have hb:=F.pre _ hm
  have hb:b<c.n0:=hb
  refine⟨hb,hb,?_⟩
  have e:c.h0.blk b=(jE c.pre (.e .no)).get b:=by unfold ff.h0;rw[iD,if_pos hb]
  rw[e,g_ _ _ _ (λx hx=>Nat.lt_of_lt_of_le (F.pre x hx) (by omega)) (by omega)]
  have:∃ B,ug c.pre b=some B:=sk (List.any_eq_true.2 ⟨_,hm,(beq_iff _ _).2 rfl⟩)
  obtain⟨B',hl⟩:=this
  rw[hl]
  exact E.pre _ (kN hl)
 have Ut:∀ {b:Nat},c.w.testBit b=true->∃ B,ug c.post b=some B:=λ{b} hw=>by
  obtain⟨B,hm⟩:=E.al b hw
  exact F.wp _ hm hw
 have hold:∀ {b:Nat},b<c.n0->ug c.post b=none->c.h1.blk b=c.h0.blk b:=λ{b} hb hl=>by
  unfold ff.h0 ff.h1
  rw[iD,iD,if_pos hb,if_pos (by omega),g_ _ _ _ (λx hx=>Nat.lt_of_lt_of_le (F.post x hx).1 A7) (by omega),hl]
 have hcan:Can c.h0 c.h1 c.w:=by
  refine⟨A7,hle,λb hb hw=>?_,λb hb hw=>(Mr hw).2⟩
  have hb:b<c.n0:=hb
  refine hold hb ?_
  cases e:ug c.post b with
  |none=>rfl
  |some B =>
   rcases(F.post _ (kN e)).2 with h|h
   ·simp only at h;omega
   ·rw[hw]at h;cases h
 have hsrc:∀ {b:Nat},(c.n0<=b\/c.w.testBit b=true)->alive c.h1 b->∃ B,(b,B)∈c.post/\c.h1.blk b=B/\Kg (pmS c.n0 c.n1 src) B (H'.blk (dG c.n0 src b))/\H'.blk (dG c.n0 src b)≠.no:=λ{b} hb ha=>by
  have jK:b<c.n1:=ha.1
  have hl:∃ B,ug c.post b=some B:=by
   rcases hb with hb|hb
   ·exact F.new b hb jK
   ·exact Ut hb
  obtain⟨B,hl⟩:=hl
  have e:=Dj F jK hl
  have hm:=kN hl
  have UL:=E.post _ hm
  exact⟨B,hm,e,UL,UL.1 (by rw[<-e];exact ha.2)⟩
 refine fI.2 ⟨hcan,λβ W hg p args' hl=>?_⟩
 have hq:=hg.2
 have hge:=cX.cut F.ng hg
 have e0:∀ {b m},β.cut c.n0 b=some m->β b=some m:=λh=>Mp.jy _ _ _ _ h
 have e1:∀ {b m},b<c.n0->β b=some m->β.cut c.n0 b=some m:=λhb h=>by rw[Mp.eU hb];exact h
 have mcut:∀ {b m},(b<c.n0\/SY<=b)->β b=some m->β.cut c.n0 b=some m:=λhb h=>by
  rcases hb with hb|hb
  ·rw[Mp.eU hb];exact h
  ·rw[Mp.DC hb];exact h
 have ahq:BJ (Cd c.n0) β (β.cut c.n0):=iV β c.n0
 have hin:∀ {b},oe r' w' b->b<c.n0->oe c.r c.w b:=λhb hlt=>hb.imp (E.r _ hlt) (E.w _ hlt)
 have abl:∀ {b m},alive c.h0 b->fM β W (c.h0.blk b) m->fM (β.cut c.n0) W (c.h0.blk b) m:=λ{b m} ha hr=>by
  obtain⟨B,hm,hB,_⟩:=lA F ha
  rw[hB]at hr ⊢
  exact(E.self _ hm).2 _ _ _ _ ahq hq hr
 have pc:Pre (β.cut c.n0) c.h0 H' r' w' W:=by
  refine⟨λb hb ha=>?_,λb d mb md hb hd ab ad eb ed=>?_,λb h1 h2=>Mp.qL h1 (by have:=E.nx;omega),λb m e=>p.dom b m (e0 e)⟩
  ·obtain⟨m,e,hr⟩:=p.rel b (hin hb ha.1) ha
   exact⟨m,e1 ha.1 e,abl ha hr⟩
  ·exact p.inj b d mb md (E.w b ab.1 hb) (hin hd ad.1) ab ad (e0 eb) (e0 ed)
 have la:ak (β.cut c.n0) c.args args'.toList:=jN (λx y z hxy hyz=>pM ht ahq hq 12 x y z hxy hyz) E.args hl
 refine(hc (β.cut c.n0) W hge pc args' la).mono λe W' hR=>?_
 obtain⟨βc,v'',he,hv,q⟩:=hR
 have qC:=E.nx
 have cO:∀ {b m},b<c.n0->βc b=some m->β b=some m:=λ{b m} hb e=>by
  cases e2:β.cut c.n0 b with
  |some m2=>have:=q.le _ _ e2;rw[e]at this;cases this;exact e0 e2
  |none =>
   have h3:c.n0<=b:=(q.only b m e e2).1
   omega
 obtain⟨β',hβ'⟩:∃ β':Mp,β'=λb=>if c.n0<=b/\b<c.n1 then βc (dG c.n0 src b)else β b:=⟨_,rfl⟩
 have bN:∀ {b},c.n0<=b->b<c.n1->β' b=βc (dG c.n0 src b):=λh1 h2=>by rw[hβ'];simp only[];rw[if_pos ⟨h1,h2⟩]
 have bO:∀ {b},¬ (c.n0<=b/\b<c.n1)->β' b=β b:=λh1=>by rw[hβ'];simp only[];rw[if_neg h1]
 have C':∀ {b},c.n0<=b->b<c.n1->dG c.n0 src b∈src:=λ{b} h1 h2=>by
  have hl:=E.len
  have hlt:b-c.n0<src.length:=by omega
  rw[BT h1,getD_at hlt]
  exact List.getElem_mem _
 have hM:BJ (pmS c.n0 c.n1 src) βc β':=by
  refine⟨λb b' m h e=>?_,λk m e=>?_⟩
  ·unfold pmS at h
   simp only[Bool.and_eq_true,an,beq_iff]at h
   obtain⟨⟨h1,h2⟩,_⟩:=h
   subst h2
   by_cases hb:c.n0<=b
   ·rw[bN hb h1];exact e
   ·rw[bO λh=>hb h.1]
    rw[kI (by omega)]at e
    exact cO (by omega) e
  ·rw[bO λh=>by omega]
   cases e2:β.cut c.n0 (SY+k)with
   |some m2=>have:=q.le _ _ e2;rw[e]at this;cases this;exact e0 e2
   |none=>have:=(q.only _ m e e2).2;omega
 have hqc:lN.Q βc:=dj.mono q.le hge.2
 have known:∀ {b},(c.n0<=b\/c.w.testBit b=true)->alive c.h1 b->∃ m,βc (dG c.n0 src b)=some m/\fM βc W' (H'.blk (dG c.n0 src b)) m/\β' b=some m/\alive H' (dG c.n0 src b)/\(dG c.n0 src b<c.n0->c.w.testBit (dG c.n0 src b)=true):=λ{b} hb ha=>by
  obtain⟨B,hm,hB,UL,hne⟩:=hsrc hb ha
  have PE:alive H' (dG c.n0 src b):=(aH _ _).2 hne
  have hws:dG c.n0 src b<c.n0->c.w.testBit (dG c.n0 src b)=true:=λhlt=>by
   by_cases h:c.n0<=b
   ·rcases E.mv _ (C' h ha.1)with h'|h'
    ·omega
    ·exact h'.1
   ·rw[kI (by omega)];exact hb.resolve_left h
  have hm':∃ m,βc (dG c.n0 src b)=some m/\fM βc W' (H'.blk (dG c.n0 src b)) m:=by
   by_cases hA:c.n0<=dG c.n0 src b\/w'.testBit (dG c.n0 src b)=true
   ·exact q.rel _ hA PE
   ·have hlt:dG c.n0 src b<c.n0:=Nat.lt_of_not_le λh=>hA (.inl h)
    have hw':w'.testBit (dG c.n0 src b)=false:=by cases e:w'.testBit (dG c.n0 src b)with|false=>rfl|true=>exact absurd (.inr e) hA
    have hw:=hws hlt
    have ha0:=(Mr hw).2
    obtain⟨m,em,hr⟩:=p.rel _ (.inr hw) ha0
    obtain⟨o,ho,hro⟩:=abl ha0 hr
    refine⟨m,q.le _ _ (e1 hlt em),o,q.frame m.rb o ho λd md hd wG ed he=>?_,?_⟩
    ·have hd:d<c.n0:=hd
     have:=p.inj _ _ m md hw (.inr (E.w _ hd wG)) ha0 (can.He d hd wG) em (e0 ed) he.symm
     rw[<-this,hw']at wG;cases wG
    ·rw[can.keep _ hlt hw'];exact hro.mono q.le
  obtain⟨m,em,hr⟩:=hm'
  refine⟨m,em,hr,?_,PE,hws⟩
  by_cases h:c.n0<=b
  ·rw[bN h ha.1];exact em
  ·rw[bO λh'=>h h'.1]
   rw[kI (by omega)]at em
   exact cO (by omega) em
 have he:Kh c.v e v'':=by
  unfold Kh at he ⊢
  cases h1:dL c.v<;>cases h2:dL v'<;>rw[h1,h2]at hp<;>first|(cases hp;done)|(rw[h2]at he;exact he)
 refine⟨β',v'',he,pM ht hM hqc 12 _ _ _ E.v hv,?_⟩
 refine⟨λb m e=>?_,λb m e eb=>?_,λb hb ha=>?_,λrb o ho hno=>?_,q.size,λb m e=>?_,λb m hb eb e=>?_,λb d mb md hb hd ab ad eb ed hrb=>?_,q.env⟩
 ·rw[bO λh=>by have:=p.fresh b h.1 h.2;rw[this]at e;cases e];exact e
 ·by_cases h:c.n0<=b/\b<c.n1
  ·exact h
  ·rw[bO h,eb]at e;cases e
 ·obtain⟨B,hm,hB,UL,hne⟩:=hsrc hb ha
  obtain⟨m,em,hr,eb,_⟩:=known hb ha
  rw[hB]
  exact⟨m,eb,UL.2 _ _ _ _ hM hqc hr⟩
 ·exact q.frame rb o ho λb m hb hw e=>hno b m hb (E.w b hb hw) (e0 e)
 ·by_cases h:c.n0<=b/\b<c.n1
  ·rw[bN h.1 h.2]at e;exact q.dom _ m e
  ·rw[bO h]at e;exact Nat.lt_of_lt_of_le (p.dom b m e) q.size
 ·by_cases h:c.n0<=b/\b<c.n1
  ·rw[bN h.1 h.2]at e
   have hs:=C' h.1 h.2
   by_cases hlt:dG c.n0 src b<c.n0
   ·rcases E.mv _ hs with h'|⟨h',h''⟩
    ·omega
    ·refine .inr ⟨_,m,hlt,h',cO hlt e,rfl,λha=>?_⟩
     obtain⟨B,hl⟩:=Ut h'
     have:=h'' B (kN hl)
     have e2:=Dj F ha.1 hl
     exact ha.2 (by rw[e2,this])
   ·have ahr:c.n0<=dG c.n0 src b:=by omega
    have hsb:=E.small _ hs
    rcases q.new _ m ahr (Mp.qL ahr (by omega)) e with h'|⟨d,md,hd,wG,ed,erb,oN⟩
    ·exact .inl h'
    ·have hd:d<c.n0:=hd
     refine .inr ⟨d,md,hd,E.w d hd wG,e0 ed,erb,λha=>oN ?_⟩
     obtain⟨B,_,_,_,hne⟩:=hsrc (.inr (E.w d hd wG)) ha
     rw[kI hd]at hne
     exact(aH _ _).2 hne
  ·rw[bO h,eb]at e;cases e
 ·obtain⟨m1,es,_,eb',as,ws⟩:=known hb ab
  obtain⟨m2,et,_,ed',at',wt⟩:=known hd ad
  rw[eb]at eb';cases eb'
  rw[ed]at ed';cases ed'
  have cross:∀ {x y:Nat} {mx my:Bm},βc x=some mx->βc y=some my->mx.rb=my.rb->alive H' x->alive H' y->(x<c.n0->c.w.testBit x=true)->(y<c.n0->c.w.testBit y=true)->¬ (c.n0<=x\/w'.testBit x=true)->x=y:=λ{x y mx my} ex ey hxy ax ay wx wy hA=>by
   have hlt:x<c.n0:=Nat.lt_of_not_le λh=>hA (.inl h)
   have ex0:=cO hlt ex
   have hx0:=(Mr (wx hlt)).2
   by_cases hy:y<c.n0
   ·exact p.inj x y mx my (wx hlt) (.inr (wy hy)) hx0 (Mr (wy hy)).2 ex0 (cO hy ey) hxy
   ·have hyn:y<H'.nx:=ay.1
    rcases q.new y my (by show c.n0<=y;omega) (Mp.qL (by omega) (by omega)) ey with h'|⟨d,md,hd',wG,ed2,erb,_⟩
    ·have:=p.dom x mx ex0;omega
    ·have hd':d<c.n0:=hd'
     have:=p.inj d x md mx (E.w d hd' wG) (.inr (wx hlt)) (can.He d hd' wG) hx0 (e0 ed2) ex0 (by omega)
     subst this
     exact absurd (.inr wG) hA
  have hst:dG c.n0 src b=dG c.n0 src d:=by
   by_cases hA:c.n0<=dG c.n0 src b\/w'.testBit (dG c.n0 src b)=true
   ·by_cases hA2:c.n0<=dG c.n0 src d\/w'.testBit (dG c.n0 src d)=true
    ·exact q.inj _ _ mb md hA hA2 as at' es et hrb
    ·exact(cross et es hrb.symm at' as wt ws hA2).symm
   ·exact cross es et hrb as at' ws wt hA
  have moved:∀ {x y:Nat},x<c.n0->c.n0<=y->y<c.n1->alive c.h1 x->(c.n0<=x\/c.w.testBit x=true)->dG c.n0 src y=x->False:=λ{x y} hx hy hy1 ax hxw e=>by
   have hs:=C' hy hy1
   rw[e]at hs
   rcases E.mv _ hs with h'|⟨_,h''⟩
   ·omega
   ·obtain⟨B,hm,hB,_,_⟩:=hsrc hxw ax
    exact ax.2 (by rw[hB];exact h'' B hm)
  by_cases h1:c.n0<=b
  ·by_cases h2:c.n0<=d
   ·rw[BT h1,BT h2]at hst
    have hl:=E.len
    have l1:b-c.n0<src.length:=by have:b<c.n1:=ab.1;omega
    have l2:d-c.n0<src.length:=by have:d<c.n1:=ad.1;omega
    rw[getD_at l1,getD_at l2]at hst
    have:=OU E.nd l1 l2 hst
    omega
   ·rw[kI (show d<c.n0 by omega)]at hst
    exact(moved (by omega) h1 ab.1 ad hd hst).elim
  ·by_cases h2:c.n0<=d
   ·rw[kI (show b<c.n0 by omega)]at hst
    exact(moved (by omega) h2 ad.1 ab hb hst.symm).elim
   ·rw[kI (by omega),kI (by omega)]at hst;exact hst
end
end Go.Ev
end
noncomputable section
namespace Go.Ev
theorem uC {β:Mp} {f:Value->Bool} (h:∀ v v',f v=true->ai β v v'->v'=v):∀ {l l':List Value},l.all f=true->ak β l l'->l'=l
 | [],l',_,hl=>hl.aL
 |v::l,l',ha,hl=>by
  simp only[List.all_cons,Bool.and_eq_true]at ha
  obtain⟨v',l2,rfl,hv,hl'⟩:=hl.cons_inv
  rw[h v v' ha.1 hv,uC h ha.2 hl']
theorem b8 {β:Mp}:∀ (d:Nat) (v v':Value),aW d v=true->ai β v v'->v'=v
 |0,v,v',h,_=>by simp[aW]at h
 |d+1,v,v',h,hv=>by
  have ih:=b8 (β:=β) d
  cases hv with
  |bool b=>rfl
  |int k n=>rfl
  |float k n=>rfl
  |complex k a b=>rfl
  |string s=>rfl
  |HU=>rfl
  |ptr b o m e=>simp[aW]at h
  |AA l c=>rfl
  |sl=>simp[aW]at h
  |slX=>simp[aW]at h
  |TJ=>rfl
  |map=>simp[aW]at h
  |func f xs xs' ys ys' e1 e2 e3 e4 =>
   simp only[aW,Bool.and_eq_true,List.isEmpty_iff]at h
   obtain⟨rfl,rfl⟩:=h
   have:xs'=[]:=by cases xs' with|nil=>rfl|cons=>simp at e1
   have h2:ys'=[]:=by cases ys' with|nil=>rfl|cons=>simp at e3
   rw[this,h2]
  |yield l m e=>simp[aW]at h
  |nilFunc=>rfl
  |iface t x y hy=>rw[ih x y (by simpa [aW] using h) hy]
  |nilIface=>rfl
  |agg xs xs' e0 e1 e2 =>
   have h':xs.all (λv=>aW d v&&bQ v)=true:=by simpa [aW] using h
   rw[uC (f:=λv=>aW d v&&bQ v) (λv v' hf hv=>ih v v' (by simp only[Bool.and_eq_true]at hf;exact hf.1) hv) h' (show ak β xs xs' from ⟨e1,e2⟩)]
  |dead=>simp[aW]at h
  |sym=>simp[aW]at h
  |tuple xs xs' e1 e2 =>
   have h':xs.all (aW d)=true:=by simpa [aW] using h
   rw[uC (f:=aW d) (λv v' hf hv=>ih v v' hf hv) h' (show ak β xs xs' from ⟨e1,e2⟩)]
variable [dj]
theorem O4 [jb] {P:Program} {ng:Nat} {tab:Nat->Option Value} {c:ff} (ht:fK tab) (F:Fits ng c) (hn:c.n1=c.n0) (hw:c.w=0) (hc:kD P ng c) {H:Hp} (hwf:H.wf) {args:List Value}
 (ha:o7 (iL tab (Cd c.n0) 12) c.args args=true) (hb:∀ x∈c.pre,qM (iL tab (Cd c.n0) 12) x.2 (H.blk x.1)=true):aI P ng (.call c.f args) H (.k (eO c.v H c.r 0)):=by
 obtain⟨can,hc⟩:=fI.1 hc
 rw[hw]at hc
 refine fI.2 ⟨Can.refl hwf,λβ W hg p args' hl=>?_⟩
 have hq:=hg.2
 have hge:=cX.cut F.ng hg
 have pc:Pre (β.cut c.n0) c.h0 c.h1 c.r 0 W:=by
  refine⟨λb hb' hal=>?_,λb d mb md hb'=>?_,λb h1 h2=>?_,λb m e=>p.dom b m (Mp.jy _ _ b m e)⟩
  ·obtain⟨B,hm,hB,hne⟩:=lA F hal
   have hlt:b<c.n0:=F.pre _ hm
   have PE:alive H b:=(aH _ _).2 (j6 (hb _ hm) hne)
   obtain⟨m,e,hr⟩:=p.rel b hb' PE
   refine⟨m,by rw[Mp.eU hlt];exact e,?_⟩
   rw[hB]
   exact sY ht (iV β c.n0) hq (hb _ hm) hr
  ·simp at hb'
  ·have h1:c.n0<=b:=h1
   have h2:b<c.n1:=h2
   omega
 have la:ak (β.cut c.n0) c.args args'.toList:=jN (λx y z hxy hyz=>pM ht (iV β c.n0) hq 12 x y z hxy hyz) ha hl
 refine(hc (β.cut c.n0) W hge pc args' la).mono λe W' hR=>?_
 obtain⟨βc,v',he,hv,q⟩:=hR
 have hle:Mp.le βc β:=λb m e=>by
  cases e2:β.cut c.n0 b with
  |some m2=>have:=q.le _ _ e2;rw[e]at this;cases this;exact Mp.jy _ _ _ _ e2
  |none =>
   have:=q.only b m e e2
   have h1:c.n0<=b:=this.1
   have h2:b<c.n1:=this.2
   omega
 refine⟨β,v',he,hv.mono hle,?_⟩
 refine⟨Mp.le.refl _,λb m e e0=>(by rw[e0]at e;cases e),λb hb' hal=>?_,λrb o ho hno=>q.frame rb o ho λb m _ h=>(by simp at h),q.size,λb m e=>Nat.lt_of_lt_of_le (p.dom b m e) q.size,λb m _ e0 e=>(by rw[e0]at e;cases e),λb d mb md hb' _ hal=>?_,q.env⟩
 ·rcases hb' with h|h
  ·have:=hal.1;omega
  ·simp at h
 ·rcases hb' with h|h
  ·have:=hal.1;omega
  ·simp at h
theorem aI.afu {P:Program} {ng:Nat} {f:FuncId} {H:Hp} {r:Nat} {args:List Value} {v:Value} (hwf:H.wf)
 (h:∀ β W args',cX ng β->Pre β H H r 0 W->ak β args args'->∃ (a:List Value) (v1:Value),(∀ args'',args''.toList=args'->lO P f args'' W (uN β H H 0 W v1))/\∀ β' v',Mp.le β β'->ai β' v1 v'->ai β' v v') :
 aI P ng (.call f args) H (.k (.ret v H r 0)):=by
 refine⟨Can.refl hwf,λβ W hg p args' hl=>?_⟩
 obtain⟨a,v1,h1,h2⟩:=h β W args'.toList hg p hl
 refine(h1 args' rfl).mono λe W' hR=>?_
 obtain⟨β',v',he,hv,q⟩:=hR
 exact⟨β',v',he,h2 β' v' q.le hv,q⟩
end Go.Ev
end
noncomputable section
namespace Go.Ev.SM
def s0:Value:=.string ⟨#[]⟩
def tyV (k p:Int):Value:=.agg ⟨[.int .i64 k,.int .i64 p,.int .i64 0,.bool false,s0]⟩
def gB:Value:=tyV 2 15
def T16:Value:=tyV 2 16
def vl (v:Value):Value:=.agg ⟨[v,s0]⟩
def nV (n:Int):Value:=.int .i64 n
def sy (k:Nat):Value:=.chan (some k)
def nu (p:Int) (v:Value):Bool:=match v with
 |.agg ⟨[.int .i64 k,.int .i64 q,.int .i64 z,.bool b,.string s]⟩=>nQ k 2&&(nQ q p&&(nQ z 0&&(!b&&s.data.toList.isEmpty)))
 |_=>false
def isI (n:Int) (v:Value):Bool:=match v with|.int .i64 m=>nQ m n|_=>false
def rA (v:Value):Option Nat:=match v with
 |.agg ⟨[.chan (some k),.string s]⟩=>Bc s.data.toList.isEmpty (some k) none
 |_=>none
def ZU (n:Int) (v:Value):Bool:=match v with
 |.agg ⟨[.int .i64 m,.string s]⟩=>nQ m n&&s.data.toList.isEmpty
 |_=>false
def numOf (v:Value):Option Nat:=match v with
 |.agg ⟨[.int .i64 (.ofNat m),.string s]⟩=>Bc (s.data.toList.isEmpty&&Nat.blt m 61) (some m) none
 |_=>none
abbrev kE:=Option (Value×Hp×Nat×Nat)
def NL (v:Value) (H:Hp):kE:=some (v,H,0,0)
def acO (lim:Nat) (args:List Value) (H:Hp):kE:=match args with
 | [op,a,ta,b,tb]=>(match rA a with
  |some k=>Bc (nu 15 ta&&nu 15 tb)
   (Bc (isI 7 op) (Bc (ZU 1 b&&(Nat.ble 100 k&&Nat.blt k (100+lim))) (NL (.tuple ⟨[vl (sy (Nat.succ k)),nV 0,nV 0]⟩) H) none)
    (Bc (isI 6 op) (match rA b with
     |some l=>Bc (Nat.ble 100 k&&(Nat.blt k (100+lim)&&Nat.beq l (k+201))) (NL (.tuple ⟨[vl (sy (k+200)),nV 0,nV 0]⟩) H) none
     |none=>none) none)) none
  |none=>none)
 |_=>none
def zH:dB:=aG ((List.range 20).map λi=>.int .u64 (.ofNat (Nat.pow 10 i))) 214 0
def yt (H:Hp):Bool:=qM (iL (λ_=>none) (Cd 15) 12) zH (H.blk 2)
def acD (args:List Value) (H:Hp):kE:=match args with
 | [a,ta,tb]=>(match rA a with
  |some k=>Bc (nu 16 ta&&(nu 15 tb&&(Nat.ble 100 k&&Nat.blt k 162||Nat.ble 300 k&&Nat.blt k 362))) (Bc (yt H) (some (.tuple ⟨[vl (sy k),nV 0,nV 0]⟩,H,4,0)) none) none
  |none=>none)
 |_=>none
def R5 (lim:Nat) (base:Bool) (args:List Value) (H:Hp):kE:=match args with
 | [a,ta,b,tb]=>(match rA a with
  |some k=>Bc (nu 15 ta&&(nu 15 tb&&(ZU 0 b&&Nat.ble 100 k)))
   (Bc (Nat.blt k (100+lim)) (NL (.tuple ⟨[nV 1,nV 0]⟩) H) (Bc (base&&Nat.beq k (100+lim)) (NL (.tuple ⟨[nV 0,nV 0]⟩) H) none)) none
  |none=>none)
 |_=>none
def isV (k:Nat):Bool:=Nat.ble 100 k&&Nat.blt k 162
def R7 (args:List Value) (H:Hp):kE:=match args with
 | [ta,a]=>(match rA a with
  |some k=>Bc (nu 15 ta&&isV k) (NL (nV 0) H) none
  |none=>(match numOf a with|some _=>Bc (nu 15 ta) (NL (nV 0) H) none|none=>none))
 |_=>none
def HF (args:List Value) (H:Hp):kE:=match args with
 | [a,ta]=>(match rA a with
  |some k=>Bc (nu 15 ta&&isV k) (NL (nV 0) H) none
  |none=>(match numOf a with|some _=>Bc (nu 15 ta) (NL (nV 0) H) none|none=>none))
 |_=>none
def R1 (args:List Value) (H:Hp):kE:=match args with
 | [ta,a]=>(match rA a with
  |some k=>Bc (nu 15 ta&&isV k) (NL (.tuple ⟨[sy (k+400),nV 0]⟩) H) none
  |none=>(match numOf a with|some m=>Bc (nu 15 ta) (NL (.tuple ⟨[.string (j_ m),nV 0]⟩) H) none|none=>none))
 |_=>none
def R3 (args:List Value) (H:Hp):kE:=match args with
 | [ta,.chan (some k)]=>Bc (nu 15 ta&&(Nat.ble 500 k&&Nat.blt k 562)) (NL (.tuple ⟨[vl (sy (Nat.sub k 400)),nV 0]⟩) H) none
 |_=>none
def sD (v:Value):Bool:=match v with
 |.int .u8 (.ofNat x)=>Nat.blt x 256
 |.chan (some k)=>Nat.ble 200 k&&Nat.blt k 262
 |_=>false
def ze (f:Value->Bool):(d:Nat)->Oc Value d->Bool
 |0,x=>f x
 |d+1,x=>match (x:N8 (Oc Value d))with
  |⟨a,b,c,e,g,h,i,j⟩=>ze f d a&&(ze f d b&&(ze f d c&&(ze f d e&&(ze f d g&&(ze f d h&&(ze f d i&&ze f d j))))))
def QC (f:Value->Bool) (t:T Value):Bool:=match t with
 |.t0 x=>f x
 |.t6 x=>ze f 6 x
 |_=>false
def xY (B:dB):Option (T Value):=match B with
 |.cells t sz ty op lo hi=>Bc (Nat.beq sz 65536&&(Nat.beq ty 199&&(Nat.beq op 0&&(Nat.beq lo 0&&(Nat.beq hi 0&&QC sD t))))) (some t) none
 |_=>none
def JU (hi lo:Value):Option Nat:=match hi,lo with
 |.int .u8 h,.chan (some k)=>Bc (nQ h 0&&(Nat.ble 200 k&&Nat.blt k 262)) (some k) none
 |_,_=>none
def vt (H:Hp):Bool:=Nat.ble H.nx 32768&&Nat.ble 15 H.nx
def RZ (args:List Value) (H:Hp):kE:=match args with
 | [.pointer (some ⟨b,0,none⟩),.int .i64 (.ofNat at_),.int .i64 n]=>(match xY (H.blk b)with
  |some t=>Bc (nQ n 16&&(Nat.beq (Nat.mod at_ 8) 0&&(Nat.blt (Nat.div at_ 8) 65535&&vt H)))
   (match JU (t.get (Nat.div at_ 8)) (t.get (Nat.succ (Nat.div at_ 8)))with
    |some k=>some (sy (k+300),H,bit b,0)
    |none=>none) none
  |none=>none)
 |_=>none
def uW (s:ByteArray):Nat:=s.data.toList.foldl (λn d=>Nat.add (Nat.mul 2 n) (Nat.sub d.toNat 48)) 0
def fj (t:T Value) (b at_:Nat) (v:Value) (H:Hp):kE :=
 Bc (Nat.beq (Nat.mod at_ 8) 0&&(Nat.blt (Nat.div at_ 8) 65535&&vt H))
     (some (.tuple #[],H.put b (.cells (T.set 6 (T.set 6 t (Nat.div at_ 8) (.int .u8 0)) (Nat.succ (Nat.div at_ 8)) v) 65536 199 0 0 0),0,bit b)) none
def RW (args:List Value) (H:Hp):kE:=match args with
 | [.pointer (some ⟨b,0,none⟩),.int .i64 (.ofNat at_),s]=>(match xY (H.blk b)with
  |some t=>(match s with
   |.chan (some k)=>Bc (Nat.ble 500 k&&Nat.blt k 562) (fj t b at_ (sy (Nat.sub k 300)) H) none
   |.string s=>Bc (Nat.blt (uW s) 61&&p8 s.data.toList (j_ (uW s)).data.toList) (fj t b at_ (.int .u8 (.ofNat (uW s))) H) none
   |_=>none)
  |none=>none)
 |_=>none
def akW (args:List Value) (H:Hp):kE:=match args with
 | [x]=>some (x,H,0,0)
 |_=>none
def akX (args:List Value) (H:Hp):kE:=match args with
 | [.int .i64 (.ofNat n)]=>Bc (Nat.ble n 1099511627776) (match aS (.cells (.e U) 0 5 2 0 0) H (λi=>.slice (some ⟨i,0,none⟩) n 1) 0 0 with
  |.val v H' r w=>some (v,H',r,w)
  |_=>none) none
 |_=>none
def Yi (f:Nat) (args:List Value) (H:Hp):kE:=Bc (Nat.beq f 367) (akW args H) (Bc (Nat.beq f 446) (akX args H) none)
def El (args:List Value) (H:Hp):kE:=match args with
 | []=>(match aS (.cells (.e (.int .u8 0)) 65536 199 0 0 0) H ptrTo 0 0 with|.val v H' r w=>some (v,H',r,w)|_=>none)
 |_=>none
def r9 (v:Value) (args:List Value) (H:Hp):kE:=match args with
 | [t]=>Bc (nu 15 t) (NL v H) none
 |_=>none
def Ej (f:Nat) (args:List Value) (H:Hp):kE :=
 Bc (Nat.beq f 234) (r9 (nV 0) args H) (Bc (Nat.beq f 166) (r9 (nV 0) args H) (Bc (Nat.beq f 165) (r9 (nV 16) args H) (Bc (Nat.beq f 229) (r9 (.bool true) args H) (Bc (Nat.beq f 164) (r9 (nV 16) args H) (Bc (Nat.beq f 123) (r9 (.bool true) args H) none)))))
def vu:Nat:=2 ^ 234+2 ^ 166+2 ^ 165+2 ^ 229+2 ^ 164+2 ^ 123
def Fk:Nat:=2 ^ 367+2 ^ 446
def agS:Nat:=2 ^ 148+2 ^ 144+2 ^ 150+2 ^ 163+2 ^ 199+2 ^ 135+2 ^ 307+2 ^ 308+2 ^ 137
def acF (lim:Nat) (base:Bool) (f:Nat) (args:List Value) (H:Hp):kE :=
 Bc (Nat.beq f 148) (acO lim args H) (Bc (Nat.beq f 144) (acD args H) (Bc (Nat.beq f 150) (R5 lim base args H) (Bc (Nat.beq f 163) (R7 args H) (Bc (Nat.beq f 199) (HF args H) (Bc (Nat.beq f 135) (R1 args H) (Bc (Nat.beq f 307) (R3 args H) (Bc (Nat.beq f 308) (RZ args H) (Bc (Nat.beq f 137) (RW args H) none))))))))
def rW (x:kE):kE:=match x with
 |some (v,q)=>(match dL v with|none=>some (v,q)|some _=>none)
 |none=>none
def spX (lim:Nat) (base:Bool) (g:Nat) (nest:List Value->Hp->kE) (f:Nat) (args:List Value) (H:Hp):kE :=
 Bc (Nat.testBit vu f) (rW (Ej f args H)) (Bc (Nat.testBit agS f) (rW (acF lim base f args H)) (Bc (Nat.beq f g) (nest args H) (Bc (Nat.testBit Fk f) (rW (Yi f args H)) (Bc (Nat.beq f 54) (rW (El args H)) none))))
end Go.Ev.SM
end
noncomputable section
namespace Go.Ev
variable [dj]
def pS (x y:dB):Prop:=x=y\/∃ t1 t2 n ty op lo hi,x=.cells t1 n ty op lo hi/\y=.cells t2 n ty op lo hi/\∀ i,i<n->t1.get i=t2.get i
theorem pS.amu {x y:dB} (h:pS x y) {β:Mp} {m:Bm} {o:Obj} (hr:qa β m x o):qa β m y o:=by
 rcases h with rfl|⟨t1,t2,n,ty,op,lo,hi,rfl,rfl,hg⟩
 ·exact hr
 ·obtain⟨cs,fr,h1,h2,h3,h4,h5,h6,h7⟩:=hr
  exact⟨cs,fr,h1,h2,h3,h4,h5,λi hi=>by rw[<-hg i hi];exact h6 i hi,h7⟩
theorem pS.dead {x y:dB} (h:pS x y):x=.no↔y=.no:=by
 rcases h with rfl|⟨t1,t2,n,ty,op,lo,hi,rfl,rfl,hg⟩
 ·exact Iff.rfl
 ·exact⟨λh=>(by cases h),λh=>(by cases h)⟩
theorem Post.same {β β':Mp} {H H1 H2:Hp} {w:Nat} {W W':World} (q:Post β β' H H1 w W W') (hn:H2.nx=H1.nx) (hb:∀ b,pS (H1.blk b) (H2.blk b)):Post β β' H H2 w W W':=by
 have ha:∀ b,alive H2 b↔alive H1 b:=λb=>by
  rw[aH,aH]
  exact not_congr (hb b).dead.symm
 refine⟨q.le,λb m h1 h2=>by rw[hn];exact q.only b m h1 h2,λb h1 h2=>?_,q.frame,q.size,q.dom,λb m h1 h2 h3=>?_,λb c mb mc h1 h2 h3 h4=>q.inj b c mb mc h1 h2 ((ha b).1 h3) ((ha c).1 h4),q.env⟩
 ·obtain⟨m,e,o,ho,hr⟩:=q.rel b h1 ((ha b).1 h2)
  exact⟨m,e,o,ho,(hb b).amu hr⟩
 ·rcases q.new b m h1 h2 h3 with h|⟨c,mc,a1,a2,a3,a4,a5⟩
  ·exact .inl h
  ·exact .inr ⟨c,mc,a1,a2,a3,a4,λh=>a5 ((ha c).1 h)⟩
section
variable {P:Program} {tb:Tb} (ok:dI P tb) (D3:vP P tb) {sp:Nat->List Value->Hp->Option (Value×Hp×Nat×Nat)} (hsp:oa P tb.ng sp)
include ok D3 hsp
theorem aav {f:FuncId} {args:List Value} {H H2:Hp} {v:Value} {b:Nat} (hw:H.wf) {K:Value->Hp->Prop} (h:EC tb sp ⟨H.nx,λc=>c=b,λ_=>False⟩ f args H K)
 (hK:∀ v' H',K v' H'->v'=v/\Can H H2 0/\H2.nx=H'.nx/\∀ b,pS (H'.blk b) (H2.blk b)) :
 ∃ r w,aI P tb.ng (.call f args) H (.k (.ret v H2 r w))/\(∀ c,c<H.nx->r.testBit c=true->c=b)/\(∀ c,c<H.nx->w.testBit c=false):=by
 obtain⟨N,v',H',r,w,ju,hok,hn,hk⟩:=h
 obtain⟨rfl,hcan,qC,hs⟩:=hK _ _ hk
 have t:=oW ok D3 hsp N (.call f args) H hw
 rw[ju]at t
 have Ut:∀ c,c<H.nx->w.testBit c=false:=λc hc=>by
  cases hh:w.testBit c with
  |false=>rfl
  |true=>exact(hok.wr c hc hh).elim
 refine⟨r,w,⟨⟨hcan.wf,hcan.mono,λc h1 h2=>hcan.keep c h1 (by simp),λc h1 h2=>by rw[Ut c h1]at h2;cases h2⟩,λβ W hg p=>?_⟩,λc hc hh=>hok.rd c hc hh,Ut⟩
 intro args' hl
 have p':Pre β H H' r w W:=⟨p.rel,p.inj,λc h1 h2=>p.fresh c h1 (by rw[qC];exact h2),p.dom⟩
 rcases t.2 β W hg p' args' hl with⟨h1,h2⟩|⟨x,W',h1,β',y,h2,h3,h4⟩
 ·refine .inl ⟨h1,callsIn_wide.2 ((callsIn_wide.1 h2).mono λe W' hR=>?_)⟩
  obtain⟨β',y,h2,h3,h4⟩:=hR
  exact⟨β',y,h2,h3,h4.same qC hs⟩
 ·exact .inr ⟨x,W',h1,β',y,h2,h3,h4.same qC hs⟩
omit ok D3 hsp in
theorem aI.more {ng:Nat} {f:FuncId} {args:List Value} {H H':Hp} {v:Value} {r w r':Nat} (h:aI P ng (.call f args) H (.k (.ret v H' r w))) (hr:∀ c,alive H c->r.testBit c=true->r'.testBit c=true) (hw:∀ c,c<H.nx->w.testBit c=false) (hcan:Can H H' 0) :
 aI P ng (.call f args) H (.k (.ret v H' r' 0)):=by
 refine⟨hcan,λβ W hg p=>?_⟩
 intro args' hl
 have p':Pre β H H' r w W:=by
  refine⟨λb hb ha=>p.rel b ?_ ha,λb c mb mc h1 h2 ha=>?_,p.fresh,p.dom⟩
  ·rcases hb with hb|hb
   ·exact .inl (hr b ha hb)
   ·rw[hw b ha.1]at hb;cases hb
  ·rw[hw b ha.1]at h1;cases h1
 have fin:∀ {e W'},uN β H H' w W v e W'->uN β H H' 0 W v e W':=λ{e W'} hR=>by
  obtain⟨β',y,h2,h3,q⟩:=hR
  refine⟨β',y,h2,h3,⟨q.le,q.only,λb hb ha=>q.rel b (hb.imp id λh=>by simp at h) ha,λrb o h1 h2=>q.frame rb o h1 λb m hb zA=>?_,q.size,q.dom,λb m h1 h2 h3=>?_,λb c mb mc h1 h2=>q.inj b c mb mc (h1.imp id λh=>by simp at h) (h2.imp id λh=>by simp at h),q.env⟩⟩
  ·rw[hw b hb]at zA;cases zA
  ·rcases q.new b m h1 h2 h3 with h|⟨c,mc,a1,a2,_⟩
   ·exact .inl h
   ·rw[hw c a1]at a2;cases a2
 rcases h.2 β W hg p' args' hl with⟨h1,h2⟩|⟨x,W',h1,h2⟩
 ·exact .inl ⟨h1,callsIn_wide.2 ((callsIn_wide.1 h2).mono λe W' hR=>fin hR)⟩
 ·exact .inr ⟨x,W',h1,fin h2⟩
end
theorem mU (P:Program) (ng:Nat):oa P ng (λ_ _ _=>none):=λf args H v H' r w _ h=>by cases h
end Go.Ev
end
noncomputable section
namespace Go.Ev
variable [dj]
section
def Hp.bG:Hp->Bool|.fn _ _=>true|.mk _ _=>false
theorem aO {H:Hp} (h:H.bG=true):H.room=true:=by cases H with|mk=>cases h|fn=>rfl
theorem vc {H:Hp} (h:H.bG=true):H.wf:=by cases H with|mk=>cases h|fn=>trivial
theorem cg (H:Hp) (x:dB):(H.push x).bG=H.bG:=by cases H<;>rfl
theorem sx (H:Hp) (b:Nat) (x:dB):(H.put b x).bG=H.bG:=by cases H<;>rfl
structure GW (n ty:Nat) (H:Hp) (b:Nat) (v:Value) (L:List Value):Prop where
 ge:n<=b
 form:(Row H b ty 0 L/\v=.slice (some ⟨b,0,none⟩) L.length (2*L.length))\/(Row H b ty 2 L/\v=.slice (some ⟨b,0,none⟩) L.length (2*L.length+1))
theorem GW.row {n ty:Nat} {H:Hp} {b:Nat} {v:Value} {L:List Value} (h:GW n ty H b v L):∃ op c,Row H b ty op L/\v=.slice (some ⟨b,0,none⟩) L.length c:=by
 rcases h.form with⟨h1,h2⟩|⟨h1,h2⟩
 ·exact⟨_,_,h1,h2⟩
 ·exact⟨_,_,h1,h2⟩
theorem GW.lt {n ty:Nat} {H:Hp} {b:Nat} {v:Value} {L:List Value} (h:GW n ty H b v L):b<H.nx:=by obtain⟨_,_,h,_⟩:=h.row;exact h.lt
theorem GW.bF {n ty:Nat} {H H':Hp} {b:Nat} {v:Value} {L:List Value} (h:GW n ty H b v L) (e:H'.blk b=H.blk b):GW n ty H' b v L :=
 ⟨h.ge,h.form.imp (λ⟨a,c⟩=>⟨a.bF e,c⟩) (λ⟨a,c⟩=>⟨a.bF e,c⟩)⟩
theorem pQ {H:Hp} (hf:H.bG=true) (L:List Value) (ty len:Nat):aS (aG L ty 0) H (λi=>c_ (some (i,0)) len len false) 0 0=.val (.slice (some ⟨H.nx,0,none⟩) len (2*len)) (H.push (aG L ty 0)) 0 0:=by
 rw[e_ (aO hf)];rfl
theorem bS (l:List Value) (k:List Value->R):bD (some l) k=k l:=rfl
theorem uD {t:T Value} {z w:Value} {o:Operand} (h:gX (aA t o)=some [w]):bH t [z] [(0,1,o)]=some [w]:=by
 simp only[bH,h];rfl
theorem Env.ok.fresh {e:Env} {H:Hp} {b:Nat} (hb:b<H.nx) (hn:e.n0<=b):e.ok (bit b) 0 H:=.read hb λh=>absurd h (by omega)
theorem GW.app {e:Env} {n ty by_ k r b:Nat} {H:Hp} {v x:Value} {L new:List Value} (ho:GW n ty H b v L) (he:e.n0<=n) (hf:H.bG=true) (hl:CM x=some k) (hk:0<k) (hc:eI H 1 k x=some (new,r)) (hnew:new.length=k) (hr:e.ok r 0 H)
 (hb:(2*(L.length+k)+768)*by_<=140737488355328/\L.length+k<=140737488355328) :
 ∃ v' H1 r' w',iQ ty 1 by_ v x H=.val v' H1 r' w'/\e.ok r' w' H1/\H1.nx=H.nx+1/\GW n ty H1 H.nx v' (L++new)/\H1.bG=true/\∀ c,c<H.nx->c≠b->H1.blk c=H.blk c:=by
 have hlt:=ho.lt
 have hge:=ho.ge
 have qC:n<=H.nx:=by omega
 have hok:gq (L.length+k) by_=true:=jX hb.1 hb.2
 have hlen:(L++new).length=L.length+k:=by rw[List.length_append,hnew]
 rcases ho.form with⟨h1,rfl⟩|⟨h1,rfl⟩
 ·refine⟨_,_,_,_,JB (aO hf) h1 (m:=L.length) (by omega) hl hk hc hok,?_,?_,⟨qC,.inr ⟨fq (aO hf) (L++new) ty 2,by rw[hlen]⟩⟩,by rw[cg];exact hf,λc eG _=>a_ (aO hf) _ eG⟩
  ·have h2:=hr.lor (Env.ok.fresh (e:=e) (b:=b) hlt (by omega)) (Nat.le_refl _)
   rw[aF]at h2
   exact⟨h2.rd,h2.wr,λc lz=>by rw[aZ];have:=h2.lt c lz;omega⟩
  ·rw[aZ]
 ·refine⟨_,_,_,_,qJ (aO hf) h1 (m:=L.length) (by omega) hl hk hc hok,?_,?_,⟨qC,.inr ⟨?_,by rw[hlen]⟩⟩,by rw[cg,sx];exact hf,λc eG hcb=>?_⟩
  ·have h2:=hr.lor (Env.ok.write (e:=e) (b:=b) hlt (λh=>absurd h (by omega))) (Nat.le_refl _)
   rw[aF,aK]at h2
   exact⟨h2.rd,h2.wr,λc lz=>by rw[aZ,cW];have:=h2.lt c lz;omega⟩
  ·rw[aZ,cW]
  ·have:=fq (H:=H.put b .no) (by rw[fS];exact(aO hf)) (L++new) ty 2
   rwa [cW]at this
  ·rw[a_ (by rw[fS];exact(aO hf)) _ (by rw[cW];exact eG),j9 (vc hf) _ hlt hcb]
end
end Go.Ev
end
noncomputable section
namespace Go.Ev
variable [dj]
theorem cE (b:Bool) (H:Hp):Jy .not (.bool b) H=.val (.bool (!b)) H 0 0:=by cases b<;>rfl
theorem bx (f:FuncId) (args:List Value):oX (.func (.func f) #[] #[]) args=.call f args:=by
 show R.call f ([]++(args++[]))=_
 simp
theorem Qz {H:Hp} (hf:H.bG=true) (x:dB):aS x H ptrTo 0 0=.val (.pointer (some ⟨H.nx,0,none⟩)) (H.push x) 0 0:=by rw[e_ (aO hf)];rfl
section
variable {tb:Tb} {sp:Nat->List Value->Hp->Option (Value×Hp×Nat×Nat)} {e:Env}
theorem QO.mono {d:Nat} {H:Hp} {K K':T Value->Prop} (hk:∀ t',K' t'->K t'):∀ {cos:List CO} {t:T Value},QO e d H K' cos t->QO e d H K cos t:=by
 intro cos
 induction cos with
 |nil=>intro t h;exact hk t h
 |cons o cos ih =>
  intro t h
  rw[QO]at h ⊢
  cases hg:dn t o.guard with
  |true =>
   rw[hg]at h
   revert h
   cases run o.op t H with
   |val v H' r w=>exact λh=>⟨h.1,h.2.1,h.2.2.1,ih h.2.2.2⟩
   |_=>exact λh=>h.elim
  |false=>rw[hg]at h;exact ih h
theorem WK.ac5 {cx:Cx} {cos:List CO} {t:T Value} {ds:List Deferred} {H:Hp} {K:Ex->T Value->List Deferred->Hp->Prop} (K':T Value->Prop) (h:QO e cx.d H K' cos t) (hk:∀ t',K' t'->K .normal t' ds H):WK tb sp e cx (.bp cos) t ds H K:=WK.agq (h.mono hk)
theorem aR.mono {tb:Tb} {d:Nat} {K K':T Value->Hp->Prop} (hk:∀ t' H',K' t' H'->K t' H'):∀ {cos:List CO} {t:T Value} {H:Hp},aR tb sp e d K' cos t H->aR tb sp e d K cos t H:=by
 intro cos
 induction cos with
 |nil=>intro t H h;rw[aR]at *;exact hk t H h
 |cons o cos ih =>
  intro t H h
  rw[aR]at h ⊢
  cases hg:dn t o.guard with
  |true =>
   rw[hg]at h
   revert h
   cases run o.op t H with
   |val v H' r w=>exact λh=>⟨h.1,h.2.1,ih h.2.2⟩
   |call f args=>exact λh=>h.mono λv H1 _ hh=>by rw[fC]at *;exact ih hh
   |_=>exact λh=>h.elim
  |false=>rw[hg]at h;exact ih h
theorem WK.ac6 {tb:Tb} {cx:Cx} {cos:List CO} {t:T Value} {ds:List Deferred} {H:Hp} {K:Ex->T Value->List Deferred->Hp->Prop} (K':T Value->Hp->Prop) (h:aR tb sp e cx.d K' cos t H) (hk:∀ t' H',K' t' H'->K .normal t' ds H'):WK tb sp e cx (.bp cos) t ds H K:=WK.av (h.mono hk)
structure Kept (H H':Hp):Prop where
 fn:H'.bG=true
 nx:H.nx<=H'.nx
 old:∀ b,b<H.nx->H'.blk b=H.blk b
theorem Kept.refl {H:Hp} (h:H.bG=true):Kept H H:=⟨h,Nat.le_refl _,λ_ _=>rfl⟩
theorem Kept.trans {H H1 H2:Hp} (h:Kept H H1) (g:Kept H1 H2):Kept H H2:=⟨g.fn,Nat.le_trans h.nx g.nx,λb hb=>(g.old b (Nat.lt_of_lt_of_le hb h.nx)).trans (h.old b hb)⟩
end
end Go.Ev
end
noncomputable section
namespace Go.Ev
variable [dj]
def Env.sub (e:Env) (N0 nx:Nat):Env:=⟨nx,λb=>b<N0/\(b<e.n0->e.Rd b),λ_=>False⟩
section
variable {tb:Tb} {sp:Nat->List Value->Hp->Option (Value×Hp×Nat×Nat)} {e:Env} {N0:Nat}
theorem za {b N0:Nat} (h:b<N0):∀ c,(bit b).testBit c=true->c<N0:=λc hc=>by rw[(aB b c).1 hc];exact h
end
end Go.Ev
end
noncomputable section
namespace Go.Ev
variable [dj]
inductive Cl where
 |p|q|l
def Env.agh (e:Env) (N0 nx:Nat):Env:=⟨nx,λb=>b<e.n0->e.Rd b,λb=>N0<=b⟩
section
variable {tb:Tb} {sp:Nat->List Value->Hp->Option (Value×Hp×Nat×Nat)} {e:Env} {N0:Nat}
theorem XE.ord {B:Array Nat} {i:Nat} {R W:Nat->Prop} {A:List En} {ps:List Nat} (hA:∀ en∈A,en.i∈ps) (h:ps.all (λj=>(B.getD i 0).testBit j)=true):XE B i R W A:=λen hm=>.inl (List.all_eq_true.1 h _ (hA en hm))
theorem jI {A:List En} {ps:List Nat} {i:Nat} {R W:Nat->Prop} (hA:∀ en∈A,en.i∈ps):∀ en∈(⟨i,R,W⟩::A:List En),en.i∈i::ps:=λen hm=>by
 rcases List.mem_cons.1 hm with rfl|hm
 ·exact List.mem_cons_self
 ·exact List.mem_cons_of_mem _ (hA en hm)
end
end Go.Ev
end
noncomputable section
namespace Go.Ev
variable [dj]
inductive C4 where
 |p|q|l|x|u|y|z
def eV (B:Array Nat):Nat->List Nat->List Nat->List Nat->List C4->Bool
 |_,_,_,_,[]=>true
 |i,ps,qs,xs,c::cl=>(match c with
  |.p=>eV B (i+1) ps qs xs cl
  |.q=>xs.all (λj=>(B.getD i 0).testBit j)&&eV B (i+1) (i::ps) (i::qs) xs cl
  |.l=>ps.all (λj=>(B.getD i 0).testBit j)&&eV B (i+1) (i::ps) (i::qs) xs cl
  |.x=>ps.all (λj=>(B.getD i 0).testBit j)&&eV B (i+1) (i::ps) (i::qs) (i::xs) cl
  |.u=>xs.all (λj=>(B.getD i 0).testBit j)&&eV B (i+1) (i::ps) qs xs cl
  |.y=>qs.all (λj=>(B.getD i 0).testBit j)&&eV B (i+1) (i::ps) (i::qs) (i::xs) cl
  |.z=>qs.all (λj=>(B.getD i 0).testBit j)&&eV B (i+1) (i::ps) (i::qs) (i::xs) cl)
def Env.acu (e:Env) (nx:Nat):Env:=⟨nx,λb=>b<e.n0->e.Rd b,λb=>b<e.n0->e.Wr b⟩
section
variable (tb:Tb) (sp:Nat->List Value->Hp->Option (Value×Hp×Nat×Nat)) (e:Env) (N0:Nat) (Us:Nat->Prop)
mutual
def fe (d:Nat) (K:T Value->Hp->Prop):List CO->List C4->T Value->Hp->Prop
 | [],_,t,H=>K t H
 |_::_,[],_,_=>False
 |o::cos,c::cl,t,H=>(match dn t o.guard with
  |true=>(match run o.op t H with
   |.val v H1 r w=>(match c with
    |.p=>r=0/\w=0/\H1=H/\fe d K cos cl (eF d t o.dst v) H1
    |.q=>e.ok r 0 H1/\w=0/\H.nx<=H1.nx/\(∀ b,r.testBit b=true->b<N0)/\fe d K cos cl (eF d t o.dst v) H1
    |.l=>e.ok r w H1/\H.nx<=H1.nx/\(∀ b,w.testBit b=true->N0<=b)/\fe d K cos cl (eF d t o.dst v) H1
    |.x=>e.ok r w H1/\H.nx<=H1.nx/\fe d K cos cl (eF d t o.dst v) H1
    |.u=>e.ok r 0 H1/\w=0/\H1=H/\(∀ b,r.testBit b=true->b<N0/\Us b)/\fe d K cos cl (eF d t o.dst v) H1
    |.y=>e.ok r w H1/\H1.nx=H.nx/\r=0/\(∀ b,w.testBit b=true->¬ Us b)/\fe d K cos cl (eF d t o.dst v) H1
    |.z=>e.ok r w H1/\H.nx<=H1.nx/\(∀ b,w.testBit b=true\/(H.nx<=b/\b<H1.nx)->¬ Us b)/\fe d K cos cl (eF d t o.dst v) H1)
   |.call f args=>(match c with
    |.p=>False
    |.q=>EC tb sp (e.sub N0 H.nx) f args H (o8 d K cos cl t o.dst)
    |.l=>EC tb sp (e.agh N0 H.nx) f args H (o8 d K cos cl t o.dst)
    |.x=>EC tb sp (e.acu H.nx) f args H (o8 d K cos cl t o.dst)
    |_=>False)
   |_=>False)
  |false=>fe d K cos cl (eF d t o.dst U) H)
def o8 (d:Nat) (K:T Value->Hp->Prop) (cos:List CO) (cl:List C4) (t:T Value) (dst:Option Tmp):Value->Hp->Prop:=λv H1=>fe d K cos cl (eF d t dst v) H1
end
end
section
variable {tb:Tb} {sp:Nat->List Value->Hp->Option (Value×Hp×Nat×Nat)} {e:Env} {N0:Nat} {Us:Nat->Prop}
def ke (N0 nx:Nat) (xs:List Nat) (A:List En):Prop:=∀ en∈A,en.i∈xs\/((∀ b,en.W b->N0<=b/\b<nx)/\∀ b,en.R b->b<nx)
theorem ke.mono {nx nx':Nat} {xs:List Nat} {A:List En} (h:ke N0 nx xs A) (hn:nx<=nx'):ke N0 nx' xs A:=λen hm =>
 (h en hm).imp id λh=>⟨λb hb=>⟨(h.1 b hb).1,Nat.lt_of_lt_of_le (h.1 b hb).2 hn⟩,λb hb=>Nat.lt_of_lt_of_le (h.2 b hb) hn⟩
theorem ke.chk {nx:Nat} {xs:List Nat} {A:List En} {B:Array Nat} {i:Nat} {R W:Nat->Prop} (h:ke N0 nx xs A) (hx:xs.all (λj=>(B.getD i 0).testBit j)=true) (hN:N0<=nx) (hR:∀ b,R b->b<N0\/nx<=b) (hW:∀ b,W b->nx<=b):XE B i R W A:=by
 intro en hm
 rcases h en hm with h|⟨h1,h2⟩
 ·exact .inl (List.all_eq_true.1 hx _ h)
 refine .inr ⟨λb hb=>⟨λhr=>?_,λhw=>?_⟩,λb hw hr=>?_⟩
 ·have:=h1 b hb
  rcases hR b hr with h|h<;>omega
 ·have:=h1 b hb;have:=hW b hw;omega
 ·have:=h2 b hr;have:=hW b hw;omega
theorem ke.cons {nx nx':Nat} {xs:List Nat} {A:List En} {i:Nat} {R W:Nat->Prop} (h:ke N0 nx xs A) (hn:nx<=nx') (hR:∀ b,R b->b<nx') (hW:∀ b,W b->N0<=b/\b<nx'):ke N0 nx' xs (⟨i,R,W⟩::A):=by
 intro en hm
 rcases List.mem_cons.1 hm with rfl|hm
 ·exact .inr ⟨hW,hR⟩
 ·exact h.mono hn en hm
theorem ke.alone {nx nx':Nat} {xs:List Nat} {A:List En} {i:Nat} {R W:Nat->Prop} (h:ke N0 nx xs A) (hn:nx<=nx'):ke N0 nx' (i::xs) (⟨i,R,W⟩::A):=by
 intro en hm
 rcases List.mem_cons.1 hm with rfl|hm
 ·exact .inl List.mem_cons_self
 ·exact(h.mono hn en hm).imp (List.mem_cons_of_mem _) id
theorem ke.more {nx:Nat} {xs:List Nat} {A:List En} (i:Nat) (h:ke N0 nx xs A):ke N0 nx (i::xs) A:=λen hm=>(h en hm).imp (List.mem_cons_of_mem _) id
def Reads (Us:Nat->Prop) (qs:List Nat) (A:List En):Prop:=∀ en∈A,en.i∈qs\/((∀ b,en.R b->Us b)/\∀ b,¬ en.W b)
theorem Reads.cons {qs:List Nat} {A:List En} {i:Nat} {R W:Nat->Prop} (h:Reads Us qs A):Reads Us (i::qs) (⟨i,R,W⟩::A):=λen hm=>by
 rcases List.mem_cons.1 hm with rfl|hm
 ·exact .inl List.mem_cons_self
 ·exact(h en hm).imp (List.mem_cons_of_mem _) id
theorem Reads.more {qs:List Nat} {A:List En} (i:Nat) (h:Reads Us qs A):Reads Us (i::qs) A:=λen hm=>(h en hm).imp (List.mem_cons_of_mem _) id
theorem WD.adu {cx:Cx} {B:Array Nat} {K:T Value->Hp->Prop} {ds:List Deferred} (he:e.n0<=N0):∀ {cos:List CO} {cl:List C4} {ps qs xs:List Nat} {i:Nat} {t:T Value} {H:Hp} {A:List En},N0<=H.nx->ke N0 H.nx xs A->(∀ en∈A,en.i∈ps)->Reads Us qs A->eV B i ps qs xs cl=true->fe tb sp e N0 Us cx.d K cos cl t H ->
 WD tb sp e cx B cos i t ds H A (λt' ds' H'=>ds'=ds/\K t' H'):=by
 intro cos
 induction cos with
 |nil=>intro cl ps qs xs i t H A _ _ _ _ _ h;rw[fe]at h;exact WD.nil ⟨rfl,h⟩
 |cons o cos ih =>
  intro cl ps qs xs i t H A hN hA hps C_ eG h
  cases cl with
  |nil=>rw[fe]at h;exact h.elim
  |cons c cl =>
  rw[fe]at h
  have Pw:∀ en∈A,en.i∈i::ps:=λen hm=>List.mem_cons_of_mem _ (hps en hm)
  cases hg:dn t o.guard with
  |false =>
   rw[hg]at h
   refine WD.skip hg ?_
   cases c with
   |p=>exact ih hN hA hps C_ (by simpa only[eV] using eG) h
   |q=>exact ih hN hA Pw (C_.more i) (by simp only[eV,Bool.and_eq_true]at eG;exact eG.2) h
   |l=>exact ih hN hA Pw (C_.more i) (by simp only[eV,Bool.and_eq_true]at eG;exact eG.2) h
   |x=>exact ih hN (hA.more i) Pw (C_.more i) (by simp only[eV,Bool.and_eq_true]at eG;exact eG.2) h
   |u=>exact ih hN hA Pw C_ (by simp only[eV,Bool.and_eq_true]at eG;exact eG.2) h
   |y=>exact ih hN (hA.more i) Pw (C_.more i) (by simp only[eV,Bool.and_eq_true]at eG;exact eG.2) h
   |z=>exact ih hN (hA.more i) Pw (C_.more i) (by simp only[eV,Bool.and_eq_true]at eG;exact eG.2) h
  |true =>
   rw[hg]at h
   refine WD.cons hg ?_
   revert h
   cases run o.op t H with
   |val v H1 r w =>
    cases c with
    |p =>
     rintro⟨rfl,rfl,rfl,h⟩
     exact⟨.zero _ _,Nat.le_refl _,.inl ⟨rfl,rfl,rfl,ih hN hA hps C_ (by simpa only[eV] using eG) h⟩⟩
    |q =>
     rintro⟨h1,rfl,h2,h3,h4⟩
     simp only[eV,Bool.and_eq_true]at eG
     refine⟨h1,h2,.inr ⟨λb=>b<N0,λb=>H.nx<=b/\b<H1.nx,h3,λb hb=>?_,hA.chk eG.1 hN (λb hb=>.inl hb) (λb hb=>hb.1),ih (Nat.le_trans hN h2) (hA.cons h2 (λb hb=>?_) λb hb=>⟨Nat.le_trans hN hb.1,hb.2⟩) (jI hps) C_.cons eG.2 h4⟩⟩
     ·rcases hb with hb|hb
      ·simp at hb
      ·exact hb
     ·exact Nat.lt_of_lt_of_le hb (Nat.le_trans hN h2)
    |l =>
     rintro⟨h1,h2,h3,h4⟩
     simp only[eV,Bool.and_eq_true]at eG
     refine⟨h1,h2,.inr ⟨λb=>r.testBit b=true,λb=>w.testBit b=true\/(H.nx<=b/\b<H1.nx),λb hb=>hb,λb hb=>hb,XE.ord hps eG.1,ih (Nat.le_trans hN h2) (hA.cons h2 (λb hb=>h1.lt b (.inl hb)) λb hb=>?_) (jI hps) C_.cons eG.2 h4⟩⟩
     rcases hb with hb|hb
     ·exact⟨h3 b hb,h1.lt b (.inr hb)⟩
     ·exact⟨Nat.le_trans hN hb.1,hb.2⟩
    |x =>
     rintro⟨h1,h2,h4⟩
     simp only[eV,Bool.and_eq_true]at eG
     exact⟨h1,h2,.inr ⟨λb=>r.testBit b=true,λb=>w.testBit b=true\/(H.nx<=b/\b<H1.nx),λb hb=>hb,λb hb=>hb,XE.ord hps eG.1,ih (Nat.le_trans hN h2) (hA.alone h2) (jI hps) C_.cons eG.2 h4⟩⟩
    |u =>
     rintro⟨h1,rfl,rfl,h3,h4⟩
     simp only[eV,Bool.and_eq_true]at eG
     refine⟨h1,Nat.le_refl _,.inr ⟨λb=>b<N0/\Us b,λ_=>False,h3,λb hb=>?_,hA.chk eG.1 hN (λb hb=>.inl hb.1) (λb hb=>hb.elim),ih hN (hA.cons (Nat.le_refl _) (λb hb=>Nat.lt_of_lt_of_le hb.1 hN) λb hb=>hb.elim) (jI hps) ?_ eG.2 h4⟩⟩
     ·rcases hb with hb|hb
      ·simp at hb
      ·omega
     ·intro en hm
      rcases List.mem_cons.1 hm with rfl|hm
      ·exact .inr ⟨λb hb=>hb.2,λb hb=>hb⟩
      ·exact C_ en hm
    |y =>
     rintro⟨h1,h2,rfl,h3,h4⟩
     simp only[eV,Bool.and_eq_true]at eG
     refine⟨h1,by omega,.inr ⟨λ_=>False,λb=>¬ Us b,λb hb=>by simp at hb,λb hb=>?_,λen hm=>?_,ih (by omega) (hA.alone (by omega)) (jI hps) C_.cons eG.2 h4⟩⟩
     ·rcases hb with hb|hb
      ·exact h3 b hb
      ·omega
     ·rcases C_ en hm with hq|⟨hq1,hq2⟩
      ·exact .inl (List.all_eq_true.1 eG.1 _ hq)
      ·exact .inr ⟨λb hb=>absurd hb (hq2 b),λb hb hr=>hb (hq1 b hr)⟩
    |z =>
     rintro⟨h1,h2,h3,h4⟩
     simp only[eV,Bool.and_eq_true]at eG
     refine⟨h1,h2,.inr ⟨λb=>r.testBit b=true,λb=>w.testBit b=true\/(H.nx<=b/\b<H1.nx),λb hb=>hb,λb hb=>hb,λen hm=>?_,ih (Nat.le_trans hN h2) (hA.alone h2) (jI hps) C_.cons eG.2 h4⟩⟩
     rcases C_ en hm with hq|⟨hq1,hq2⟩
     ·exact .inl (List.all_eq_true.1 eG.1 _ hq)
     ·exact .inr ⟨λb hb=>absurd hb (hq2 b),λb hb hr=>h3 b hb (hq1 b hr)⟩
   |call f args =>
    cases c with
    |p=>exact λh=>h.elim
    |q =>
     intro h
     simp only[eV,Bool.and_eq_true]at eG
     refine⟨e.sub N0 H.nx,Nat.le_trans he hN,rfl,λb hb hr=>hr.2 hb,λb _ hw=>hw.elim,EC.mono h λv H1 hle hk R W hR hW=>?_⟩
     rw[o8]at hk
     have hR':∀ b,R b->b<N0\/H.nx<=b:=λb hb=>by
      rcases(hR b).1 hb with h|h
      ·exact .inl h.2.1
      ·exact .inr h.1
     have hW':∀ b,W b->H.nx<=b/\b<H1.nx:=λb hb=>by
      rcases(hW b).1 hb with h|h
      ·exact h.2.elim
      ·exact h
     refine⟨hA.chk eG.1 hN hR' (λb hb=>(hW' b hb).1),ih (Nat.le_trans hN hle) (hA.cons hle (λb hb=>?_) λb hb=>⟨Nat.le_trans hN (hW' b hb).1,(hW' b hb).2⟩) (jI hps) C_.cons eG.2 hk⟩
     rcases(hR b).1 hb with h|h
     ·exact Nat.lt_of_lt_of_le h.1 hle
     ·exact h.2
    |l =>
     intro h
     simp only[eV,Bool.and_eq_true]at eG
     refine⟨e.agh N0 H.nx,Nat.le_trans he hN,rfl,λb hb hr=>hr hb,λb hb hw=>?_,EC.mono h λv H1 hle hk R W hR hW=>?_⟩
     ·have hw':N0<=b:=hw
      omega
     rw[o8]at hk
     refine⟨XE.ord hps eG.1,ih (Nat.le_trans hN hle) (hA.cons hle (λb hb=>?_) λb hb=>?_) (jI hps) C_.cons eG.2 hk⟩
     ·rcases(hR b).1 hb with h|h
      ·exact Nat.lt_of_lt_of_le h.1 hle
      ·exact h.2
     ·rcases(hW b).1 hb with h|h
      ·exact⟨h.2,Nat.lt_of_lt_of_le h.1 hle⟩
      ·exact⟨Nat.le_trans hN h.1,h.2⟩
    |x =>
     intro h
     simp only[eV,Bool.and_eq_true]at eG
     refine⟨e.acu H.nx,Nat.le_trans he hN,rfl,λb hb hr=>hr hb,λb hb hw=>hw hb,EC.mono h λv H1 hle hk R W hR hW=>?_⟩
     rw[o8]at hk
     exact⟨XE.ord hps eG.1,ih (Nat.le_trans hN hle) (hA.alone hle) (jI hps) C_.cons eG.2 hk⟩
    |u=>exact λh=>h.elim
    |y=>exact λh=>h.elim
    |z=>exact λh=>h.elim
   |_=>exact λh=>h.elim
theorem WK.afk {cx:Cx} {B:Array Nat} {cos:List CO} {t:T Value} {ds:List Deferred} {H:Hp} {K:Ex->T Value->List Deferred->Hp->Prop} (cl:List C4) (K':T Value->Hp->Prop) (he:e.n0<=H.nx) (hc:eV B 0 [] [] [] cl=true)
 (h:fe tb sp e H.nx Us cx.d K' cos cl t H) (hk:∀ t' H',K' t' H'->K .normal t' ds H'):WK tb sp e cx (.draw B cos) t ds H K:=by
 refine WK.draw ?_
 obtain⟨N,t',ds',H',r,w,h1,h2,h3,rfl,h4⟩:=WD.adu (B:=B) (ds:=ds) (i:=0) (A:=[]) (ps:=[]) (qs:=[]) (xs:=[]) he (Nat.le_refl _) (λen hm=>by cases hm) (λen hm=>by cases hm) (λen hm=>by cases hm) hc h
 exact⟨N,t',_,H',r,w,h1,h2,h3,hk _ _ h4⟩
end
end Go.Ev
end
