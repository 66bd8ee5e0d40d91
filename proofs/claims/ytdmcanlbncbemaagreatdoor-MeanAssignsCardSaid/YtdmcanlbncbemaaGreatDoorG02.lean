/-
 A part of the reckoner for the statements of a Go program: what it answers,the model answers. Holds for every program whose tables are as given.
-/
import Derived.Laws.Tables
import Derived.Test.YtdmcanlbncbemaaGreatDoorG01
set_option linter.unusedSimpArgs false
set_option linter.unusedVariables false
set_option linter.unusedSectionVars false
set_option maxRecDepth 100000
set_option maxHeartbeats 8000000
noncomputable section
namespace Go.Ev
theorem Aa (X Y:List Value) (a b:List (Nat×iG)):ga X Y (a++b)=match ga X Y a with|some true=>ga X Y b|r=>r:=by
 induction a with
 |nil=>rfl
 |cons p a ih =>
  obtain⟨o,l⟩:=p
  simp only[List.cons_append,ga]
  cases X[o]? with
  |none=>rfl
  |some x =>
   cases Y[o]? with
   |none=>rfl
   |some y =>
    simp only[]
    cases cu l x y with
    |none=>rfl
    |some t=>cases t with
     |true=>exact ih
     |false=>rfl
theorem DA (X Y:List Value) (k:Nat) (l:List (Nat×iG)):ga X Y (qp k l)=ga (X.drop k) (Y.drop k) l:=by
 induction l with
 |nil=>rfl
 |cons p a ih =>
  obtain⟨o,l⟩:=p
  simp only[qp,ga,List.getElem?_drop,ih]
theorem Gp (X Y:List Value) (s:Nat) (l:List (Nat×iG)) (h:∀ p∈l,p.1<s):ga (X.take s) (Y.take s) l=ga X Y l:=by
 induction l with
 |nil=>rfl
 |cons p a ih =>
  obtain⟨o,l⟩:=p
  have:=h (o,l) (by simp)
  simp only[ga,List.getElem?_take_of_lt this,ih (λp hp=>h p (by simp[hp]))]
section
variable {P:Program} {tb:Tb} (ok:dI P tb) {β:Mp} {W:World}
theorem aak:∀ (k:Nat) (t:TypeId) (l:List (Nat×iG)) (n:Nat),iY tb k t=some l->eY tb t=some (n+1)->∀ p∈l,p.1<n+1:=by
 intro k
 induction k with
 |zero=>intro t l n h;simp[iY]at h
 |succ k ih =>
  intro t l n h hn
  have goF:∀ (fs:List Field) (m:Nat) (l:List (Nat×iG)),sS tb (iY tb k) m fs=some l->∀ p∈l,p.1<m:=by
   intro fs
   induction fs with
   |nil=>intro m l h p hp;simp[sS]at h;subst h;simp at hp
   |cons x xs ihf =>
    intro m l h p hp
    simp only[sS]at h
    split at h
    ·exact ihf m l h p hp
    ·split at h
     ·rename_i a s b h1 h2 h3
      split at h
      ·rename_i hle
       cases h
       rw[List.mem_append]at hp
       rcases hp with hp|hp
       ·have:∀ (q:List (Nat×iG)),(∀ p∈q,p.1<s+1)->∀ p∈qp x.offset q,p.1<x.offset+(s+1):=by
         intro q
         induction q with
         |nil=>intro _ p hp;simp[qp]at hp
         |cons y ys ihq =>
          obtain⟨o,lf⟩:=y
          intro hq p hp
          simp only[qp,List.mem_cons]at hp
          rcases hp with rfl|hp
          ·have:=hq (o,lf) (by simp);simp only at this ⊢;omega
          ·exact ihq (λp hp=>hq p (by simp[hp])) p hp
        have:=this a (ih _ _ _ h1 h2) p hp
        omega
       ·exact ihf m b h3 p hp
      ·cases h
     ·cases h
  simp only[iY]at h
  split at h
  ·split at h
   ·rw[hn]at h
    exact goF _ _ _ h
   ·cases h
  ·cases h
  ·split at h
   ·cases h;intro p hp;simp at hp;subst hp;simp
   ·cases h
  ·cases h
include ok
theorem aaj:∀ (k:Nat) (t:TypeId) (l:List (Nat×iG)) (n:Nat),iY tb k t=some l->eY tb t=some n->∀ (X Y A B:List Value) (b:Bool),X.length=n->Y.length=n ->
 ak β X A->ak β Y B->ga X Y l=some b->∀ D,k<=D ->
  (dN tb t=some true/\(Op.equalIn D t (.agg ⟨A⟩) (.agg ⟨B⟩)).run P W=.ok b W) \/
  (dN tb t=some false/\∀ a c,A[0]?=some a->B[0]?=some c->(Op.equalIn D t a c).run P W=.ok b W):=by
 intro k
 induction k with
 |zero=>intro t l n h;simp[iY]at h
 |succ k ih =>
  intro t l n h hn X Y A B b hX hY hA hB hb D hD
  obtain⟨D',rfl⟩:∃ D',D=D'+1:=⟨D-1,by omega⟩
  simp only[iY]at h
  split at h
  ·rename_i fs hu
   split at h
   ·rename_i hok
    rw[hn]at h
    have hP:=ok.eN _ _ hu
    refine .inl ⟨by simp[dN,hu],?_⟩
    have hfo:P.fieldsOf t=fs:=by simp[Program.fieldsOf,hP]
    rw[run_equalIn_struct W D' t ⟨A⟩ ⟨B⟩ (by rw[hfo];exact hP) (ok.Xu t (List.contains_iff_mem.1 hok)).1,hfo]
    have key:∀ (fl:List Field) (l:List (Nat×iG)) (b:Bool),sS tb (iY tb k) n fl=some l->ga X Y l=some b->(Op.eqFields D' ⟨A⟩ ⟨B⟩ fl).run P W=.ok b W:=by
     intro fl
     induction fl with
     |nil=>intro l b h hb;simp[sS]at h;subst h;simp[ga]at hb;subst hb;rfl
     |cons x xs ihf =>
      intro l b h hb
      simp only[sS]at h
      simp only[Op.eqFields]
      split at h
      ·rename_i hname
       rw[if_neg (by simp[hname])]
       exact ihf l b h hb
      ·rename_i hname
       rw[if_pos hname]
       split at h
       ·rename_i la s lb h1 h2 h3
        split at h
        ·rename_i hle
         cases h
         rw[Aa,DA]at hb
         have hlt:=aak k x.type la s h1 h2
         have hXl:((X.drop x.offset).take (s+1)).length=s+1:=by simp;omega
         have hYl:((Y.drop x.offset).take (s+1)).length=s+1:=by simp;omega
         obtain⟨i,hi,hsz⟩:=cC ok h2
         cases hq:ga (X.drop x.offset) (Y.drop x.offset) la with
         |none=>rw[hq]at hb;cases hb
         |some r =>
          have ih':=ih x.type la (s+1) h1 h2 _ _ _ _ r hXl hYl (ak.take (s+1) (ak.drop x.offset hA)) (ak.take (s+1) (ak.drop x.offset hB)) (by rw[Gp _ _ _ _ hlt];exact hq) D' (by omega)
          have aht:(if (!r)=true then (pure false:Sem Bool)else Op.eqFields D' ⟨A⟩ ⟨B⟩ xs).run P W=.ok b W:=by
           cases r with
           |true=>rw[hq]at hb;simpa using ihf lb b h3 hb
           |false=>rw[hq]at hb;cases hb;rfl
          rcases ih' with⟨ha,he⟩|⟨ha,he⟩
          ·have p1:∀ C:List Value,(part x.type (⟨C⟩:Array Value) x.offset).run P W=.ok (.agg ⟨(C.drop x.offset).take (s+1)⟩) W:=by
            intro C
            unfold part
            simp only[Sem.run_bind,sF ok ha,Result.andThen_ok,if_true,aX hi,hsz,Sem.run_pure]
            congr 2
            apply Array.ext'
            simp
           simp only[Sem.run_bind,p1,Result.andThen_ok,he]
           exact aht
          ·have hoff:x.offset<X.length:=by omega
           have hoA:x.offset<A.length:=by rw[<-hA.1];exact hoff
           have hoB:x.offset<B.length:=by rw[<-hB.1,hY,<-hX];exact hoff
           have p1:∀ (C:List Value) (hC:x.offset<C.length),(part x.type (⟨C⟩:Array Value) x.offset).run P W=.ok C[x.offset] W:=by
            intro C hC
            unfold part
            simp only[Sem.run_bind,sG ok ha,Result.andThen_ok,Bool.false_eq_true,if_false]
            have:(⟨C⟩:Array Value)[x.offset]?=some C[x.offset]:=by simp[hC]
            rw[this];rfl
           simp only[Sem.run_bind,p1 A hoA,p1 B hoB,Result.andThen_ok]
           rw[he A[x.offset] B[x.offset] (by simp[hoA]) (by simp[hoB]),Result.andThen_ok]
           exact aht
        ·cases h
       ·cases h
    exact key _ _ _ h hb
   ·cases h
  ·cases h
  ·rename_i d hu1 hu2 hu3
   split at h
   ·rename_i lf hlf
    cases h
    have PB:dN tb t=some false:=by
     unfold dN
     split
     ·rename_i fs e;exact absurd e (by intro e;rw[hu3]at e;cases e;exact hu1 _ rfl)
     ·rename_i n' e' e;exact absurd e (by intro e;rw[hu3]at e;cases e;exact hu2 _ _ rfl)
     ·rfl
     ·rename_i e;rw[hu3]at e;cases e
    refine .inr ⟨PB,λa c ha hc=>?_⟩
    simp only[ga]at hb
    cases hX0:X[0]? with
    |none=>rw[hX0]at hb;cases hb
    |some x0 =>
     cases hY0:Y[0]? with
     |none=>rw[hX0,hY0]at hb;cases hb
     |some y0 =>
      rw[hX0,hY0]at hb
      simp only[]at hb
      cases hq:cu lf x0 y0 with
      |none=>rw[hq]at hb;cases hb
      |some r =>
       rw[hq]at hb
       have:r=b:=by cases r<;>simpa using hb
       subst this
       exact L7 ok hlf (ok.eN _ _ hu3) (hA.2 0 x0 a hX0 ha) (hB.2 0 y0 c hY0 hc) hq
   ·cases h
  ·cases h
end
def Ki (β:Mp) (d d':Deferred):Prop :=
 (match d.target,d'.target with
  |.fn (.func f) c,.fn (.func f') c'=>f=f'/\ak β c.toList c'.toList
  |.fn (.yield l) _,.fn (.yield l') _=>∃ m,β l=some m/\l'=m.rb
  |.collected b,.collected b'=>∃ m,β b=some m/\b'=m.rb
  |_,_=>False)/\ak β d.args.toList d'.args.toList
def QG (P:Program) (β:Mp) (H:Hp) (W:World) (s:Sem Next) (x:R):Prop:=match x with
 |.fail=>True
 |.val v H' r w=>Can H H' w/\(Pre β H H' r w W->∃ β' W' v',(s.run P W=.ok (.value v') W'\/(s.run P W=.ok .skip W'/\v'=undef))/\ai β' v v'/\Post β β' H H' w W W')
 |.call f args=>∃ args',s.run P W=(callFunc f args').run P W/\ak β args args'.toList
 |.round l args=>∃ m args',β l=some m/\s.run P W=(Instr.yield m.rb args').run P W/\ak β args args'.toList
 |.panic v=>∃ v',s.run P W=.halt (.panic v') W/\ai β v v'
 |.defer d=>∃ d',s.run P W=.ok (.defer d') W/\Ki β d d'
 |.recover=>s.run P W=.ok .recover W
theorem oo (β:Mp):ai β U undef:=.tuple [] [] rfl λi v v' h=>by simp at h
section
variable {P:Program} {β:Mp} {H:Hp} {W:World}
theorem bA {s:Sem Value} {x:R} (h:gl P β H W s x):QG P β H W (do pure (.value (<-s))) x:=by
 cases x with
 |val v H' r w =>
  refine⟨h.1,λp=>?_⟩
  obtain⟨β',W',v',hr,hv,hp⟩:=h.2 p
  exact⟨β',W',v',.inl (by simp[hr]),hv,hp⟩
 |fail=>trivial
 |_=>exact h.elim
theorem Ta {s:Sem Unit} {x:R} (h:OpU P β H W s x):QG P β H W (do s;pure .skip) x:=by
 cases x with
 |val v H' r w =>
  obtain⟨h1,rfl,h2⟩:=h
  refine⟨h1,λp=>?_⟩
  obtain⟨β',W',hr,hp⟩:=h2 p
  exact⟨β',W',undef,.inr ⟨by simp[hr],rfl⟩,oo _,hp⟩
 |fail=>trivial
 |_=>exact h.elim
theorem AH {s s':Sem Next} {x:R} (h:s.run P W=s'.run P W) (h':QG P β H W s' x):QG P β H W s x:=by
 cases x with
 |val v H' r w=>exact⟨h'.1,λp=>let ⟨β',W',v',a,b⟩:=h'.2 p;⟨β',W',v',by rw[h];exact a,b⟩⟩
 |fail=>trivial
 |call f args=>obtain⟨a,b,c⟩:=h';exact⟨a,h.trans b,c⟩
 |round l args=>obtain⟨a,b,c,d,e⟩:=h';exact⟨a,b,c,h.trans d,e⟩
 |panic v=>obtain⟨a,b,c⟩:=h';exact⟨a,h.trans b,c⟩
 |defer d=>obtain⟨a,b,c⟩:=h';exact⟨a,h.trans b,c⟩
 |recover=>exact h.trans h'
variable (hw:H.wf)
include hw
theorem YT {c a b c' a' b':Value} (hc:ai β c c') (ha:ai β a a') (hb:ai β b b') :
 gl P β H W (do pure (if <-asBool c' then a' else b')) (qH c a b H):=by
 unfold qH
 cases e:zC c with
 |none=>trivial
 |some t =>
  have:=wR e;subst this
  cases hc
  refine aD hw (v':=if t then a' else b') ?_ ?_
  ·simp[asBool]
  ·cases t<;>simp[aj,au]<;>assumption
omit hw in
theorem nE {op:BinOp} {t:TypeId} {x y:Operand} {a b:Value} (h1:∀ u v,a=.agg u->b=.agg v->P.eqGuardType P.depth t=false)
 (h2:a=.nilIface->b=.nilIface->gK x=true\/gK y=true\/P.underlying t=some (.interface #[])):(eqGuard op t x y a b).run P W=.ok () W:=by
 have dU:a=.nilIface->b=.nilIface->(eqGuard op t x y a b).run P W=.ok () W:=by
  intro ha hb
  subst ha hb
  have:=h2 rfl rfl
  rcases this with h|h|h
  ·cases x<;>simp[gK]at h;cases op<;>simp[eqGuard]
  ·cases y<;>simp[gK]at h;cases op<;>simp[eqGuard]
  ·have hg:∀ d,(Op.eqGuardIn (d+1) t .nilIface .nilIface).run P W=.ok false W:=by
    intro d;simp[Op.eqGuardIn,run_underlying h]
   have hg':(Op.eqGuardIn Op.maxDepth t .nilIface .nilIface).run P W=.ok false W:=hg 9999
   cases op<;>simp[eqGuard]<;>(split<;>simp[hg'])
 by_cases ha:a=.nilIface
 ·by_cases hb:b=.nilIface
  ·exact dU ha hb
  ·subst ha;cases b<;>simp at hb<;>cases op<;>simp[eqGuard]
 ·cases a with
  |nilIface=>exact absurd rfl ha
  |agg u =>
   cases b with
   |agg v=>exact run_eqGuard_agg W op t x y u v (h1 u v rfl rfl)
   |_=>cases op<;>simp[eqGuard]
  |_=>cases op<;>simp[eqGuard]
end
end Go.Ev
end
noncomputable section
namespace Go.Ev
variable [lN]
section
variable {P:Program} {tb:Tb} (ok:dI P tb) {β:Mp} {H:Hp} {W:World} (hw:H.wf)
include hw
theorem NH {op:BinOp} {t:TypeId} {x y:Operand} {a b a' b':Value} (ha:ai β a a') (hb:ai β b b') :
 gl P β H W (do eqGuard op t x y a' b';binOp op t a' b') (R.o (gD op a b) H):=by
 refine abg hw λv h=>?_
 cases ha<;>simp only[gD]at h<;>try (cases h;done)
 ·rename_i k n
  cases hb<;>simp only at h<;>try (cases h;done)
  rename_i k' m
  have hg:(eqGuard op t x y (.int k n) (.int k' m)).run P W=.ok () W:=nE (λu v h=>by cases h) (λh=>by cases h)
  have hi:iz op k n m=some v/\(k=k'\/op=.shl\/op=.shr):=by
   cases op<;>simp only at h<;>first
    |exact⟨h,by simp⟩
    |(cases e:tD k k' with
     |true=>rw[e,aj]at h;exact⟨h,.inl (iB e)⟩
     |false=>rw[e,au]at h;cases h)
  refine⟨v,by simp[hg,Pt hi.2 hi.1 W],?_⟩
  have:∃ z,v=.int k z\/∃ b,v=.bool b:=by
   have h1:=hi.1
   cases op<;>simp only[iz]at h1<;>first
    |(cases h1;exact⟨_,.inl rfl⟩)
    |(cases h1;exact⟨0,.inr ⟨_,rfl⟩⟩)
    |(simp only[oZ]at h1;cases h1;exact⟨_,.inl rfl⟩)
    |(cases e:nQ m 0 with
     |true=>rw[e,aj]at h1;cases h1
     |false=>rw[e,au]at h1;cases h1;exact⟨_,.inl rfl⟩)
    |(cases e:pW m 0 with
     |true=>rw[e,aj]at h1;cases h1
     |false=>rw[e,au]at h1;cases h1;exact⟨_,.inl rfl⟩)
  obtain⟨z,rfl|⟨b,rfl⟩⟩:=this
  ·exact .int k z
  ·exact .bool b
 ·rename_i s
  cases hb<;>simp only at h<;>try (cases h;done)
  rename_i s'
  have hg:(eqGuard op t x y (.string s) (.string s')).run P W=.ok () W:=nE (λu v h=>by cases h) (λh=>by cases h)
  refine⟨v,by simp[hg,Oh h W],?_⟩
  cases op<;>simp only[xk]at h<;>first
   |(cases h;done)
   |(cases h;exact .bool _)
   |(cases e:Nat.ble (s.data.toList.length+s'.data.toList.length) 1073741824 with
    |true=>rw[e,aj]at h;cases h;exact .string _
    |false=>rw[e,au]at h;cases h)
omit hw in
theorem S0 {s:Sem Value} {v v':Value} (hf:∀ β w,ai β v' w->w=v') (h:gl P β H W s (R.v v' H)) (hv:ai β v v'):gl P β H W s (R.v v H) :=
 ⟨h.1,λp=>by
  obtain⟨β',W',w',a,b,c⟩:=h.2 p
  have:=hf _ _ b;subst this
  exact⟨β',W',_,a,hv.mono c.le,c⟩⟩
omit hw in
theorem oM {s:Sem Value} {h:er} {l l':List Value} (hq:lN.Q β) (hl:ak β l l') (hk:∀ v',iW h l'=some v'->(∀ β w,ai β v' w->w=v')/\gl P β H W s (R.v v' H)):gl P β H W s (R.o (tf.hk h l) H):=by
 cases e:tf.hk h l with
 |none=>trivial
 |some v =>
  obtain⟨v',h1,h2⟩:=lN.A8 hq h l v e l' hl
  obtain⟨h3,h4⟩:=hk v' h1
  exact S0 h3 h4 h2
omit hw in
theorem FC {a a':Value} (h:ai β a a'):ak β [a] [a']:=ak.cons h (ak.nil β)
omit hw in
theorem FB {a a' b b':Value} (h:ai β a a') (h2:ai β b b'):ak β [a,b] [a',b']:=ak.cons h (FC h2)
omit hw in
theorem Ju {k:IntKind} {n:Int}:∀ (β:Mp) w,ai β (.int k n) w->w=.int k n:=λβ w h=>by cases h;rfl
omit hw in
theorem ajU {s:ByteArray}:∀ (β:Mp) w,ai β (.string s) w->w=.string s:=λβ w h=>by cases h;rfl
omit hw in
theorem aj' {b:Bool}:∀ (β:Mp) w,ai β (.bool b) w->w=.bool b:=λβ w h=>by cases h;rfl
omit hw in
theorem J5 {op:BinOp} {a b v:Value} (h:gD op a b=some v):ai β a a/\ai β b b/\∀ (β:Mp) w,ai β v w->w=v:=by
 cases a<;>simp only[gD]at h<;>try (cases h;done)
 ·rename_i k n
  cases b<;>simp only at h<;>try (cases h;done)
  rename_i k' m
  refine⟨.int _ _,.int _ _,?_⟩
  have hi:iz op k n m=some v:=by
   cases op<;>simp only at h<;>first
    |exact h
    |(cases e:tD k k' with
     |true=>rw[e,aj]at h;exact h
     |false=>rw[e,au]at h;cases h)
  have:∃ z,v=.int k z\/∃ b,v=.bool b:=by
   have h1:=hi
   cases op<;>simp only[iz]at h1<;>first
    |(cases h1;exact⟨_,.inl rfl⟩)
    |(cases h1;exact⟨0,.inr ⟨_,rfl⟩⟩)
    |(simp only[oZ]at h1;cases h1;exact⟨_,.inl rfl⟩)
    |(cases e:nQ m 0 with
     |true=>rw[e,aj]at h1;cases h1
     |false=>rw[e,au]at h1;cases h1;exact⟨_,.inl rfl⟩)
    |(cases e:pW m 0 with
     |true=>rw[e,aj]at h1;cases h1
     |false=>rw[e,au]at h1;cases h1;exact⟨_,.inl rfl⟩)
  obtain⟨z,rfl|⟨b,rfl⟩⟩:=this
  ·exact Ju
  ·exact aj'
 ·rename_i s
  cases b<;>simp only at h<;>try (cases h;done)
  rename_i s'
  refine⟨.string _,.string _,?_⟩
  cases op<;>simp only[xk]at h<;>first
   |(cases h;done)
   |(cases h;exact aj')
   |(cases e:Nat.ble (s.data.toList.length+s'.data.toList.length) 1073741824 with
    |true=>rw[e,aj]at h;cases h;exact ajU
    |false=>rw[e,au]at h;cases h)
theorem afI {op:BinOp} {t:TypeId} {x y:Operand} {a b a' b':Value} (hq:lN.Q β) (ha:ai β a a') (hb:ai β b b') :
 gl P β H W (do eqGuard op t x y a' b';binOp op t a' b') (R.o (dK op a b) H):=by
 unfold dK YY
 cases e:gD op a b with
 |some v=>have:=NH (P:=P) (W:=W) (op:=op) (t:=t) (x:=x) (y:=y) hw ha hb;rw[e]at this;exact this
 |none =>
  refine oM hq (FB ha hb) λv' h=>?_
  have h:gD op a' b'=some v':=h
  obtain⟨h1,h2,h3⟩:=J5 (β:=β) h
  have:=NH (P:=P) (W:=W) (op:=op) (t:=t) (x:=x) (y:=y) hw h1 h2
  rw[h]at this
  exact⟨h3,this⟩
omit hw in
theorem yX {t:TypeId} {a b:Value} {r:Bool} (neg:Bool) (hi:∀ k n k' m,a=.int k n->b=.int k' m->k=k'/\r=(n==m)) (hs:∀ s s',a=.string s->b=.string s'->r=(s.toList==s'.toList))
 (hn:∀ k n,a=.int k n->∃ k' m,b=.int k' m) (hn2:∀ s,a=.string s->∃ s',b=.string s') (hf:∀ k n,a≠.float k n) (hc:∀ k n m,a≠.complex k n m)
 (h:(Op.equalIn 10000 t a b).run P W=.ok r W):(binOp (if neg then .neq else .eql) t a b).run P W=.ok (.bool (if neg then !r else r)) W:=by
 have he:(Op.equal t a b).run P W=.ok r W:=h
 cases a with
 |int k n =>
  obtain⟨k',m,rfl⟩:=hn k n rfl
  obtain⟨rfl,rfl⟩:=hi _ _ _ _ rfl rfl
  cases neg<;>simp[binOp,Op.intCmp,bne]
 |string s =>
  obtain⟨s',rfl⟩:=hn2 s rfl
  have:=hs _ _ rfl rfl;subst this
  cases neg<;>simp[binOp,Op.stringOp]
 |float k n=>exact absurd rfl (hf k n)
 |complex k n m=>exact absurd rfl (hc k n m)
 |_=>cases neg<;>simp[binOp,he]
include ok
theorem yl {t:TypeId} {d:TypeDesc} {l:iG} {x y:Operand} {a b a' b':Value} {neg:Bool} (hl:qA tb d=some l) (hd:P.underlying t=some d) (ha:ai β a a') (hb:ai β b b')
 (hif:l=.ifc->gK x=true\/gK y=true\/P.underlying t=some (.interface #[])) :
 gl P β H W (do eqGuard (if neg then .neq else .eql) t x y a' b';binOp (if neg then .neq else .eql) t a' b') (match cu l a b with|some b=>R.v (.bool (Bc neg (!b) b)) H|none=>.fail):=by
 cases h:cu l a b with
 |none=>trivial
 |some r =>
  simp only[]
  have hna:∀ ch,a≠.chan ch:=λch e=>by subst e;cases l<;>simp[cu]at h
  have hnb:∀ ch,b≠.chan ch:=λch e=>by subst e;cases l<;>cases a<;>simp[cu]at h<;>(try (split at h<;>simp at h))
  have he:=L7 (k:=9999) (W:=W) ok hl hd ha hb h
  have hg:(eqGuard (if neg then .neq else .eql) t x y a' b').run P W=.ok () W:=by
   refine nE (λu v h1 h2=>?_) (λh1 h2=>?_)
   ·subst h1;(cases ha<;>try exact absurd rfl (hna _));cases l<;>simp[cu]at h
   ·subst h1;(cases ha<;>try exact absurd rfl (hna _));cases l<;>simp[cu]at h<;>exact hif rfl
  have anB:(binOp (if neg then .neq else .eql) t a' b').run P W=.ok (.bool (if neg then !r else r)) W:=by
   refine yX neg ?_ ?_ ?_ ?_ ?_ ?_ he
   ·intro k n k' m h1 h2
    subst h1 h2;(cases ha<;>try exact absurd rfl (hna _));(cases hb<;>try exact absurd rfl (hnb _))
    cases l<;>simp only[cu]at h<;>try (cases h;done)
    cases e:tD k k' with
    |false=>rw[e,au]at h;cases h
    |true=>rw[e,aj]at h;cases h;exact⟨iB e,dY _ _⟩
   ·intro s s' h1 h2
    subst h1 h2;(cases ha<;>try exact absurd rfl (hna _));(cases hb<;>try exact absurd rfl (hnb _))
    cases l<;>simp only[cu]at h<;>try (cases h;done)
    cases h;rw[toList_eq,toList_eq,gv]
   ·intro k n h1
    subst h1;(cases ha<;>try exact absurd rfl (hna _))
    cases l<;>simp only[cu]at h<;>try (cases h;done)
    cases hb<;>simp only at h<;>first|(cases h;done)|exact⟨_,_,rfl⟩
   ·intro s h1
    subst h1;(cases ha<;>try exact absurd rfl (hna _))
    cases l<;>simp only[cu]at h<;>try (cases h;done)
    cases hb<;>simp only at h<;>first|(cases h;done)|exact⟨_,rfl⟩
   ·intro k n h1;subst h1;(cases ha<;>try exact absurd rfl (hna _));cases l<;>simp[cu]at h
   ·intro k n m h1;subst h1;(cases ha<;>try exact absurd rfl (hna _));cases l<;>simp[cu]at h
  refine aD hw (v':=.bool (if neg then !r else r)) (by simp[hg,anB]) ?_
  cases neg<;>simp only[aj,au]<;>exact .bool _
theorem AW {t:TypeId} {d:TypeDesc} {l:iG} {x y:Operand} {a b a' b':Value} {neg:Bool} (hq:lN.Q β) (hl:qA tb d=some l) (hd:P.underlying t=some d) (ha:ai β a a') (hb:ai β b b')
 (hif:l=.ifc->gK x=true\/gK y=true\/P.underlying t=some (.interface #[])) :
 gl P β H W (do eqGuard (if neg then .neq else .eql) t x y a' b';binOp (if neg then .neq else .eql) t a' b') (jo neg (.one l) a b H):=by
 unfold jo
 simp only[V2]
 cases h:cu l a b with
 |some r =>
  have:=yl (H:=H) (W:=W) (neg:=neg) ok hw hl hd ha hb hif
  rw[h]at this
  exact this
 |none =>
  simp only[orE,hkE]
  cases e:WV (tf.hk (.eq l) [a,b])with
  |none=>trivial
  |some r =>
   unfold WV at e
   split at e
   case h_2=>cases e
   rename_i r' e2
   cases e
   obtain⟨v',h1,h2⟩:=lN.A8 hq _ _ _ e2 _ (FB ha hb)
   cases h2
   have key:cu l a' b'=some r/\ai β a' a'/\ai β b' b':=by
    unfold iW at h1
    split at h1
    all_goals (rename_i hh he;try (cases hh;done))
    all_goals (try (cases he;done))
    all_goals (try (cases h1;done))
    ·cases hh;cases he
     rename_i j p k q
     refine⟨?_,.int _ _,.int _ _⟩
     show Bc _ _ _=_
     cases e3:tD j k with
     |false=>rw[e3,au]at h1;cases h1
     |true=>rw[e3,aj]at h1;rw[aj];cases h1;rfl
    ·cases hh;cases he
     refine⟨?_,.string _,.string _⟩
     cases h1;rfl
   have:=yl (H:=H) (W:=W) (neg:=neg) ok hw hl hd key.2.1 key.2.2 hif
   rw[key.1]at this
   exact this
omit ok hw in
theorem VT (k:Nat) {t:TypeId} {fs:Array Field} {ps:List (Nat×iG)} (hfs:tb.eN t=some (.struct fs)) (hl:iY tb (k+1) t=some ps):t∈tb.Xu:=by
 simp only[iY,hfs]at hl
 split at hl
 ·rename_i hc;exact List.contains_iff_mem.1 hc
 ·cases hl
theorem Pa {t:TypeId} {n:Nat} {ps:List (Nat×iG)} {x y:Operand} {a b a' b':Value} {neg:Bool} (hl:iY tb 20 t=some ps) (hn:eY tb t=some n) (hs:∃ fs,tb.eN t=some (.struct fs)) (ha:ai β a a') (hb:ai β b b') :
 gl P β H W (do eqGuard (if neg then .neq else .eql) t x y a' b';binOp (if neg then .neq else .eql) t a' b') (jo neg (.many n ps) a b H):=by
 unfold jo
 cases h:V2 (.many n ps) a b with
 |none=>trivial
 |some r =>
  simp only[orE]
  cases ha<;>simp only[V2]at h<;>try (cases h;done)
  rename_i A A' A0 A1 A2
  cases hb<;>simp only at h<;>try (cases h;done)
  rename_i B B' B0 B1 B2
  cases e:(Nat.beq A.length n&&Nat.beq B.length n)with
  |false=>rw[e,au]at h;cases h
  |true =>
   rw[e,aj]at h
   simp only[Bool.and_eq_true,beq_iff]at e
   obtain⟨fs,hfs⟩:=hs
   have hag:dN tb t=some true:=by simp[dN,hfs]
   have anj:t∈tb.Xu:=by
    exact VT 19 hfs hl
   have he:=aaj (W:=W) ok 20 t ps n hl hn A B A' B' r e.1 e.2 ⟨A1,A2⟩ ⟨B1,B2⟩ h 10000 (by omega)
   rcases he with⟨_,he⟩|⟨hf,_⟩
   ·have hg:(eqGuard (if neg then .neq else .eql) t x y (.agg ⟨A'⟩) (.agg ⟨B'⟩)).run P W=.ok () W :=
     nE (λu v _ _=>(ok.Xu t anj).2) (λh=>by cases h)
    refine aD hw (v':=.bool (if neg then !r else r)) ?_ ?_
    ·cases neg
     ·simp only[Bool.false_eq_true,if_false]at hg ⊢
      simp[hg,run_eql_struct,he]
     ·simp only[if_true]at hg ⊢
      simp[hg,run_neq_struct,he]
    ·cases neg<;>simp only[aj,au]<;>exact .bool _
   ·rw[hag]at hf;cases hf
end
end Go.Ev
end
noncomputable section
namespace Go.Ev
variable [lN]
section
variable {P:Program} {tb:Tb} (ok:dI P tb) {β:Mp} {H:Hp} {W:World} (hw:H.wf)
include hw
theorem af0 {op:UnOp} {v v':Value} (hq:lN.Q β) (hv:ai β v v'):gl P β H W (Op.unary op v') (Jy op v H):=by
 unfold Jy
 cases op with
 |neg =>
  simp only[YY]
  cases e:GN v with
  |none =>
   refine oM hq (FC hv) λv2 h=>?_
   unfold iW at h
   split at h
   all_goals (rename_i hh he;try (cases hh;done))
   all_goals (try (cases he;done))
   all_goals (try (cases h;done))
   cases he;cases h
   exact⟨Ju,aD hw (by rw[dO];rfl) (.int _ _)⟩
  |some x =>
   obtain⟨k,n⟩:=x
   have:=mM e;subst this;cases hv
   exact aD hw (v':=.int k (aN k (Int.sub 0 n))) (by rw[dO];rfl) (.int _ _)
 |xor =>
  simp only[]
  cases e:GN v with
  |none=>trivial
  |some x =>
   obtain⟨k,n⟩:=x
   have:=mM e;subst this;cases hv
   refine aD hw (v':=qk .xor k (Bc k.signed (-1) k.max) n) ?_ (by rw[oZ];exact .int _ _)
   rw[oZ]
   cases h:k.signed<;>simp[Op.unary,Op.intBits,aj,au,h]
 |not =>
  simp only[]
  cases e:zC v with
  |none=>trivial
  |some b =>
   have:=wR e;subst this;cases hv
   exact aD hw (v':=.bool (!b)) rfl (.bool _)
 |plus=>trivial
theorem aaH {src dst:TypeId} {k:IntKind} {d:TypeDesc} {v v':Value} (hq:lN.Q β) (hs:P.underlying src=some d) (hd:P.underlying dst=some (.int k)) (hv:ai β v v'):gl P β H W (convert src dst v') (uF k v H):=by
 unfold uF
 cases e:J8 v with
 |none =>
  refine oM hq (FC hv) λv2 h=>?_
  unfold iW at h
  split at h
  all_goals (rename_i hh he;try (cases hh;done))
  all_goals (try (cases he;done))
  all_goals (try (cases h;done))
  cases hh;cases he;cases h
  refine⟨Ju,aD hw ?_ (.int _ _)⟩
  rw[dO]
  simp[convert,run_underlying hs,run_underlying hd,Conv.intToInt]
 |some n =>
  obtain⟨k',rfl⟩:=gS e
  cases hv
  refine aD hw (v':=.int k (aN k n)) ?_ (.int _ _)
  rw[dO]
  simp[convert,run_underlying hs,run_underlying hd,Conv.intToInt]
theorem aaI {src dst:TypeId} {d:TypeDesc} {v v':Value} (hs:P.underlying src=some d) (hd:P.underlying dst=some .string) (hq:lN.Q β) (hv:ai β v v'):gl P β H W (convert src dst v') (Nl v H):=by
 unfold Nl
 cases e:J8 v with
 |none =>
  refine oM hq (FC hv) λv2 h=>?_
  unfold iW at h
  split at h
  all_goals (rename_i hh he;try (cases hh;done))
  all_goals (try (cases he;done))
  all_goals (try (cases h;done))
  cases he;cases h
  exact⟨ajU,aD hw (by simp[convert,run_underlying hs,run_underlying hd,Conv.intToString]) (.string _)⟩
 |some n =>
  obtain⟨k',rfl⟩:=gS e
  cases hv
  exact aD hw (v':=.string (Utf8.encode n)) (by simp[convert,run_underlying hs,run_underlying hd,Conv.intToString]) (.string _)
theorem adC {t:TypeId} {d:TypeDesc} {v v':Value} (hd:P.underlying t=some d) (h:∀ ms,d≠.interface ms) (hv:ai β v v'):gl P β H W (Instr.makeInterface t v') (R.v (.iface t v) H):=by
 refine aD hw (v':=.iface t v') ?_ (.iface _ _ _ hv)
 unfold Instr.makeInterface
 simp only[Sem.run_bind,run_underlying hd,Result.andThen_ok]
 cases d<;>first|rfl|exact absurd rfl (h _)
theorem afa {v v':Value} {i:Nat} (hv:ai β v v'):gl P β H W (Instr.extract v' i) (qi v i H):=by
 cases hv<;>try trivial
 rename_i as as' h1 h2
 show gl P β H W _ (R.o as[i]? H)
 refine abg hw λx hx=>?_
 obtain⟨x',e,hr⟩:=ak.get ⟨h1,h2⟩ hx
 exact⟨x',by simp[Instr.extract,e],hr⟩
theorem aj_ {s:TypeId} {fs:Array Field} {f:Nat} {fd:Field} {n:Nat} {v v':Value} (hs:P.underlying s=some (.struct fs)) (hf:fs[f]?=some fd) {i:TypeInfo} (hi:P.info? fd.type=some i) (hn:i.size=n+1)
 (hv:ai β v v'):gl P β H W (Instr.fieldAt s v' f) (P4 fd.offset v H):=by
 unfold P4
 cases e:eZ v with
 |none=>trivial
 |some x =>
  obtain⟨b,o⟩:=x
  have:=eD e;subst this
  cases hv with|ptr _ _ m e0 =>
  refine aD hw (v':=.pointer (some ⟨m.rb,o+fd.offset+m.sh,none⟩)) ?_ (.ptr _ _ _ e0)
  have hz:¬ i.size=0:=by omega
  simp[Instr.fieldAt,run_underlying hs,hf,Instr.sureAddr,fieldPlace,aX hi,hz,add_eq]
  omega
omit hw in
theorem sH {i:Value} {n m:Nat} (h:idx i n=some m):∃ k,i=.int k (m:Int)/\m<n:=by
 unfold idx at h
 cases e:J8 i with
 |none=>simp only[e]at h;cases h
 |some j =>
  simp only[e]at h
  obtain⟨k,rfl⟩:=gS e
  cases e2:tZ j with
  |none=>simp only[e2]at h;cases h
  |some m' =>
   simp only[e2]at h
   have:=oC e2;subst this
   cases e3:Nat.blt m' n with
   |false=>simp only[e3,au]at h;cases h
   |true=>simp only[e3,aj]at h;cases h;exact⟨k,rfl,(an _ _).1 e3⟩
theorem ad4 {t elem:TypeId} {n:Nat} {i:TypeInfo} {v v' j j':Value} (ht:P.underlying t=some (.array n elem)) (hi:P.info? elem=some i) (hv:ai β v v') (hj:ai β j j') :
 gl P β H W (Instr.indexAt t v' j') (nM n i.size v j H):=by
 unfold nM
 cases e:eZ v with
 |none=>trivial
 |some x =>
  obtain⟨b,o⟩:=x
  have:=eD e;subst this
  cases hv with|ptr _ _ m e0 =>
  simp only[]
  cases e2:idx j n with
  |none=>trivial
  |some q =>
   obtain⟨k,rfl,hq⟩:=sH e2
   cases hj
   refine aD hw (v':=.pointer (some ⟨m.rb,o+q*i.size+m.sh,none⟩)) ?_ (.ptr _ _ _ e0)
   simp[Instr.indexAt,run_underlying ht,asIntOf,Instr.sureAddr,hq,aX hi,add_eq]
   omega
theorem ad3 {t elem:TypeId} {i:TypeInfo} {v v' j j':Value} (ht:P.underlying t=some (.slice elem)) (hi:P.info? elem=some i) (hv:ai β v v') (hj:ai β j j') :
 gl P β H W (Instr.indexAt t v' j') (eT i.size v j H):=by
 unfold eT
 split
 ·rename_i b o n c op e
  cases e2:idx j n with
  |none=>trivial
  |some q =>
   obtain⟨k,rfl,hq⟩:=sH e2
   cases hj
   obtain⟨m,c',e0,rfl,_,_⟩:=rH e hv
   refine aD hw (v':=.pointer (some ⟨m.rb,o+q*i.size+m.sh,none⟩)) ?_ (.ptr _ _ _ e0)
   simp[Instr.indexAt,run_underlying ht,asIntOf,hq,aX hi,add_eq]
   omega
 ·trivial
omit hw in
theorem Ml {t:TypeId} {s:ByteArray} {k:IntKind} {j:Int} {q:Nat} {c:UInt8} (ht:P.underlying t=some .string) (e2:idx (.int k j) s.data.toList.length=some q) (e3:s.data.toList[q]?=some c) :
 (Instr.index t (.string s) (.int k j)).run P W=.ok (.int .u8 (.ofNat c.toNat)) W:=by
 obtain⟨k',he,hq⟩:=sH e2
 cases he
 have hq':q<s.size:=hq
 have hg:s[q]?=some c:=by
  rw[getElem?_pos s q hq']
  have:s.data.toList[q]?=some s[q]:=by
   rw[List.getElem?_eq_getElem hq];rfl
  rw[this]at e3;exact e3
 simp[Instr.index,run_underlying ht,asIntOf,hg]
theorem adX {t:TypeId} {v v' j j':Value} (hy:lN.Q β) (ht:P.underlying t=some .string) (hv:ai β v v') (hj:ai β j j'):gl P β H W (Instr.index t v' j') (kS v j H):=by
 unfold kS
 cases e:QN v with
 |none =>
  refine oM hy (FB hv hj) λv2 h=>?_
  unfold iW at h
  split at h
  all_goals (rename_i hh he;try (cases hh;done))
  all_goals (try (cases he;done))
  all_goals (try (cases h;done))
  cases he
  split at h
  case h_2=>cases h
  rename_i q e2
  split at h
  case h_2=>cases h
  rename_i c e3
  cases h
  exact⟨Ju,aD hw (Ml ht e2 e3) (.int _ _)⟩
 |some s =>
  have:=s_ e;subst this
  cases hv
  simp only[]
  cases e2:idx j s.data.toList.length with
  |none=>trivial
  |some q =>
   simp only[]
   cases e3:s.data.toList[q]? with
   |none=>trivial
   |some c =>
    obtain⟨k,rfl,hq⟩:=sH e2
    cases hj
    exact aD hw (v':=.int .u8 (.ofNat c.toNat)) (Ml ht e2 e3) (.int _ _)
include ok
omit hw in
theorem KY {t:TypeId} {ag:Bool} {i:TypeInfo} {as as':List Value} {off:Nat} {x:Value} (ha:dN tb t=some ag) (hi:P.info? t=some i) (h0:as.all bQ=true) (hl:ak β as as')
 (h:nO ag i.size off (.agg ⟨as⟩) H=.val x H 0 0):∃ x',(part t ⟨as'⟩ off).run P W=.ok x' W/\ai β x x':=by
 unfold nO at h
 simp only[W8]at h
 cases ag with
 |true =>
  rw[aj]at h
  cases e:Nat.ble (off+i.size) as.length with
  |false=>rw[e,au]at h;cases h
  |true =>
   rw[e,aj]at h
   simp only[R.v,R.val.injEq,and_true]at h;subst h
   have hd:=ak.take i.size (ak.drop off hl)
   refine⟨.agg ⟨(as'.drop off).take i.size⟩,?_,.agg _ _ ?_ hd.1 hd.2⟩
   ·unfold part
    simp only[Sem.run_bind,sF ok ha,Result.andThen_ok,if_true,aX hi,Sem.run_pure]
    congr 2
    apply Array.ext'
    simp
   ·rw[List.all_eq_true]at h0 ⊢
    intro y hy
    exact h0 y (List.mem_of_mem_drop (List.mem_of_mem_take hy))
 |false =>
  rw[au]at h
  cases e:as[off]? with
  |none=>rw[e]at h;cases h
  |some y =>
   rw[e]at h
   simp only[R.o,R.val.injEq,and_true]at h;subst h
   obtain⟨y',e',hr⟩:=hl.get e
   refine⟨y',?_,hr⟩
   unfold part
   simp only[Sem.run_bind,sG ok ha,Result.andThen_ok,Bool.false_eq_true,if_false]
   have:(⟨as'⟩:Array Value)[off]?=some y':=by simpa using e'
   rw[this];rfl
omit ok hw in
theorem Bi {ag:Bool} {sz off:Nat} {v:Value}:nO ag sz off v H=.fail\/∃ x,nO ag sz off v H=.val x H 0 0/\∃ l,v=.agg ⟨l⟩:=by
 unfold nO
 cases e:W8 v with
 |none=>exact .inl rfl
 |some l =>
  have:=W7 e;subst this
  simp only[]
  cases ag with
  |true =>
   rw[aj]
   cases e:Nat.ble (off+sz) l.length with
   |false=>exact .inl rfl
   |true=>exact .inr ⟨_,rfl,l,rfl⟩
  |false =>
   rw[au]
   cases l[off]? with
   |none=>exact .inl rfl
   |some y=>exact .inr ⟨_,rfl,l,rfl⟩
theorem ae9 {s:TypeId} {fs:Array Field} {f:Nat} {fd:Field} {ag:Bool} {v v':Value} (hs:P.underlying s=some (.struct fs)) (hf:fs[f]?=some fd) {i:TypeInfo} (hi:P.info? fd.type=some i)
 (ha:dN tb fd.type=some ag) (hv:ai β v v'):gl P β H W (Instr.field s v' f) (nO ag i.size fd.offset v H):=by
 rcases Bi (H:=H) (ag:=ag) (sz:=i.size) (off:=fd.offset) (v:=v)with h|⟨x,h,l,rfl⟩
 ·rw[h];trivial
 ·rw[h]
  cases hv with|agg as as' h0 h1 h2 =>
  obtain⟨x',hr,hx⟩:=KY (W:=W) ok ha hi h0 ⟨h1,h2⟩ h
  exact aD hw (by simp[Instr.field,run_underlying hs,hf,asAgg,hr]) hx
theorem adY {t elem:TypeId} {n:Nat} {ag:Bool} {i:TypeInfo} {v v' j j':Value} (ht:P.underlying t=some (.array n elem)) (hi:P.info? elem=some i) (ha:dN tb elem=some ag) (hv:ai β v v') (hj:ai β j j') :
 gl P β H W (Instr.index t v' j') (Bp ag n i.size v j H):=by
 unfold Bp
 cases e2:idx j n with
 |none=>trivial
 |some q =>
  obtain⟨k,rfl,hq⟩:=sH e2
  cases hj
  simp only[]
  rcases Bi (H:=H) (ag:=ag) (sz:=i.size) (off:=q*i.size) (v:=v)with h|⟨x,h,l,rfl⟩
  ·rw[h];trivial
  ·rw[h]
   cases hv with|agg as as' h0 h1 h2 =>
   obtain⟨x',hr,hx⟩:=KY (W:=W) ok ha hi h0 ⟨h1,h2⟩ h
   exact aD hw (by simp[Instr.index,run_underlying ht,asIntOf,hq,aX hi,hr]) hx
end
end Go.Ev
end
noncomputable section
namespace Go.Ev
variable [lN]
def GX (β:Mp) (x x':Option Value):Prop:=match x,x' with
 |none,none=>True
 |some v,some v'=>ai β v v'
 |_,_=>False
section
variable {P:Program} {tb:Tb} (ok:dI P tb) {β:Mp} {H:Hp} {W:World} (hw:H.wf)
theorem DL {x:Option Value} {d hi m:Nat} (h:XD x d hi=some m):(x=none/\m=d)\/(∃ k,x=some (.int k (m:Int))/\m<=hi):=by
 unfold XD at h
 cases x with
 |none=>simp only[Option.some.injEq]at h;exact .inl ⟨rfl,h.symm⟩
 |some v =>
  right
  simp only[]at h
  cases e:J8 v with
  |none=>simp only[e]at h;cases h
  |some n =>
   simp only[e]at h
   obtain⟨k,rfl⟩:=gS e
   cases e2:tZ n with
   |none=>simp only[e2]at h;cases h
   |some q =>
    simp only[e2]at h
    have:=oC e2;subst this
    cases e3:Nat.ble q hi with
    |false=>simp only[e3,au]at h;cases h
    |true=>simp only[e3,aj]at h;cases h;exact⟨k,rfl,(aE _ _).1 e3⟩
theorem j8 {len cap l h m:Nat} {lo hi mx:Option Value} (e:bounds len cap lo hi mx=some (l,h,m)) :
 ((mx=none/\m=cap)\/(∃ k,mx=some (.int k (m:Int))/\m<=cap/\hi≠none))/\((hi=none/\h=len)\/(∃ k,hi=some (.int k (h:Int))/\h<=m)) /\
   ((lo=none/\l=0)\/(∃ k,lo=some (.int k (l:Int))/\l<=h)):=by
 unfold bounds at e
 cases e0:(mx.isSome&&hi.isNone)with
 |true=>simp only[e0,aj]at e;cases e
 |false =>
  simp only[e0,au]at e
  cases e1:XD mx cap cap with
  |none=>simp only[e1]at e;cases e
  |some m1 =>
   simp only[e1]at e
   cases e2:XD hi len m1 with
   |none=>simp only[e2]at e;cases e
   |some h1 =>
    simp only[e2]at e
    cases e3:XD lo 0 h1 with
    |none=>simp only[e3]at e;cases e
    |some l1 =>
     simp only[e3,Option.some.injEq,Prod.mk.injEq]at e
     obtain⟨rfl,rfl,rfl⟩:=e
     refine⟨?_,DL e2,DL e3⟩
     rcases DL e1 with h|⟨k,rfl,h⟩
     ·exact .inl h
     ·refine .inr ⟨k,rfl,h,?_⟩
      rintro rfl
      simp at e0
theorem oB {β:Mp} {x:Option Value} (h:GX β none x):x=none:=by cases x with|none=>rfl|some v=>exact h.elim
theorem pH {β:Mp} {k:IntKind} {n:Int} {x:Option Value} (h:GX β (some (.int k n)) x):x=some (.int k n):=by
 cases x with
 |none=>exact h.elim
 |some v=>cases h;rfl
theorem mY {b:Bool} {len cap cap' l h m:Nat} {lo hi mx lo' hi' mx':Option Value} (e:bounds len cap lo hi mx=some (l,h,m)) (hc:cap<=cap') (r1:GX β lo lo') (r2:GX β hi hi') (r3:GX β mx mx') :
 (Instr.sliceBounds b len cap' lo' hi' mx').run P W=.ok (l,h,if mx.isNone then cap' else m) W:=by
 obtain⟨hm,hh,hl⟩:=j8 e
 have sb:∀ (k:IntKind) (n y:Nat) (code:BoundsCode),n<=y->(Instr.sliceBound (.int k (n:Int)) y code).run P W=.ok n W:=by
  intro k n y code hn
  have:(n:Int)<=y:=by omega
  simp[Instr.sliceBound,asIntOf,hn]
 rcases hm with⟨rfl,rfl⟩|⟨km,rfl,Da,hm2⟩
 ·have:=oB r3;subst this
  rcases hh with⟨rfl,rfl⟩|⟨kh,rfl,hh⟩
  ·have:=oB r2;subst this
   rcases hl with⟨rfl,rfl⟩|⟨kl,rfl,hl⟩
   ·have:=oB r1;subst this
    simp[Instr.sliceBounds]
   ·have:=pH r1;subst this
    simp[Instr.sliceBounds,sb kl l h _ hl]
  ·have:=pH r2;subst this
   rcases hl with⟨rfl,rfl⟩|⟨kl,rfl,hl⟩
   ·have:=oB r1;subst this
    simp[Instr.sliceBounds,sb kh h cap' _ (Nat.le_trans hh hc)]
   ·have:=pH r1;subst this
    simp[Instr.sliceBounds,sb kh h cap' _ (Nat.le_trans hh hc),sb kl l h _ hl]
 ·have:=pH r3;subst this
  rcases hh with⟨rfl,rfl⟩|⟨kh,rfl,hh⟩
  ·exact absurd rfl hm2
  ·have:=pH r2;subst this
   rcases hl with⟨rfl,rfl⟩|⟨kl,rfl,hl⟩
   ·have:=oB r1;subst this
    simp[Instr.sliceBounds,sb km m cap' _ (Nat.le_trans Da hc),sb kh h m _ hh]
   ·have:=pH r1;subst this
    simp[Instr.sliceBounds,sb km m cap' _ (Nat.le_trans Da hc),sb kh h m _ hh,sb kl l h _ hl]
include hw
theorem acT {t elem:TypeId} {n:Nat} {i:TypeInfo} {v v':Value} {lo hi mx lo' hi'' mx':Option Value} (ht:P.underlying t=some (.array n elem)) (hi':P.info? elem=some i) (hv:ai β v v')
 (r1:GX β lo lo') (r2:GX β hi hi'') (r3:GX β mx mx'):gl P β H W (Instr.sliceAt t v' lo' hi'' mx') (yS n i.size v lo hi mx H):=by
 unfold yS
 cases e:eZ v with
 |none=>trivial
 |some x =>
  obtain⟨b,o⟩:=x
  have:=eD e;subst this
  cases hv with|ptr _ _ m e0 =>
  simp only[]
  cases e2:bounds n n lo hi mx with
  |none=>trivial
  |some q =>
   obtain⟨l,h,mm⟩:=q
   simp only[]
   have hrun:=mY (P:=P) (W:=W) (b:=false) e2 (Nat.le_refl n) r1 r2 r3
   have hm:(if mx.isNone then n else mm)=mm:=by
    rcases(j8 e2).1 with⟨rfl,rfl⟩|⟨k,rfl,_⟩<;>simp
   rw[hm]at hrun
   cases e3:Nat.beq mm l with
   |true =>
    rw[aj]
    have:=(beq_iff _ _).1 e3;subst this
    refine aD hw (v':=.slice (some ⟨m.rb,o+m.sh,none⟩) (h-mm) (mm-mm)) ?_ (lV ⟨m,_,e0,rfl,λ_=>rfl,(λh=>by cases h)⟩)
    simp[Instr.sliceAt,run_underlying ht,Instr.sureAddr,hrun,aX hi']
   |false =>
    rw[au]
    have hne:¬ mm=l:=λh=>by rw[(beq_iff _ _).2 h]at e3;cases e3
    refine aD hw (v':=.slice (some ⟨m.rb,(o+l*i.size)+m.sh,none⟩) (h-l) (mm-l)) ?_ (lV ⟨m,_,e0,rfl,λ_=>rfl,(λh=>by cases h)⟩)
    simp[Instr.sliceAt,run_underlying ht,Instr.sureAddr,hrun,aX hi',hne,add_eq]
    omega
theorem acR {t:TypeId} {v v':Value} {lo hi lo' hi':Option Value} (ht:P.underlying t=some .string) (hv:ai β v v') (r1:GX β lo lo') (r2:GX β hi hi') :
 gl P β H W (Instr.sliceAt t v' lo' hi' none) (Nh v lo hi H):=by
 unfold Nh
 cases e:QN v with
 |none=>trivial
 |some s =>
  have:=s_ e;subst this
  cases hv
  simp only[]
  cases e2:bounds s.data.toList.length s.data.toList.length lo hi none with
  |none=>trivial
  |some q =>
   obtain⟨l,h,mm⟩:=q
   simp only[]
   have hrun:=mY (P:=P) (W:=W) (b:=false) (mx':=none) e2 (Nat.le_refl _) r1 r2 trivial
   have aha:(Instr.sliceBounds false s.size s.size lo' hi' none).run P W=.ok (l,h,s.data.toList.length) W:=hrun
   refine aD hw (v':=.string ⟨⟨(s.data.toList.drop l).take (h-l)⟩⟩) ?_ (.string _)
   have hex:s.extract l h=⟨⟨(s.data.toList.drop l).take (h-l)⟩⟩:=by
    apply W5
    rw[ByteArray.data_extract]
    simp
   simp[Instr.sliceAt,Instr.slice,run_underlying ht,aha,hex]
theorem acS {t elem:TypeId} {i:TypeInfo} {v v':Value} {lo hi mx lo' hi'' mx':Option Value} (ht:P.underlying t=some (.slice elem)) (hi':P.info? elem=some i) (hv:ai β v v')
 (r1:GX β lo lo') (r2:GX β hi hi'') (r3:GX β mx mx'):gl P β H W (Instr.sliceAt t v' lo' hi'' mx') (Nj i.size v lo hi mx H):=by
 unfold Nj
 cases e:qR v with
 |none=>trivial
 |some x =>
  obtain⟨a,len,cap,op⟩:=x
  have hs:=rH e hv
  simp only[]
  cases e2:bounds len cap lo hi mx with
  |none=>trivial
  |some q =>
   obtain⟨l,h,mm⟩:=q
   simp only[]
   cases a with
   |none =>
    obtain⟨rfl,rfl⟩:=hs
    have hrun:=mY (P:=P) (W:=W) (b:=true) e2 (Nat.le_refl cap) r1 r2 r3
    have hm:(if mx.isNone then cap else mm)=mm:=by
     rcases(j8 e2).1 with⟨rfl,rfl⟩|⟨k,rfl,_⟩<;>simp
    rw[hm]at hrun
    simp only[Bool.false_and,au]
    have mw:(Instr.sliceAt t (.slice none len cap) lo' hi'' mx').run P W=.ok (.slice none (h-l) (mm-l)) W:=by
     simp[Instr.sliceAt,Instr.slice,run_underlying ht,hrun,aX hi']
    cases Nat.beq mm l with
    |true=>rw[aj];exact aD hw mw (.AA _ _)
    |false=>rw[au];exact aD hw mw (.AA _ _)
   |some y =>
    obtain⟨b,o⟩:=y
    obtain⟨m,c',e0,rfl,h1,h2⟩:=hs
    have lz:cap<=c':=by
     cases op with
     |false=>rw[h1 rfl];exact Nat.le_refl _
     |true=>exact(h2 rfl).1
    have hrun:=mY (P:=P) (W:=W) (b:=true) e2 lz r1 r2 r3
    have mw:(Instr.sliceAt t (.slice (some ⟨m.rb,o+m.sh,none⟩) len c') lo' hi'' mx').run P W =
     .ok (.slice (if (if mx.isNone then c' else mm)=l then some ⟨m.rb,o+m.sh,none⟩else some ⟨m.rb,o+m.sh+l*i.size,none⟩) (h-l) ((if mx.isNone then c' else mm)-l)) W:=by
     simp[Instr.sliceAt,Instr.slice,run_underlying ht,hrun,aX hi',add_eq]
    cases e3:(op&&mx.isNone)with
    |true =>
     simp only[Bool.and_eq_true]at e3
     obtain⟨rfl,hmx⟩:=e3
     obtain⟨hc1,hc2⟩:=h2 rfl
     have hmm:mm=cap:=by
      rcases(j8 e2).1 with⟨_,h⟩|⟨k,rfl,_⟩
      ·exact h
      ·simp at hmx
     subst hmm
     rw[hmx]at mw
     simp only[if_true]at mw
     rw[aj]
     cases e4:Nat.beq l 0 with
     |true =>
      rw[aj]
      have:=(beq_iff _ _).1 e4;subst this
      refine aD hw (v':=.slice (some ⟨m.rb,o+m.sh,none⟩) (h-0) (c'-0)) ?_ (lV ⟨m,c'-0,e0,rfl,(λh=>by cases h),λ_=>by simpa using⟨hc1,hc2⟩⟩)
      rw[mw];simp
     |false =>
      rw[au]
      have hl0:l≠0:=λh=>by rw[(beq_iff _ _).2 h]at e4;cases e4
      cases e5:Nat.ble mm l with
      |true=>rw[aj];trivial
      |false =>
       rw[au]
       have hlm:l<mm:=(BD _ _).1 e5
       unfold Ni
       simp only[]
       split
       ·rename_i t' n' ty' op' lo2 hi2 hb
        cases e6:Nat.beq op' (Nat.succ i.size)with
        |false=>rw[au];trivial
        |true =>
         rw[aj]
         have:=(beq_iff _ _).1 e6;subst this
         refine fu hw λp=>?_
         obtain⟨m',cs,fr,em,hm,g1,g2,g3,g3',g4,g5⟩:=eW p (.inl ((aB b b).2 rfl)) hb
         rw[e0]at em;cases em
         have UI:=g3' i.size rfl
         have hlc:c'≠l:=by omega
         refine⟨_,mw,?_⟩
         rw[if_neg hlc]
         have:=lV (β:=β) (a:=some (b,o+l*i.size)) (l:=h-l) (c:=mm-l) (op:=true) (v':=.slice (some ⟨m.rb,o+l*i.size+m.sh,none⟩) (h-l) (c'-l))
          ⟨m,c'-l,e0,rfl,(λh=>by cases h),λ_=>⟨by omega,by
           rw[UI]at hc2 ⊢
           have:(c'-l)*i.size+l*i.size=c'*i.size:=by rw[<-Nat.add_mul];congr 1;omega
           omega⟩⟩
         rw[show o+m.sh+l*i.size=o+l*i.size+m.sh from by omega]
         exact this
       ·trivial
    |false =>
     rw[au]
     have ano:(if mx.isNone then c' else mm)=mm:=by
      rcases(j8 e2).1 with⟨rfl,rfl⟩|⟨k,rfl,_⟩
      ·simp at e3;subst e3;simp;exact h1 rfl
      ·simp
     rw[ano]at mw
     cases e4:Nat.beq mm l with
     |true =>
      rw[aj]
      have:=(beq_iff _ _).1 e4;subst this
      rw[if_pos rfl]at mw
      exact aD hw mw (lV ⟨m,mm-mm,e0,rfl,λ_=>rfl,(λh=>by cases h)⟩)
     |false =>
      rw[au]
      have hne:mm≠l:=λh=>by rw[(beq_iff _ _).2 h]at e4;cases e4
      rw[if_neg hne]at mw
      rw[show o+m.sh+l*i.size=o+l*i.size+m.sh from by omega]at mw
      exact aD hw mw (lV ⟨m,mm-l,e0,rfl,λ_=>rfl,(λh=>by cases h)⟩)
end
end Go.Ev
end
noncomputable section
namespace Go.Ev
variable [lN]
theorem Ai {P:Program} {tb:Tb} (ok:dI P tb) {t:TypeId} {z:Value} (h:zeroV tb t=some z):∃ i,P.info? t=some i/\i.zero=some z/\aW 10 z=true:=by
 unfold zeroV at h
 split at h
 ·rename_i i e
  split at h
  ·rename_i z' e2
   split at h
   ·rename_i e3;cases h;exact⟨i,ok.info _ _ e,e2,e3⟩
   ·cases h
  ·cases h
 ·cases h
theorem mD (β:Mp) {l:List Value} (h:yQ l=true):l.all bQ=true/\ak β l l:=by
 unfold yQ at h
 rw[List.all_eq_true]at h
 refine⟨List.all_eq_true.2 λx hx=>?_,rfl,λi v v' a b=>?_⟩
 ·have:=h x hx;simp at this;exact this.2
 ·rw[a]at b;cases b
  have:=h v (List.mem_of_getElem? a);simp at this
  exact ai.flat β 10 v this.1
theorem jQ {P:Program} {tb:Tb} (ok:dI P tb) {t:TypeId} {z:List Value} (h:lT tb t=some z):∃ i zv,P.info? t=some i/\i.zero=some zv/\zv.cells.toList=z/\yQ z=true:=by
 unfold lT at h
 split at h
 ·rename_i i e
  split at h
  ·rename_i z' e2
   split at h
   ·rename_i e3;cases h;exact⟨i,z',ok.info _ _ e,e2,rfl,e3⟩
   ·cases h
  ·cases h
 ·cases h
theorem cZ {P:Program} {t:TypeId} {i:TypeInfo} {z:Value} (hi:P.info? t=some i) (hz:i.zero=some z) (W:World):(zeroValue t).run P W=.ok z W:=by
 unfold zeroValue;simp[run_typeInfo hi,hz]
section
variable {P:Program} {tb:Tb} (ok:dI P tb) {β:Mp} {H:Hp} {W:World} (hw:H.wf)
include hw
theorem acq {t:TypeId} {d:TypeDesc} {z v v':Value} {okb:Bool} {xt:TypeId} (hd:P.underlying t=some d) (hni:∀ ms,d≠.interface ms) {i:TypeInfo} (hi:P.info? t=some i) (hz:i.zero=some z) (hf:aW 10 z=true)
 (hv:ai β v v'):gl P β H W (Instr.typeAssert v' xt t okb) (Ng t z okb v H):=by
 have zx:=ai.flat β 10 z hf
 have vU:∀ {a a':Value} (b:Bool),ai β a a'->ai β (.tuple #[a,.bool b]) (.tuple #[a',.bool b]):=λb h =>
  have hl:ak β [_,Value.bool b] [_,Value.bool b]:=ak.cons h (ak.cons (.bool b) (ak.nil β))
  .tuple _ _ hl.1 hl.2
 unfold Ng
 cases hv<;>try trivial
 ·rename_i t' x x' hx
  simp only[]
  cases e:Nat.beq t t' with
  |true =>
   rw[aj]
   have:=(beq_iff _ _).1 e;subst this
   cases okb with
   |true =>
    rw[aj]
    refine aD hw (v':=.tuple #[x',.bool true]) ?_ (vU _ hx)
    cases d<;>first|exact absurd rfl (hni _)|simp[Instr.typeAssert,run_underlying hd]
   |false =>
    rw[au]
    refine aD hw (v':=x') ?_ hx
    cases d<;>first|exact absurd rfl (hni _)|simp[Instr.typeAssert,run_underlying hd]
  |false =>
   rw[au]
   have hne:¬ t'=t:=λh=>by rw[(beq_iff _ _).2 h.symm]at e;cases e
   cases okb with
   |true =>
    rw[aj]
    refine aD hw (v':=.tuple #[z,.bool false]) ?_ (vU _ zx)
    cases d<;>first|exact absurd rfl (hni _)|simp[Instr.typeAssert,run_underlying hd,hne,cZ hi hz]
   |false=>rw[au];trivial
 ·simp only[]
  cases okb with
  |true =>
   rw[aj]
   refine aD hw (v':=.tuple #[z,.bool false]) ?_ (vU _ zx)
   cases d<;>first|exact absurd rfl (hni _)|simp[Instr.typeAssert,run_underlying hd,cZ hi hz]
  |false=>rw[au];trivial
theorem afy {at_:Array TypeId} {t e:TypeId} {ty:TypeId} {v v':Value} (ha:at_[0]?=some t) (ht:P.underlying t=some (.slice e)) (hv:ai β v v'):gl P β H W (Builtin.cap_ at_ ty #[v']) (Nn v H):=by
 unfold Nn
 split
 ·rename_i a l c h
  have hs:=rH h hv
  cases a with
  |none=>obtain⟨_,rfl⟩:=hs;exact aD hw (v':=.int .i64 (.ofNat c)) (by simp[Builtin.cap_,ha,run_underlying ht,goInt]) (.int _ _)
  |some y =>
   obtain⟨m,c',_,rfl,h1,_⟩:=hs
   have:=h1 rfl;subst this
   exact aD hw (v':=.int .i64 (.ofNat c')) (by simp[Builtin.cap_,ha,run_underlying ht,goInt]) (.int _ _)
 ·trivial
theorem ZK {at_:Array TypeId} {t e:TypeId} {n:Nat} {ty:TypeId} {v':Value} (ha:at_[0]?=some t) (ht:P.underlying t=some (.array n e)):gl P β H W (Builtin.len_ at_ ty #[v']) (R.v (.int .i64 (.ofNat n)) H):=by
 exact aD hw (v':=.int .i64 (.ofNat n)) (by simp[Builtin.len_,ha,run_underlying ht,goInt]) (.int _ _)
theorem adF {at_:Array TypeId} {ty:TypeId} {x y x' y':Value} (hq:lN.Q β) (hx:ai β x x') (hy:ai β y y'):gl P β H W (Builtin.min_ at_ ty #[x',y']) (vg true x y H):=by
 unfold vg
 split
 ·rename_i k a b e1 e2
  have:=mM e1;subst this
  obtain⟨k',rfl⟩:=gS e2
  cases hx;cases hy
  refine aD hw (v':=.int k (if b<a then b else a)) (by simp[Builtin.min_,List.foldlM,Builtin.min2]) ?_
  show ai β (.int k (Bc (pW b a) b a)) _
  rw[gG]
  by_cases h:b<a<;>simp[h,aj,au]<;>exact .int _ _
 ·refine oM hq (FB hx hy) λv2 h=>?_
  unfold iW at h
  split at h
  all_goals (rename_i hh he;try (cases hh;done))
  all_goals (try (cases he;done))
  all_goals (try (cases h;done))
  cases hh;cases he
  rename_i k a k' b
  cases e3:tD k k' with
  |false=>rw[e3,au]at h;cases h
  |true =>
   rw[e3,aj]at h
   have:=iB e3;subst this
   cases h
   refine⟨Ju,aD hw (v':=.int k (if b<a then b else a)) (by simp[Builtin.min_,List.foldlM,Builtin.min2]) ?_⟩
   show ai β (.int k (Bc (pW b a) b a)) _
   rw[gG]
   by_cases h:b<a<;>simp[h,aj,au]<;>exact .int _ _
theorem Zx {at_:Array TypeId} {ty:TypeId} {x y z x' y' z':Value} (hx:ai β x x') (hy:ai β y y') (hz:ai β z z'):gl P β H W (Builtin.min_ at_ ty #[x',y',z']) (oV true x y z H):=by
 unfold oV
 split
 ·rename_i k a b c e1 e2 e3
  have:=mM e1;subst this
  obtain⟨k',rfl⟩:=gS e2
  obtain⟨k2,rfl⟩:=gS e3
  cases hx;cases hy;cases hz
  have hm:∀ p q:Int,Fm true p q=if q<p then q else p:=λp q=>by
   show Bc (pW q p) q p=_
   rw[gG]
   by_cases h:q<p<;>simp[h,aj,au]
  refine aD hw (v':=.int k (Fm true (Fm true a b) c)) (by simp[Builtin.min_,List.foldlM,Builtin.min2,hm]) (.int _ _)
 ·trivial
theorem ZB {at_:Array TypeId} {ty:TypeId} {x y z x' y' z':Value} (hx:ai β x x') (hy:ai β y y') (hz:ai β z z'):gl P β H W (Builtin.max_ at_ ty #[x',y',z']) (oV false x y z H):=by
 unfold oV
 split
 ·rename_i k a b c e1 e2 e3
  have:=mM e1;subst this
  obtain⟨k',rfl⟩:=gS e2
  obtain⟨k2,rfl⟩:=gS e3
  cases hx;cases hy;cases hz
  have hm:∀ p q:Int,Fm false p q=if p<q then q else p:=λp q=>by
   show Bc (pW p q) q p=_
   rw[gG]
   by_cases h:p<q<;>simp[h,aj,au]
  refine aD hw (v':=.int k (Fm false (Fm false a b) c)) (by simp[Builtin.max_,List.foldlM,Builtin.max2,hm]) (.int _ _)
 ·trivial
theorem adH {at_:Array TypeId} {ty:TypeId} {x y x' y':Value} (hq:lN.Q β) (hx:ai β x x') (hy:ai β y y'):gl P β H W (Builtin.max_ at_ ty #[x',y']) (vg false x y H):=by
 unfold vg
 split
 ·rename_i k a b e1 e2
  have:=mM e1;subst this
  obtain⟨k',rfl⟩:=gS e2
  cases hx;cases hy
  refine aD hw (v':=.int k (if a<b then b else a)) (by simp[Builtin.max_,List.foldlM,Builtin.max2]) ?_
  show ai β (.int k (Bc (pW a b) b a)) _
  rw[gG]
  by_cases h:a<b<;>simp[h,aj,au]<;>exact .int _ _
 ·refine oM hq (FB hx hy) λv2 h=>?_
  unfold iW at h
  split at h
  all_goals (rename_i hh he;try (cases hh;done))
  all_goals (try (cases he;done))
  all_goals (try (cases h;done))
  cases hh;cases he
  rename_i k a k' b
  cases e3:tD k k' with
  |false=>rw[e3,au]at h;cases h
  |true =>
   rw[e3,aj]at h
   have:=iB e3;subst this
   cases h
   refine⟨Ju,aD hw (v':=.int k (if a<b then b else a)) (by simp[Builtin.max_,List.foldlM,Builtin.max2]) ?_⟩
   show ai β (.int k (Bc (pW a b) b a)) _
   rw[gG]
   by_cases h:a<b<;>simp[h,aj,au]<;>exact .int _ _
end
end Go.Ev
end
noncomputable section
namespace Go.Ev
variable [lN]
inductive Mt (place:Nat->Option (Nat×Nat)):List (Nat×Operand)->List (Nat×Nat×Operand)->Prop
 |nil:Mt place [] []
 |cons (i off s:Nat) (x:Operand) (r:List (Nat×Operand)) (r':List (Nat×Nat×Operand)) (h:place i=some (off,s)) (hr:Mt place r r'):Mt place ((i,x)::r) ((off,s,x)::r')
theorem XF (off:Nat):∀ (l:List Value) (k:Nat) (cells:Array Value),(l.zipIdx k).foldl (λcs (p:Value×Nat)=>cs.setIfInBounds (off+p.2) p.1) cells=putRow cells (off+k) l:=by
 intro l
 induction l with
 |nil=>intro k cells;rfl
 |cons v l ih=>intro k cells;simp only[List.zipIdx_cons,List.foldl_cons,putRow];rw[ih];rfl
theorem EN (cells:Array Value) (off:Nat) (l:List Value) (h:off+l.length<=cells.size):(putRow cells off l).toList=cells.toList.take off++(l++cells.toList.drop (off+l.length)):=by
 apply List.ext_getElem?
 intro i
 have hlen:(cells.toList.take off).length=off:=by simp;omega
 rw[Array.getElem?_toList,qu _ _ _ _ h]
 by_cases h1:i<off
 ·rw[if_neg (by omega),List.getElem?_append_left (by omega),List.getElem?_take_of_lt h1];simp
 ·rw[List.getElem?_append_right (by omega),hlen]
  by_cases h2:i<off+l.length
  ·rw[if_pos (by omega),List.getElem?_append_left (by omega)]
  ·rw[if_neg (by omega),List.getElem?_append_right (by omega),List.getElem?_drop]
   simp only[Array.getElem?_toList]
   congr 1;omega
theorem Dt {β:Mp} {t:T Value} {ρ:Operand->Value} {place:Nat->Option (Nat×Nat)} {parts:List (Nat×Operand)} {ps:List (Nat×Nat×Operand)} (hm:Mt place parts ps) :
 ∀ (C L:List Value) (R:Array Value),bH t C ps=some L->C.all bQ=true->ak β C R.toList->(∀ p∈parts,ai β (aA t p.2) (ρ p.2)) ->
  ∃ R',Instr.fill place R (parts.map λ(i,x)=>(i,ρ x))=some R'/\ak β L R'.toList/\L.all bQ=true:=by
 induction hm with
 |nil=>intro C L R h h1 hl _;cases h;exact⟨R,rfl,hl,h1⟩
 |cons i off s x r r' hp _ ih =>
  intro C L R h h1 hl hv
  simp only[bH]at h
  cases e:gX (aA t x)with
  |none=>simp only[e]at h;cases h
  |some vs =>
   simp only[e]at h
   cases e2:(Nat.beq vs.length s&&Nat.ble (off+s) C.length)with
   |false=>simp only[e2,au]at h;cases h
   |true =>
    simp only[e2,aj]at h
    simp only[Bool.and_eq_true,beq_iff,aE]at e2
    have hvx:ai β (aA t x) (ρ x):=hv (i,x) (by simp)
    obtain⟨hx1,hx2⟩:=qP e hvx
    have hsz:(ρ x).cells.size=s:=by
     have h3:=hx2.1
     have h4:(ρ x).cells.toList.length=(ρ x).cells.size:=Array.length_toList
     omega
    have hR:R.size=C.length:=by
     have h3:=hl.1
     have h4:R.toList.length=R.size:=Array.length_toList
     omega
    simp only[List.map_cons,Instr.fill,hp]
    have u6:((ρ x).cells.size != s||decide (off+(ρ x).cells.size > R.size))=false:=by
     simp;omega
    have ahs:((ρ x).cells.zipIdx.foldl (λcs (p:Value×Nat)=>cs.setIfInBounds (off+p.2) p.1) R)=putRow R off (ρ x).cells.toList:=by
     have:=XF off (ρ x).cells.toList 0 R
     rw[Nat.add_zero]at this
     rw[<-this,<-Array.foldl_toList]
     congr 1
     simp
    have aho:=EN R off (ρ x).cells.toList (by rw[<-hx2.1];omega)
    have Uy:ak β (C.take off++(vs++C.drop (off+s))) (putRow R off (ρ x).cells.toList).toList:=by
     rw[aho,<-hx2.1,e2.1]
     exact ak.append (ak.take _ hl) (ak.append hx2 (ak.drop _ hl))
    have hall:(C.take off++(vs++C.drop (off+s))).all bQ=true:=by
     rw[List.all_eq_true]at h1 hx1 ⊢
     intro y hy
     simp only[List.mem_append]at hy
     rcases hy with hy|hy|hy
     ·exact h1 y (List.mem_of_mem_take hy)
     ·exact hx1 y hy
     ·exact h1 y (List.mem_of_mem_drop hy)
    obtain⟨R',h3,h4⟩:=ih _ L _ h hall Uy (λp hp=>hv p (by simp[hp]))
    refine⟨R',?_,h4⟩
    rw[<-h3,<-ahs]
    have:¬ ((ρ x).cells.size≠s\/off+(ρ x).cells.size > R.size):=by omega
    simp[this]
section
variable {P:Program} {tb:Tb} (ok:dI P tb)
include ok
omit ok in
theorem TI {fs:List Field}:∀ {places:List (Nat×Nat)} {i:Nat} {f:Field} {ti:TypeInfo},fs.mapM (λf=>(P.info? f.type).map λi=>(f.offset,i.size))=some places->fs[i]?=some f->P.info? f.type=some ti ->
 places[i]?=some (f.offset,ti.size):=by
 induction fs with
 |nil=>intro places i f ti h hf;simp at hf
 |cons g fs ih =>
  intro places i f ti h hf hi
  simp only[List.mapM_cons,Option.bind_eq_bind,Option.pure_def]at h
  cases hg:P.info? g.type with
  |none=>simp[hg]at h
  |some tg =>
   cases hr:fs.mapM (λf=>(P.info? f.type).map λi=>(f.offset,i.size))with
   |none=>simp[hg,hr]at h
   |some rest =>
    simp[hg,hr]at h
    subst h
    cases i with
    |zero=>simp at hf;subst hf;rw[hg]at hi;cases hi;rfl
    |succ i=>simp at hf ⊢;exact ih hr hf hi
theorem mapM_some {fs:List Field} (h:fs.all (λf=>(eY tb f.type).isSome)=true):∃ places,fs.mapM (λf=>(P.info? f.type).map λi=>(f.offset,i.size))=some places:=by
 induction fs with
 |nil=>exact⟨[],rfl⟩
 |cons g fs ih =>
  simp only[List.all_cons,Bool.and_eq_true]at h
  obtain⟨rest,hr⟩:=ih h.2
  cases e:eY tb g.type with
  |none=>rw[e]at h;simp at h
  |some n =>
   obtain⟨i,hi,_⟩:=cC ok e
   exact⟨(g.offset,i.size)::rest,by simp[List.mapM_cons,hi,hr]⟩
theorem OY {fields:Array Field} {places:List (Nat×Nat)} (hp:fields.toList.mapM (λf=>(P.info? f.type).map λi=>(f.offset,i.size))=some places) :
 ∀ {parts:List (Nat×Operand)} {ps:List (Nat×Nat×Operand)},nF tb fields parts=some ps->Mt (places.toArray[·]?) parts ps:=by
 intro parts
 induction parts with
 |nil=>intro ps h;simp[nF]at h;subst h;exact .nil
 |cons p parts ih =>
  obtain⟨i,x⟩:=p
  intro ps h
  simp only[nF]at h
  cases e:fields[i]? with
  |none=>simp only[e]at h;cases h
  |some f =>
   simp only[e]at h
   cases e2:eY tb f.type with
   |none=>simp only[e2]at h;cases h
   |some s =>
    simp only[e2]at h
    cases e3:nF tb fields parts with
    |none=>simp[e3]at h
    |some l =>
     simp[e3]at h;subst h
     obtain⟨ti,hi,hs⟩:=cC ok e2
     refine .cons i f.offset s x parts l ?_ (ih e3)
     have:=TI hp (i:=i) (f:=f) (by simpa using e) hi
     simpa [hs] using this
omit ok in
theorem Fg (s:Nat):∀ (parts:List (Nat×Operand)),Mt (λi=>some (i*s,s)) parts (oY s parts):=by
 intro parts
 induction parts with
 |nil=>exact .nil
 |cons p parts ih=>obtain⟨i,x⟩:=p;exact .cons i _ _ x parts _ rfl ih
end
theorem So (z:List Value) (n:Nat):(List.replicate n z).flatten=(List.range (n*z.length)).map λi=>z[i % z.length]!:=by
 induction n with
 |zero=>simp
 |succ n ih =>
  rw[List.replicate_succ',List.flatten_append,ih,Nat.succ_mul,List.range_add,List.map_append]
  congr 1
  simp only[List.flatten_cons,List.flatten_nil,List.append_nil,List.map_map]
  apply List.ext_getElem?
  intro i
  by_cases hi:i<z.length
  ·simp only[List.getElem?_map,List.getElem?_range hi,Option.map_some,Function.comp]
   rw[Nat.add_comm,Nat.add_mul_mod_self_right,Nat.mod_eq_of_lt hi]
   simp[hi]
  ·rw[List.getElem?_eq_none (by omega),List.getElem?_eq_none (by simp;omega)]
end Go.Ev
end
noncomputable section
namespace Go.Ev
variable [lN]
theorem dw (W:World) (o:Obj):World.hJ W o=W.alloc o:=rfl
section
variable {P:Program} {tb:Tb} (ok:dI P tb) {β:Mp} {H:Hp} {W:World} (hw:H.wf)
theorem pG {β:Mp} {n:Nat} {m:Bm} {k:Nat} (e:β n=some m) (h1:m.rb=k) (h2:m.sh=0):ai β (ptrTo n) (.pointer (some ⟨k,0,none⟩)):=by
 have:=ai.ptr n 0 m e
 rw[h1,h2]at this;exact this
theorem Sa {β:Mp} {n:Nat} {m:Bm} {k l c:Nat} (e:β n=some m) (h1:m.rb=k) (h2:m.sh=0):ai β (c_ (some (n,0)) l c false) (.slice (some ⟨k,0,none⟩) l c):=by
 refine lV ⟨m,c,e,?_,λ_=>rfl,λh=>(by cases h)⟩
 rw[h1,h2]
include ok
theorem zc {elem:TypeId} {z:List Value} (hz:lT tb elem=some z):gl P β H W (Instr.alloc elem true (.tuple #[])) (aS (aG z elem 0) H ptrTo 0 0):=by
 obtain⟨i,zv,hi,zy,rfl,hf⟩:=jQ ok hz
 obtain⟨h1,hl⟩:=mD β hf
 refine zb h1 hl λp=>⟨.pointer (some ⟨W.heap.size,0,none⟩),?_,λβ' m _ e hrb hsh _=>pG e hrb hsh⟩
 simp[Instr.alloc,cZ hi zy,newVar,newRow,dw]
omit ok in
theorem afE {ty:TypeId} {x x':Value} (hx:ai β x x'):gl P β H W (Instr.box ty x') (bD (gX x) λl=>aS (aG l ty 0) H ptrTo 0 0):=by
 unfold bD
 cases e:gX x with
 |none=>trivial
 |some l =>
  obtain⟨h1,hl⟩:=qP e hx
  refine zb h1 hl λp=>⟨.pointer (some ⟨W.heap.size,0,none⟩),?_,λβ' m _ e hrb hsh _=>pG e hrb hsh⟩
  simp[Instr.box,newVar,newRow,dw]
include hw
theorem Qp {t:TypeId} {fields:Array Field} {z:List Value} {parts:List (Nat×Operand)} {ps:List (Nat×Nat×Operand)} {tm:T Value} {ρ:Operand->Value} (ht:P.underlying t=some (.struct fields)) (hz:lT tb t=some z)
 (hc:nF tb fields parts=some ps) (ha:fields.toList.all (λf=>(eY tb f.type).isSome)=true) (hv:∀ p∈parts,ai β (aA tm p.2) (ρ p.2)) :
 gl P β H W (Instr.build t (parts.map λ(i,x)=>(i,ρ x)).toArray) (bD (bH tm z ps) λl=>R.v (.agg ⟨l⟩) H):=by
 unfold bD
 cases e:bH tm z ps with
 |none=>trivial
 |some l =>
  obtain⟨i,zv,hi,zy,rfl,hf⟩:=jQ ok hz
  obtain⟨h1,hl⟩:=mD β hf
  obtain⟨places,hp⟩:=mapM_some ok ha
  obtain⟨R',hr,hl',h1'⟩:=Dt (ρ:=ρ) (OY ok hp hc) zv.cells.toList l zv.cells e h1 hl hv
  refine aD hw (v':=.agg R') ?_ (.agg _ _ h1' hl'.1 hl'.2)
  refine run_build W t _ R' ?_
  simp only[Program.built,hi,ht,zy,hp]
  simpa using hr
theorem Qq {t elem:TypeId} {n s:Nat} {z:List Value} {parts:List (Nat×Operand)} {tm:T Value} {ρ:Operand->Value} (ht:P.underlying t=some (.array n elem)) (hz:lT tb t=some z)
 (hs:eY tb elem=some s) (hv:∀ p∈parts,ai β (aA tm p.2) (ρ p.2)) :
 gl P β H W (Instr.build t (parts.map λ(i,x)=>(i,ρ x)).toArray) (bD (bH tm z (oY s parts)) λl=>R.v (.agg ⟨l⟩) H):=by
 unfold bD
 cases e:bH tm z (oY s parts)with
 |none=>trivial
 |some l =>
  obtain⟨i,zv,hi,zy,rfl,hf⟩:=jQ ok hz
  obtain⟨h1,hl⟩:=mD β hf
  obtain⟨ie,hie,rfl⟩:=cC ok hs
  obtain⟨R',hr,hl',h1'⟩:=Dt (ρ:=ρ) (Fg ie.size parts) zv.cells.toList l zv.cells e h1 hl hv
  refine aD hw (v':=.agg R') ?_ (.agg _ _ h1' hl'.1 hl'.2)
  refine run_build W t _ R' ?_
  simp only[Program.built,hi,ht,zy,hie]
  simpa using hr
omit hw ok in
theorem B7 (zv:Value) (n:Nat):((Array.range (n*zv.cells.size)).map (zv.cells[· % zv.cells.size]!)).toList=(List.replicate n zv.cells.toList).flatten:=by
 rw[So]
 simp
 intro a _
 simp only[getElem!_def]
 cases zv.cells[a % zv.cells.size]?<;>rfl
omit hw ok in
theorem B8 {β:Mp} {z:List Value} (hf:yQ z=true) (n:Nat):(List.replicate n z).flatten.all bQ=true/\ak β (List.replicate n z).flatten (List.replicate n z).flatten:=by
 obtain⟨h1,hl⟩:=mD β hf
 refine⟨?_,ak.flatten hl n⟩
 rw[List.all_eq_true]at h1 ⊢
 intro x hx
 rw[List.mem_flatten]at hx
 obtain⟨l,Z9,sL⟩:=hx
 rw[List.mem_replicate]at Z9
 rw[Z9.2]at sL
 exact h1 x sL
omit hw in
theorem Qt {t elem:TypeId} {len s:Nat} {z:List Value} {parts:List (Nat×Operand)} {tm:T Value} {ρ:Operand->Value} (ht:P.underlying t=some (.slice elem)) (hz:lT tb elem=some z) (hs:eY tb elem=some s)
 (hzs:z.length=s) (hle:len*s<=16777216) (hv:∀ p∈parts,ai β (aA tm p.2) (ρ p.2)) :
 gl P β H W (Instr.buildSlice t len (parts.map λ(i,x)=>(i,ρ x)).toArray) (bD (bH tm (List.replicate len z).flatten (oY s parts)) λl=>aS (aG l elem 0) H (λi=>c_ (some (i,0)) len len false) 0 0):=by
 unfold bD
 cases e:bH tm (List.replicate len z).flatten (oY s parts)with
 |none=>trivial
 |some l =>
  obtain⟨i,zv,hi,zy,rfl,hf⟩:=jQ ok hz
  obtain⟨h1,hl⟩:=B8 (β:=β) hf len
  obtain⟨ie,hie,rfl⟩:=cC ok hs
  rw[hi]at hie;cases hie
  have hsz:zv.cells.size=i.size:=by
   have h4:zv.cells.toList.length=zv.cells.size:=Array.length_toList
   omega
  have mA:=B7 zv len
  rw[hsz]at mA
  obtain⟨R',hr,hl',h1'⟩:=Dt (ρ:=ρ) (Fg i.size parts) _ l ((Array.range (len*i.size)).map (zv.cells[· % i.size]!)) e h1 (by rw[mA];exact hl) hv
  refine zb h1' hl' λp=>⟨.slice (some ⟨W.heap.size,0,none⟩) len len,?_,λβ' m _ e hrb hsh _=>Sa e hrb hsh⟩
  have h24:¬ (2 ^ 24<len*i.size):=by omega
  by_cases h0:len*i.size=0
  ·have Z2:∀ f:Nat->Value,Array.map f (Array.range 0) = #[]:=λf=>by simp
   have hrz:(Array.range (len*i.size)).map (zv.cells[· % i.size]!)=(#[]:Array Value):=by rw[h0];simp
   rw[hrz]at hr
   have QL:Instr.fill (λj=>some (j*i.size,i.size)) #[] (List.map (λx=>(x.fst,ρ x.snd)) parts)=some R':=hr
   simp only[Instr.buildSlice,Sem.run_bind,run_underlying ht,Result.andThen_ok,aX hi,gt_iff_lt,h0,if_true]
   simp[newRow,dw,Z2,QL]
  ·simp only[Instr.buildSlice,Sem.run_bind,run_underlying ht,Result.andThen_ok,aX hi,gt_iff_lt,h24,if_false,h0,Sem.run_pure,cZ hi zy,hsz,hr]
   simp[newRow,dw]
end
end Go.Ev
end
noncomputable section
namespace Go.Ev
variable [lN]
theorem Post.congr {β β':Mp} {H H':Hp} {w:Nat} {W W1 W2:World} (q:Post β β' H H' w W W1) (h:W2.heap=W1.heap) (he:W2.os=W1.os/\W2.tape=W1.tape/\W2.output=W1.output):Post β β' H H' w W W2:=by
 refine⟨q.le,q.only,λb hb ha=>?_,λrb o h1 h2=>by rw[h];exact q.frame rb o h1 h2,by rw[h];exact q.size,λb m e=>by rw[h];exact q.dom b m e,q.new,q.inj,
  ⟨he.1.trans q.env.1,he.2.1.trans q.env.2.1,he.2.2.trans q.env.2.2⟩⟩
 obtain⟨m,e,o,ho,hr⟩:=q.rel b hb ha
 exact⟨m,e,o,by rw[h];exact ho,hr⟩
section
variable {P:Program} {tb:Tb} (ok:dI P tb) {β:Mp} {H:Hp} {W:World} (hw:H.wf)
theorem gA {x:dB} {f:Nat->Value} {r:Nat} {s:Sem Value}
 (h:Pre β H (H.push x) r 0 W->∃ v' o m W',s.run P W=.ok v' W'/\W'.heap=W.heap.push o/\(W'.os=W.os/\W'.tape=W.tape/\W'.output=W.output)/\m.rb=W.heap.size /\
  (∀ β',Mp.le β β'->qa β' m x o)/\(∀ β',Mp.le β β'->β' H.nx=some m->ai β' (f H.nx) v')):gl P β H W s (aS x H f r 0):=by
 rw[fG]
 split
 ·rename_i hn
  refine⟨fB hn,λp=>?_⟩
  obtain⟨v',o,m,W',hrun,hh,he,hm,ho,hv⟩:=h p
  have hf:β H.nx=none:=p.fresh _ (Nat.le_refl _) (by rw[aZ];omega)
  have hle:=Mp.nk (β:=β) m hf
  exact⟨β.put H.nx m,W',v',hrun,hv _ hle (Mp.dJ _ _ _),(iU x o m hn hm hf (ho _ hle) p.dom).congr hh he⟩
 ·trivial
theorem ET {β:Mp} {t:T Value} {n:Nat} {cs:List Value} {ty:TypeId} {k:Nat} (hn:n=cs.length) (hg:∀ (i:Nat) (v:Value),cs[i]?=some v->bQ v=true/\ai β (t.get i) v/\bQ (t.get i)=true) :
 qa β ⟨k,0,n,1⟩ (.cells t n ty 0 0 0) (.cells ⟨cs⟩ ty):=by
 subst hn
 refine⟨⟨cs⟩,(0,0),rfl,by simp,by simp,λ_=>⟨rfl,rfl⟩,(λk h=>by cases h),λi hi=>?_,.inl ⟨Nat.le_refl _,.inl rfl⟩⟩
 have hv:cs[i]?=some cs[i]:=by simp[hi]
 obtain⟨_,h2,h3⟩:=hg i _ hv
 exact⟨h3,cs[i],by simp,h2⟩
theorem wrap_i64 {n:Nat} (h:n<=9223372036854775807):IntKind.i64.wrap (n:Int)=n:=by
 have:=dO .i64 (Int.ofNat n)
 rw[show aN .i64 (Int.ofNat n)=Int.ofNat n from by
  show Bc (Nat.ble n 9223372036854775807) _ _=_
  rw[(aE _ _).2 h,aj]]at this
 exact this.symm
theorem YJ (z:List Value) (c:Nat) (ty:TypeId):∃ t,ac4 ty c z=.cells t (List.replicate c z).flatten.length ty 0 0 0 /\
 ∀ (i:Nat) (v:Value),(List.replicate c z).flatten[i]?=some v->t.get i=v:=by
 unfold ac4
 split
 ·rename_i v
  have:(List.replicate c [v]).flatten=List.replicate c v:=by
   induction c with
   |zero=>rfl
   |succ c ih=>simp[List.replicate_succ,ih]
  rw[this]
  refine⟨.e v,by simp,λi x h=>?_⟩
  rw[List.getElem?_replicate]at h
  split at h
  ·cases h;rfl
  ·cases h
 ·exact bW _ _ _
include ok
theorem BH {elem:TypeId} {n:Nat} {v:Value} (hu:tb.uni elem=some (n,v)):gl P β H W (Instr.alloc elem true (.tuple #[])) (aS (.cells (.e v) n elem 0 0 0) H ptrTo 0 0):=by
 obtain⟨f1,f2,i,zv,hi,zy,ad9⟩:=ok.uni _ _ _ hu
 have hf:yQ zv.cells.toList=true:=by
  rw[ad9]
  unfold yQ
  rw[List.all_eq_true]
  intro x hx
  rw[List.eq_of_mem_replicate hx,f1,f2];rfl
 obtain⟨h1,hl⟩:=mD β hf
 have hlen:n=zv.cells.toList.length:=by rw[ad9,List.length_replicate]
 refine gA λp=>⟨.pointer (some ⟨W.heap.size,0,none⟩),.cells zv.cells elem,⟨W.heap.size,0,n,1⟩,World.hJ W (.cells zv.cells elem),?_,rfl,⟨rfl,rfl,rfl⟩,rfl,
  λβ' hle=>ET hlen λj x hx=>?_,λβ' hle e=>pG e rfl rfl⟩
 ·simp[Instr.alloc,cZ hi zy,newVar,newRow,dw]
 ·have h3:zv.cells.toList[j]?=some x:=hx
  rw[ad9,List.getElem?_replicate]at h3
  split at h3
  ·cases h3
   have h4:(T.e v).get j=v:=rfl
   rw[h4]
   obtain⟨g1,g2⟩:=mD β' hf
   have hj:zv.cells.toList[j]?=some v:=hx
   obtain⟨v',e1,e2⟩:=g2.get hj
   rw[hj]at e1;cases e1
   exact⟨f2,e2,f2⟩
  ·cases h3
include hw
theorem Zv {t elem:TypeId} {ti:TypeInfo} {z:List Value} {l l' c c':Value} (ht:P.underlying t=some (.slice elem)) (hz:lT tb elem=some z) (hi:tb.info elem=some ti) (hlen:z.length=ti.size)
 (hl:ai β l l') (hc:ai β c c'):gl P β H W (Instr.makeSlice t l' c') (qI elem ti.bytes z l c H):=by
 unfold qI
 split
 ·rename_i ln cn e1 e2
  obtain⟨k1,rfl⟩:=gS e1
  obtain⟨k2,rfl⟩:=gS e2
  cases hl;cases hc
  split
  ·rename_i ln cn e3 e4
   have:=oC e3;subst this
   have:=oC e4;subst this
   cases e5:(Nat.ble ln cn&&Nat.ble (cn*ti.bytes) 1099511627776&&Nat.ble cn 1099511627776)with
   |false=>rw[au];trivial
   |true =>
    rw[aj]
    simp only[Bool.and_eq_true,aE]at e5
    obtain⟨i,zv,hi',zy,hzc,hf⟩:=jQ ok hz
    have:=ok.info _ _ hi
    rw[hi']at this;cases this
    subst hzc
    obtain⟨t',hb,hg⟩:=YJ zv.cells.toList cn elem
    rw[hb]
    obtain⟨h1,hl⟩:=B8 (β:=β) hf cn
    have hsz:zv.cells.size=ti.size:=by
     have h4:zv.cells.toList.length=zv.cells.size:=Array.length_toList
     omega
    have mA:=B7 zv cn
    refine gA λp=>⟨.slice (some ⟨W.heap.size,0,none⟩) ln cn,.cells ⟨(List.replicate cn zv.cells.toList).flatten⟩ elem,⟨W.heap.size,0,(List.replicate cn zv.cells.toList).flatten.length,1⟩,World.hJ W (.cells ⟨(List.replicate cn zv.cells.toList).flatten⟩ elem),?_,rfl,⟨rfl,rfl,rfl⟩,rfl,
     λβ' hle=>ET rfl λj v hv=>?_,λβ' hle e=>Sa e rfl rfl⟩
    ·have w1:IntKind.i64.wrap (ln:Int)=ln:=wrap_i64 (by omega)
     have w2:IntKind.i64.wrap (cn:Int)=cn:=wrap_i64 (by omega)
     have hmul:(ti.bytes:Int)*(cn:Int)=((cn*ti.bytes:Nat):Int):=by rw[Nat.mul_comm];exact(Int.natCast_mul _ _).symm
     have IW:¬ ((ln:Int) > (cn:Int)):=by omega
     have hbig:¬ (281474976710656<cn*ti.bytes):=by omega
     have hn2:¬ ((ln:Int)<0):=by omega
     have hn3:¬ ((cn:Int)<0):=by omega
     have u6:((decide ((cn:Int)<0)||decide ((ti.bytes:Int)*(cn:Int) > 2 ^ 48))||decide ((ln:Int)<0)||decide ((ln:Int) > (cn:Int)))=false:=by
      rw[hmul]
      simp only[Bool.or_eq_false_iff,decide_eq_false_iff_not]
      refine⟨⟨⟨hn3,?_⟩,hn2⟩,IW⟩
      have:((2:Int) ^ 48)=281474976710656:=by decide
      rw[this];omega
     rw[hsz]at mA
     unfold Instr.makeSlice
     simp only[Sem.run_bind,run_underlying ht,Result.andThen_ok,asInt,asIntOf,Sem.run_pure,run_typeInfo hi',w1,w2,u6]
     have hno:¬ (false=true):=Bool.false_ne_true
     rw[if_neg hno]
     have ahF:Array.map (λx=>zv.cells[x % zv.cells.size]!) (Array.range (cn*ti.size))=⟨(List.replicate cn zv.cells.toList).flatten⟩:=by
      apply Array.ext';rw[hsz];exact mA
     by_cases h0:cn*ti.size=0
     ·have hl0:(List.replicate cn zv.cells.toList).flatten=[]:=by
       rw[<-List.length_eq_zero_iff,<-mA];simp[h0]
      have Z2:∀ f:Nat->Value,Array.map f (Array.range 0) = #[]:=λf=>by simp
      simp[aX hi',h0,newRow,dw,hl0,Z2]
     ·simp[aX hi',h0,newRow,dw,cZ hi' zy,ahF]
    ·have hj:j<(List.replicate cn zv.cells.toList).flatten.length:=by
      rcases Nat.lt_or_ge j (List.replicate cn zv.cells.toList).flatten.length with h|h
      ·exact h
      ·rw[List.getElem?_eq_none h]at hv;cases hv
     have hone:=List.all_eq_true.1 h1 v (List.mem_of_getElem? hv)
     rw[hg j v hv]
     exact⟨hone,(hl.2 j v v hv hv).mono hle,hone⟩
  ·trivial
 ·trivial
end
end Go.Ev
end
noncomputable section
namespace Go.Ev
variable [lN]
section
variable {P:Program} {β:Mp} {H:Hp} {W:World}
theorem b_ {r:Nat} {o:Obj} (h:W.heap[r]?=some o) (ho:∀ cs ty fr,o≠.cells cs ty fr):(getObj r).run P W=.ok o W:=by
 cases o<;>first|exact absurd rfl (ho _ _ _)|simp[getObj,Sem.run,h]
theorem gm {r:Nat} {o:Obj} (o':Obj) (h:W.heap[r]?=some o) (ho:∀ cs ty fr,o≠.cells cs ty fr):(setObj r o').run P W=.ok () (World.fj W r o'):=by
 cases o<;>first|exact absurd rfl (ho _ _ _)|simp[setObj,Sem.run,h,World.fj]
theorem xV {r w b:Nat} {x:dB} {H':Hp} (p:Pre β H H' r w W) (hs:oe r w b) (hb:H.blk b=x) (hx:x≠.no):∃ m o,β b=some m/\W.heap[m.rb]?=some o/\qa β m x o:=by
 obtain⟨m,e,o,ho,hr⟩:=p.rel b hs ((aH H b).2 (by rw[hb];exact hx))
 rw[hb]at hr
 exact⟨m,o,e,ho,hr⟩
theorem mh {r c:Nat} {es:Array MapEntry} (h:mapOf H r=some (es,c)):H.blk r=.obj (.map es c):=by
 unfold mapOf at h;split at h
 ·simp only[Option.some.injEq,Prod.mk.injEq]at h;obtain⟨rfl,rfl⟩:=h;assumption
 ·cases h
theorem nj {r w b c:Nat} {es:Array MapEntry} {H':Hp} (p:Pre β H H' r w W) (hs:oe r w b) (hb:mapOf H b=some (es,c)) :
 ∃ m es',β b=some m/\W.heap[m.rb]?=some (.map es' c)/\gi β es.toList es'.toList/\m.sh=0:=by
 obtain⟨m,o,e,ho,es',rfl,h1,h2⟩:=xV p hs (mh hb) (by simp)
 exact⟨m,es',e,ho,h1,h2⟩
theorem tS {r b:Nat} (ha:alive H b) (p:Pre β H H r (bit b) W):Post β β H H (bit b) W W:=by
 have only:∀ c,(H.nx<=c\/(bit b).testBit c=true)->alive H c->c=b:=λc hc hac=>(aB b c).1 (hc.resolve_left (by have:=hac.1;omega))
 refine⟨Mp.le.refl _,λc m' h h'=>?_,λc hc hac=>?_,λrb o h _=>h,Nat.le_refl _,p.dom,λc m' _ h h'=>?_,λc d mc md hc hd' hac had _ _ _=>?_,⟨rfl,rfl,rfl⟩⟩
 ·rw[h']at h;cases h
 ·have:=only c hc hac;subst this
  exact p.rel c (.inr ((aB c c).2 rfl)) hac
 ·rw[h]at h';cases h'
 ·rw[only c hc hac,only d hd' had]
theorem GG {b:Nat} (hw:H.wf) (ha:alive H b):Can H H (bit b):=⟨hw,Nat.le_refl _,λ_ _ _=>rfl,λc hc h=>by rw[(aB b c).1 h];exact ha⟩
theorem rT {r b:Nat} {s:Sem Value} {v:Value} (hw:H.wf) (ha:alive H b) (h:Pre β H H r (bit b) W->∃ v',s.run P W=.ok v' W/\ai β v v'):gl P β H W s (.val v H r (bit b)) :=
 ⟨GG hw ha,λp=>let ⟨v',a,b⟩:=h p;⟨β,W,v',a,b,tS ha p⟩⟩
theorem Ch {r b:Nat} {s:Sem Value} {v:Value} {x:dB} (hw:H.wf) (ha:alive H b)
 (h:Pre β H (H.put b x) r (bit b) W->∃ m o o' v',β b=some m/\W.heap[m.rb]?=some o/\qa β m x o'/\s.run P W=.ok v' (World.fj W m.rb o')/\ai β v v'):gl P β H W s (.val v (H.put b x) r (bit b)):=by
 refine⟨eJ hw _ ha,λp=>?_⟩
 obtain⟨m,o,o',v',e,ho,hr,hrun,hv⟩:=h p
 exact⟨β,_,v',hrun,hv,jm x hw ha e ho hr p.dom⟩
theorem Lb {r b:Nat} {s:Sem Unit} {x:dB} (hw:H.wf) (ha:alive H b)
 (h:Pre β H (H.put b x) r (bit b) W->∃ m o o',β b=some m/\W.heap[m.rb]?=some o/\qa β m x o'/\s.run P W=.ok () (World.fj W m.rb o')):OpU P β H W s (.val U (H.put b x) r (bit b)):=by
 refine⟨eJ hw _ ha,rfl,λp=>?_⟩
 obtain⟨m,o,o',e,ho,hr,hrun⟩:=h p
 exact⟨β,_,hrun,jm x hw ha e ho hr p.dom⟩
theorem qx:gi β [] []:=⟨rfl,λi e e' h=>by simp at h⟩
theorem TF {t:TypeId} {r:Option Value} (h:r=none\/∃ k n a b,r=some (.int k n)/\P.underlying t=some (.map a b)):gl P β H W (Instr.makeMap t r) (aS (.obj (.map #[] 0)) H (λi=>.map (some i)) 0 0):=by
 refine gA λp=>⟨.map (some W.heap.size),.map #[] 0,⟨W.heap.size,0,0,0⟩,World.hJ W (.map #[] 0),?_,rfl,⟨rfl,rfl,rfl⟩,rfl,λβ' _=>⟨#[],rfl,qx,rfl⟩,λβ' _ e=>.map _ _ e⟩
 rcases h with rfl|⟨k,n,a,b,rfl,ht⟩
 ·simp[Instr.makeMap,dw]
 ·simp[Instr.makeMap,dw,run_underlying ht,asInt,asIntOf]
theorem adD {f:FuncId} {as as' cs cs':List Value} (hw:H.wf) (h1:ak β as as') (h2:ak β cs cs'):gl P β H W (Instr.makeFunc (.func f) ⟨as'⟩ ⟨cs'⟩) (R.v (.func (.func f) ⟨as⟩ ⟨cs⟩) H) :=
 aD hw (v':=.func (.func f) ⟨as'⟩ ⟨cs'⟩) rfl (.func f _ _ _ _ h1.1 h1.2 h2.1 h2.2)
theorem YE {t:TypeId} {v v':Value} (ht:P.underlying t=some .string) (hv:ai β v v'):gl P β H W (Instr.range t v') (Dx v H):=by
 unfold Dx
 cases e:QN v with
 |none=>trivial
 |some s =>
  have:=s_ e;subst this;cases hv
  refine gA λp=>⟨.pointer (some ⟨W.heap.size,0,none⟩),.stringIter s 0,⟨W.heap.size,0,0,0⟩,World.hJ W (.stringIter s 0),?_,rfl,⟨rfl,rfl,rfl⟩,rfl,λβ' _=>⟨rfl,rfl⟩,λβ' _ e=>pG e rfl rfl⟩
  simp[Instr.range,run_underlying ht,dw]
theorem YG {t a b:TypeId} {v v':Value} (ht:P.underlying t=some (.map a b)) (hv:ai β v v'):gl P β H W (Instr.range t v') (Dy v H):=by
 unfold Dy
 split
 ·trivial
 ·rename_i e
  have:=nH e;subst this;cases hv
  refine gA λp=>⟨.pointer (some ⟨W.heap.size,0,none⟩),.mapIter none 0 #[] 0,⟨W.heap.size,0,0,0⟩,World.hJ W (.mapIter none 0 #[] 0),?_,rfl,⟨rfl,rfl,rfl⟩,rfl,λβ' _=>⟨rfl,rfl⟩,λβ' _ e=>pG e rfl rfl⟩
  simp[Instr.range,run_underlying ht,dw]
 ·rename_i m e
  have:=nH e;subst this
  cases hv with|map _ m0 e0 =>
  split
  ·trivial
  ·rename_i es c e1
   refine gA λp=>?_
   obtain⟨m1,es',e2,ho,hr,hs⟩:=nj p (.inl ((aB m m).2 rfl)) e1
   rw[e0]at e2;cases e2
   refine⟨.pointer (some ⟨W.heap.size,0,none⟩),.mapIter (some m0.rb) c #[] c,⟨W.heap.size,0,0,0⟩,World.hJ W (.mapIter (some m0.rb) c #[] c),?_,rfl,⟨rfl,rfl,rfl⟩,rfl,λβ' hle=>⟨m0,hle _ _ e0,rfl,rfl⟩,λβ' _ e=>pG e rfl rfl⟩
   have hg:=b_ (P:=P) ho (by simp)
   simp[Instr.range,run_underlying ht,dw,hg]
end
end Go.Ev
end
