/-
 A part of the reckoner for the statements of a Go program: what it answers,the model answers. Holds for every program whose tables are as given.
-/
import Derived.Laws.BytesString
import Derived.Lib.Builder
import Derived.Lib.UnsafeStr
import Derived.Test.YtdmcanlbncbemaaGreatDoorG02
set_option linter.unusedSimpArgs false
set_option linter.unusedVariables false
set_option linter.unusedSectionVars false
set_option maxRecDepth 100000
set_option maxHeartbeats 8000000
noncomputable section
namespace Go.Ev
variable [lN]
theorem DP (a b:ByteArray):(a==b)=(a.data==b.data):=by
 cases a with|mk a=>cases b with|mk b=>rfl
theorem afJ (a b:ByteArray):(a==b)=(a.data.toList==b.data.toList):=by
 rw[DP,Bool.eq_iff_iff,beq_iff_eq,beq_iff_eq]
 constructor
 ·intro h;rw[h]
 ·intro h;exact Array.ext' h
theorem akp {a b:ByteArray} (h:(a==b)=true):a=b:=by
 rw[DP,beq_iff_eq]at h
 cases a with|mk a=>cases b with|mk b=>congr
theorem aaV (a:ByteArray):(a==a)=true:=by rw[DP,beq_iff_eq]
def Xh (d:TypeDesc) (l:iG):Prop:=(∃ k,d=.int k/\l=.i)\/(d=.string/\l=.s)\/(d=.bool/\l=.b)
theorem oK {P:Program} {tb:Tb} (ok:dI P tb) {t:TypeId} {p:Ah} (h:kP tb t=some p):∃ d l,P.underlying t=some d/\p=.one l/\Xh d l:=by
 unfold kP at h
 split at h<;>cases h
 ·rename_i k e;exact⟨_,_,ok.eN _ _ e,rfl,.inl ⟨k,rfl,rfl⟩⟩
 ·rename_i e;exact⟨_,_,ok.eN _ _ e,rfl,.inr (.inl ⟨rfl,rfl⟩)⟩
 ·rename_i e;exact⟨_,_,ok.eN _ _ e,rfl,.inr (.inr ⟨rfl,rfl⟩)⟩
theorem YB {β:Mp} {d:TypeDesc} {l:iG} (hd:Xh d l) {x x' y y':Value} {b:Bool} (hx:ai β x x') (hy:ai β y y') (h:cu l x y=some b):Instr.sameNow d x' y'=some b:=by
 rcases hd with⟨k,rfl,rfl⟩|⟨rfl,rfl⟩|⟨rfl,rfl⟩
 ·cases hx<;>simp only[cu]at h<;>try (cases h;done)
  cases hy<;>simp only at h<;>try (cases h;done)
  rename_i j a k2 c
  cases e:tD j k2 with
  |false=>rw[e,au]at h;cases h
  |true =>
   rw[e,aj]at h;cases h
   have:=iB e;subst this
   simp[Instr.sameNow,dY]
 ·cases hx<;>simp only[cu]at h<;>try (cases h;done)
  cases hy<;>simp only at h<;>try (cases h;done)
  cases h
  simp[Instr.sameNow,afJ,gv]
 ·cases hx<;>simp only[cu]at h<;>try (cases h;done)
  cases hy<;>simp only at h<;>try (cases h;done)
  rename_i a c
  cases h
  cases a<;>cases c<;>rfl
theorem aaP {d:TypeDesc} {l:iG} (hd:Xh d l) {x y:Value} {n:Nat} (h:Instr.sameNow d x y=some true):Instr.sameBits n y x=true:=by
 rcases hd with⟨k,rfl,rfl⟩|⟨rfl,rfl⟩|⟨rfl,rfl⟩
 ·cases x<;>simp only[Instr.sameNow]at h<;>try (cases h;done)
  cases y<;>simp only[Instr.sameNow]at h<;>try (cases h;done)
  rename_i j a k2 c
  split at h
  ·rename_i e;subst e
   simp only[Option.some.injEq,beq_iff_eq]at h;subst h
   cases n<;>simp[Instr.sameBits]
  ·cases h
 ·cases x<;>simp only[Instr.sameNow]at h<;>try (cases h;done)
  cases y<;>simp only[Instr.sameNow]at h<;>try (cases h;done)
  simp only[Option.some.injEq]at h
  have:=akp h;subst this
  cases n<;>simp[Instr.sameBits,aaV]
 ·cases x<;>simp only[Instr.sameNow]at h<;>try (cases h;done)
  cases y<;>simp only[Instr.sameNow]at h<;>try (cases h;done)
  simp only[Option.some.injEq,beq_iff_eq]at h;subst h
  cases n<;>simp[Instr.sameBits]
theorem gi.aL {β:Mp} {ys:List MapEntry} (h:gi β [] ys):ys=[]:=by
 have:=h.1;cases ys with
 |nil=>rfl
 |cons=>simp at this
theorem gi.cons_inv {β:Mp} {e:MapEntry} {l ys:List MapEntry} (h:gi β (e::l) ys):∃ e' l',ys=e'::l'/\QH β e e'/\gi β l l':=by
 cases ys with
 |nil=>have:=h.1;simp at this
 |cons v' l' =>
  refine⟨v',l',rfl,h.2 0 e v' rfl rfl,?_,λi a b ha hb=>h.2 (i+1) a b (by simpa using ha) (by simpa using hb)⟩
  have:=h.1;simpa using this
theorem gi.cons {β:Mp} {v v':MapEntry} {l l':List MapEntry} (h:QH β v v') (hl:gi β l l'):gi β (v::l) (v'::l'):=by
 refine⟨by simp[hl.1],λi a b ha hb=>?_⟩
 cases i with
 |zero=>simp at ha hb;subst ha hb;exact h
 |succ i=>simp at ha hb;exact hl.2 i a b ha hb
theorem mE {β:Mp} {d:TypeDesc} {l:iG} (hd:Xh d l) {k k':Value} (hk:ai β k k'):∀ (es es':List MapEntry) (i:Nat) (r:Option (Nat×Value)),gi β es es'->Bo (.one l) k es i=some r ->
 match r with
 |none=>Instr.findNow d k' es' i=some none
 |some (j,x)=>∃ x' e',Instr.findNow d k' es' i=some (some (j,x'))/\ai β x x'/\i<=j/\es'[j-i]?=some e'/\Instr.sameNow d k' e'.key=some true:=by
 intro es
 induction es with
 |nil=>intro es' i r hm h;cases h;have:=hm.aL;subst this;rfl
 |cons e es ih =>
  intro es' i r hm h
  obtain⟨e',l',rfl,he,hm'⟩:=hm.cons_inv
  simp only[Bo,V2]at h
  cases hq:cu l k e.key with
  |none=>simp only[hq]at h;cases h
  |some b =>
   have hs:=YB hd hk he.1 hq
   cases b with
   |true =>
    simp only[hq]at h;cases h
    simp only[Instr.findNow,hs]
    exact⟨e'.val,e',rfl,he.2.1,Nat.le_refl _,by simp,hs⟩
   |false =>
    simp only[hq]at h
    have:=ih l' (i+1) r hm' h
    simp only[Instr.findNow,hs]
    cases r with
    |none=>exact this
    |some jx =>
     obtain⟨j,x⟩:=jx
     obtain⟨x',e2,h1,h2,h3,h4,h5⟩:=this
     exact⟨x',e2,h1,h2,by omega,by rw[show j-i=(j-(i+1))+1 from by omega];simpa using h4,h5⟩
section
variable {P:Program} {tb:Tb} (ok:dI P tb) {β:Mp} {H:Hp} {W:World} (hw:H.wf)
theorem run_checkKey {d:TypeDesc} {l:iG} {t:TypeId} (hd:Xh d l) (ht:P.underlying t=some d) (b:Bool) (n:Nat) (v:Value):(Instr.checkKey b (n+1) t v).run P W=.ok () W:=by
 unfold Instr.checkKey
 simp only[Sem.run_bind,run_underlying ht,Result.andThen_ok]
 rcases hd with⟨k,rfl,rfl⟩|⟨rfl,rfl⟩|⟨rfl,rfl⟩<;>cases v<;>rfl
theorem run_findKey {d:TypeDesc} {t:TypeId} {k:Value} {es:List MapEntry} {r:Option (Nat×Value)} (ht:P.underlying t=some d) (h:Instr.findNow d k es 0=some r):(Instr.findKey t k es).run P W=.ok r W:=by
 unfold Instr.findKey
 simp only[Sem.run_bind,run_underlying ht,Result.andThen_ok,h,Sem.run_pure]
include ok hw
theorem adQ {t key elem:TypeId} {z m m' k k':Value} {okb:Bool} {p:Ah} (ht:P.underlying t=some (.map key elem)) (hz:zeroV tb elem=some z) (hp:kP tb key=some p) (hm:ai β m m') (hk:ai β k k') :
 gl P β H W (Instr.lookup t m' k' okb) (Nk z okb p m k H):=by
 obtain⟨i,hi,zy,hf⟩:=Ai ok hz
 have zx:=ai.flat β 10 z hf
 obtain⟨d,l,hd,rfl,Db⟩:=oK ok hp
 have vU:∀ {a a':Value} (b:Bool),ai β a a'->ai β (Bc okb (.tuple #[a,.bool b]) a) (if okb=true then .tuple #[a',.bool b]else a'):=by
  intro a a' b h
  cases okb with
  |true =>
   have hl:ak β [a,Value.bool b] [a',Value.bool b]:=ak.cons h (ak.cons (.bool b) (ak.nil β))
   rw[aj,if_pos rfl]
   exact .tuple _ _ hl.1 hl.2
  |false=>rw[au,if_neg (by simp)];exact h
 unfold Nk
 split
 ·trivial
 ·rename_i e
  have:=nH e;subst this;cases hm
  refine aD hw (v':=if okb=true then .tuple #[z,.bool false]else z) ?_ (vU false zx)
  have FV:=run_checkKey (P:=P) (W:=W) Db hd true 9999 k'
  simp[Instr.lookup,run_underlying ht,FV,run_findKey hd (show Instr.findNow d k' [] 0=some none from rfl),cZ hi zy]
 ·rename_i r e
  have:=nH e;subst this
  cases hm with|map _ m0 e0 =>
  split
  ·trivial
  ·rename_i es c e1
   split
   ·rename_i j x e2
    refine fu hw λpr=>?_
    obtain⟨m1,es',e3,ho,hr,hs⟩:=nj pr (.inl ((aB r r).2 rfl)) e1
    rw[e0]at e3;cases e3
    have hg:=b_ (P:=P) ho (by simp)
    obtain⟨x',e',h1,h2,_⟩:=mE Db hk _ _ _ _ hr e2
    refine⟨if okb=true then .tuple #[x',.bool true]else x',?_,vU true h2⟩
    have FV:=run_checkKey (P:=P) (W:=W) Db hd es'.isEmpty 9999 k'
    simp only[Instr.lookup,Sem.run_bind,run_underlying ht,Result.andThen_ok,hg,Sem.run_pure,FV,run_findKey hd h1]
   ·rename_i e2
    refine fu hw λpr=>?_
    obtain⟨m1,es',e3,ho,hr,hs⟩:=nj pr (.inl ((aB r r).2 rfl)) e1
    rw[e0]at e3;cases e3
    have hg:=b_ (P:=P) ho (by simp)
    have h1:=mE Db hk _ _ _ _ hr e2
    refine⟨if okb=true then .tuple #[z,.bool false]else z,?_,vU false zx⟩
    have FV:=run_checkKey (P:=P) (W:=W) Db hd es'.isEmpty 9999 k'
    simp only[Instr.lookup,Sem.run_bind,run_underlying ht,Result.andThen_ok,hg,Sem.run_pure,FV,run_findKey hd h1,cZ hi zy]
   ·trivial
omit ok hw in
theorem GM {es:Array MapEntry} {j:Nat} {f:MapEntry->MapEntry}:(es.modify j f).toList=es.toList.modify j f:=by simp
omit ok hw in
theorem Fh {β:Mp} {es es':List MapEntry} {j:Nat} {k k' x x':Value} (hm:gi β es es') (hk:ai β k k') (hx:ai β x x') :
 gi β (es.modify j λe=>{ e with key:=k,val:=x }) (es'.modify j λe=>{ e with key:=k',val:=x' }):=by
 refine⟨by simp[hm.1],λi e e' h1 h2=>?_⟩
 rw[List.getElem?_modify]at h1 h2
 cases g1:es[i]? with
 |none=>rw[g1]at h1;simp at h1
 |some e1 =>
  cases g2:es'[i]? with
  |none=>rw[g2]at h2;simp at h2
  |some e2 =>
   have hr:=hm.2 i e1 e2 g1 g2
   rw[g1]at h1;rw[g2]at h2
   simp only[Option.map_eq_map,Option.map_some,Option.some.injEq]at h1 h2
   by_cases hj:j=i
   ·simp only[hj,if_true]at h1 h2;subst h1 h2
    exact⟨hk,hx,hr.2.2⟩
   ·simp only[hj,if_false,id]at h1 h2;subst h1 h2;exact hr
omit ok hw in
theorem gi.append {β:Mp} {a a' b b':List MapEntry} (h:gi β a a') (h':gi β b b'):gi β (a++b) (a'++b'):=by
 induction a generalizing a' with
 |nil=>have:=h.aL;subst this;exact h'
 |cons x xs ih=>obtain⟨y,ys,rfl,hv,hl⟩:=h.cons_inv;exact gi.cons hv (ih hl)
omit ok hw in
theorem Ip {β:Mp}:∀ {es es':List MapEntry} {j:Nat} (_:gi β es es'),gi β (es.eraseIdx j) (es'.eraseIdx j):=by
 intro es
 induction es with
 |nil=>intro es' j h;have:=h.aL;subst this;simpa using h
 |cons e es ih =>
  intro es' j h
  obtain⟨e',l',rfl,he,hm⟩:=h.cons_inv
  cases j with
  |zero=>exact hm
  |succ j=>exact gi.cons he (ih hm)
theorem Ty {t key elem:TypeId} {m m' k k' x x':Value} {p:Ah} (ht:P.underlying t=some (.map key elem)) (hp:kP tb key=some p) (hm:ai β m m') (hk:ai β k k') (hx:ai β x x') :
 OpU P β H W (Instr.mapUpdate t m' k' x') (Gj p m k x H):=by
 obtain⟨d,l,hd,rfl,Db⟩:=oK ok hp
 unfold Gj
 split
 ·rename_i r e
  have:=nH e;subst this
  cases hm with|map _ m0 e0 =>
  split
  ·trivial
  ·rename_i es c e1
   have ha:alive H r:=(aH H r).2 (by rw[mh e1];simp)
   have FV:=λ(n:Nat)=>run_checkKey (P:=P) (W:=W) Db hd false n k'
   split
   ·rename_i j x1 e2
    refine Lb hw ha λpr=>?_
    obtain⟨m1,es',e3,ho,hr,hs⟩:=nj pr (.inr ((aB r r).2 rfl)) e1
    rw[e0]at e3;cases e3
    have hg:=b_ (P:=P) ho (by simp)
    have Pv:=λo'=>gm (P:=P) o' ho (by simp)
    obtain⟨x2,e',h1,h2,_,h3,h4⟩:=mE Db hk _ _ _ _ hr e2
    simp only[Nat.sub_zero]at h3
    have hb:=aaP (n:=10000) Db h4
    refine⟨m0,_,.map (es'.modify j λe=>{ e with key:=k',val:=x' }) c,e0,ho,⟨_,rfl,?_,hs⟩,?_⟩
    ·rw[GM]
     exact Fh hr hk hx
    ·have h3':es'[j]?=some e':=by simpa using h3
     have hst:(Instr.keyThatStays e'.key k').run P W=.ok k' W:=by
      unfold Instr.keyThatStays;rw[hb];simp
     simp only[Instr.mapUpdate,Sem.run_bind,run_underlying ht,Result.andThen_ok,hg,FV 9999,run_findKey hd h1,h3',Option.map_some,Option.getD_some,hst,Pv]
   ·rename_i e2
    refine Lb hw ha λpr=>?_
    obtain⟨m1,es',e3,ho,hr,hs⟩:=nj pr (.inr ((aB r r).2 rfl)) e1
    rw[e0]at e3;cases e3
    have hg:=b_ (P:=P) ho (by simp)
    have Pv:=λo'=>gm (P:=P) o' ho (by simp)
    have h1:=mE Db hk _ _ _ _ hr e2
    refine⟨m0,_,.map (es'.push { key:=k',val:=x',born:=c }) (c+1),e0,ho,⟨_,rfl,?_,hs⟩,?_⟩
    ·rw[Array.toList_push]
     exact gi.append hr (gi.cons ⟨hk,hx,rfl⟩ qx)
    ·simp only[Instr.mapUpdate,Sem.run_bind,run_underlying ht,Result.andThen_ok,hg,FV 9999,run_findKey hd h1,Pv]
   ·trivial
 ·trivial
theorem afm {at_:Array TypeId} {ty t key elem:TypeId} {m m' k k':Value} {p:Ah} (h0:at_[0]?=some t) (ht:P.underlying t=some (.map key elem)) (hp:kP tb key=some p) (hm:ai β m m') (hk:ai β k k') :
 gl P β H W (Builtin.delete_ at_ ty #[m',k']) (Gl p m k H):=by
 obtain⟨d,l,hd,rfl,Db⟩:=oK ok hp
 have vr:ai β (.tuple #[]) (.tuple #[]):=oo β
 unfold Gl
 split
 ·trivial
 ·rename_i e
  have:=nH e;subst this;cases hm
  refine aD hw (v':=.tuple #[]) ?_ vr
  have FV:=run_checkKey (P:=P) (W:=W) Db hd true 9999 k'
  simp[Builtin.delete_,h0,run_underlying ht,FV]
 ·rename_i r e
  have:=nH e;subst this
  cases hm with|map _ m0 e0 =>
  split
  ·trivial
  ·rename_i es c e1
   have ha:alive H r:=(aH H r).2 (by rw[mh e1];simp)
   have FV:=λ(b:Bool)=>run_checkKey (P:=P) (W:=W) Db hd b 9999 k'
   split
   ·rename_i j x1 e2
    refine Ch hw ha λpr=>?_
    obtain⟨m1,es',e3,ho,hr,hs⟩:=nj pr (.inr ((aB r r).2 rfl)) e1
    rw[e0]at e3;cases e3
    have hg:=b_ (P:=P) ho (by simp)
    have Pv:=λo'=>gm (P:=P) o' ho (by simp)
    obtain⟨x2,e',h1,h2,_,h3,h4⟩:=mE Db hk _ _ _ _ hr e2
    refine⟨m0,_,.map (es'.eraseIdxIfInBounds j) c,.tuple #[],e0,ho,⟨_,rfl,?_,hs⟩,?_,vr⟩
    ·have:(es'.eraseIdxIfInBounds j).toList=es'.toList.eraseIdx j:=by simp
     rw[this]
     exact Ip hr
    ·simp[Builtin.delete_,h0,run_underlying ht,hg,FV,run_findKey hd h1,Pv]
   ·rename_i e2
    refine rT hw ha λpr=>?_
    obtain⟨m1,es',e3,ho,hr,hs⟩:=nj pr (.inr ((aB r r).2 rfl)) e1
    rw[e0]at e3;cases e3
    have hg:=b_ (P:=P) ho (by simp)
    have Pv:=λo'=>gm (P:=P) o' ho (by simp)
    have h1:=mE Db hk _ _ _ _ hr e2
    refine⟨.tuple #[],?_,vr⟩
    simp[Builtin.delete_,h0,run_underlying ht,hg,FV,run_findKey hd h1,Pv,AD ho]
   ·trivial
omit ok in
def aoE (k:Nat) (d:TypeDesc):Prop:=(k=0/\d=.string)\/(k=1/\∃ e,d=.slice e)\/(k=2/\∃ a b,d=.map a b)
omit ok in
theorem IE {at_:Array TypeId} {ty t:TypeId} {d:TypeDesc} {n:Nat} {v v':Value} (hq:lN.Q β) (h0:at_[0]?=some t) (ht:P.underlying t=some d) (hd:aoE n d) (hv:ai β v v') :
 gl P β H W (Builtin.len_ at_ ty #[v']) (fY n v H):=by
 unfold fY
 split
 ·rename_i s
  cases hv
  cases e:Nat.beq n 0 with
  |false=>rw[au];trivial
  |true =>
   rw[aj]
   have:=(beq_iff _ _).1 e;subst this
   have:d=.string:=by rcases hd with⟨_,h⟩|⟨h,_⟩|⟨h,_⟩<;>first|exact h|cases h
   subst this
   exact aD hw (v':=.int .i64 (.ofNat s.size)) (by simp[Builtin.len_,h0,run_underlying ht,goInt]) (.int _ _)
 ·rename_i a l c
  cases e:Nat.beq n 1 with
  |false=>rw[au];trivial
  |true =>
   rw[aj]
   have:=(beq_iff _ _).1 e;subst this
   have:∃ e,d=.slice e:=by rcases hd with⟨h,_⟩|⟨_,h⟩|⟨h,_⟩<;>first|exact h|cases h
   obtain⟨el,rfl⟩:=this
   cases hv<;>first
    |exact aD hw (v':=.int .i64 (.ofNat l)) (by simp[Builtin.len_,h0,run_underlying ht,goInt]) (.int _ _)
    |exact aD hw (v':=.int .i64 (.ofNat 0)) (by simp[Builtin.len_,h0,run_underlying ht,goInt]) (.int _ _)
 ·cases hv
  cases e:Nat.beq n 2 with
  |false=>rw[au];trivial
  |true =>
   rw[aj]
   have:=(beq_iff _ _).1 e;subst this
   have:∃ a b,d=.map a b:=by rcases hd with⟨h,_⟩|⟨h,_⟩|⟨_,h⟩<;>first|exact h|cases h
   obtain⟨a,b,rfl⟩:=this
   exact aD hw (v':=.int .i64 0) (by simp[Builtin.len_,h0,run_underlying ht,goInt]) (.int _ _)
 ·rename_i r
  cases hv with|map _ m0 e0 =>
  cases e:Nat.beq n 2 with
  |false=>rw[au];trivial
  |true =>
   rw[aj]
   have:=(beq_iff _ _).1 e;subst this
   have:∃ a b,d=.map a b:=by rcases hd with⟨h,_⟩|⟨h,_⟩|⟨_,h⟩<;>first|exact h|cases h
   obtain⟨a,b,rfl⟩:=this
   split
   ·rename_i es c e1
    refine fu hw λpr=>?_
    obtain⟨m1,es',e3,ho,hr,hs⟩:=nj pr (.inl ((aB r r).2 rfl)) e1
    rw[e0]at e3;cases e3
    have hg:=b_ (P:=P) ho (by simp)
    refine⟨.int .i64 (es'.size:Int),by simp[Builtin.len_,h0,run_underlying ht,goInt,hg],?_⟩
    have:es.toList.length=es'.size:=by rw[hr.1];exact Array.length_toList
    rw[this]
    exact .int _ _
   ·trivial
 ·rename_i c
  cases e:Nat.beq n 0 with
  |false=>rw[au];trivial
  |true =>
   rw[aj]
   have:=(beq_iff _ _).1 e;subst this
   have:d=.string:=by rcases hd with⟨_,h⟩|⟨h,_⟩|⟨h,_⟩<;>first|exact h|cases h
   subst this
   refine oM hq (FC hv) λv2 h=>?_
   unfold iW at h
   split at h
   all_goals (rename_i hh he;try (cases hh;done))
   all_goals (try (cases he;done))
   all_goals (try (cases h;done))
   cases he;cases h
   rename_i s
   exact⟨Ju,aD hw (v':=.int .i64 (.ofNat s.size)) (by simp[Builtin.len_,h0,run_underlying ht,goInt]) (.int _ _)⟩
 ·trivial
end
end Go.Ev
end
noncomputable section
namespace Go.Ev
variable [lN]
section
variable {P:Program} {β:Mp} {H:Hp} {W:World} (hw:H.wf)
include hw
theorem Ze {ty:TypeId} {v v':Value} (hv:ai β v v'):gl P β H W (Instr.next v' true ty) (yT v H):=by
 unfold yT
 split
 ·rename_i r e
  have:=eD e;subst this
  cases hv with|ptr _ _ m0 e0 =>
  split
  ·rename_i s pos e1
   have ha:alive H r:=(aH H r).2 (by rw[e1];simp)
   cases e2:Nat.blt pos s.data.toList.length with
   |true =>
    rw[aj]
    have hlt:pos<s.size:=(an _ _).1 e2
    refine Ch hw ha λpr=>?_
    obtain⟨m1,o,e3,ho,rfl,hs⟩:=xV pr (.inr ((aB r r).2 rfl)) e1 (by simp)
    rw[e0]at e3;cases e3
    have hg:=b_ (P:=P) ho (by simp)
    have Pv:=λo'=>gm (P:=P) o' ho (by simp)
    have hl:ak β [.bool true,.int .i64 (pos:Int),.int .i32 ((Utf8.decode s pos).1:Int)] [.bool true,.int .i64 (pos:Int),.int .i32 ((Utf8.decode s pos).1:Int)] :=
     ak.cons (.bool _) (ak.cons (.int _ _) (ak.cons (.int _ _) (ak.nil β)))
    refine⟨m0,_,.stringIter s (pos+(Utf8.decode s pos).2),.tuple #[.bool true,.int .i64 (pos:Int),.int .i32 ((Utf8.decode s pos).1:Int)],e0,ho,⟨rfl,hs⟩,?_,.tuple _ _ hl.1 hl.2⟩
    simp[Instr.next,hs,hg,hlt,Pv,goInt]
   |false =>
    rw[au]
    have hlt:¬ pos<s.size:=by
     intro h;rw[(an pos s.data.toList.length).2 h]at e2;cases e2
    refine rT hw ha λpr=>?_
    obtain⟨m1,o,e3,ho,rfl,hs⟩:=xV pr (.inr ((aB r r).2 rfl)) e1 (by simp)
    rw[e0]at e3;cases e3
    have hg:=b_ (P:=P) ho (by simp)
    have hl:ak β [.bool false] [.bool false]:=ak.cons (.bool _) (ak.nil β)
    refine⟨.tuple #[.bool false],?_,.tuple _ _ hl.1 hl.2⟩
    simp[Instr.next,hs,hg,hlt]
  ·trivial
 ·trivial
omit hw in
theorem Fi {f:Nat->Bool}:∀ {es es':List MapEntry},gi β es es'->gi β (es.filter λe=>f e.born) (es'.filter λe=>f e.born):=by
 intro es
 induction es with
 |nil=>intro es' h;have:=h.aL;subst this;exact qx
 |cons e es ih =>
  intro es' h
  obtain⟨e',l',rfl,he,hm⟩:=h.cons_inv
  simp only[List.filter_cons,<-he.2.2]
  cases f e.born with
  |true=>exact gi.cons he (ih hm)
  |false=>exact ih hm
omit hw in
theorem TC {f:Nat->Bool}:∀ {es es':List MapEntry},gi β es es'->es.all (λe=>f e.born)=es'.all (λe=>f e.born):=by
 intro es
 induction es with
 |nil=>intro es' h;have:=h.aL;subst this;rfl
 |cons e es ih =>
  intro es' h
  obtain⟨e',l',rfl,he,hm⟩:=h.cons_inv
  simp only[List.all_cons,ih hm,he.2.2]
theorem Zg {ty:TypeId} {v v':Value} (hv:ai β v v'):gl P β H W (Instr.next v' false ty) (yU v H):=by
 unfold yU
 have over:ai β (.tuple #[.bool false]) (.tuple #[.bool false]):=by
  have hl:ak β [Value.bool false] [Value.bool false]:=ak.cons (.bool _) (ak.nil β)
  exact .tuple _ _ hl.1 hl.2
 split
 ·rename_i r e
  have:=eD e;subst this
  cases hv with|ptr _ _ m0 e0 =>
  split
  ·rename_i a b c e1
   have ha:alive H r:=(aH H r).2 (by rw[e1];simp)
   refine rT hw ha λpr=>?_
   obtain⟨m1,o,e3,ho,rfl,hs⟩:=xV pr (.inr ((aB r r).2 rfl)) e1 (by simp)
   rw[e0]at e3;cases e3
   have hg:=b_ (P:=P) ho (by simp)
   refine⟨.tuple #[.bool false],?_,over⟩
   simp[Instr.next,hs,hg]
  ·rename_i mm since seen last e1
   have ha:alive H r:=(aH H r).2 (by rw[e1];simp)
   split
   ·trivial
   ·rename_i es c e2
    split
    ·trivial
    ·rename_i hc1
     simp only[]
     split
     ·trivial
     ·rename_i hc2
      have facts:∀ {H':Hp} {r' w':Nat},Pre β H H' r' w' W->oe r' w' r->oe r' w' mm->∃ mr es',m0.sh=0/\(getObj m0.rb).run P W=.ok (.mapIter (some mr.rb) since seen last) W/\W.heap[m0.rb]?=some (.mapIter (some mr.rb) since seen last) /\
       β mm=some mr/\(getObj mr.rb).run P W=.ok (.map es' c) W/\gi β es.toList es'.toList:=by
       intro H' r' w' pr i1 i2
       obtain⟨m1,o,e3,ho,mr,e4,rfl,hs⟩:=xV pr i1 e1 (by simp)
       rw[e0]at e3;cases e3
       obtain⟨m2,es',e5,FQ,hr,_⟩:=nj pr i2 e2
       rw[e4]at e5;cases e5
       exact⟨mr,es',hs,b_ (P:=P) ho (by simp),ho,e4,b_ (P:=P) FQ (by simp),hr⟩
      have guard:∀ {es':Array MapEntry},gi β es.toList es'.toList->(!seen.isEmpty&&!es'.isEmpty&&es'.all (λx=>decide (x.born ≥ last)))=false:=by
       intro es' hr
       have h1:es'.isEmpty=es.isEmpty:=by
        have:=hr.1
        rw[Bool.eq_iff_iff]
        simp only[Array.isEmpty_iff_size_eq_zero]
        simp at this;omega
       have h2:es'.all (λx=>decide (x.born ≥ last))=es.all (λx=>decide (x.born ≥ last)):=by
        rw[<-Array.all_toList,<-Array.all_toList]
        exact(TC (f:=λn=>decide (n ≥ last)) hr).symm
       rw[h1,h2]
       simpa using hc1
      have lft:∀ {es':Array MapEntry},gi β es.toList es'.toList->gi β (es.toList.filter λe=>!seen.contains e.born) (es'.filter λe=>!seen.contains e.born).toList:=by
       intro es' hr
       rw[Array.toList_filter]
       exact Fi (f:=λn=>!seen.contains n) hr
      split
      ·rename_i hl
       refine rT hw ha λpr=>?_
       obtain⟨mr,es',hs,g1,_,_,g2,hr⟩:=facts pr (.inr ((aB r r).2 rfl)) (.inl ((aB mm mm).2 rfl))
       have hl':=lft hr
       rw[hl]at hl'
       have h0:es'.filter (λe=>!seen.contains e.born) = #[]:=Array.ext' (by simpa using hl'.aL)
       refine⟨.tuple #[.bool false],?_,over⟩
       have hgd:=guard hr
       simp only[Instr.next,Nat.zero_add,hs,Sem.run_bind,g1,Result.andThen_ok,g2,hgd,h0]
       simp[Question.forced]
      ·rename_i en hl
       refine Ch hw ha λpr=>?_
       obtain⟨mr,es',hs,g1,ho,e4,g2,hr⟩:=facts pr (.inr ((aB r r).2 rfl)) (.inl ((aB mm mm).2 rfl))
       have hl':=lft hr
       rw[hl]at hl'
       obtain⟨en',l',h1,he,h2⟩:=hl'.cons_inv
       have:=h2.aL;subst this
       have h0:es'.filter (λe=>!seen.contains e.born) = #[en']:=Array.ext' (by simpa using h1)
       rw[hl]at hc2
       have hold:¬ (en'.born ≥ since):=by
        rw[<-he.2.2];simpa using hc2
       have hold':en'.born<since:=by omega
       have Pv:=λo'=>gm (P:=P) o' ho (by simp)
       have hll:ak β [.bool true,en.key,en.val] [.bool true,en'.key,en'.val]:=ak.cons (.bool _) (ak.cons he.1 (ak.cons he.2.1 (ak.nil β)))
       refine⟨m0,_,.mapIter (some mr.rb) since (seen.push en'.born) c,.tuple #[.bool true,en'.key,en'.val],e0,ho,⟨mr,e4,by rw[he.2.2],hs⟩,?_,.tuple _ _ hll.1 hll.2⟩
       have hgd:=guard hr
       simp only[Instr.next,Nat.zero_add,hs,Sem.run_bind,g1,Result.andThen_ok,g2,hgd,h0]
       simp[Question.forced,hold',hold,Pv]
      ·trivial
  ·trivial
 ·trivial
end
end Go.Ev
end
noncomputable section
namespace Go.Ev
variable [lN]
theorem Av:∀ {l:List Value} {s:List UInt8},strOf l=some s->∃ ns:List Int,l=ns.map (Value.int .u8)/\s=ns.map (λn=>UInt8.ofNat n.toNat):=by
 intro l
 induction l with
 |nil=>intro s h;cases h;exact⟨[],rfl,rfl⟩
 |cons v r ih =>
  intro s h
  unfold strOf at h
  cases ha:(v::r).all Up with
  |false=>rw[ha,au]at h;cases h
  |true =>
   rw[ha,aj]at h
   simp only[List.all_cons,Bool.and_eq_true]at ha
   cases h
   have h2:strOf r=some (r.map af1):=by unfold strOf;rw[ha.2,aj]
   obtain⟨ns,h1,h3⟩:=ih h2
   have hv:=ha.1
   unfold Up at hv
   split at hv
   ·rename_i n
    exact⟨n::ns,by rw[h1];rfl,by rw[List.map_cons,h3];rfl⟩
   ·cases hv
theorem Pd {β:Mp}:∀ {ns:List Int} {l':List Value},ak β (ns.map (Value.int .u8)) l'->l'=ns.map (Value.int .u8):=by
 intro ns
 induction ns with
 |nil=>intro l' h;exact h.aL
 |cons n ns ih =>
  intro l' h
  obtain⟨v',l2,rfl,hv,hl⟩:=h.cons_inv
  cases hv
  rw[ih hl];rfl
theorem fold_push:∀ (ns:List Int) (r:ByteArray),(ns.foldl (λr n=>r.push (UInt8.ofNat n.toNat)) r)=⟨⟨r.data.toList++ns.map (λn=>UInt8.ofNat n.toNat)⟩⟩:=by
 intro ns
 induction ns with
 |nil=>intro r;simp
 |cons n ns ih =>
  intro r
  simp only[List.foldl_cons,ih]
  congr 2
  simp[ByteArray.push]
theorem EO {α:Type} (a:Array α) (x:α) (f:α->α):(a.push x).modify a.size f=a.push (f x):=by
 apply Array.ext_getElem?
 intro i
 rw[Array.getElem?_modify,Array.getElem?_push,Array.getElem?_push]
 by_cases h:i=a.size
 ·subst h;simp
 ·have:¬ a.size=i:=λh'=>h h'.symm
  simp[h,this]
section
variable {P:Program} {tb:Tb} (ok:dI P tb) {β:Mp} {H:Hp} {W:World} (hw:H.wf)
include hw
theorem afB {src dst:TypeId} {v v':Value} (hs:P.underlying src=some .string) (hd:P.underlying dst=some .string) (hv:ai β v v'):gl P β H W (convert src dst v') (aap v H):=by
 unfold aap
 cases e:QN v with
 |none=>trivial
 |some s =>
  have:=s_ e;subst this;cases hv
  exact aD hw (v':=.string s) (by simp[convert,run_underlying hs,run_underlying hd]) (.string _)
omit hw in
theorem Ku {l l':List Value} {v:Value} (hq:lN.Q β) (hl:ak β l l') (h:zD l=some v):∃ (s:List UInt8) (ns:List Int),strOf l'=some s/\l'=ns.map (Value.int .u8)/\s=ns.map (λx=>UInt8.ofNat x.toNat)/\ai β v (.string ⟨⟨s⟩⟩):=by
 have real:∀ s,strOf l'=some s->∃ ns:List Int,l'=ns.map (Value.int .u8)/\s=ns.map (λx=>UInt8.ofNat x.toNat):=λs h=>by
  obtain⟨ns,h1,h2⟩:=Av h
  exact⟨ns,h1,h2⟩
 unfold zD YY at h
 cases e:strOf l with
 |some s =>
  rw[e]at h;cases h
  obtain⟨ns,e3,e4⟩:=Av e
  rw[e3]at hl
  have h6:=Pd hl
  have e':strOf l'=some s:=by rw[h6,<-e3];exact e
  exact⟨s,ns,e',h6,e4,.string _⟩
 |none =>
  rw[e]at h
  obtain⟨v',h1,h2⟩:=lN.A8 hq _ _ _ h _ hl
  have h1:(match strOf l' with|some s=>some (Value.string ⟨⟨s⟩⟩)|none=>none)=some v':=h1
  cases e2:strOf l' with
  |none=>rw[e2]at h1;cases h1
  |some s =>
   rw[e2]at h1;cases h1
   obtain⟨ns,h3,h4⟩:=real s e2
   exact⟨s,ns,rfl,h3,h4,h2⟩
theorem aaE {src dst e:TypeId} {v v':Value} (hq:lN.Q β) (hs:P.underlying src=some (.slice e)) (he:P.underlying e=some (.int .u8)) (hd:P.underlying dst=some .string) (hv:ai β v v'):gl P β H W (convert src dst v') (vf v H):=by
 unfold vf
 split
 ·cases hv
  exact aD hw (v':=.string .empty) (by rw[run_convert_bytes_string W src dst e _ _ _ hs he hd];rfl) (.string _)
 ·rename_i b o n c
  cases hv with|sl _ _ _ _ c' m0 e0 hcap =>
  split
  ·rename_i l e1
   split
   ·rename_i s e2
    refine fu hw λp=>?_
    obtain⟨t',k,ty,op,lo,hi,hb,ho,rfl⟩:=rN e1
    obtain⟨m,cs,fr,em,hm,h1,h2,h3,h3',h4,h5⟩:=eW p (.inl ((aB b b).2 rfl)) hb
    rw[e0]at em;cases em
    have hl:=jZ (sh:=m0.sh) ho (by omega) h4
    obtain⟨s2,ns,_,h6,rfl,hv2⟩:=Ku hq hl e2
    have h7:=pE (P:=P) hm (show o+m0.sh+n<=cs.size by omega)
    rw[h6]at h7
    refine⟨_,?_,hv2⟩
    rw[run_convert_bytes_string W src dst e _ _ _ hs he hd,run_bytesToString W _ _ _ ns h7,fold_push]
    rfl
   ·trivial
  ·trivial
 ·trivial
omit hw in
theorem JS (s:ByteArray):(s.data.map λb=>Value.int .u8 b.toNat).toList=gb s.data.toList:=by
 simp[gb]
omit hw in
theorem BA (β:Mp) (l:List UInt8):(gb l).all bQ=true/\ak β (gb l) (gb l):=by
 induction l with
 |nil=>exact⟨rfl,ak.nil β⟩
 |cons b l ih=>exact⟨ih.1,ak.cons (.int _ _) ih.2⟩
omit hw in
theorem aaF {src dst e:TypeId} {v v':Value} (hs:P.underlying src=some .string) (hd:P.underlying dst=some (.slice e)) (he:P.underlying e=some (.int .u8)) (hv:ai β v v'):gl P β H W (convert src dst v') (Nf e v H):=by
 unfold Nf
 cases ea:QN v with
 |none=>trivial
 |some s =>
  have:=s_ ea;subst this;cases hv
  simp only[]
  obtain⟨t,hb,hg⟩:=bW (gb s.data.toList) e 2
  rw[hb]
  show gl P β H W _ (aS (.cells t _ e 2 1 0) H _ 0 0)
  refine gA λp=>?_
  have hlen:(gb s.data.toList).length=s.size:=by unfold gb;rw[List.length_map];rfl
  obtain⟨q,hcap⟩:∃ q,Question.cut (.appendCap s.size 0 e) (W.tape W.drawn (.appendCap s.size 0 e))=s.size+q:=⟨_,rfl⟩
  let row:Array Value:=(s.data.map λb=>Value.int .u8 b.toNat)++Array.replicate q (.int .u8 0)
  have hrow:row.size=s.size+q:=by
   show((s.data.map λ(b:UInt8)=>Value.int .u8 b.toNat)++Array.replicate q (Value.int .u8 0)).size=_
   rw[Array.size_append,Array.size_map,Array.size_replicate];rfl
  refine⟨.slice (some ⟨W.heap.size,0,none⟩) s.size (s.size+q),.cells row e (row.size,row.size+1),⟨W.heap.size,0,s.size+q,1⟩,
   { W with heap:=W.heap.push (.cells row e (row.size,row.size+1)),drawn:=W.drawn+1 },?_,rfl,⟨rfl,rfl,rfl⟩,rfl,λβ' hle=>?_,λβ' hle e1=>?_⟩
  ·have hf:(Question.appendCap s.size 0 e).forced=false:=rfl
   simp only[convert,Sem.run_bind,run_underlying hs,run_underlying hd,run_underlying he,Result.andThen_ok,Conv.stringToBytes,run_choose,hf,Bool.false_eq_true,if_false,hcap,
    newRow,run_newObj,markStringish,run_shape,run_freeze,Sem.run_pure]
   have hq:s.size+q-s.size=q:=by omega
   simp only[hq]
   have hsh:World.shape? { W with heap:=W.heap.push (Obj.cells row e),drawn:=W.drawn+1 } W.heap.size=some (e,row.size):=by
    simp[World.shape?]
   show Result.andThen (Sem.run P (match World.shape? { W with heap:=W.heap.push (Obj.cells row e),drawn:=W.drawn+1 } W.heap.size with
    |some (_,n)=>freeze { block:=W.heap.size,off:=n } 1
    |_=>pure ()) { W with heap:=W.heap.push (Obj.cells row e),drawn:=W.drawn+1 }) _=_
   rw[hsh]
   simp only[run_freeze,Result.andThen_ok]
   congr 1
   unfold World.freeze
   simp[EO]
  ·have hlc:(gb s.data.toList).length<=s.size+q:=by omega
   refine⟨row,_,rfl,hrow,by simp;omega,(λh=>by cases h),(λk h=>by cases h;rfl),λi hi=>?_,.inr (.inl ⟨by omega,.inr (by simp[hrow])⟩)⟩
   have Xw:(gb s.data.toList)[i]?=some (gb s.data.toList)[i]:=by simp[hi]
   rw[hg i _ Xw]
   obtain⟨b1,b2⟩:=BA β' s.data.toList
   refine⟨List.all_eq_true.1 b1 _ (List.getElem_mem hi),(gb s.data.toList)[i],?_,b2.2 i _ _ Xw Xw⟩
   simp only[Nat.zero_add]
   rw[Array.getElem?_append_left (by rw[Array.size_map];show i<s.size;omega),<-Array.getElem?_toList,JS]
   exact Xw
  ·have sL:(s.data.toList.length)=s.size:=rfl
   refine lV ⟨⟨W.heap.size,0,s.size+q,1⟩,s.size+q,e1,?_,λh=>(by cases h),λ_=>⟨by omega,by simp⟩⟩
   simp[sL]
end
end Go.Ev
end
noncomputable section
namespace Go.Ev
variable [lN]
section
variable {P:Program} {tb:Tb} (ok:dI P tb) {β:Mp} {H:Hp} {W:World} (hw:H.wf)
theorem JQ {H':Hp} {b o:Nat} {vs:List Value} (hw:H.wf) (h:N3 H b o vs=some H'):Can H H' (bit b)/\alive H b:=by
 obtain⟨t,n,ty,op,lo,hi,hb,ho,Z3,rfl⟩:=Ks h
 have ha:alive H b:=(aH H b).2 (by rw[hb];simp)
 exact⟨eJ hw _ ha,ha⟩
theorem Nw {H':Hp} {b o:Nat} {vs:List Value} (hw:H.wf) (h:G8 H b o vs=some H'):Can H H' (bit b)/\alive H b:=by
 obtain⟨t,n,ty,op,lo,hi,hb,ho,Z3,rfl⟩:=Ea h
 have ha:alive H b:=(aH H b).2 (by rw[hb];simp)
 exact⟨eJ hw _ ha,ha⟩
theorem L6 {x x':Value} {n:Nat} (h:CM x=some n) (hx:ai β x x'):(Builtin.lenOf x').run P W=.ok n W:=by
 unfold CM at h
 split at h
 ·cases h;cases hx<;>rfl
 ·cases h;cases hx;rfl
 ·cases h
theorem Hj (s:ByteArray) (n:Nat) (hn:n<=s.size):((s.extract 0 n).data.map λb=>Value.int .u8 b.toNat)=⟨gb (s.data.toList.take n)⟩:=by
 apply Array.ext'
 simp[gb]
theorem lE {H':Hp} {r' w':Nat} {sz n k r:Nat} {x x':Value} {cs:List Value} (h:eI H sz n x=some (cs,r)) (hk:CM x=some k) (hn:n<=k) (hx:ai β x x') (p:Pre β H H' r' w' W)
 (hr:∀ b,r.testBit b=true->oe r' w' b):∃ cs',(∀ w:World,w.heap=W.heap->(Builtin.firstCells sz n x').run P w=.ok ⟨cs'⟩ w)/\ak β cs cs'/\cs.all bQ=true/\cs.length=n*sz:=by
 unfold eI at h
 split at h
 ·cases e:Nat.beq n 0 with
  |false=>rw[e,au]at h;cases h
  |true =>
   rw[e,aj]at h;cases h;cases hx
   have:=(beq_iff _ _).1 e;subst this
   exact⟨[],λw _=>rfl,ak.nil β,rfl,by simp⟩
 ·cases e:Nat.beq n 0 with
  |false=>rw[e,au]at h;cases h
  |true =>
   rw[e,aj]at h;cases h;cases hx
   have:=(beq_iff _ _).1 e;subst this
   exact⟨[],λw _=>by simp[Builtin.firstCells,loadCells,loadCellsFrom],ak.nil β,rfl,by simp⟩
 ·rename_i b o l c
  cases hx with|sl _ _ _ _ c' m0 e0 hcap =>
  split at h
  ·rename_i l1 e1
   cases h
   obtain⟨t',q,ty,op,lo,hi,hb,ho,rfl⟩:=rN e1
   obtain⟨m,cs,fr,em,hm,h1,h2,h3,h3',h4,h5⟩:=eW p (hr b ((aB b b).2 rfl)) hb
   rw[e0]at em;cases em
   have hl:=jZ (sh:=m0.sh) ho (by omega) h4
   exact⟨_,λw hw'=>pE (by rw[hw'];exact hm) (show o+m0.sh+n*sz<=cs.size by omega),hl,rV ho λj hj=>(h4 j hj).1,gP _ _ _⟩
  ·cases h
 ·rename_i s
  cases e:Nat.beq sz 1 with
  |false=>rw[e,au]at h;cases h
  |true =>
   rw[e,aj]at h
   have:=(beq_iff _ _).1 e;subst this
   cases h;cases hx
   cases hk
   obtain⟨b1,b2⟩:=BA β (s.data.toList.take n)
   refine⟨_,λw _=>by simp only[Builtin.firstCells,Sem.run_pure];rw[Hj s n hn],b2,b1,?_⟩
   have:s.data.toList.length=s.size:=rfl
   unfold gb;rw[List.length_map,List.length_take]
   omega
 ·cases h
include ok hw
theorem aaA {at_:Array TypeId} {ty t elem:TypeId} {i:TypeInfo} {d d' x x':Value} (h0:at_[0]?=some t) (ht:P.underlying t=some (.slice elem)) (hi:P.info? elem=some i) (hd:ai β d d') (hx:ai β x x') :
 gl P β H W (Builtin.copy_ at_ ty #[d',x']) (yV i.size d x H):=by
 unfold yV
 split
 ·rename_i xl a dl cap op e1 e2
  have hs:=rH e2 hd
  have hlen:=L6 (P:=P) (W:=W) e1 hx
  split
  ·trivial
  ·rename_i cs r e3
   have hn:Nat.min xl dl<=xl:=Nat.min_le_left _ _
   cases a with
   |none =>
    obtain⟨_,rfl⟩:=hs
    refine fu hw λp=>?_
    obtain⟨cs',h1,h2,_,_⟩:=lE (P:=P) e3 e1 hn hx p (λb hb=>.inl hb)
    have h1:=h1 W rfl
    refine⟨.int .i64 ((Nat.min xl dl:Nat):Int),?_,.int _ _⟩
    simp only[Builtin.copy_]
    simp[h0,run_underlying ht,hlen,aX hi,h1,goInt]
   |some y =>
    obtain⟨b,o⟩:=y
    obtain⟨m,c',e0,rfl,_⟩:=hs
    simp only[]
    cases e4:G8 H b o cs with
    |none=>trivial
    |some H' =>
     simp only[]
     refine⟨(Nw hw e4).1,λp=>?_⟩
     obtain⟨cs',h1,h2,h3,_⟩:=lE (P:=P) e3 e1 hn hx p (λb hb=>.inl hb)
     obtain⟨_,hwr⟩:=NY (Hx:=H') (W:=W) (P:=P) (r:=r) (w:=bit b) hw e4 e0 h2 h3
     obtain⟨o',hrun,hpost⟩:=hwr p (.inr ((aB b b).2 rfl))
     have h1:=h1 W rfl
     refine⟨β,_,.int .i64 ((Nat.min xl dl:Nat):Int),?_,.int _ _,hpost⟩
     simp only[Builtin.copy_]
     simp[h0,run_underlying ht,hlen,aX hi,h1,goInt,hrun]
 ·trivial
omit ok hw in
theorem qX (zv:Value) (n:Nat):(Builtin.zeroCells zv.cells n).toList=(List.replicate n zv.cells.toList).flatten:=B7 zv n
theorem Ws {at_:Array TypeId} {ty t elem:TypeId} {z:List Value} {x x':Value} (h0:at_[0]?=some t) (ht:P.underlying t=some (.slice elem)) (hz:lT tb elem=some z) (hx:ai β x x') :
 gl P β H W (Builtin.clear_ at_ ty #[x']) (sU z x H):=by
 obtain⟨i,zv,hi,zy,rfl,hf⟩:=jQ ok hz
 have vr:∀ β:Mp,ai β (.tuple #[]) (.tuple #[]):=λβ=>oo β
 unfold sU
 split
 ·rename_i l c op e1
  obtain⟨_,rfl⟩:=rH e1 hx
  exact aD hw (v':=.tuple #[]) (by simp[Builtin.clear_,h0,run_underlying ht]) (vr β)
 ·rename_i b o n c op e1
  obtain⟨m,c',e0,rfl,_⟩:=rH e1 hx
  split
  ·rename_i H' e4
   refine⟨(JQ hw e4).1,λp=>?_⟩
   obtain⟨h1,hl⟩:=B8 (β:=β) hf n
   obtain⟨_,hwr⟩:=wV (Hx:=H') (W:=W) (P:=P) (r:=0) (w:=bit b) hw e4 e0 hl h1
   obtain⟨o',hrun,hpost⟩:=hwr p (.inr ((aB b b).2 rfl))
   by_cases hn:n=0
   ·subst hn
    simp only[List.replicate_zero,List.flatten_nil,storeCells,Sem.run_pure]at hrun
    injection hrun with _ hW
    refine⟨β,_,.tuple #[],?_,vr β,hpost⟩
    rw[<-hW]
    simp[Builtin.clear_,h0,run_underlying ht]
   ·refine⟨β,_,.tuple #[],?_,vr β,hpost⟩
    obtain⟨q,rfl⟩:∃ q,n=q+1:=⟨n-1,by omega⟩
    simp[Builtin.clear_,h0,run_underlying ht,cZ hi zy,qX,hrun]
  ·trivial
 ·trivial
end
end Go.Ev
end
noncomputable section
namespace Go.Ev
variable [lN]
theorem PF (N:Nat):∀ (r c:Nat),Builtin.growBy N r c<=max c (2*N+768):=by
 intro r
 induction r with
 |zero=>intro c;exact Nat.le_max_left _ _
 |succ r ih =>
  intro c
  unfold Builtin.growBy
  split
  ·exact Nat.le_max_left _ _
  ·have:=ih (c+(c+768) / 4)
   have h:c+(c+768) / 4<=2*N+768:=by omega
   omega
theorem Ii {need c:Nat} (h:c<need):Builtin.nextslicecap need c<=2*need+768:=by
 unfold Builtin.nextslicecap
 split
 ·omega
 ·split
  ·omega
  ·have:=PF need 4 c
   omega
section
variable {P:Program} {W:World}
theorem Cq {d:TypeDesc} (h:∀ k,d≠.int k):(match d with|.int _=>true|_=>false)=false:=by
 cases d<;>first|rfl|exact absurd rfl (h _)
variable {at_:Array TypeId} {ty t xt elem:TypeId} {dx:TypeDesc} {i:TypeInfo} {x':Value} {n:Nat} {new:List Value}
 (h0:at_[0]?=some t) (h1:at_[1]?=some xt) (ht:P.underlying t=some (.slice elem)) (hx:P.underlying xt=some dx) (IY:∀ k,dx≠.int k) (hi:P.info? elem=some i)
 (hlen:(Builtin.lenOf x').run P W=.ok n W) (hnew:∀ w:World,w.heap=W.heap->(Builtin.firstCells i.size n x').run P w=.ok ⟨new⟩ w)
include h0 h1 ht hx IY hi hlen hnew
theorem qd {a:Addr} {len cap:Nat} {W':World} (hc:len+n<=cap) (hst:(storeCells (a.add (len*i.size)) new).run P W=.ok () W') :
 (Builtin.append_ at_ ty #[.slice (some a) len cap,x']).run P W=.ok (.slice (some a) (len+n) cap) W':=by
 have hz:=Cq IY
 unfold Builtin.append_
 have FR:=hnew W rfl
 simp[h0,h1,run_underlying ht,run_underlying hx,aX hi,hz,hlen,hc,FR,hst]
theorem run_append_nil {len cap:Nat} (hc:len+n<=cap):(Builtin.append_ at_ ty #[.slice none len cap,x']).run P W=.ok (.slice none (len+n) cap) W:=by
 have hz:=Cq IY
 unfold Builtin.append_
 have FR:=hnew W rfl
 simp[h0,h1,run_underlying ht,run_underlying hx,aX hi,hz,hlen,hc,FR]
theorem jU {a:Option Addr} {len cap:Nat} {old:List Value} {zv:Value} (hc:cap<len+n) (hb:gq (len+n) i.bytes=true) (zy:i.zero=some zv)
 (hold:∀ w:World,w.heap=W.heap->(Builtin.firstCells i.size len (.slice a len cap)).run P w=.ok ⟨old⟩ w) :
 ∃ q row,row.toList=old++(new++(Builtin.zeroCells zv.cells q).toList)/\(Builtin.append_ at_ ty #[.slice a len cap,x']).run P W=.ok (.slice (some ⟨W.heap.size,0,none⟩) (len+n) (len+n+q))
  { W with heap:=W.heap.push (.cells row elem),drawn:=W.drawn+1 }:=by
 have hz:=Cq IY
 obtain⟨q,hq⟩:∃ q,Question.cut (.appendCap (len+n) cap elem) (W.tape W.drawn (.appendCap (len+n) cap elem))=len+n+q:=⟨_,rfl⟩
 refine⟨q,(⟨old⟩:Array Value)++((⟨new⟩:Array Value)++Builtin.zeroCells zv.cells q),by simp,?_⟩
 simp only[gq,Bool.and_eq_true,aE]at hb
 have hnc:¬ (len+n<=cap):=by omega
 have hbig:¬ (IntKind.i64.max<((len+n:Nat):Int)):=by
  have:IntKind.i64.max=9223372036854775807:=by decide
  rw[this];omega
 have qC:¬ (2 ^ 48<Builtin.nextslicecap (len+n) cap*i.bytes):=by
  have h1:=Nat.mul_le_mul_right i.bytes (Ii hc)
  have:(2:Nat) ^ 48=281474976710656:=by decide
  rw[this];omega
 have hf:(Question.appendCap (len+n) cap elem).forced=false:=rfl
 have hsub:len+n+q-(len+n)=q:=by omega
 have hold':=hold W.drew rfl
 have FR:=hnew W.drew rfl
 have ahE:¬ (9223372036854775807<(len:Int)+(n:Int)):=by
  have:IntKind.i64.max=9223372036854775807:=by decide
  omega
 unfold Builtin.append_
 simp[h0,h1,run_underlying ht,run_underlying hx,aX hi,hz,hlen,hnc,run_typeInfo hi,ahE,qC,hf,hq,hold',FR,cZ hi zy,newRow]
 rfl
end
section
variable {P:Program} {tb:Tb} (ok:dI P tb) {β:Mp} {H:Hp} {W:World} (hw:H.wf)
theorem OI {b:Nat} {m m':Bm} {x:dB} {o o':Obj} (hw:H.wf) (ha:alive H b) (e:β b=some m) (ho:W.heap[m.rb]?=some o) (hn:H.room=true) (hf:β H.nx=none) (hm:m'.rb=m.rb)
 (hr:qa (β.put H.nx m') m' x o') (hd:∀ b m,β b=some m->m.rb<W.heap.size):Post β (β.put H.nx m') H ((H.put b .no).push x) (bit b) W (World.fj W m.rb o'):=by
 have hn':(H.put b .no).room=true:=by rw[fS];exact hn
 have nx2:((H.put b .no).push x).nx=H.nx+1:=by rw[aZ,cW]
 have blk2:∀ c,((H.put b .no).push x).blk c=if c=H.nx then x else if c=b then .no else H.blk c:=by
  intro c;rw[gf x hn',cW,jh _ hw ha.1]
 have D4:b≠H.nx:=Nat.ne_of_lt ha.1
 have dead:¬ alive ((H.put b .no).push x) b:=by
  intro h;exact h.2 (by rw[blk2,if_neg D4,if_pos rfl])
 have only:∀ c,(H.nx<=c\/(bit b).testBit c=true)->alive ((H.put b .no).push x) c->c=H.nx:=by
  intro c hc hac
  rcases hc with h|h
  ·have:=hac.1;rw[nx2]at this;omega
  ·have:=(aB b c).1 h;subst this;exact absurd hac dead
 refine⟨Mp.nk m' hf,λc m1 h h'=>?_,λc hc hac=>?_,λrb o1 h hno=>?_,by rw[pz];exact Nat.le_refl _,λc m1 h=>?_,
  λc m1 hc h h'=>?_,λc d mc md hc hd' hac had _ _ _=>by rw[only c hc hac,only d hd' had],⟨rfl,rfl,rfl⟩⟩
 ·by_cases ec:c=H.nx
  ·subst ec;rw[nx2];omega
  ·rw[Mp.jV β m' ec,h']at h;cases h
 ·have:=only c hc hac;subst this
  exact⟨m',Mp.dJ _ _ _,o',by rw[hm];exact tL ho,by rw[blk2,if_pos rfl];exact hr⟩
 ·have:=hno b m ha.1 ((aB b b).2 rfl) e
  rw[KL (Ne.symm this)];exact h
 ·rw[pz]
  by_cases ec:c=H.nx
  ·subst ec;rw[Mp.dJ]at h;cases h;rw[hm];exact hd b m e
  ·rw[Mp.jV β m' ec]at h;exact hd c m1 h
 ·by_cases ec:c=H.nx
  ·subst ec;rw[Mp.dJ]at h';cases h'
   exact .inr ⟨b,m,ha.1,(aB b b).2 rfl,e,hm.symm,dead⟩
  ·rw[Mp.jV β m' ec,h]at h';cases h'
theorem GH {b:Nat} {x:dB} (hw:H.wf) (ha:alive H b) (hn:H.room=true):Can H ((H.put b .no).push x) (bit b):=by
 have c1:=eJ hw .no ha
 have c2:Can (H.put b .no) ((H.put b .no).push x) 0:=fB (by rw[fS];exact hn)
 have:=Can.comp c1 c2
 rwa [show Nat.lor (bit b) 0=bit b from Nat.or_zero _]at this
theorem xL {k:Nat} {t:T Value} {cs row:List Value} {rest:List Value} {ty:TypeId} {sz tot lo hi:Nat} (hg:∀ (i:Nat) (v:Value),cs[i]?=some v->t.get i=v) (h1:cs.all bQ=true) (hl:ak β cs row) (ht:tot=row.length+rest.length) :
 qa β ⟨k,0,tot,sz⟩ (.cells t cs.length ty (sz+1) lo hi) (.cells ⟨row++rest⟩ ty):=by
 refine⟨⟨row++rest⟩,(0,0),rfl,by simp[ht],by simp[ht,hl.1],(λh=>by cases h),(λk h=>by cases h;rfl),λi hi'=>?_,?_⟩
 ·have hv:cs[i]?=some cs[i]:=by simp[hi']
  rw[hg i _ hv]
  obtain⟨v',ev,hr⟩:=hl.get hv
  refine⟨List.all_eq_true.1 h1 _ (List.getElem_mem hi'),v',?_,hr⟩
  have hi':i<row.length:=by rw[<-hl.1];exact hi'
  simp only[Nat.zero_add]
  show(row++rest).toArray[i]?=_
  rw[List.getElem?_toArray,List.getElem?_append_left hi'];exact ev
 ·rcases Nat.lt_or_ge hi lo with h|h
  ·exact .inr (.inl ⟨h,.inl rfl⟩)
  ·exact .inl ⟨h,.inl rfl⟩
end
end Go.Ev
end
noncomputable section
namespace Go.Ev
variable [lN]
section
variable {P:Program} {tb:Tb} (ok:dI P tb) {β:Mp} {H:Hp} {W:World} (hw:H.wf)
include hw
theorem afM {at_:Array TypeId} {ty t xt elem:TypeId} {dx:TypeDesc} {i:TypeInfo} {zv s s' x x':Value}
 (h0:at_[0]?=some t) (h1:at_[1]?=some xt) (ht:P.underlying t=some (.slice elem)) (hx:P.underlying xt=some dx) (IY:∀ k,dx≠.int k) (hi:P.info? elem=some i)
 (zy:i.zero=some zv) (hzs:zv.cells.toList.length=i.size) (hs:ai β s s') (hxx:ai β x x'):gl P β H W (Builtin.append_ at_ ty #[s',x']) (iQ elem i.size i.bytes s x H):=by
 unfold iQ
 split
 ·rename_i n a len cap op e1 e2
  have nY:=rH e2 hs
  have hlen:=L6 (P:=P) (W:=W) e1 hxx
  split
  ·trivial
  ·rename_i new r e3
   have hnew:∀ {H':Hp} {r' w':Nat},Pre β H H' r' w' W->(∀ b,r.testBit b=true->oe r' w' b)->∃ new',(∀ w:World,w.heap=W.heap->(Builtin.firstCells i.size n x').run P w=.ok ⟨new'⟩ w)/\ak β new new'/\new.all bQ=true/\new.length=n*i.size :=
    λp hr=>lE (P:=P) e3 e1 (Nat.le_refl _) hxx p hr
   have zlen:∀ q,(Builtin.zeroCells zv.cells q).toList.length=q*i.size:=by
    intro q;rw[qX,List.length_flatten,List.map_replicate,List.sum_replicate_nat,hzs]
   cases e4:Nat.ble (len+n) cap with
   |true =>
    rw[aj]
    have hc:=(aE _ _).1 e4
    cases a with
    |none =>
     obtain⟨rfl,rfl⟩:=nY
     refine fu hw λp=>?_
     obtain⟨new',h2,_⟩:=hnew p (λb hb=>.inl hb)
     exact⟨_,run_append_nil h0 h1 ht hx IY hi hlen h2 hc,.AA _ _⟩
    |some y =>
     obtain⟨b,o⟩:=y
     obtain⟨m,c',e0,rfl,g1,g2⟩:=nY
     simp only[]
     cases e5:N3 H b (o+len*i.size) new with
     |none=>trivial
     |some H' =>
      simp only[]
      refine⟨(JQ hw e5).1,λp=>?_⟩
      obtain⟨new',h2,h3,h4,h5⟩:=hnew p (λb hb=>.inl hb)
      obtain⟨_,hwr⟩:=wV (Hx:=H') (W:=W) (P:=P) (r:=r) (w:=bit b) hw e5 e0 h3 h4
      obtain⟨o',hrun,hpost⟩:=hwr p (.inr ((aB b b).2 rfl))
      have lz:cap<=c':=by
       cases op with
       |false=>rw[g1 rfl];exact Nat.le_refl _
       |true=>exact(g2 rfl).1
      have hst:(storeCells ((⟨m.rb,o+m.sh,none⟩:Addr).add (len*i.size)) new').run P W=.ok () (World.fj W m.rb o'):=by
       rw[add_eq,show o+m.sh+len*i.size=o+len*i.size+m.sh from by omega];exact hrun
      exact⟨β,_,_,qd h0 h1 ht hx IY hi hlen h2 (Nat.le_trans hc lz) hst,lV ⟨m,c',e0,rfl,g1,g2⟩,hpost⟩
   |false =>
    rw[au]
    have hc:=(BD _ _).1 e4
    cases e5:gq (len+n) i.bytes with
    |false=>rw[au];trivial
    |true =>
     rw[aj]
     cases a with
     |none =>
      obtain⟨rfl,rfl⟩:=nY
      simp only[]
      cases e6:Nat.beq len 0 with
      |false=>rw[au];trivial
      |true =>
       rw[aj]
       have:=(beq_iff _ _).1 e6;subst this
       obtain⟨t',hb,hg⟩:=bW new elem (Nat.succ i.size)
       rw[hb]
       refine gA λp=>?_
       obtain⟨new',h2,h3,h4,h5⟩:=hnew p (λb hb=>.inl hb)
       obtain⟨q,row,hrow,hrun⟩:=jU (ty:=ty) (old:=[]) (a:=none) h0 h1 ht hx IY hi hlen h2 hc e5 zy (λw _=>rfl)
       have FP:row=⟨new'++(Builtin.zeroCells zv.cells q).toList⟩:=Array.ext' (by simpa using hrow)
       refine⟨_,.cells row elem,⟨W.heap.size,0,(0+n+q)*i.size,i.size⟩,_,hrun,rfl,⟨rfl,rfl,rfl⟩,rfl,λβ' hle=>?_,λβ' hle e=>?_⟩
       ·rw[FP]
        refine xL hg h4 (h3.mono hle) ?_
        rw[<-h3.1,h5,zlen,Nat.zero_add,Nat.add_mul]
       ·exact lV ⟨⟨W.heap.size,0,(0+n+q)*i.size,i.size⟩,0+n+q,e,by simp,(λh=>by cases h),λ_=>⟨by omega,by simp⟩⟩
     |some y =>
      obtain⟨b,o⟩:=y
      obtain⟨m,c',e0,rfl,g1,g2⟩:=nY
      simp only[]
      cases e6:qU H b o (len*i.size)with
      |none=>trivial
      |some old =>
       simp only[]
       obtain⟨t',k,ty0,op0,lo,UG,hb,ho,rfl⟩:=rN e6
       have ha:alive H b:=(aH H b).2 (by rw[hb];simp)
       cases op with
       |false =>
        rw[au]
        have:=g1 rfl;subst this
        obtain⟨t2,wH,hg⟩:=bW (rP t' (len*i.size) o++new) elem (Nat.succ i.size)
        rw[wH]
        refine gA λp=>?_
        obtain⟨new',h2,h3,h4,h5⟩:=hnew p (λb hb=>.inl (by rw[aM];simp[hb]))
        obtain⟨m1,cs,fr,em,hm,k1,k2,k3,k3',k4,k5⟩:=eW p (.inl (by rw[aM,(aB b b).2 rfl];simp)) hb
        rw[e0]at em;cases em
        have hl:=jZ (sh:=m.sh) ho (by omega) k4
        have hone:=rV ho λj hj=>(k4 j hj).1
        obtain⟨q,row,hrow,hrun⟩:=jU (ty:=ty) (old:=rowOf cs (o+m.sh) (len*i.size)) (a:=some ⟨m.rb,o+m.sh,none⟩) h0 h1 ht hx IY hi hlen h2 hc e5 zy
         (λw hw'=>pE (by rw[hw'];exact hm) (by omega))
        have FP:row=⟨(rowOf cs (o+m.sh) (len*i.size)++new')++(Builtin.zeroCells zv.cells q).toList⟩:=Array.ext' (by simpa using hrow)
        refine⟨_,.cells row elem,⟨W.heap.size,0,(len+n+q)*i.size,i.size⟩,_,hrun,rfl,⟨rfl,rfl,rfl⟩,rfl,λβ' hle=>?_,λβ' hle e=>?_⟩
        ·rw[FP]
         refine xL hg (by rw[List.all_append,hone,h4];rfl) ((ak.append hl h3).mono hle) ?_
         rw[List.length_append,<-hl.1,<-h3.1,gP,h5,zlen,Nat.add_mul,Nat.add_mul]
        ·exact lV ⟨⟨W.heap.size,0,(len+n+q)*i.size,i.size⟩,len+n+q,e,by simp,(λh=>by cases h),λ_=>⟨by omega,by simp⟩⟩
       |true =>
        rw[aj,hb]
        simp only[]
        cases e7:(Nat.beq op0 (Nat.succ i.size)&&Nat.beq (o+cap*i.size) k&&Nat.beq ty0 elem&&(Nat.ble UG lo||Nat.ble o lo)&&iu (o+len*i.size) (n*i.size) lo UG)with
        |false=>rw[au];trivial
        |true =>
         rw[aj]
         simp only[Bool.and_eq_true,Bool.or_eq_true,beq_iff,aE]at e7
         obtain⟨⟨⟨⟨rfl,ek⟩,rfl⟩,hlo⟩,Z3⟩:=e7
         obtain⟨g3,g4⟩:=g2 rfl
         obtain⟨t2,wH,hg⟩:=bW (rP t' (len*i.size) o++new) ty0 (Nat.succ i.size)
         obtain⟨lo',hi',hfr,hlh⟩:∃ lo' hi',frB (Nat.blt UG lo) (lo-o) (UG-o) (.cells t2 (rP t' (len*i.size) o++new).length ty0 (Nat.succ i.size) 0 0) =
          .cells t2 (rP t' (len*i.size) o++new).length ty0 (Nat.succ i.size) lo' hi'/\((UG<lo/\hi'<lo')\/(lo<=UG/\lo'=lo-o/\hi'=UG-o)):=by
          cases e8:Nat.blt UG lo with
          |true=>exact⟨1,0,rfl,.inl ⟨(an _ _).1 e8,by omega⟩⟩
          |false =>
           have:¬ UG<lo:=λh=>by rw[(an _ _).2 h]at e8;cases e8
           exact⟨_,_,rfl,.inr ⟨by omega,rfl,rfl⟩⟩
         rw[wH,hfr,fG,cW,fS]
         split
         ·rename_i hn
          refine⟨GH hw ha hn,λp=>?_⟩
          obtain⟨new',h2,h3,h4,h5⟩:=hnew p (λb hb=>.inl hb)
          obtain⟨m1,cs,fr,em,hm,k1,k2,k3,k3',k4,k5⟩:=eW p (.inr ((aB b b).2 rfl)) hb
          rw[e0]at em;cases em
          have hl:=jZ (sh:=m.sh) ho (by omega) k4
          have hone:=rV ho λj hj=>(k4 j hj).1
          have UI:=k3' _ rfl
          have hf:β H.nx=none:=p.fresh _ (Nat.le_refl _) (by rw[aZ,cW];omega)
          have hall:(rP t' (len*i.size) o++new).all bQ=true:=by rw[List.all_append,hone,h4];rfl
          by_cases lz:len+n<=c'
          ·
           have hmul:=Nat.mul_le_mul_right i.size lz
           rw[Nat.add_mul]at hmul
           rw[UI]at g4
           have hfit:o+m.sh+len*i.size+new'.length<=m.tot:=by rw[<-h3.1,h5];omega
           have ag':=Aq Z3 k5 (by rw[<-h3.1,h5]at hfit;omega)
           have hst:=lW P m.rb ty0 fr (o+m.sh+len*i.size) new' 0 cs W hm (by omega) (NM h3 h4) (λj hj hj2=>ag' j (by omega) (by rw[<-h3.1,h5]at hj2;omega))
           rw[Nat.add_zero]at hst
           have hrun:=qd (ty:=ty) (a:=⟨m.rb,o+m.sh,none⟩) h0 h1 ht hx IY hi hlen h2 lz (by rw[add_eq];exact hst)
           let m':Bm:=⟨m.rb,m.sh+o,m.tot,m.Dz⟩
           have hle:Mp.le β (β.put H.nx m'):=Mp.nk m' hf
           refine⟨β.put H.nx m',_,_,hrun,lV ⟨m',c',Mp.dJ _ _ _,?_,(λh=>by cases h),λ_=>⟨lz,?_⟩⟩,OI hw ha e0 hm hn hf rfl ?_ p.dom⟩
           ·show Value.slice (some ⟨m.rb,o+m.sh,none⟩) (len+n) c'=Value.slice (some ⟨m.rb,0+(m.sh+o),none⟩) (len+n) c'
            rw[show 0+(m.sh+o)=o+m.sh from by omega]
           ·show 0+(m.sh+o)+c'*m.Dz=m.tot
            rw[UI];omega
           ·have abm:(rP t' (len*i.size) o++new).length=len*i.size+n*i.size:=by rw[List.length_append,gP,h5]
            refine⟨_,fr,rfl,by rw[uT];exact k1,?_,(λh=>by cases h),(λk h=>by cases h;exact UI),λj hj=>?_,?_⟩
            ·show m.sh+o+_<=m.tot
             rw[abm];rw[<-h3.1,h5]at hfit;omega
            ·have hv:(rP t' (len*i.size) o++new)[j]?=some (rP t' (len*i.size) o++new)[j]:=by simp[hj]
             rw[hg j _ hv]
             refine⟨List.all_eq_true.1 hall _ (List.getElem_mem hj),?_⟩
             show ∃ v',(putRow cs (o+m.sh+len*i.size) new')[m.sh+o+j]?=some v'/\_
             rw[qu _ _ _ _ (by omega)]
             rw[abm]at hj
             by_cases hj1:j<len*i.size
             ·rw[if_neg (by omega)]
              rw[List.getElem?_append_left (by rw[gP];exact hj1),rO _ _ _ _ hj1]at hv
              injection hv with hv
              rw[<-hv]
              obtain⟨_,v',ev,hr⟩:=k4 (o+j) (by omega)
              exact⟨v',by rw[show m.sh+o+j=m.sh+(o+j)from by omega];exact ev,hr.mono hle⟩
             ·rw[if_pos (by rw[<-h3.1,h5];omega)]
              rw[List.getElem?_append_right (by rw[gP];omega),gP]at hv
              obtain⟨v',ev,hr⟩:=h3.get hv
              exact⟨v',by rw[show m.sh+o+j-(o+m.sh+len*i.size)=j-len*i.size from by omega];exact ev,hr.mono hle⟩
            ·rcases hlh with⟨Z9,sL⟩|⟨Z9,rfl,rfl⟩
             ·rcases k5 with⟨h,_⟩|⟨_,h⟩|⟨h,_⟩
              ·omega
              ·exact .inr (.inl ⟨sL,h⟩)
              ·omega
             ·rcases k5 with⟨h,h'|⟨h1',h3',h2'⟩⟩|⟨h,_⟩|⟨h,h'⟩
              ·exact .inl ⟨by omega,.inl h'⟩
              ·refine .inl ⟨by omega,?_⟩
               rcases hlo with hlo|hlo
               ·exact .inl (by omega)
               ·exact .inr ⟨by show m.sh+o+(lo-o)<=fr.1;omega,h3',by show fr.2<=m.sh+o+(UG-o);omega⟩
              ·omega
              ·refine .inr (.inr ⟨by omega,?_⟩)
               show m.tot<UG-o
               omega
          ·have hc2:c'<len+n:=by omega
           obtain⟨q,row,hrow,hrun⟩:=jU (ty:=ty) (old:=rowOf cs (o+m.sh) (len*i.size)) (a:=some ⟨m.rb,o+m.sh,none⟩) h0 h1 ht hx IY hi hlen h2 hc2 e5 zy
            (λw hw'=>pE (by rw[hw'];exact hm) (by omega))
           have FP:row=⟨(rowOf cs (o+m.sh) (len*i.size)++new')++(Builtin.zeroCells zv.cells q).toList⟩:=Array.ext' (by simpa using hrow)
           have c1:=eJ hw .no ha
           have A7:(H.put b .no).room=true:=by rw[fS];exact hn
           have c2:Can (H.put b .no) ((H.put b .no).push (.cells t2 (rP t' (len*i.size) o++new).length ty0 (Nat.succ i.size) lo' hi')) 0:=fB A7
           let m':Bm:=⟨W.heap.size,0,(len+n+q)*i.size,i.size⟩
           have hle:Mp.le β (β.put H.nx m'):=Mp.nk m' hf
           have q1:=ER (W:=W) hw ha p.dom
           have Px:qa (β.put H.nx m') m' (.cells t2 (rP t' (len*i.size) o++new).length ty0 (Nat.succ i.size) lo' hi') (.cells row ty0):=by
            rw[FP]
            refine xL hg hall ((ak.append hl h3).mono hle) ?_
            rw[List.length_append,<-hl.1,<-h3.1,gP,h5,zlen,Nat.add_mul,Nat.add_mul]
           have q2:Post β (β.put H.nx m') (H.put b .no) ((H.put b .no).push (.cells t2 (rP t' (len*i.size) o++new).length ty0 (Nat.succ i.size) lo' hi')) 0 W (World.hJ W (.cells row ty0)):=by
            have:=iU (β:=β) (W:=W) (.cells t2 (rP t' (len*i.size) o++new).length ty0 (Nat.succ i.size) lo' hi') (.cells row ty0) m' A7 rfl (by rw[cW];exact hf) (by rw[cW];exact Px) p.dom
            rw[cW]at this
            exact this
           have p':Pre β H ((H.put b .no).push (.cells t2 (rP t' (len*i.size) o++new).length ty0 (Nat.succ i.size) lo' hi')) (Nat.lor r 0) (Nat.lor (bit b) 0) W:=by
            rw[show Nat.lor r 0=r from Nat.or_zero _,show Nat.lor (bit b) 0=bit b from Nat.or_zero _];exact p
           have hp:=Post.comp c1 c2 p' q1 q2
           rw[show Nat.lor (bit b) 0=bit b from Nat.or_zero _]at hp
           exact⟨β.put H.nx m',_,_,hrun,lV ⟨m',len+n+q,Mp.dJ _ _ _,by simp[m'],(λh=>by cases h),λ_=>⟨by omega,by simp[m']⟩⟩,hp.congr rfl ⟨rfl,rfl,rfl⟩⟩
         ·trivial
 ·trivial
end
end Go.Ev
end
noncomputable section
namespace Go.Ev
variable [lN]
section
variable {P:Program} {tb:Tb} (ok:dI P tb) {β:Mp} {H:Hp} {W:World} (hw:H.wf)
theorem xx {W:World} {rb:Nat} {cs:Array Value} {ty:TypeId} {fr:Nat×Nat} (h:W.heap[rb]?=some (.cells cs ty fr)):W.shape? rb=some (ty,cs.size):=by simp[World.shape?,h]
theorem vz {e:TypeId} (hc:P.cellsOf e=1) (count off n:Nat) (hn:off+n<=count):liesAt P P.depth e count off e n=true:=by
 have hd:P.depth=(2*(P.types.size+Made.depth)+1)+1:=rfl
 rw[hd]
 simp only[liesAt,Bool.or_eq_true]
 left
 rw[hd]
 simp[rowAt,hc,hn,sameLayout,Nat.mod_one]
theorem jT (w:World):∀ (l:List Int) (b off:Nat) (acc:ByteArray),(∀ (j:Nat) x,l[j]?=some x->w.cell? ⟨b,off+j,none⟩=some (.int .u8 x)) ->
 (loadBytes ⟨b,off,none⟩ acc l.length).run P w=.ok ⟨acc.data++(l.map λn=>UInt8.ofNat n.toNat).toArray⟩ w
 | [],b,off,acc,_=>by simp[loadBytes]
 |x::l,b,off,acc,h=>by
  have h0:w.cell? ⟨b,off,none⟩=some (.int .u8 x):=by have:=h 0 x rfl;simpa using this
  have ih:=jT w l b (off+1) (acc.push (UInt8.ofNat x.toNat)) (λj y hy=>by
   have:=h (j+1) y (by simpa using hy)
   rw[show off+1+j=off+(j+1)from by omega];exact this)
  have hx:x.toNat.toUInt8=UInt8.ofNat x.toNat:=rfl
  have ha:(⟨b,off,none⟩:Addr).add 1=⟨b,off+1,none⟩:=add_eq b off 1
  simp only[List.length_cons,loadBytes,Sem.run_bind,run_load,h0,Result.andThen,hx,ha]
  rw[ih]
  congr 1
  apply ByteArray.ext
  simp[ByteArray.push]
theorem pU (w:World) (pt:TypeId) (it:List TypeId) (ty e:TypeId) (hp:P.underlying pt=some (.pointer e)) (hc:P.cellsOf e=1) (g off cells:Nat) (hsh:w.shape? g=some (e,cells)) (l:List Int) (h0:l≠[]) (hn:off+l.length<=cells) (h63:l.length<=9223372036854775807)
 (hcell:∀ (j:Nat) x,l[j]?=some x->w.cell? ⟨g,off+j,none⟩=some (.int .u8 x)) :
 (Builtin.unsafeString_ ⟨pt::it⟩ ty #[.pointer (some ⟨g,off,none⟩),.int .i64 l.length]).run P w=.ok (.string ⟨(l.map λn=>UInt8.ofNat n.toNat).toArray⟩) (w.freeze ⟨g,off,none⟩ l.length):=by
 have hl:l.length≠0:=by simpa using h0
 have hlb:=jT (P:=P) w l g off .empty hcell
 have hlies:=vz (P:=P) hc (cells / P.cellsOf e) off l.length (by rw[hc];simpa using hn)
 have h63':¬ (9223372036854775807:Int)<(l.length:Int):=by omega
 have zQ:Builtin.unsafeString_ ⟨pt::it⟩ ty #[.pointer (some ⟨g,off,none⟩),.int .i64 l.length] =
  (do
   let n <-asInt (.int .i64 l.length)
   if n < 0 then runtimePanic (.error "unsafe.String: len out of range")
   if n > IntKind.i64.max then unsupported (.unsafePointer "String: a length above the largest int")
   if n=0 then pure (.string .empty)
   else if <-variablesAt ⟨g,off,none⟩ (<-elemOf pt) n.toNat then do
    let s <-loadBytes ⟨g,off,none⟩ .empty n.toNat
    freeze ⟨g,off,none⟩ n.toNat
    pure (.string s)
   else unsupported (.unsafePointer "String: not so many bytes at ptr")) := rfl
 rw[zQ]
 have UC:IntKind.i64.max=9223372036854775807:=rfl
 have hneg:¬ (l.length:Int)<0:=by omega
 simp[asInt,asIntOf,UC,h63',hneg,hl,variablesAt,hsh,elemOf,run_underlying hp,hlies,hlb]
theorem PO {W:World} {rb off n:Nat} {cs:Array Value} {ty:TypeId} {fr:Nat×Nat} (h:W.heap[rb]?=some (.cells cs ty fr)) (hn:n≠0) :
 W.freeze ⟨rb,off,none⟩ n=World.fj W rb (.cells cs ty (if fr.1==fr.2 then (off,off+n)else (min fr.1 off,max fr.2 (off+n)))):=by
 obtain⟨lo,hi⟩:=fr
 unfold World.freeze World.fj
 rw[if_neg hn]
 congr 1
 apply Array.ext_getElem?
 intro j
 rw[Array.getElem?_modify,Array.getElem?_setIfInBounds]
 have hrb:rb<W.heap.size:=by
  rcases Nat.lt_or_ge rb W.heap.size with h'|h'
  ·exact h'
  ·simp[Array.getElem?_eq_none h']at h
 by_cases hj:rb=j
 ·subst hj;rw[h];simp[hrb]
 ·simp[hj]
include hw
theorem Rw {src dst t:TypeId} {k:Nat} {v v':Value} (hs:P.underlying src=some (.pointer t)) (hd:P.underlying dst=some .unsafePointer) (ht:∃ i,P.info? t=some i/\i.size=k+1) (hv:ai β v v'):gl P β H W (convert src dst v') (Gh v H):=by
 unfold Gh
 cases e:eZ v with
 |none=>trivial
 |some x =>
  obtain⟨b,o⟩:=x
  have:=eD e;subst this
  cases hv with|ptr _ _ m0 e0 =>
  simp only[]
  split
  ·rename_i t' n ty op lo hi hb
   cases hlt:Nat.blt o n with
   |false=>trivial
   |true =>
    rw[aj]
    refine fu hw λp=>?_
    obtain⟨m,cs,fr,em,hm,h1,h2,_⟩:=eW p (.inl ((aB b b).2 rfl)) hb
    rw[e0]at em;cases em
    obtain⟨i,hi,hk⟩:=ht
    have:=(an _ _).1 hlt
    exact⟨_,Lib.run_to_unsafe W ⟨m0.rb,o+m0.sh,none⟩ hs hd hi (by omega) (xx hm) (by show o+m0.sh<cs.size;omega),.ptr b o m0 e0⟩
  ·trivial
omit hw in
theorem ID {ty n o:Nat}:∀ {l:List (Nat×Nat×Nat)},yj ty n o l=true->(ty,n,o)∈l:=by
 intro l
 induction l with
 |nil=>intro h;cases h
 |cons x l ih =>
  obtain⟨a,b,c⟩:=x
  intro h
  simp only[yj]at h
  cases hc:(Nat.beq a ty&&Nat.beq b n&&Nat.beq c o)with
  |true =>
   simp only[Bool.and_eq_true,beq_iff]at hc
   obtain⟨⟨rfl,rfl⟩,rfl⟩:=hc
   simp
  |false=>rw[hc,au]at h;simp[ih h]
include ok in
theorem ae8 {src dst u:TypeId} {k:Nat} {v v':Value} (hs:P.underlying src=some .unsafePointer) (hd:P.underlying dst=some (.pointer u)) (hu:∃ i,P.info? u=some i/\i.size=k+1) (hv:ai β v v'):gl P β H W (convert src dst v') (Gk (tb.CL u) v H):=by
 unfold Gk
 cases e:eZ v with
 |none=>trivial
 |some x =>
  obtain⟨b,o⟩:=x
  have:=eD e;subst this
  cases hv with|ptr _ _ m0 e0 =>
  simp only[]
  split
  ·rename_i t' n ty lo hi hb
   cases hl:yj ty n o (tb.CL u)with
   |false=>trivial
   |true =>
    rw[aj]
    refine fu hw λp=>?_
    obtain⟨m,cs,fr,em,hm,h1,h2,h3,_⟩:=eW p (.inl ((aB b b).2 rfl)) hb
    rw[e0]at em;cases em
    obtain⟨i,hi,hk⟩:=hu
    obtain⟨h4,h5⟩:=h3 rfl
    have hlies:=ok.CL u ty n o (ID hl)
    refine⟨_,Lib.run_from_unsafe W ⟨m0.rb,o+m0.sh,none⟩ hs hd hi (xx hm) ?_,.ptr b o m0 e0⟩
    show liesAt P P.depth ty (cs.size / P.cellsOf ty) (o+m0.sh) u 1=true
    rw[h4,h1,h5];exact hlies
  ·trivial
theorem ace {at_:Array TypeId} {ty:TypeId} {v v':Value} (hv:ai β v v'):gl P β H W (Builtin.unsafeSliceData_ at_ ty #[v']) (ve v H):=by
 unfold ve
 split
 ·rename_i l c op h
  obtain⟨_,rfl⟩:=rH h hv
  exact aD hw (v':=.pointer none) (Lib.run_unsafeSliceData_nil W at_ ty l c) .HU
 ·rename_i b o l c op h
  obtain⟨m,c',em,rfl,h1,h2⟩:=rH h hv
  cases hc:Nat.beq c 0 with
  |true=>trivial
  |false =>
   rw[au]
   have hc0:c≠0:=λe=>by rw[(beq_iff _ _).2 e]at hc;cases hc
   refine aD hw (v':=.pointer (some ⟨m.rb,o+m.sh,none⟩)) (Lib.run_unsafeSliceData_row W at_ ty ⟨m.rb,o+m.sh,none⟩ l c' ?_) (.ptr b o m em)
   cases op with
   |false=>rw[h1 rfl];exact hc0
   |true=>have:=(h2 rfl).1;omega
 ·trivial
omit hw in
theorem PL {m:Bm} {lo hi o n:Nat} {fr:Nat×Nat} (hle:lo<=hi) (h:Ag m lo hi fr):Ag m (lD lo hi o n).1 (lD lo hi o n).2 (if fr.1==fr.2 then (o+m.sh,o+m.sh+n)else (min fr.1 (o+m.sh),max fr.2 (o+m.sh+n))):=by
 by_cases h3:lo=0/\m.tot<hi
 ·have hb:Nat.ble hi lo=false:=by rw[BD];omega
  unfold lD
  rw[hb,au]
  have h4:Nat.min lo o=0:=by rw[h3.1];exact Nat.zero_min o
  have h5:hi<=Nat.max hi (o+n):=Nat.le_max_left _ _
  exact .inr (.inr ⟨h4,by show m.tot<Nat.max hi (o+n);omega⟩)
 have h':fr.1=fr.2\/(m.sh+lo<=fr.1/\fr.1<=fr.2/\fr.2<=m.sh+hi):=by
  rcases h with h|h|h
  ·exact h.2
  ·omega
  ·exact absurd h h3
 unfold lD
 left
 have hmin:Nat.min lo o<=o/\Nat.min lo o<=lo:=⟨Nat.min_le_right _ _,Nat.min_le_left _ _⟩
 have UC:o+n<=Nat.max hi (o+n)/\hi<=Nat.max hi (o+n):=⟨Nat.le_max_right _ _,Nat.le_max_left _ _⟩
 cases hb:Nat.ble hi lo with
 |true =>
  have:=(aE _ _).1 hb
  rw[aj]
  have he:fr.1=fr.2:=by omega
  simp only[he,beq_self_eq_true,if_true]
  omega
 |false =>
  rw[au]
  by_cases he:fr.1=fr.2
  ·simp only[he,beq_self_eq_true,if_true];omega
  ·have hne:(fr.1==fr.2)=false:=by simpa using he
   simp only[hne,Bool.false_eq_true,if_false]
   have:=h'.resolve_left he
   omega
omit hw in
theorem mX (W:World) (pt:TypeId) (it:List TypeId) (ty:TypeId) (p:Option Addr):(Builtin.unsafeString_ ⟨pt::it⟩ ty #[.pointer p,.int .i64 0]).run P W=.ok (.string .empty) W:=by
 have UC:IntKind.i64.max=9223372036854775807:=rfl
 cases p with
 |none =>
  have zQ:Builtin.unsafeString_ ⟨pt::it⟩ ty #[.pointer none,.int .i64 0] =
   (do
    let n <-asInt (.int .i64 0)
    if n < 0 then runtimePanic (.error "unsafe.String: len out of range")
    if n > IntKind.i64.max then unsupported (.unsafePointer "String: a length above the largest int")
    if n=0 then pure (.string .empty)
    else runtimePanic (.error "unsafe.String: ptr is nil and len is not zero")) := rfl
  rw[zQ]
  simp[asInt,asIntOf,UC]
 |some a =>
  have zQ:Builtin.unsafeString_ ⟨pt::it⟩ ty #[.pointer (some a),.int .i64 0] =
   (do
    let n <-asInt (.int .i64 0)
    if n < 0 then runtimePanic (.error "unsafe.String: len out of range")
    if n > IntKind.i64.max then unsupported (.unsafePointer "String: a length above the largest int")
    if n=0 then pure (.string .empty)
    else if <-variablesAt a (<-elemOf pt) n.toNat then do
     let s <-loadBytes a .empty n.toNat
     freeze a n.toNat
     pure (.string s)
    else unsupported (.unsafePointer "String: not so many bytes at ptr")) := rfl
  rw[zQ]
  simp[asInt,asIntOf,UC]
theorem XR {at_:Array TypeId} {pt e ty:TypeId} {p n p' n':Value} (hq:lN.Q β) (ha:at_[0]?=some pt) (hp:P.underlying pt=some (.pointer e)) (hc:P.cellsOf e=1) (hvp:ai β p p') (hvn:ai β n n'):gl P β H W (Builtin.unsafeString_ at_ ty #[p',n']) (yR e p n H):=by
 obtain⟨it,rfl⟩:∃ it,at_=⟨pt::it⟩:=by
  obtain⟨l⟩:=at_
  cases l with
  |nil=>simp at ha
  |cons x l=>simp at ha;subst ha;exact⟨l,rfl⟩
 unfold yR
 split
 ·rename_i z
  cases hvn
  cases ez:tZ z with
  |none=>trivial
  |some m =>
   have:=oC ez;subst this
   cases m with
   |zero =>
    simp only[]
    split
    ·rename_i a
     have:∃ a',p'=.pointer a':=by cases hvp<;>exact⟨_,rfl⟩
     obtain⟨a',rfl⟩:=this
     exact aD hw (v':=.string .empty) (mX W pt it ty a') (.string _)
    ·trivial
   |succ m =>
    simp only[]
    cases ep:eZ p with
    |none=>trivial
    |some x =>
     obtain⟨b,o⟩:=x
     have:=eD ep;subst this
     cases hvp with|ptr _ _ m0 e0 =>
     simp only[]
     split
     ·rename_i t k ty' op lo hi hb
      cases hcd:(Nat.beq ty' e&&Nat.ble (o+(m+1)) k&&Nat.ble lo hi&&Nat.ble k 1073741824)with
      |false=>trivial
      |true =>
       rw[aj]
       simp only[Bool.and_eq_true,beq_iff,aE]at hcd
       obtain⟨⟨⟨rfl,hok⟩,ahn⟩,hkk⟩:=hcd
       cases es:zD (rP t (m+1) o)with
       |none=>trivial
       |some s =>
        simp only[]
        have hal:alive H b:=(aH H b).2 (by rw[hb];simp)
        refine⟨eJ hw _ hal,λpp=>?_⟩
        obtain⟨mm,cs,fr,em,hm,h1,h2,h3,h3',h4,h5⟩:=eW pp (.inl ((aB b b).2 rfl)) hb
        rw[e0]at em;cases em
        have hl:=jZ (sh:=m0.sh) hok (by omega) h4
        obtain⟨s2,ns,_,h6,rfl,hv2⟩:=Ku hq hl es
        have hlen:ns.length=m+1:=by
         have h8:=congrArg List.length h6
         have h9:=hl.1
         rw[gP]at h9
         simp only[List.length_map]at h8
         omega
        have hcell:∀ (j:Nat) x,ns[j]?=some x->W.cell? ⟨m0.rb,o+m0.sh+j,none⟩=some (.int .u8 x):=by
         intro j x hx
         rw[cell_of hm]
         have hj:j<m+1:=by
          rcases Nat.lt_or_ge j ns.length with h|h
          ·omega
          ·rw[List.getElem?_eq_none h]at hx;cases hx
         have:=tO (cs:=cs) (p:=o+m0.sh) (k:=m+1) hj
         rw[<-this]
         have h7:(rowOf cs (o+m0.sh) (m+1))[j]?=(ns.map (Value.int .u8))[j]?:=by rw[h6]
         rw[h7];simp[hx]
        have hrun:=pU (P:=P) W pt it ty ty' hp hc m0.rb (o+m0.sh) cs.size (xx hm) ns (by intro h;rw[h]at hlen;simp at hlen) (by omega) (by omega) hcell
        rw[hlen,PO hm (by omega)]at hrun
        refine⟨β,_,_,hrun,hv2,?_⟩
        exact jm _ hw hal e0 hm ⟨cs,_,rfl,h1,h2,h3,h3',h4,PL (o:=o) (n:=m+1) ahn h5⟩ pp.dom
     ·trivial
 ·trivial
end
end Go.Ev
end
