/-
 A part of the reckoner for the statements of a Go program: what it answers,the model answers. Holds for every program whose tables are as given.
-/
import Derived.Calls
import Derived.Laws.Cells
import Derived.Laws.Sem
import Derived.Laws.StructEq
import Derived.Test.YtdmcanlbncbemaaGreatDoorG00
set_option linter.unusedSimpArgs false
set_option linter.unusedVariables false
set_option linter.unusedSectionVars false
set_option maxRecDepth 100000
set_option maxHeartbeats 8000000
noncomputable section
namespace Go.Ev
def D8.no (k:D8):Nat:=match k with|.d0=>0|.d1=>1|.d2=>2|.d3=>3|.d4=>4|.d5=>5|.d6=>6|.d7=>7
theorem abV (i:Nat):(dg i).no=i % 8:=by
 have:∀ m,m<8->∀ i,i % 8=m->(dg i).no=m:=by
  intro m hm i h
  have h':Nat.mod i 8=m:=h
  unfold dg
  rw[h']
  match m,hm with
  |0,_=>rfl
  |1,_=>rfl
  |2,_=>rfl
  |3,_=>rfl
  |4,_=>rfl
  |5,_=>rfl
  |6,_=>rfl
  |7,_=>rfl
  |n+8,h=>omega
 exact this _ (Nat.mod_lt _ (by decide)) i rfl
theorem pK {α:Type} (d:Nat) (x:Oc α (d+1)) (i:Nat):nw α (d+1) x i=nw α d (N8.KM (dg i) (Oc α d) x) (i / 8):=rfl
theorem OA {α:Type}:∀ (d:Nat) (x:Oc α d) (i:Nat) (v:α),i<8 ^ d->∃ y:Oc α d,(∀ (β:Type) (k:Oc α d->β),zE α β d x i v k=k y)/\∀ j,j<8 ^ d->nw α d y j=if j=i then v else nw α d x j:=by
 intro d
 induction d with
 |zero =>
  intro x i v hi
  refine⟨v,λβ k=>rfl,λj hj=>?_⟩
  rw[if_pos (by simp at hi hj;omega)];rfl
 |succ d ih =>
  intro x i v hi
  have hi':i / 8<8 ^ d:=by rw[Nat.pow_succ]at hi;omega
  have main:∀ (KM:N8 (Oc α d)->Oc α d) (upd:N8 (Oc α d)->Oc α d->N8 (Oc α d)),(∀ (β:Type) (k:N8 (Oc α d)->β),akY (dg i) α β (Oc α d) x (zE α β d) (i / 8) v k=zE α β d (KM x) (i / 8) v λy=>k (upd x y)) ->
   (∀ j y,N8.KM (dg j) (Oc α d) (upd x y)=if dg j=dg i then y else N8.KM (dg j) (Oc α d) x)->KM x=N8.KM (dg i) (Oc α d) x ->
   ∃ y:Oc α (d+1),(∀ (β:Type) (k:Oc α (d+1)->β),zE α β (d+1) x i v k=k y)/\∀ j,j<8 ^ (d+1)->nw α (d+1) y j=if j=i then v else nw α (d+1) x j:=by
   intro KM upd h1 h2 h3
   obtain⟨y,a,b⟩:=ih (KM x) (i / 8) v hi'
   refine⟨upd x y,λβ k=>(h1 β k).trans (a β _),λj hj=>?_⟩
   have hj':j / 8<8 ^ d:=by rw[Nat.pow_succ]at hj;omega
   show nw α d (N8.KM (dg j) (Oc α d) (upd x y)) (j / 8)=if j=i then v else nw α d (N8.KM (dg j) (Oc α d) x) (j / 8)
   rw[h2]
   have n1:=abV i
   have n2:=abV j
   by_cases e:dg j=dg i
   ·rw[if_pos e,b _ hj',h3,e]
    rw[e]at n2
    by_cases ej:j=i
    ·rw[if_pos ej,if_pos (by rw[ej])]
    ·rw[if_neg ej,if_neg (by omega)]
   ·rw[if_neg e,if_neg (by intro h;rw[h]at e;exact e rfl)]
  obtain⟨a,b,c,e,f,g,h,k⟩:=(x:N8 (Oc α d))
  cases hd:dg i with
  |d0=>rw[hd]at main;exact main (λx=>x.a0) (λx y=>{ x with a0:=y }) (λ_ _=>rfl) (λj y=>by cases dg j<;>rfl) rfl
  |d1=>rw[hd]at main;exact main (λx=>x.a1) (λx y=>{ x with a1:=y }) (λ_ _=>rfl) (λj y=>by cases dg j<;>rfl) rfl
  |d2=>rw[hd]at main;exact main (λx=>x.a2) (λx y=>{ x with a2:=y }) (λ_ _=>rfl) (λj y=>by cases dg j<;>rfl) rfl
  |d3=>rw[hd]at main;exact main (λx=>x.a3) (λx y=>{ x with a3:=y }) (λ_ _=>rfl) (λj y=>by cases dg j<;>rfl) rfl
  |d4=>rw[hd]at main;exact main (λx=>x.a4) (λx y=>{ x with a4:=y }) (λ_ _=>rfl) (λj y=>by cases dg j<;>rfl) rfl
  |d5=>rw[hd]at main;exact main (λx=>x.a5) (λx y=>{ x with a5:=y }) (λ_ _=>rfl) (λj y=>by cases dg j<;>rfl) rfl
  |d6=>rw[hd]at main;exact main (λx=>x.a6) (λx y=>{ x with a6:=y }) (λ_ _=>rfl) (λj y=>by cases dg j<;>rfl) rfl
  |d7=>rw[hd]at main;exact main (λx=>x.a7) (λx y=>{ x with a7:=y }) (λ_ _=>rfl) (λj y=>by cases dg j<;>rfl) rfl
theorem Pg {α:Type}:∀ (d:Nat) (x:Oc α d) (j:Nat),nw α (d+1) (oH α d x) j=nw α d x j:=by
 intro d
 induction d with
 |zero =>
  intro x j
  rw[pK]
  show N8.KM (dg j) α (⟨x,x,x,x,x,x,x,x⟩:N8 α)=x
  cases dg j<;>rfl
 |succ d ih =>
  intro x j
  obtain⟨a,b,c,e,f,g,h,k⟩:=(x:N8 (Oc α d))
  show nw α (d+1) (N8.KM (dg j) (Oc α (d+1)) (⟨oH α d a,oH α d b,oH α d c,oH α d e,oH α d f,oH α d g,oH α d h,oH α d k⟩:N8 (Oc α (d+1)))) (j / 8)=nw α d (N8.KM (dg j) (Oc α d) (⟨a,b,c,e,f,g,h,k⟩:N8 (Oc α d))) (j / 8)
  cases dg j<;>exact ih _ _
theorem T.Zd {α:Type} (d:Nat) (y:Oc α d) (j:Nat):(T.ofI d y).get j=nw α d y j:=by
 match d,y with
 |0,y=>rfl
 |1,y=>rfl
 |2,y=>rfl
 |3,y=>rfl
 |4,y=>rfl
 |5,y=>rfl
 |6,y=>rfl
 |n+7,y=>rfl
theorem T.Oy {α:Type}:∀ (n d:Nat) (x:Oc α d) (i j:Nat) (v:α),i<8 ^ (n+d)->j<8 ^ (n+d)->(T.iO α n d x i v).get j=if j=i then v else nw α d x j:=by
 intro n
 induction n with
 |zero =>
  intro d x i j v hi hj
  rw[Nat.zero_add]at hi hj
  obtain⟨y,a,b⟩:=OA d x i v hi
  show(zE α (T α) d x i v (T.ofI d)).get j=_
  rw[a,T.Zd,b j hj]
 |succ n ih =>
  intro d x i j v hi hj
  show(T.iO α n (d+1) (oH α d x) i v).get j=_
  rw[ih (d+1) _ i j v (by rwa [Nat.add_right_comm]at hi) (by rwa [Nat.add_right_comm]at hj),Pg]
theorem T.acZ {α:Type} (d:Nat) (t:T α) (i:Nat) (v:α):T.set d t i v=T.iO α (d-t.dep) t.dep t.oc i v:=by
 cases t with
 |tn dt x=>rfl
 |t0 a =>
  match d with
  |0=>rfl
  |1=>rfl
  |2=>rfl
  |3=>rfl
  |4=>rfl
  |5=>rfl
  |6=>rfl
  |n+7=>rfl
 |t1 x =>
  show s1 α x d i v=T.iO α (d-1) 1 x i v
  unfold s1
  show(@Nat.rec (λ_=>N8 α->Nat->Nat->α->T α) _ _ (d-1):N8 α->Nat->Nat->α->T α) x d i v=_
  cases d-1<;>rfl
 |t2 x =>
  show s2 α x d i v=T.iO α (d-2) 2 x i v
  unfold s2
  show(@Nat.rec (λ_=>N8 (N8 α)->Nat->Nat->α->T α) _ _ (d-2):N8 (N8 α)->Nat->Nat->α->T α) x d i v=_
  cases d-2<;>rfl
 |t3 x =>
  show s3 α x d i v=T.iO α (d-3) 3 x i v
  unfold s3
  show(@Nat.rec (λ_=>N8 (N8 (N8 α))->Nat->Nat->α->T α) _ _ (d-3):N8 (N8 (N8 α))->Nat->Nat->α->T α) x d i v=_
  cases d-3<;>rfl
 |t4 x =>
  show s4 α x d i v=T.iO α (d-4) 4 x i v
  unfold s4
  show(@Nat.rec (λ_=>N8 (N8 (N8 (N8 α)))->Nat->Nat->α->T α) _ _ (d-4):N8 (N8 (N8 (N8 α)))->Nat->Nat->α->T α) x d i v=_
  cases d-4<;>rfl
 |t5 x =>
  show s5 α x d i v=T.iO α (d-5) 5 x i v
  unfold s5
  show(@Nat.rec (λ_=>N8 (N8 (N8 (N8 (N8 α))))->Nat->Nat->α->T α) _ _ (d-5):N8 (N8 (N8 (N8 (N8 α))))->Nat->Nat->α->T α) x d i v=_
  cases d-5<;>rfl
 |t6 x =>
  show s6 α x d i v=T.iO α (d-6) 6 x i v
  unfold s6
  show(@Nat.rec (λ_=>N8 (N8 (N8 (N8 (N8 (N8 α)))))->Nat->Nat->α->T α) _ _ (d-6):N8 (N8 (N8 (N8 (N8 (N8 α)))))->Nat->Nat->α->T α) x d i v=_
  cases d-6<;>rfl
theorem T.aev {α:Type} (t:T α) (i:Nat):t.get i=nw α t.dep t.oc i:=by cases t<;>rfl
theorem T.ef {α:Type} (d:Nat) (t:T α) (i j:Nat) (v:α) (hi:i<8 ^ d) (hj:j<8 ^ d):(T.set d t i v).get j=if j=i then v else t.get j:=by
 have hp:8 ^ d<=8 ^ (d-t.dep+t.dep):=Nat.pow_le_pow_right (by decide) (by omega)
 rw[T.acZ,T.Oy _ _ _ _ _ _ (Nat.lt_of_lt_of_le hi hp) (Nat.lt_of_lt_of_le hj hp),T.aev]
structure Bm where
 rb:Nat
 sh:Nat
 tot:Nat
 Dz:Nat
abbrev Mp:=Nat->Option Bm
def Mp.le (β β':Mp):Prop:=∀ b m,β b=some m->β' b=some m
theorem Mp.le.refl (β:Mp):Mp.le β β:=λ_ _ h=>h
theorem Mp.le.trans {β β' β'':Mp} (h:Mp.le β β') (h':Mp.le β' β''):Mp.le β β'':=λb m e=>h' b m (h b m e)
def Mp.put (β:Mp) (b:Nat) (m:Bm):Mp:=λx=>if x=b then some m else β x
theorem Mp.dJ (β:Mp) (b:Nat) (m:Bm):β.put b m b=some m:=by simp[Mp.put]
theorem Mp.jV (β:Mp) {b x:Nat} (m:Bm) (h:x≠b):β.put b m x=β x:=by simp[Mp.put,h]
theorem Mp.nk {β:Mp} {b:Nat} (m:Bm) (h:β b=none):Mp.le β (β.put b m):=by
 intro x y e
 have:x≠b:=by rintro rfl;rw[h]at e;cases e
 rw[Mp.jV β m this];exact e
def afT (m:Bm) (o c c':Nat):Prop :=
 (c % 2=0->c'=c / 2)/\(c % 2=1->c / 2<=c'/\o+m.sh+c'*m.Dz=m.tot)
def SY:Nat:=1000000000000
def acy:Nat->Nat->List UInt8
 |0,_=>[]
 |k+1,n=>if n=0 then []else UInt8.ofNat ((n-1) % 256)::acy k ((n-1) / 256)
def RP (n:Nat):ByteArray:=⟨⟨acy n n⟩⟩
def Cp:List UInt8->Nat
 | []=>0
 |c::l=>1+c.toNat+256*Cp l
theorem Eh:∀ (l:List UInt8) (k:Nat),Cp l<=k->acy k (Cp l)=l
 | [],0,_=>rfl
 | [],k+1,_=>rfl
 |c::l,0,h=>by simp only[Cp]at h;omega
 |c::l,k+1,h=>by
  simp only[Cp]at h ⊢
  have hc:=c.toNat_lt
  show(if _ then _ else _)=_
  rw[if_neg (by omega),show(1+c.toNat+256*Cp l-1) % 256=c.toNat from by omega,show(1+c.toNat+256*Cp l-1) / 256=Cp l from by omega,Eh l k (by omega)]
  simp
def kn (s:ByteArray):Nat:=Cp s.data.toList
theorem Eg (s:ByteArray):RP (kn s)=s:=by
 unfold RP kn
 rw[Eh _ _ (Nat.le_refl _)]
def ikN:Nat->IntKind
 |0=>.i8|1=>.i16|2=>.i32|3=>.i64|4=>.u8|5=>.u16|6=>.u32|_=>.u64
def Pz (n t:Nat):Value:=if t=0 then .iface (n / 4294967296) (.agg ⟨[.pointer (some ⟨n / 65536 % 65536,n % 65536,none⟩)]⟩)else .complex .f64 n t
def RG (m:Bm) (v:Value):Prop:=(m.Dz=0/\v=.int .i64 (Int.ofNat m.sh))\/(m.Dz=1/\v=.int .i64 (Int.negSucc m.sh))\/(m.Dz=2/\v=.int .u8 (Int.ofNat m.sh))\/(m.Dz=3/\∃ k x,v=.int k x) \/
 (m.Dz=4/\(∀ b,v≠.bool b)/\bQ v=true/\v.cells = #[v])\/(m.Dz=5/\v=.string (j_ m.sh))\/(m.Dz=6/\v=.string (RP m.sh)) \/
 (8<=m.Dz/\v=.int (ikN ((m.Dz-8) / 2)) (if m.Dz % 2=0 then Int.ofNat m.sh else Int.negSucc m.sh))\/(m.Dz=7/\v=Pz m.sh m.tot)
theorem lU {m:Bm} {v:Value} (h:RG m v):(∀ b,v≠.bool b)/\bQ v=true/\v.cells = #[v]:=by
 have int:∀ k x,v=.int k x->(∀ b,v≠.bool b)/\bQ v=true/\v.cells = #[v]:=λk x e=>by subst e;exact⟨(λb h=>by cases h),rfl,rfl⟩
 rcases h with⟨_,h⟩|⟨_,h⟩|⟨_,h⟩|⟨_,k,x,h⟩|⟨_,h⟩|⟨_,h⟩|⟨_,h⟩|⟨_,h⟩|⟨_,h⟩
 ·exact int _ _ h
 ·exact int _ _ h
 ·exact int _ _ h
 ·exact int _ _ h
 ·exact h
 ·subst h;exact⟨(λb h=>by cases h),rfl,rfl⟩
 ·subst h;exact⟨(λb h=>by cases h),rfl,rfl⟩
 ·exact int _ _ h
 ·subst h;unfold Pz;split
  ·exact⟨(λb h=>by cases h),rfl,rfl⟩
  ·exact⟨(λb h=>by cases h),rfl,rfl⟩
inductive ai (β:Mp):Value->Value->Prop
 |bool (b:Bool):ai β (.bool b) (.bool b)
 |int (k:IntKind) (n:Int):ai β (.int k n) (.int k n)
 |float (k:FloatKind) (n:Nat):ai β (.float k n) (.float k n)
 |complex (k:FloatKind) (n m:Nat):ai β (.complex k n m) (.complex k n m)
 |string (s:ByteArray):ai β (.string s) (.string s)
 |HU:ai β (.pointer none) (.pointer none)
 |ptr (b o:Nat) (m:Bm) (h:β b=some m):ai β (.pointer (some ⟨b,o,none⟩)) (.pointer (some ⟨m.rb,o+m.sh,none⟩))
 |AA (l c:Nat):ai β (.slice none l c) (.slice none l c)
 |sl (b o l c c':Nat) (m:Bm) (h:β b=some m) (hc:afT m o c c'):ai β (.slice (some ⟨b,o,none⟩) l c) (.slice (some ⟨m.rb,o+m.sh,none⟩) l c')
 |slX (b o:Nat) (s:Nat) (a':Addr):ai β (.slice (some ⟨b,o,some s⟩) 0 0) (.slice (some a') 0 0)
 |TJ:ai β (.map none) (.map none)
 |map (b:Nat) (m:Bm) (h:β b=some m):ai β (.map (some b)) (.map (some m.rb))
 |func (f:FuncId) (as as' cs cs':List Value) (h1:as.length=as'.length) (h2:∀ (i:Nat) (v v':Value),as[i]?=some v->as'[i]?=some v'->ai β v v')
  (h3:cs.length=cs'.length) (h4:∀ (i:Nat) (v v':Value),cs[i]?=some v->cs'[i]?=some v'->ai β v v'):ai β (.func (.func f) ⟨as⟩ ⟨cs⟩) (.func (.func f) ⟨as'⟩ ⟨cs'⟩)
 |yield (l:Nat) (m:Bm) (h:β l=some m):ai β (.func (.yield l) #[] #[]) (.func (.yield m.rb) #[] #[])
 |nilFunc:ai β .nilFunc .nilFunc
 |iface (t:TypeId) (v v':Value) (h:ai β v v'):ai β (.iface t v) (.iface t v')
 |nilIface:ai β .nilIface .nilIface
 |agg (as as':List Value) (h0:as.all bQ=true) (h1:as.length=as'.length) (h2:∀ (i:Nat) (v v':Value),as[i]?=some v->as'[i]?=some v'->ai β v v'):ai β (.agg ⟨as⟩) (.agg ⟨as'⟩)
 |dead (v':Value) (h:∀ b,v'≠.bool b):ai β (.chan none) v'
 |sym (k:Nat) (m:Bm) (v':Value) (h:β (SY+k)=some m) (hv:RG m v'):ai β (.chan (some k)) v'
 |tuple (as as':List Value) (h1:as.length=as'.length) (h2:∀ (i:Nat) (v v':Value),as[i]?=some v->as'[i]?=some v'->ai β v v'):ai β (.tuple ⟨as⟩) (.tuple ⟨as'⟩)
def ak (β:Mp) (as as':List Value):Prop:=as.length=as'.length/\∀ (i:Nat) (v v':Value),as[i]?=some v->as'[i]?=some v'->ai β v v'
theorem ai.mono {β β':Mp} (h:Mp.le β β') {v v':Value} (hv:ai β v v'):ai β' v v':=by
 induction hv with
 |bool b=>exact .bool b
 |int k n=>exact .int k n
 |float k n=>exact .float k n
 |complex k n m=>exact .complex k n m
 |string s=>exact .string s
 |HU=>exact .HU
 |ptr b o m e=>exact .ptr b o m (h _ _ e)
 |AA l c=>exact .AA l c
 |sl b o l c c' m e hc=>exact .sl b o l c c' m (h _ _ e) hc
 |slX b o s a'=>exact .slX b o s a'
 |TJ=>exact .TJ
 |map b m e=>exact .map b m (h _ _ e)
 |func f as as' cs cs' h1 _ h3 _ i1 i2=>exact .func f as as' cs cs' h1 i1 h3 i2
 |yield l m e=>exact .yield l m (h _ _ e)
 |nilFunc=>exact .nilFunc
 |iface t v v' _ ih=>exact .iface t v v' ih
 |nilIface=>exact .nilIface
 |agg as as' h0 h1 _ i=>exact .agg as as' h0 h1 i
 |dead v' h=>exact .dead v' h
 |sym k m v' e hv=>exact .sym k m v' (h _ _ e) hv
 |tuple as as' h1 _ i=>exact .tuple as as' h1 i
theorem ak.mono {β β':Mp} (h:Mp.le β β') {l l':List Value} (hv:ak β l l'):ak β' l l':=⟨hv.1,λi v v' a b=>(hv.2 i v v' a b).mono h⟩
theorem ak.nil (β:Mp):ak β [] []:=⟨rfl,λi v v' h=>by simp at h⟩
theorem ak.cons {β:Mp} {v v':Value} {l l':List Value} (h:ai β v v') (hl:ak β l l'):ak β (v::l) (v'::l'):=by
 refine⟨by simp[hl.1],λi a b ha hb=>?_⟩
 cases i with
 |zero=>simp at ha hb;subst ha hb;exact h
 |succ i=>simp at ha hb;exact hl.2 i a b ha hb
theorem ak.cons_inv {β:Mp} {v:Value} {l ys:List Value} (h:ak β (v::l) ys):∃ v' l',ys=v'::l'/\ai β v v'/\ak β l l':=by
 cases ys with
 |nil=>have:=h.1;simp at this
 |cons v' l' =>
  refine⟨v',l',rfl,h.2 0 v v' rfl rfl,?_,λi a b ha hb=>h.2 (i+1) a b (by simpa using ha) (by simpa using hb)⟩
  have:=h.1;simpa using this
theorem ak.aL {β:Mp} {ys:List Value} (h:ak β [] ys):ys=[]:=by
 have:=h.1;cases ys with
 |nil=>rfl
 |cons=>simp at this
theorem ak.append {β:Mp} {a a' b b':List Value} (h:ak β a a') (h':ak β b b'):ak β (a++b) (a'++b'):=by
 induction a generalizing a' with
 |nil=>have:=h.aL;subst this;exact h'
 |cons x xs ih=>obtain⟨y,ys,rfl,hv,hl⟩:=h.cons_inv;exact ak.cons hv (ih hl)
theorem ak.drop {β:Mp} {a a':List Value} (n:Nat) (h:ak β a a'):ak β (a.drop n) (a'.drop n):=by
 refine⟨by simp[h.1],λi v v' ha hb=>?_⟩
 simp at ha hb
 exact h.2 _ v v' ha hb
theorem ak.take {β:Mp} {a a':List Value} (n:Nat) (h:ak β a a'):ak β (a.take n) (a'.take n):=by
 refine⟨by simp[h.1],λi v v' ha hb=>?_⟩
 by_cases hi:i<n
 ·rw[List.getElem?_take_of_lt hi]at ha hb;exact h.2 i v v' ha hb
 ·have:(a.take n)[i]?=none:=by simp;omega
  rw[this]at ha;cases ha
theorem ak.get {β:Mp} {a a':List Value} {i:Nat} {v:Value} (h:ak β a a') (e:a[i]?=some v):∃ v',a'[i]?=some v'/\ai β v v':=by
 have hi:i<a.length:=by
  rcases Nat.lt_or_ge i a.length with h|h
  ·exact h
  ·simp[List.getElem?_eq_none h]at e
 have hi':i<a'.length:=h.1▸hi
 exact⟨a'[i],by simp[hi'],h.2 i v a'[i] e (by simp[hi'])⟩
theorem ak.flatten {β:Mp} {a a':List Value} (h:ak β a a') (n:Nat):ak β (List.replicate n a).flatten (List.replicate n a').flatten:=by
 induction n with
 |zero=>exact ak.nil β
 |succ n ih=>simp only[List.replicate_succ,List.flatten_cons];exact ak.append h ih
theorem ai.flat (β:Mp):∀ (n:Nat) (v:Value),aW n v=true->ai β v v:=by
 intro n
 induction n with
 |zero=>intro v h;simp[aW]at h
 |succ n ih =>
  intro v h
  have gU:∀ l:List Value,l.all (aW n)=true->∀ (i:Nat) (v v':Value),l[i]?=some v->l[i]?=some v'->ai β v v':=by
   intro l hl i v v' a b
   rw[a]at b;cases b
   exact ih v (List.all_eq_true.1 hl v (List.mem_of_getElem? a))
  cases v with
  |bool b=>exact .bool b
  |int k n=>exact .int k n
  |float k n=>exact .float k n
  |complex k a b=>exact .complex k a b
  |string s=>exact .string s
  |pointer a=>cases a with
   |none=>exact .HU
   |some a=>simp[aW]at h
  |slice a l c=>cases a with
   |none=>exact .AA l c
   |some a=>simp[aW]at h
  |map a=>cases a with
   |none=>exact .TJ
   |some a=>simp[aW]at h
  |chan a=>simp[aW]at h
  |func fn a b=>cases fn with
   |func f =>
    simp[aW]at h
    obtain⟨ha,hb⟩:=h
    subst ha hb
    exact .func f [] [] [] [] rfl (λi v v' h=>by simp at h) rfl (λi v v' h=>by simp at h)
   |_=>simp[aW]at h
  |nilFunc=>exact .nilFunc
  |iface t v=>exact .iface t v v (ih v (by simpa [aW] using h))
  |nilIface=>exact .nilIface
  |agg a =>
   have h':a.toList.all (λv=>aW n v&&bQ v)=true:=by simpa [aW] using h
   rw[List.all_eq_true]at h'
   refine .agg a.toList a.toList (List.all_eq_true.2 λx hx=>?_) rfl (gU _ (List.all_eq_true.2 λx hx=>?_))
   ·have:=h' x hx;simp at this;exact this.2
   ·have:=h' x hx;simp at this;exact this.1
  |tuple a=>exact .tuple a.toList a.toList rfl (gU _ (by simpa [aW] using h))
def Ag (m:Bm) (lo hi:Nat) (fr:Nat×Nat):Prop :=
 (lo<=hi/\(fr.1=fr.2\/(m.sh+lo<=fr.1/\fr.1<=fr.2/\fr.2<=m.sh+hi)))\/(hi<lo/\(fr.1=fr.2\/m.tot<=fr.1))\/(lo=0/\m.tot<hi)
def QH (β:Mp) (e e':MapEntry):Prop:=ai β e.key e'.key/\ai β e.val e'.val/\e.born=e'.born
def gi (β:Mp) (es es':List MapEntry):Prop:=es.length=es'.length/\∀ (i:Nat) (e e':MapEntry),es[i]?=some e->es'[i]?=some e'->QH β e e'
def jc (β:Mp) (nt:Nat) (t:T Value) (tmps:Array Value):Prop :=
 tmps.size=nt/\∀ (i:Nat) (v:Value),tmps[i]?=some v->ai β (t.get i) v
def j5:List Nat->Nat
 | []=>0
 |x::xs=>2 ^ x*(2*j5 xs+1)
theorem pow_odd:∀ {x y a b:Nat},2 ^ x*(2*a+1)=2 ^ y*(2*b+1)->x=y/\a=b
 |0,0,a,b,h=>⟨rfl,by omega⟩
 |0,y+1,a,b,h=>by rw[Nat.pow_succ,Nat.mul_comm (2 ^ y) 2,Nat.mul_assoc]at h;omega
 |x+1,0,a,b,h=>by rw[Nat.pow_succ,Nat.mul_comm (2 ^ x) 2,Nat.mul_assoc]at h;omega
 |x+1,y+1,a,b,h=>by
  rw[Nat.pow_succ,Nat.pow_succ,Nat.mul_comm (2 ^ x) 2,Nat.mul_comm (2 ^ y) 2,Nat.mul_assoc,Nat.mul_assoc]at h
  obtain⟨h1,h2⟩:=pow_odd (x:=x) (y:=y) (a:=a) (b:=b) (by omega)
  exact⟨by omega,h2⟩
theorem Gs:∀ {l l':List Nat},j5 l=j5 l'->l=l'
 | [],[],_=>rfl
 | [],x::xs,h=>by
  have:0<2 ^ x*(2*j5 xs+1):=Nat.mul_pos (Nat.pow_pos (by decide)) (by omega)
  unfold j5 at h;omega
 |x::xs,[],h=>by
  have:0<2 ^ x*(2*j5 xs+1):=Nat.mul_pos (Nat.pow_pos (by decide)) (by omega)
  unfold j5 at h;omega
 |x::xs,y::ys,h=>by
  unfold j5 at h
  obtain⟨h1,h2⟩:=pow_odd h
  rw[h1,Gs h2]
def iZ:List Nat->List Value
 |0::n::r=>.int .i64 (.ofNat n)::iZ r
 |1::n::r=>.int .i64 (.negSucc n)::iZ r
 |2::r=>.bool false::iZ r
 |3::r=>.bool true::iZ r
 |4::r=>.string ⟨⟨[]⟩⟩::iZ r
 |5::r=>.slice none 0 0::iZ r
 |6::b::l::c::r=>.slice (some ⟨b,0,none⟩) l c::iZ r
 |_=>[]
def qa (β:Mp) (m:Bm):dB->Obj->Prop
 |.no,_=>True
 |.cells t n ty op lo hi,o=>∃ cs fr,o=.cells cs ty fr/\cs.size=m.tot/\m.sh+n<=m.tot/\(op=0->m.sh=0/\m.tot=n)/\(∀ k,op=k+1->m.Dz=k) /\
  (∀ i,i<n->bQ (t.get i)=true/\∃ v',cs[m.sh+i]?=some v'/\ai β (t.get i) v')/\Ag m lo hi fr
 |.obj (.map es c),o=>∃ es',o=.map es' c/\gi β es.toList es'.toList/\m.sh=0
 |.obj (.stringIter s p),o=>o=.stringIter s p/\m.sh=0
 |.obj (.mapIter none a b c),o=>o=.mapIter none a b c/\m.sh=0
 |.obj (.mapIter (some r) a b c),o=>∃ mr,β r=some mr/\o=.mapIter (some mr.rb) a b c/\m.sh=0
 |.obj (.deferred (some [])),o=>o=.deferred (some [])/\m.sh=0
 |.obj (.cells _ k _),o=>∃ mk ty l,β (SY+k)=some mk/\mk.sh=j5 (ty::l)/\(∃ fr:Nat×Nat,fr.1=fr.2/\o=.cells ⟨iZ l⟩ ty fr)/\m.rb+1=mk.tot/\m.sh=0/\m.tot=(iZ l).length
 |.obj _,_=>False
 |.loop rd pd nt t ps a b db,o=>∃ tmps fn md st,o=.loop { state:=st,pending:=pd,fn:=fn,tmps:=tmps,params:=ps.toArray,assign:=a,body:=b,defers:=md.rb } /\
  β db=some md/\jc β nt t tmps/\m.sh=0/\st=(if rd then .ready else if pd.isSome then .done else .busy)
class lN extends tf where
 Q:Mp->Prop
 A8:∀ {β:Mp},Q β->∀ (h:er) (l:List Value) (v:Value),hk h l=some v->∀ l':List Value,ak β l l'->∃ v',iW h l'=some v'/\ai β v v'
theorem QH.mono {β β':Mp} (h:Mp.le β β') {e e':MapEntry} (hv:QH β e e'):QH β' e e':=⟨hv.1.mono h,hv.2.1.mono h,hv.2.2⟩
theorem gi.mono {β β':Mp} (h:Mp.le β β') {l l':List MapEntry} (hv:gi β l l'):gi β' l l':=⟨hv.1,λi v v' a b=>(hv.2 i v v' a b).mono h⟩
theorem jc.mono {β β':Mp} (h:Mp.le β β') {nt:Nat} {t:T Value} {tmps:Array Value} (hv:jc β nt t tmps):jc β' nt t tmps:=⟨hv.1,λi v e=>(hv.2 i v e).mono h⟩
theorem qa.mono {β β':Mp} (h:Mp.le β β') {m:Bm} {x:dB} {o:Obj} (hx:qa β m x o):qa β' m x o:=by
 cases x with
 |no=>trivial
 |cells t n ty op lo hi =>
  obtain⟨cs,fr,h1,h2,h3,h4,h4',h5,h6⟩:=hx
  exact⟨cs,fr,h1,h2,h3,h4,h4',λi hi=>let ⟨c,v',a,b⟩:=h5 i hi;⟨c,v',a,b.mono h⟩,h6⟩
 |loop rd pd nt t ps a b db =>
  obtain⟨tmps,fn,md,st,h1,h2,h3,h4⟩:=hx
  exact⟨tmps,fn,md,st,h1,h _ _ h2,h3.mono h,h4⟩
 |obj o' =>
  cases o' with
  |map es c=>obtain⟨es',h1,h2,h3⟩:=hx;exact⟨es',h1,h2.mono h,h3⟩
  |stringIter s p=>exact hx
  |mapIter r a b c=>cases r with
   |none=>exact hx
   |some r=>obtain⟨mr,h1,h2⟩:=hx;exact⟨mr,h _ _ h1,h2⟩
  |deferred cs=>match cs,hx with
   |some [],hx=>exact hx
  |cells _ k _=>obtain⟨mk,ty,l,h1,h2⟩:=hx;exact⟨mk,ty,l,h _ _ h1,h2⟩
  |pending=>exact hx.elim
  |view=>exact hx.elim
  |number=>exact hx.elim
  |chan=>exact hx.elim
  |loop=>exact hx.elim
  |coro=>exact hx.elim
  |finalizers=>exact hx.elim
def alive (H:Hp) (b:Nat):Prop:=b<H.nx/\H.blk b≠.no
def fM (β:Mp) (W:World) (x:dB) (m:Bm):Prop:=∃ o,W.heap[m.rb]?=some o/\qa β m x o
def oe (r w b:Nat):Prop:=r.testBit b=true\/w.testBit b=true
def Hp.wf (H:Hp):Prop:=match H with|.mk _ n=>n<=32768|.fn _ _=>True
structure Can (H H':Hp) (w:Nat):Prop where
 wf:H'.wf
 mono:H.nx<=H'.nx
 keep:∀ b,b<H.nx->w.testBit b=false->H'.blk b=H.blk b
 He:∀ b,b<H.nx->w.testBit b=true->alive H b
structure Pre (β:Mp) (H H':Hp) (r w:Nat) (W:World):Prop where
 rel:∀ b,oe r w b->alive H b->∃ m,β b=some m/\fM β W (H.blk b) m
 inj:∀ b c mb mc,w.testBit b=true->oe r w c->alive H b->alive H c->β b=some mb->β c=some mc->mb.rb=mc.rb->b=c
 fresh:∀ b,H.nx<=b->b<H'.nx->β b=none
 dom:∀ b m,β b=some m->m.rb<W.heap.size
structure Post (β β':Mp) (H H':Hp) (w:Nat) (W W':World):Prop where
 le:Mp.le β β'
 only:∀ b m,β' b=some m->β b=none->H.nx<=b/\b<H'.nx
 rel:∀ b,(H.nx<=b\/w.testBit b=true)->alive H' b->∃ m,β' b=some m/\fM β' W' (H'.blk b) m
 frame:∀ rb o,W.heap[rb]?=some o->(∀ b m,b<H.nx->w.testBit b=true->β b=some m->m.rb≠rb)->W'.heap[rb]?=some o
 size:W.heap.size<=W'.heap.size
 dom:∀ b m,β' b=some m->m.rb<W'.heap.size
 new:∀ b m,H.nx<=b->β b=none->β' b=some m->W.heap.size<=m.rb\/∃ c mc,c<H.nx/\w.testBit c=true/\β c=some mc/\mc.rb=m.rb/\¬ alive H' c
 inj:∀ b c mb mc,(H.nx<=b\/w.testBit b=true)->(H.nx<=c\/w.testBit c=true)->alive H' b->alive H' c->β' b=some mb->β' c=some mc->mb.rb=mc.rb->b=c
 env:W'.os=W.os/\W'.tape=W.tape/\W'.output=W.output
theorem aM (a b i:Nat):(Nat.lor a b).testBit i=(a.testBit i||b.testBit i):=Nat.testBit_or a b i
theorem Can.refl {H:Hp} (hw:H.wf):Can H H 0:=⟨hw,Nat.le_refl _,λ_ _ _=>rfl,λb _ h=>by simp at h⟩
theorem Can.comp {H H1 H2:Hp} {w1 w2:Nat} (c1:Can H H1 w1) (c2:Can H1 H2 w2):Can H H2 (Nat.lor w1 w2):=by
 refine⟨c2.wf,Nat.le_trans c1.mono c2.mono,λb hb hw=>?_,λb hb hw=>?_⟩
 ·rw[aM]at hw;simp at hw
  rw[c2.keep b (Nat.lt_of_lt_of_le hb c1.mono) hw.2,c1.keep b hb hw.1]
 ·rw[aM]at hw;simp at hw
  by_cases h1:w1.testBit b=true
  ·exact c1.He b hb h1
  ·have h2:=hw.resolve_left h1
   have h3:=c2.He b (Nat.lt_of_lt_of_le hb c1.mono) h2
   exact⟨hb,by rw[<-c1.keep b hb (by simpa using h1)];exact h3.2⟩
theorem Can.dead {H H':Hp} {w:Nat} (c:Can H H' w) {b:Nat} (hb:b<H.nx) (h:¬ alive H b):¬ alive H' b:=by
 intro ha
 have hw:w.testBit b=false:=by
  cases e:w.testBit b with
  |false=>rfl
  |true=>exact absurd (c.He b hb e) h
 exact h ⟨hb,by rw[<-c.keep b hb hw];exact ha.2⟩
theorem Can.dh {H H':Hp} {w:Nat} (c:Can H H' w) {b:Nat} (hb:b<H.nx) (h:alive H' b):alive H b:=by
 by_cases e:alive H b
 ·exact e
 ·exact absurd h (c.dead hb e)
section
variable {β β1:Mp} {H H1 H2:Hp} {r1 r2 w1 w2:Nat} {W W1:World}
theorem yo {b:Nat} (h:oe r1 w1 b):oe (Nat.lor r1 r2) (Nat.lor w1 w2) b:=by
 unfold oe at *;rw[aM,aM];rcases h with h|h<;>simp[h]
theorem FN {b:Nat} (h:oe r2 w2 b):oe (Nat.lor r1 r2) (Nat.lor w1 w2) b:=by
 unfold oe at *;rw[aM,aM];rcases h with h|h<;>simp[h]
theorem qf {r w b:Nat} (h:w.testBit b=true):oe r w b:=Or.inr h
theorem Pre.first (c2:Can H1 H2 w2) (p:Pre β H H2 (Nat.lor r1 r2) (Nat.lor w1 w2) W):Pre β H H1 r1 w1 W :=
 ⟨λb hb ha=>p.rel b (yo hb) ha,λb c mb mc hb hc=>p.inj b c mb mc (by rw[aM,hb];rfl) (yo hc),λb h h'=>p.fresh b h (Nat.lt_of_lt_of_le h' c2.mono),p.dom⟩
theorem gr (p:Pre β H H2 (Nat.lor r1 r2) (Nat.lor w1 w2) W) (q:Post β β1 H H1 w1 W W1) {b:Nat} {m:Bm}
 (hs:oe (Nat.lor r1 r2) (Nat.lor w1 w2) b) (ha:alive H b) (e:β1 b=some m):β b=some m/\fM β W (H.blk b) m:=by
 obtain⟨m',h1,h2⟩:=p.rel b hs ha
 have:=q.le _ _ h1
 rw[e]at this;cases this
 exact⟨h1,h2⟩
theorem Mn (c1:Can H H1 w1) (hm:H1.nx<=H2.nx) (p:Pre β H H2 (Nat.lor r1 r2) (Nat.lor w1 w2) W) (q:Post β β1 H H1 w1 W W1) :
 ∀ b c mb mc,(H.nx<=b\/(Nat.lor w1 w2).testBit b=true)->(H.nx<=c\/oe (Nat.lor r1 r2) (Nat.lor w1 w2) c)->alive H1 b->alive H1 c ->
  β1 b=some mb->β1 c=some mc->mb.rb=mc.rb->b=c:=by
 have wl:∀ b,w1.testBit b=true->(Nat.lor w1 w2).testBit b=true:=λb h=>by rw[aM,h];rfl
 have cross:∀ b c mb mc,(H.nx<=b\/w1.testBit b=true)->c<H.nx->w1.testBit c=false->oe (Nat.lor r1 r2) (Nat.lor w1 w2) c->alive H1 b->alive H1 c ->
  β1 b=some mb->β1 c=some mc->mb.rb=mc.rb->b=c:=by
  intro b c mb mc hb hc kg hcs hab hac eb ec e
  have PC:=c1.dh hc hac
  obtain⟨ec',_⟩:=gr p q hcs PC ec
  by_cases D4:b<H.nx
  ·have zR:=hb.resolve_left (by omega)
   have UN:=c1.He b D4 zR
   have QM:oe (Nat.lor r1 r2) (Nat.lor w1 w2) b:=yo (qf zR)
   obtain⟨eb',_⟩:=gr p q QM UN eb
   exact p.inj b c mb mc (wl b zR) hcs UN PC eb' ec' e
  ·have ahA:H.nx<=b:=by omega
   have hbf:β b=none:=p.fresh b ahA (Nat.lt_of_lt_of_le hab.1 hm)
   rcases q.new b mb ahA hbf eb with h|⟨d,md,hd,wG,ed,erb,oN⟩
   ·have:=p.dom c mc ec';omega
   ·have:=p.inj d c md mc (wl d wG) hcs (c1.He d hd wG) PC ed ec' (by omega)
    subst this
    exact absurd hac oN
 intro b c mb mc hb hc hab hac eb ec e
 by_cases jK:H.nx<=b\/w1.testBit b=true
 ·by_cases hc1:H.nx<=c\/w1.testBit c=true
  ·exact q.inj b c mb mc jK hc1 hab hac eb ec e
  ·have uv:c<H.nx:=Nat.lt_of_not_le λh=>hc1 (.inl h)
   have kg:w1.testBit c=false:=by cases e:w1.testBit c with|false=>rfl|true=>exact absurd (.inr e) hc1
   exact cross b c mb mc jK uv kg (hc.resolve_left (by omega)) hab hac eb ec e
 ·have D4:b<H.nx:=Nat.lt_of_not_le λh=>jK (.inl h)
  have zR:w1.testBit b=false:=by cases e:w1.testBit b with|false=>rfl|true=>exact absurd (.inr e) jK
  have ahz:=hb.resolve_left (by omega)
  have QM:oe (Nat.lor r1 r2) (Nat.lor w1 w2) b:=qf ahz
  by_cases hc1:H.nx<=c\/w1.testBit c=true
  ·exact(cross c b mc mb hc1 D4 zR QM hac hab ec eb e.symm).symm
  ·have uv:c<H.nx:=Nat.lt_of_not_le λh=>hc1 (.inl h)
   have hcs:=hc.resolve_left (by omega)
   have UN:=c1.dh D4 hab
   have PC:=c1.dh uv hac
   exact p.inj b c mb mc ahz hcs UN PC (gr p q QM UN eb).1 (gr p q hcs PC ec).1 e
theorem Pre.second (c1:Can H H1 w1) (c2:Can H1 H2 w2) (p:Pre β H H2 (Nat.lor r1 r2) (Nat.lor w1 w2) W) (q:Post β β1 H H1 w1 W W1):Pre β1 H1 H2 r2 w2 W1:=by
 refine⟨λb hb ha=>?_,λb c mb mc hb hc=>Mn c1 c2.mono p q b c mb mc (.inr (by rw[aM,hb,Bool.or_true])) (.inr (FN hc)),λb h h'=>?_,q.dom⟩
 ·by_cases h1:H.nx<=b\/w1.testBit b=true
  ·exact q.rel b h1 ha
  ·have D4:b<H.nx:=Nat.lt_of_not_le λh=>h1 (.inl h)
   have zR:w1.testBit b=false:=by cases e:w1.testBit b with|false=>rfl|true=>exact absurd (.inr e) h1
   have PE:=c1.dh D4 ha
   obtain⟨m,e,o,ho,hr⟩:=p.rel b (FN hb) PE
   refine⟨m,q.le _ _ e,o,?_,?_⟩
   ·refine q.frame m.rb o ho λc mc hc kg ec he=>?_
    have:=p.inj c b mc m (by rw[aM,kg];rfl) (FN hb) (c1.He c hc kg) PE ec e he
    subst this;rw[zR]at kg;cases kg
   ·rw[c1.keep b D4 zR];exact hr.mono q.le
 ·cases e:β1 b with
  |none=>rfl
  |some m =>
   have hf:=p.fresh b (Nat.le_trans c1.mono h) h'
   have:=(q.only b m e hf).2
   omega
theorem Post.comp {β2:Mp} {W2:World} (c1:Can H H1 w1) (c2:Can H1 H2 w2) (p:Pre β H H2 (Nat.lor r1 r2) (Nat.lor w1 w2) W) (q:Post β β1 H H1 w1 W W1)
 (q2:Post β1 β2 H1 H2 w2 W1 W2):Post β β2 H H2 (Nat.lor w1 w2) W W2:=by
 have p2:=Pre.second c1 c2 p q
 have im:=Mn c1 c2.mono p q
 refine⟨q.le.trans q2.le,?_,?_,?_,Nat.le_trans q.size q2.size,q2.dom,?_,?_,⟨q2.env.1.trans q.env.1,q2.env.2.1.trans q.env.2.1,q2.env.2.2.trans q.env.2.2⟩⟩
 ·intro b m e h0
  cases e1:β1 b with
  |none=>have:=q2.only b m e e1;exact⟨Nat.le_trans c1.mono this.1,this.2⟩
  |some m1=>have:=q.only b m1 e1 h0;exact⟨this.1,Nat.lt_of_lt_of_le this.2 c2.mono⟩
 ·intro b hb ha
  by_cases h2:H1.nx<=b\/w2.testBit b=true
  ·exact q2.rel b h2 ha
  ·have D4:b<H1.nx:=Nat.lt_of_not_le λh=>h2 (.inl h)
   have zR:w2.testBit b=false:=by cases e:w2.testBit b with|false=>rfl|true=>exact absurd (.inr e) h2
   have tB:=c2.dh D4 ha
   have jK:H.nx<=b\/w1.testBit b=true:=by rw[aM]at hb;simpa [zR] using hb
   obtain⟨m,e,o,ho,hr⟩:=q.rel b jK tB
   refine⟨m,q2.le _ _ e,o,?_,?_⟩
   ·refine q2.frame m.rb o ho λc mc hc kg ec he=>?_
    have hbS:H.nx<=b\/oe (Nat.lor r1 r2) (Nat.lor w1 w2) b:=jK.imp id (λh=>yo (qf h))
    have:=im c b mc m (.inr (by rw[aM,kg,Bool.or_true])) hbS (c2.He c hc kg) tB ec e he
    subst this;rw[zR]at kg;cases kg
   ·rw[c2.keep b D4 zR];exact hr.mono q2.le
 ·intro rb o ho hno
  have f1:W1.heap[rb]?=some o:=q.frame rb o ho λb m hb hw e=>hno b m hb (by rw[aM];simp[hw]) e
  refine q2.frame rb o f1 λc mc hc kg ec=>?_
  by_cases uv:c<H.nx
  ·have PE:=c1.dh uv (c2.He c hc kg)
   exact hno c mc uv (by rw[aM];simp[kg]) (gr p q (FN (qf kg)) PE ec).1
  ·have hcf:β c=none:=p.fresh c (by omega) (Nat.lt_of_lt_of_le hc c2.mono)
   rcases q.new c mc (by omega) hcf ec with h|⟨d,md,hd,wG,ed,erb,_⟩
   ·intro he
    have:rb<W.heap.size:=by
     rcases Nat.lt_or_ge rb W.heap.size with h|h
     ·exact h
     ·simp[Array.getElem?_eq_none h]at ho
    omega
   ·intro he
    exact hno d md hd (by rw[aM];simp[wG]) ed (by omega)
 ·intro b m hb h0 e
  cases e1:β1 b with
  |some m1 =>
   have:=q2.le _ _ e1;rw[e]at this;cases this
   rcases q.new b m hb h0 e1 with h|⟨c,mc,hc,kg,ec,erb,oN⟩
   ·exact .inl h
   ·exact .inr ⟨c,mc,hc,by rw[aM];simp[kg],ec,erb,c2.dead (Nat.lt_of_lt_of_le hc c1.mono) oN⟩
  |none =>
   have hbb:=(q2.only b m e e1)
   rcases q2.new b m hbb.1 e1 e with h|⟨c,mc,hc,kg,ec,erb,oN⟩
   ·exact .inl (Nat.le_trans q.size h)
   ·by_cases uv:c<H.nx
    ·have PE:=c1.dh uv (c2.He c hc kg)
     exact .inr ⟨c,mc,uv,by rw[aM];simp[kg],(gr p q (FN (qf kg)) PE ec).1,erb,oN⟩
    ·have hcf:β c=none:=p.fresh c (by omega) (Nat.lt_of_lt_of_le hc c2.mono)
     rcases q.new c mc (by omega) hcf ec with h|⟨d,md,hd,wG,ed,erb',aeo⟩
     ·exact .inl (by omega)
     ·exact .inr ⟨d,md,hd,by rw[aM];simp[wG],ed,by omega,c2.dead (Nat.lt_of_lt_of_le hd c1.mono) aeo⟩
 ·
  have cross:∀ b c mb mc,(H1.nx<=b\/w2.testBit b=true)->c<H1.nx->w2.testBit c=false->(H.nx<=c\/w1.testBit c=true)->alive H2 b->alive H2 c ->
   β2 b=some mb->β2 c=some mc->mb.rb=mc.rb->b=c:=by
   intro b c mb mc hb hc kg hc1 hab hac eb ec e
   have PD:=c2.dh hc hac
   obtain⟨mc',ec',_⟩:=q.rel c hc1 PD
   have:=q2.le _ _ ec';rw[ec]at this;cases this
   have hcS:H.nx<=c\/oe (Nat.lor r1 r2) (Nat.lor w1 w2) c:=hc1.imp id (λh=>yo (qf h))
   by_cases D4:b<H1.nx
   ·have zR:=hb.resolve_left (by omega)
    have UO:=c2.He b D4 zR
    obtain⟨mb',eb',_⟩:=p2.rel b (qf zR) UO
    have:=q2.le _ _ eb';rw[eb]at this;cases this
    exact im b c mb mc (.inr (by rw[aM,zR,Bool.or_true])) hcS UO PD eb' ec' e
   ·have hbf:β1 b=none:=p2.fresh b (by omega) hab.1
    rcases q2.new b mb (by omega) hbf eb with h|⟨d,md,hd,wG,ed,erb,oN⟩
    ·have:=q.dom c mc ec';omega
    ·have:=im d c md mc (.inr (by rw[aM,wG,Bool.or_true])) hcS (c2.He d hd wG) PD ed ec' (by omega)
     subst this;exact absurd hac oN
  intro b c mb mc hb hc hab hac eb ec e
  by_cases wH:H1.nx<=b\/w2.testBit b=true
  ·by_cases hc2:H1.nx<=c\/w2.testBit c=true
   ·exact q2.inj b c mb mc wH hc2 hab hac eb ec e
   ·have uv:c<H1.nx:=Nat.lt_of_not_le λh=>hc2 (.inl h)
    have kg:w2.testBit c=false:=by cases e:w2.testBit c with|false=>rfl|true=>exact absurd (.inr e) hc2
    exact cross b c mb mc wH uv kg (by rw[aM]at hc;simpa [kg] using hc) hab hac eb ec e
  ·have D4:b<H1.nx:=Nat.lt_of_not_le λh=>wH (.inl h)
   have zR:w2.testBit b=false:=by cases e:w2.testBit b with|false=>rfl|true=>exact absurd (.inr e) wH
   have jK:H.nx<=b\/w1.testBit b=true:=by rw[aM]at hb;simpa [zR] using hb
   by_cases hc2:H1.nx<=c\/w2.testBit c=true
   ·exact(cross c b mc mb hc2 D4 zR jK hac hab ec eb e.symm).symm
   ·have uv:c<H1.nx:=Nat.lt_of_not_le λh=>hc2 (.inl h)
    have kg:w2.testBit c=false:=by cases e:w2.testBit c with|false=>rfl|true=>exact absurd (.inr e) hc2
    have hc1:H.nx<=c\/w1.testBit c=true:=by rw[aM]at hc;simpa [kg] using hc
    have UO:=c2.dh D4 hab
    have PD:=c2.dh uv hac
    obtain⟨mb',eb',_⟩:=q.rel b jK UO
    obtain⟨mc',ec',_⟩:=q.rel c hc1 PD
    have:=q2.le _ _ eb';rw[eb]at this;cases this
    have:=q2.le _ _ ec';rw[ec]at this;cases this
    exact q.inj b c mb mc jK hc1 UO PD eb' ec' e
end
theorem Post.refl {β:Mp} {H:Hp} {W:World} (hd:∀ b m,β b=some m->m.rb<W.heap.size):Post β β H H 0 W W:=by
 refine⟨Mp.le.refl _,λb m h h'=>?_,λb hb ha=>?_,λrb o h _=>h,Nat.le_refl _,hd,λb m _ h h'=>?_,λb c mb mc hb hc ha _ _ _ _=>?_,⟨rfl,rfl,rfl⟩⟩
 ·rw[h']at h;cases h
 ·rcases hb with h|h
  ·have:=ha.1;omega
  ·simp at h
 ·rw[h]at h';cases h'
 ·rcases hb with h|h
  ·have:=ha.1;omega
  ·simp at h
theorem add_eq (b o n:Nat):(⟨b,o,none⟩:Addr).add n=⟨b,o+n,none⟩:=by
 unfold Addr.add;split
 ·rename_i h;subst h;rfl
 ·rfl
theorem cell_of {W:World} {rb:Nat} {cs:Array Value} {ty:TypeId} {fr:Nat×Nat} (h:W.heap[rb]?=some (.cells cs ty fr)) (i:Nat) :
 W.cell? ⟨rb,i,none⟩=cs[i]?:=by simp[World.cell?,h]
theorem PK {W:World} {rb:Nat} {cs:Array Value} {ty:TypeId} {fr:Nat×Nat} (h:W.heap[rb]?=some (.cells cs ty fr)) (i:Nat) :
 W.frozen? ⟨rb,i,none⟩=(decide (fr.1<=i)&&decide (i<fr.2)):=by
 obtain⟨a,b⟩:=fr
 simp[World.frozen?,h]
def putRow (cs:Array Value) (p:Nat):List Value->Array Value
 | []=>cs
 |v::r=>putRow (cs.setIfInBounds p v) (p+1) r
theorem uT (cs:Array Value) (p:Nat) (vs:List Value):(putRow cs p vs).size=cs.size:=by
 induction vs generalizing cs p with
 |nil=>rfl
 |cons v r ih=>simp[putRow,ih]
theorem qu (cs:Array Value) (p:Nat) (vs:List Value) (i:Nat) (hp:p+vs.length<=cs.size) :
 (putRow cs p vs)[i]?=if p<=i/\i<p+vs.length then vs[i-p]? else cs[i]?:=by
 induction vs generalizing cs p with
 |nil=>simp[putRow];intro h1 h2;omega
 |cons v r ih =>
  simp only[putRow]
  rw[ih _ _ (by simp at hp ⊢;omega)]
  simp only[List.length_cons]at hp ⊢
  by_cases h1:p+1<=i/\i<p+1+r.length
  ·rw[if_pos h1,if_pos (by omega)]
   have:i-p=(i-(p+1))+1:=by omega
   rw[this,List.getElem?_cons_succ]
  ·rw[if_neg h1]
   by_cases h2:i=p
   ·subst h2
    rw[if_pos (by omega)]
    simp[Array.getElem?_setIfInBounds]
    omega
   ·rw[if_neg (by omega),Array.getElem?_setIfInBounds_ne (by omega)]
def World.fj (W:World) (rb:Nat) (o:Obj):World:={ W with heap:=W.heap.setIfInBounds rb o }
theorem tL {W:World} {rb:Nat} {o o':Obj} (h:W.heap[rb]?=some o):(World.fj W rb o').heap[rb]?=some o':=by
 have:rb<W.heap.size:=by
  rcases Nat.lt_or_ge rb W.heap.size with h'|h'
  ·exact h'
  ·simp[Array.getElem?_eq_none h']at h
 simp[World.fj,this]
theorem KL {W:World} {rb x:Nat} {o':Obj} (h:x≠rb):(World.fj W rb o').heap[x]?=W.heap[x]?:=by
 simp[World.fj,Array.getElem?_setIfInBounds_ne (Ne.symm h)]
theorem pz (W:World) (rb:Nat) (o':Obj):(World.fj W rb o').heap.size=W.heap.size:=by simp[World.fj]
theorem setCell_eq {W:World} {rb i:Nat} {cs:Array Value} {ty:TypeId} {fr:Nat×Nat} (h:W.heap[rb]?=some (.cells cs ty fr)) (v:Value) :
 W.setCell ⟨rb,i,none⟩ v=World.fj W rb (.cells (cs.setIfInBounds i v) ty fr):=by
 unfold World.setCell World.fj
 congr 1
 apply Array.ext_getElem?
 intro j
 rw[Array.getElem?_modify,Array.getElem?_setIfInBounds]
 have hrb:rb<W.heap.size:=by
  rcases Nat.lt_or_ge rb W.heap.size with h'|h'
  ·exact h'
  ·simp[Array.getElem?_eq_none h']at h
 by_cases hj:rb=j
 ·subst hj;rw[h];simp[hrb]
 ·simp[hj]
theorem OB (W:World) (rb:Nat) (o o':Obj):World.fj (World.fj W rb o) rb o'=World.fj W rb o':=by
 simp[World.fj]
theorem AD {W:World} {rb:Nat} {o:Obj} (h:W.heap[rb]?=some o):World.fj W rb o=W:=by
 unfold World.fj
 have:W.heap.setIfInBounds rb o=W.heap:=by
  apply Array.ext_getElem?
  intro j
  rw[Array.getElem?_setIfInBounds]
  have hrb:rb<W.heap.size:=by
   rcases Nat.lt_or_ge rb W.heap.size with h'|h'
   ·exact h'
   ·simp[Array.getElem?_eq_none h']at h
  by_cases hj:rb=j
  ·subst hj;rw[h];simp[hrb]
  ·simp[hj]
 rw[this]
theorem lW (P:Program) (rb:Nat) (ty:TypeId) (fr:Nat×Nat) (off:Nat):∀ (vs:List Value) (i:Nat) (cs:Array Value) (W:World),
 W.heap[rb]?=some (.cells cs ty fr)->off+i+vs.length<=cs.size->(∀ v∈vs,bQ v=true)->(∀ j,off+i<=j->j<off+i+vs.length->¬ (fr.1<=j/\j<fr.2)) ->
 (storeCells ⟨rb,off,none⟩ vs i).run P W=.ok () (World.fj W rb (.cells (putRow cs (off+i) vs) ty fr)):=by
 intro vs
 induction vs with
 |nil=>intro i cs W h _ _ _;simp[storeCells,putRow,AD h]
 |cons v r ih =>
  intro i cs W h hs h1 hf
  have hv:=h1 v (by simp)
  have hc:W.cell? ⟨rb,off+i,none⟩=some (cs[off+i]'(by simp at hs;omega)):=by rw[cell_of h];simp
  have hfz:W.frozen? ⟨rb,off+i,none⟩=false:=by
   rw[PK h]
   have:=hf (off+i) (Nat.le_refl _) (by simp)
   simp only[Bool.and_eq_false_iff,decide_eq_false_iff_not]
   omega
  have hst:(store (⟨rb,off+i,none⟩:Addr) v).run P W=.ok () (World.fj W rb (.cells (cs.setIfInBounds (off+i) v) ty fr)):=by
   cases v<;>simp[bQ]at hv<;>simp[store,Sem.run,hc,hfz,setCell_eq h]
  simp only[storeCells,add_eq,Sem.run_bind,hst,Result.andThen_ok]
  have ih':=ih (i+1) (cs.setIfInBounds (off+i) v) (World.fj W rb (.cells (cs.setIfInBounds (off+i) v) ty fr)) (tL h)
   (by simp at hs ⊢;omega) (λx hx=>h1 x (by simp[hx])) (λj a b=>hf j (by omega) (by simp;omega))
  rw[ih',OB]
  simp[putRow,Nat.add_assoc]
theorem vp (P:Program) {W:World} {rb off:Nat} {cs:Array Value} {ty:TypeId} {fr:Nat×Nat} (h:W.heap[rb]?=some (.cells cs ty fr)) (vs:List Value)
 (hv:∀ (j:Nat) (v:Value),vs[j]?=some v->cs[off+j]?=some v):(loadCells ⟨rb,off,none⟩ vs.length).run P W=.ok vs.toArray W:=by
 refine run_loadCells_list W _ vs λj v e=>?_
 rw[add_eq,cell_of h];exact hv j v e
theorem GL (b c:Nat):(bit b).testBit c=decide (b=c):=by
 have:bit b=2 ^ b:=by show(1:Nat) <<< b=_;exact Nat.one_shiftLeft b
 rw[this,Nat.testBit_two_pow]
theorem aB (b c:Nat):(bit b).testBit c=true↔c=b:=by rw[GL];simp;exact eq_comm
theorem cW (H:Hp) (b:Nat) (x:dB):(H.put b x).nx=H.nx:=by cases H<;>rfl
theorem iD (t:T dB) (n c:Nat):(Hp.mk t n).blk c=if c<n then t.get c else .no:=by
 show Bc (Nat.blt c n) _ _=_
 by_cases h:c<n
 ·have e:Nat.blt c n=true:=by rw[Nat.blt_eq];exact h
  rw[e,if_pos h];rfl
 ·have e:Nat.blt c n=false:=by
   cases e:Nat.blt c n with
   |false=>rfl
   |true=>rw[Nat.blt_eq]at e;exact absurd e h
  rw[e,if_neg h];rfl
theorem jA (f:Nat->dB) (n c:Nat):(Hp.fn f n).blk c=if c<n then f c else .no:=by
 show Bc (Nat.blt c n) _ _=_
 by_cases h:c<n
 ·have e:Nat.blt c n=true:=by rw[Nat.blt_eq];exact h
  rw[e,if_pos h];rfl
 ·have e:Nat.blt c n=false:=by
   cases e:Nat.blt c n with
   |false=>rfl
   |true=>rw[Nat.blt_eq]at e;exact absurd e h
  rw[e,if_neg h];rfl
theorem W4 {α:Type} (c b:Nat) (x y:α):Bc (Nat.beq c b) x y=if c=b then x else y:=by
 by_cases h:c=b
 ·subst h;rw[if_pos rfl,show Nat.beq c c=true from Nat.beq_refl c];rfl
 ·rw[if_neg h]
  have e:Nat.beq c b=false:=by
   cases e:Nat.beq c b with
   |false=>rfl
   |true=>rw[Nat.beq_eq]at e;exact absurd e h
  rw[e];rfl
theorem aH (H:Hp) (b:Nat):alive H b↔H.blk b≠.no:=by
 refine⟨λh=>h.2,λh=>⟨?_,h⟩⟩
 cases H with
 |mk t n =>
  rw[iD]at h
  split at h
  ·assumption
  ·exact absurd rfl h
 |fn f n =>
  rw[jA]at h
  split at h
  ·assumption
  ·exact absurd rfl h
theorem jh {H:Hp} {b:Nat} (x:dB) (hw:H.wf) (hb:b<H.nx) (c:Nat):(H.put b x).blk c=if c=b then x else H.blk c:=by
 cases H with
 |mk t n =>
  have hn:n<=32768:=hw
  have hb':b<n:=hb
  show(Hp.mk (T.set 5 t b x) n).blk c=_
  rw[iD,iD]
  by_cases hc:c<n
  ·rw[if_pos hc,if_pos hc,T.ef 5 t b c x (by omega) (by omega)]
  ·rw[if_neg hc,if_neg hc,if_neg (by omega)]
 |fn f n =>
  have hb':b<n:=hb
  show(Hp.fn (λc=>Bc (Nat.beq c b) x (f c)) n).blk c=_
  rw[jA,jA]
  by_cases hc:c<n
  ·rw[if_pos hc,if_pos hc,W4]
  ·rw[if_neg hc,if_neg hc,if_neg (by omega)]
theorem aZ (H:Hp) (x:dB):(H.push x).nx=H.nx+1:=by cases H<;>rfl
theorem KP {t:T dB} {n:Nat} (h:(Hp.mk t n).room=true):n<32768:=by
 have:Nat.blt n 32768=true:=h
 rwa [Nat.blt_eq]at this
theorem fS (H:Hp) (b:Nat) (x:dB):(H.put b x).room=H.room:=by cases H<;>rfl
theorem gf {H:Hp} (x:dB) (hb:H.room=true) (c:Nat):(H.push x).blk c=if c=H.nx then x else H.blk c:=by
 cases H with
 |mk t n =>
  have hn:n<32768:=KP hb
  show(Hp.mk (T.set 5 t n x) (n+1)).blk c=if c=n then x else _
  rw[iD,iD]
  by_cases hc:c<n+1
  ·rw[if_pos hc,T.ef 5 t n c x (by omega) (by omega)]
   by_cases h:c=n
   ·simp[h]
   ·rw[if_neg h,if_neg h,if_pos (by omega)]
  ·rw[if_neg hc,if_neg (by omega),if_neg (by omega)]
 |fn f n =>
  show(Hp.fn (λc=>Bc (Nat.beq c n) x (f c)) (n+1)).blk c=if c=n then x else _
  rw[jA,jA,W4]
  by_cases hc:c<n+1
  ·rw[if_pos hc]
   by_cases h:c=n
   ·simp[h]
   ·rw[if_neg h,if_neg h,if_pos (by omega)]
  ·rw[if_neg hc,if_neg (by omega),if_neg (by omega)]
theorem fG (x:dB) (H:Hp) (f:Nat->Value) (r w:Nat):aS x H f r w=if H.room=true then .val (f H.nx) (H.push x) r w else .fail:=by
 cases H with
 |mk t n =>
  show Bc (Nat.blt n 32768) _ _=if Nat.blt n 32768=true then _ else _
  cases Nat.blt n 32768<;>rfl
 |fn g n=>rfl
theorem ab' {H:Hp} (h:H.wf) (b:Nat) (x:dB):(H.put b x).wf:=by cases H<;>exact h
theorem XQ {H:Hp} (h:H.room=true) (x:dB):(H.push x).wf:=by
 cases H with
 |mk t n=>exact KP h
 |fn f n=>trivial
theorem eJ {H:Hp} (hw:H.wf) {b:Nat} (x:dB) (ha:alive H b):Can H (H.put b x) (bit b):=by
 refine⟨ab' hw b x,by rw[cW];exact Nat.le_refl _,λc hc h=>?_,λc hc h=>?_⟩
 ·rw[jh x hw ha.1]
  have:c≠b:=by rintro rfl;rw[GL]at h;simp at h
  simp[this]
 ·rw[aB]at h;subst h;exact ha
theorem fB {H:Hp} {x:dB} (h:H.room=true):Can H (H.push x) 0:=by
 refine⟨XQ h x,by rw[aZ];omega,λc hc _=>?_,λc hc h=>by simp at h⟩
 rw[gf x h]
 simp;omega
theorem jm {β:Mp} {H:Hp} {W:World} {b:Nat} {m:Bm} {o o':Obj} (x:dB) (hw:H.wf) (ha:alive H b) (e:β b=some m) (ho:W.heap[m.rb]?=some o)
 (hr:qa β m x o') (hd:∀ b m,β b=some m->m.rb<W.heap.size):Post β β H (H.put b x) (bit b) W (World.fj W m.rb o'):=by
 have only:∀ c,(H.nx<=c\/(bit b).testBit c=true)->alive (H.put b x) c->c=b:=by
  intro c hc hac
  have:=hac.1;rw[cW]at this
  exact(aB b c).1 (hc.resolve_left (by omega))
 refine⟨Mp.le.refl _,λc m' h h'=>?_,λc hc hac=>?_,λrb o1 h hno=>?_,by rw[pz];exact Nat.le_refl _,λc m' h=>by rw[pz];exact hd c m' h,
  λc m' _ h h'=>?_,λc d mc md hc hd' hac had _ _ _=>?_,⟨rfl,rfl,rfl⟩⟩
 ·rw[h']at h;cases h
 ·have:=only c hc hac;subst this
  exact⟨m,e,o',tL ho,by rw[jh x hw ha.1];simpa using hr⟩
 ·have:=hno b m ha.1 ((aB b b).2 rfl) e
  rw[KL (Ne.symm this)];exact h
 ·rw[h]at h';cases h'
 ·rw[only c hc hac,only d hd' had]
theorem ER {β:Mp} {H:Hp} {W:World} {b:Nat} (hw:H.wf) (ha:alive H b) (hd:∀ b m,β b=some m->m.rb<W.heap.size):Post β β H (H.put b .no) (bit b) W W:=by
 have none':∀ c,(H.nx<=c\/(bit b).testBit c=true)->¬ alive (H.put b .no) c:=by
  intro c hc hac
  have h1:=hac.1;rw[cW]at h1
  have:=(aB b c).1 (hc.resolve_left (by omega));subst this
  exact hac.2 (by rw[jh _ hw ha.1];simp)
 refine⟨Mp.le.refl _,λc m' h h'=>?_,λc hc hac=>absurd hac (none' c hc),λrb o1 h _=>h,Nat.le_refl _,hd,λc m' _ h h'=>?_,
  λc d mc md hc _ hac _ _ _ _=>absurd hac (none' c hc),⟨rfl,rfl,rfl⟩⟩
 ·rw[h']at h;cases h
 ·rw[h]at h';cases h'
def World.hJ (W:World) (o:Obj):World:={ W with heap:=W.heap.push o }
theorem SJ {W:World} {o o':Obj} {rb:Nat} (h:W.heap[rb]?=some o'):(World.hJ W o).heap[rb]?=some o':=by
 have:rb<W.heap.size:=by
  rcases Nat.lt_or_ge rb W.heap.size with h'|h'
  ·exact h'
  ·simp[Array.getElem?_eq_none h']at h
 show(W.heap.push o)[rb]?=some o'
 rw[Array.getElem?_push_lt this]
 simpa [this] using h
theorem SP (W:World) (o:Obj):(World.hJ W o).heap[W.heap.size]?=some o:=by
 show(W.heap.push o)[W.heap.size]?=some o
 exact Array.getElem?_push_size
theorem tR (W:World) (o:Obj):(World.hJ W o).heap.size=W.heap.size+1:=by
 show(W.heap.push o).size=_
 exact Array.size_push _
theorem iU {β:Mp} {H:Hp} {W:World} (x:dB) (o:Obj) (m:Bm) (hn:H.room=true) (hm:m.rb=W.heap.size) (hf:β H.nx=none)
 (hr:qa (β.put H.nx m) m x o) (hd:∀ b m,β b=some m->m.rb<W.heap.size):Post β (β.put H.nx m) H (H.push x) 0 W (World.hJ W o):=by
 have only:∀ c,(H.nx<=c\/(0:Nat).testBit c=true)->alive (H.push x) c->c=H.nx:=by
  intro c hc hac
  have:=hac.1;rw[aZ]at this
  rcases hc with h|h
  ·omega
  ·simp at h
 refine⟨Mp.nk m hf,λc m' h h'=>?_,λc hc hac=>?_,λrb o1 h _=>SJ h,by rw[tR];omega,λc m' h=>?_,
  λc m' hc h h'=>?_,λc d mc md hc hd' hac had _ _ _=>by rw[only c hc hac,only d hd' had],⟨rfl,rfl,rfl⟩⟩
 ·by_cases e:c=H.nx
  ·subst e;rw[aZ];omega
  ·rw[Mp.jV β m e,h']at h;cases h
 ·have:=only c hc hac;subst this
  exact⟨m,Mp.dJ _ _ _,o,by rw[hm];exact SP W o,by rw[gf x hn];simpa using hr⟩
 ·rw[tR]
  by_cases e:c=H.nx
  ·subst e;rw[Mp.dJ]at h;cases h;omega
  ·rw[Mp.jV β m e]at h;have:=hd c m' h;omega
 ·by_cases e:c=H.nx
  ·subst e;rw[Mp.dJ]at h';cases h';left;omega
  ·rw[Mp.jV β m e,h]at h';cases h'
theorem aj {α:Type} (x y:α):Bc true x y=x:=rfl
theorem au {α:Type} (x y:α):Bc false x y=y:=rfl
theorem an (a b:Nat):Nat.blt a b=true↔a<b:=by rw[Nat.blt_eq]
theorem aE (a b:Nat):Nat.ble a b=true↔a<=b:=by rw[Nat.ble_eq]
theorem beq_iff (a b:Nat):Nat.beq a b=true↔a=b:=by rw[Nat.beq_eq]
theorem BD (a b:Nat):Nat.ble a b=false↔b<a:=by
 rw[<-Bool.not_eq_true,aE];omega
theorem eD {v:Value} {b o:Nat} (h:eZ v=some (b,o)):v=.pointer (some ⟨b,o,none⟩):=by
 unfold eZ at h;split at h<;>simp at h;obtain⟨rfl,rfl⟩:=h;rfl
theorem gS {v:Value} {n:Int} (h:J8 v=some n):∃ k,v=.int k n:=by
 unfold J8 at h;split at h<;>simp at h;subst h;exact⟨_,rfl⟩
theorem mM {v:Value} {k:IntKind} {n:Int} (h:GN v=some (k,n)):v=.int k n:=by
 unfold GN at h;split at h<;>simp at h;obtain⟨rfl,rfl⟩:=h;rfl
theorem wR {v:Value} {b:Bool} (h:zC v=some b):v=.bool b:=by
 unfold zC at h;split at h<;>simp at h;subst h;rfl
theorem s_ {v:Value} {s:ByteArray} (h:QN v=some s):v=.string s:=by
 unfold QN at h;split at h<;>simp at h;subst h;rfl
theorem nH {v:Value} {r:Option Nat} (h:asM v=some r):v=.map r:=by
 unfold asM at h;split at h<;>simp at h;subst h;rfl
theorem W7 {v:Value} {l:List Value} (h:W8 v=some l):v=.agg ⟨l⟩:=by
 unfold W8 at h;split at h<;>simp at h;subst h;rfl
theorem oC {n:Int} {m:Nat} (h:tZ n=some m):n=(m:Int):=by
 unfold tZ at h;split at h<;>simp at h;subst h;rfl
theorem W6 {v:Value} {a:Option (Nat×Nat)} {l c:Nat} {op:Bool} (h:qR v=some (a,l,c,op)) :
 (a=none/\op=false/\v=.slice none l c) \/
 (∃ b o c0,a=some (b,o)/\v=.slice (some ⟨b,o,none⟩) l c0/\c=c0 / 2/\((op=false/\c0 % 2=0)\/(op=true/\c0 % 2=1))):=by
 unfold qR at h
 split at h
 ·simp at h;obtain⟨rfl,rfl,rfl,rfl⟩:=h;exact .inl ⟨rfl,rfl,rfl⟩
 ·rename_i b o l0 c0
  simp only[Option.some.injEq,Prod.mk.injEq]at h;obtain⟨rfl,rfl,rfl,rfl⟩:=h
  refine .inr ⟨b,o,c0,rfl,rfl,rfl,?_⟩
  rcases Nat.mod_two_eq_zero_or_one c0 with e|e
  ·left;exact⟨by show Nat.beq (c0 % 2) 1=false;rw[e];rfl,e⟩
  ·right;exact⟨by show Nat.beq (c0 % 2) 1=true;rw[e];rfl,e⟩
 ·simp at h
def ab5 (β:Mp) (a:Option (Nat×Nat)) (l c:Nat) (op:Bool) (v':Value):Prop :=
 match a with
 |none=>op=false/\v'=.slice none l c
 |some (b,o)=>∃ m c',β b=some m/\v'=.slice (some ⟨m.rb,o+m.sh,none⟩) l c'/\(op=false->c'=c)/\(op=true->c<=c'/\o+m.sh+c'*m.Dz=m.tot)
theorem rH {β:Mp} {v v':Value} {a:Option (Nat×Nat)} {l c:Nat} {op:Bool} (h:qR v=some (a,l,c,op)) (hv:ai β v v'):ab5 β a l c op v':=by
 rcases W6 h with⟨rfl,rfl,rfl⟩|⟨b,o,c0,rfl,rfl,rfl,hc⟩
 ·cases hv;exact⟨rfl,rfl⟩
 ·cases hv with|sl _ _ _ _ c' m e hcap =>
  refine⟨m,c',e,rfl,λho=>?_,λho=>?_⟩
  ·rcases hc with⟨_,h2⟩|⟨h1,_⟩
   ·exact hcap.1 h2
   ·rw[h1]at ho;cases ho
  ·rcases hc with⟨h1,_⟩|⟨_,h2⟩
   ·rw[h1]at ho;cases ho
   ·exact hcap.2 h2
theorem lV {β:Mp} {a:Option (Nat×Nat)} {l c:Nat} {op:Bool} {v':Value} (h:ab5 β a l c op v'):ai β (c_ a l c op) v':=by
 cases a with
 |none=>obtain⟨rfl,rfl⟩:=h;exact .AA l c
 |some x =>
  obtain⟨b,o⟩:=x
  obtain⟨m,c',e,rfl,h1,h2⟩:=h
  cases op with
  |false =>
   have h3:=h1 rfl;subst h3
   refine .sl b o l (2*c') c' m e ⟨λ_=>by omega,λh=>absurd h (by omega)⟩
  |true =>
   refine .sl b o l (2*c+1) c' m e ⟨λh=>absurd h (by omega),λ_=>?_⟩
   rw[show(2*c+1) / 2=c from by omega]
   exact h2 rfl
def gl (P:Program) (β:Mp) (H:Hp) (W:World) (s:Sem Value) (x:R):Prop:=match x with
 |.fail=>True
 |.val v H' r w=>Can H H' w/\(Pre β H H' r w W->∃ β' W' v',s.run P W=.ok v' W'/\ai β' v v'/\Post β β' H H' w W W')
 |_=>False
theorem fu {P:Program} {β:Mp} {H:Hp} {W:World} {s:Sem Value} {v:Value} {r:Nat} (hw:H.wf)
 (h:Pre β H H r 0 W->∃ v',s.run P W=.ok v' W/\ai β v v'):gl P β H W s (.val v H r 0) :=
 ⟨Can.refl hw,λp=>let ⟨v',a,b⟩:=h p;⟨β,W,v',a,b,Post.refl p.dom⟩⟩
theorem aD {P:Program} {β:Mp} {H:Hp} {W:World} {s:Sem Value} {v v':Value} (hw:H.wf) (h:s.run P W=.ok v' W) (hv:ai β v v'):gl P β H W s (R.v v H) :=
 fu hw λ_=>⟨v',h,hv⟩
theorem abg {P:Program} {β:Mp} {H:Hp} {W:World} {s:Sem Value} {x:Option Value} (hw:H.wf) (h:∀ v,x=some v->∃ v',s.run P W=.ok v' W/\ai β v v'):gl P β H W s (R.o x H):=by
 cases x with
 |none=>trivial
 |some v=>obtain⟨v',a,b⟩:=h v rfl;exact aD hw a b
theorem eW {β:Mp} {H:Hp} {W:World} {r w b:Nat} {t:T Value} {n:Nat} {ty:TypeId} {op:Nat} {lo hi:Nat} {H':Hp}
 (p:Pre β H H' r w W) (hs:oe r w b) (hb:H.blk b=.cells t n ty op lo hi) :
 ∃ m cs fr,β b=some m/\W.heap[m.rb]?=some (.cells cs ty fr)/\cs.size=m.tot/\m.sh+n<=m.tot/\(op=0->m.sh=0/\m.tot=n)/\(∀ k,op=k+1->m.Dz=k) /\
  (∀ i,i<n->bQ (t.get i)=true/\∃ v',cs[m.sh+i]?=some v'/\ai β (t.get i) v')/\Ag m lo hi fr:=by
 obtain⟨m,e,o,ho,hr⟩:=p.rel b hs ((aH H b).2 (by rw[hb];simp))
 rw[hb]at hr
 obtain⟨cs,fr,rfl,h1,h2,h3,h3',h4,h5⟩:=hr
 exact⟨m,cs,fr,e,ho,h1,h2,h3,h3',h4,h5⟩
theorem KQ {H:Hp} {b o:Nat} {x:Value} (h:OG H b o=some x):∃ t n ty op lo hi,H.blk b=.cells t n ty op lo hi/\o<n/\x=t.get o:=by
 unfold OG at h
 split at h
 ·rename_i t n ty op lo hi e
  cases hb:Nat.blt o n with
  |false=>rw[hb]at h;simp[au]at h
  |true=>rw[hb,aj]at h;cases h;exact⟨t,n,ty,op,lo,hi,e,(an _ _).1 hb,rfl⟩
 ·simp at h
theorem rN {H:Hp} {b o k:Nat} {x:List Value} (h:qU H b o k=some x):∃ t n ty op lo hi,H.blk b=.cells t n ty op lo hi/\o+k<=n/\x=rP t k o:=by
 unfold qU at h
 split at h
 ·rename_i t n ty op lo hi e
  cases hb:Nat.ble (o+k) n with
  |false=>rw[hb]at h;simp[au]at h
  |true=>rw[hb,aj]at h;cases h;exact⟨t,n,ty,op,lo,hi,e,(aE _ _).1 hb,rfl⟩
 ·simp at h
theorem gP (t:T Value) (k i:Nat):(rP t k i).length=k:=by
 induction k generalizing i with
 |zero=>rfl
 |succ k ih=>simp[rP,ih]
theorem rO (t:T Value) (k i j:Nat) (h:j<k):(rP t k i)[j]?=some (t.get (i+j)):=by
 induction k generalizing i j with
 |zero=>omega
 |succ k ih =>
  cases j with
  |zero=>simp[rP]
  |succ j=>simp only[rP,List.getElem?_cons_succ];rw[ih (i+1) j (by omega)];congr 2;omega
def rowOf (cs:Array Value) (p k:Nat):List Value:=(cs.toList.drop p).take k
theorem tN {cs:Array Value} {p k:Nat} (h:p+k<=cs.size):(rowOf cs p k).length=k:=by simp[rowOf];omega
theorem tO {cs:Array Value} {p k j:Nat} (hj:j<k):(rowOf cs p k)[j]?=cs[p+j]?:=by
 unfold rowOf;rw[List.getElem?_take_of_lt hj,List.getElem?_drop];simp
theorem jZ {β:Mp} {t:T Value} {cs:Array Value} {sh o k n:Nat} (hn:o+k<=n) (hs:sh+n<=cs.size)
 (h:∀ i,i<n->bQ (t.get i)=true/\∃ v',cs[sh+i]?=some v'/\ai β (t.get i) v'):ak β (rP t k o) (rowOf cs (o+sh) k):=by
 refine⟨by rw[gP,tN (by omega)],λi v v' a b=>?_⟩
 have hi:i<k:=by
  rcases Nat.lt_or_ge i k with h|h
  ·exact h
  ·rw[List.getElem?_eq_none (by rw[gP];exact h)]at a;cases a
 rw[rO _ _ _ _ hi]at a;cases a
 rw[tO hi]at b
 obtain⟨_,v'',e,hv⟩:=h (o+i) (by omega)
 rw[show sh+(o+i)=o+sh+i from by omega,b]at e;cases e;exact hv
theorem rV {t:T Value} {o k n:Nat} (hn:o+k<=n) (h:∀ i,i<n->bQ (t.get i)=true):(rP t k o).all bQ=true:=by
 rw[List.all_eq_true]
 intro x hx
 obtain⟨i,hi⟩:=List.mem_iff_getElem?.1 hx
 have hik:i<k:=by
  rcases Nat.lt_or_ge i k with h|h
  ·exact h
  ·rw[List.getElem?_eq_none (by rw[gP];exact h)]at hi;cases hi
 rw[rO _ _ _ _ hik]at hi;cases hi
 exact h _ (by omega)
theorem pE {P:Program} {W:World} {rb:Nat} {cs:Array Value} {ty:TypeId} {fr:Nat×Nat} (h:W.heap[rb]?=some (.cells cs ty fr)) {p k:Nat} (hk:p+k<=cs.size) :
 (loadCells ⟨rb,p,none⟩ k).run P W=.ok ⟨rowOf cs p k⟩ W:=by
 have:=vp P h (rowOf cs p k) (off:=p) (λj v e=>?_)
 ·rw[tN hk]at this;exact this
 ·have hj:j<k:=by
   rcases Nat.lt_or_ge j k with h|h
   ·exact h
   ·rw[List.getElem?_eq_none (by rw[tN hk];exact h)]at e;cases e
  rw[tO hj]at e;exact e
theorem EA {P:Program} {t:TypeId} {d:TypeDesc} (h:P.underlying t=some d) (h1:∀ fs,d≠.struct fs) (h2:∀ n e,d≠.array n e) (W:World):(isAgg t).run P W=.ok false W:=by
 unfold isAgg
 simp only[Sem.run_bind,run_underlying h,Result.andThen_ok]
 cases d<;>simp_all
theorem uR {P:Program} {t:TypeId} {d:TypeDesc} (h:P.underlying t=some d) (h1:(∃ fs,d=.struct fs)\/(∃ n e,d=.array n e)) (W:World):(isAgg t).run P W=.ok true W:=by
 unfold isAgg
 simp only[Sem.run_bind,run_underlying h,Result.andThen_ok]
 rcases h1 with⟨fs,rfl⟩|⟨n,e,rfl⟩<;>simp
theorem run_typeInfo {P:Program} {t:TypeId} {i:TypeInfo} (h:P.info? t=some i) (W:World):(typeInfo t).run P W=.ok i W:=by
 unfold typeInfo;simp[h]
theorem aX {P:Program} {t:TypeId} {i:TypeInfo} (h:P.info? t=some i) (W:World):(sizeOf t).run P W=.ok i.size W:=by
 unfold sizeOf;simp[run_typeInfo h]
structure dI (P:Program) (tb:Tb):Prop where
 eN:∀ t d,tb.eN t=some d->P.underlying t=some d
 info:∀ t i,tb.info t=some i->P.info? t=some i
 fn:∀ f fn,tb.fn f=some fn->P.funcs[f]?=some fn
 Xu:∀ t,t∈tb.Xu->P.stoodInHeld t=false/\P.eqGuardType P.depth t=false
 mixed:P.follows .mixedOrders=true
 CL:∀ u ty n o,(ty,n,o)∈tb.CL u->liesAt P P.depth ty (n / P.cellsOf ty) o u 1=true
 nog : ∀ f fn, tb.fn f = some fn → (fn.name == "runtime.NumGoroutine") = false
 Cw:∀ n t f,lkM t (tb.Cw n)=some f->∀ (W:World) (v:Value),(method (P.types.size+Made.depth) t v n).run P W=.ok (f,v) W
 uni:∀ t n v,tb.uni t=some (n,v)->aW 10 v=true/\bQ v=true/\∃ i z,P.info? t=some i/\i.zero=some z/\z.cells.toList=List.replicate n v
section
variable {P:Program} {tb:Tb} (ok:dI P tb) {β:Mp} {H:Hp} {W:World} (hw:H.wf)
include ok
theorem cC {t n:Nat} (h:eY tb t=some n):∃ i,P.info? t=some i/\i.size=n:=by
 unfold eY at h
 cases e:tb.info t with
 |none=>rw[e]at h;simp at h
 |some i=>rw[e]at h;simp at h;exact⟨i,ok.info t i e,h⟩
theorem sG {t:Nat} (h:dN tb t=some false) (W:World):(isAgg t).run P W=.ok false W:=by
 unfold dN at h
 split at h<;>simp at h
 rename_i d h1 h2 e
 exact EA (ok.eN _ _ e) (λfs hh=>h1 fs hh) (λn el hh=>h2 n el hh) W
theorem sF {t:Nat} (h:dN tb t=some true) (W:World):(isAgg t).run P W=.ok true W:=by
 unfold dN at h
 split at h<;>simp at h
 ·rename_i fs e;exact uR (ok.eN _ _ e) (.inl ⟨fs,rfl⟩) W
 ·rename_i n el e;exact uR (ok.eN _ _ e) (.inr ⟨n,el,rfl⟩) W
include hw
theorem adT {t:TypeId} {v v':Value} (ht:dN tb t=some false) (hv:ai β v v'):gl P β H W (Instr.loadAt t v') (dA v H):=by
 unfold dA
 cases e:eZ v with
 |none=>trivial
 |some x =>
  obtain⟨b,o⟩:=x
  have:=eD e;subst this
  cases hv with|ptr _ _ m0 e0 =>
  cases e1:OG H b o with
  |none=>simp only[e1];trivial
  |some x =>
   simp only[e1]
   obtain⟨t',n,ty,op,lo,hi,hb,ho,rfl⟩:=KQ e1
   refine fu hw λp=>?_
   obtain⟨m,cs,fr,em,hm,h1,h2,h3,h3',h4,h5⟩:=eW p (.inl ((aB b b).2 rfl)) hb
   rw[e0]at em;cases em
   obtain⟨_,x',ex,hx⟩:=h4 o ho
   refine⟨x',?_,hx⟩
   have hc:W.cell? ⟨m0.rb,o+m0.sh,none⟩=some x':=by rw[cell_of hm,show o+m0.sh=m0.sh+o from by omega];exact ex
   simp[Instr.loadAt,Instr.sureAddr,loadVar,sG ok ht,hc]
theorem adS {t n:TypeId} {v v':Value} (ht:dN tb t=some true) (hn:eY tb t=some n) (hv:ai β v v'):gl P β H W (Instr.loadAt t v') (ia n v H):=by
 unfold ia
 cases e:eZ v with
 |none=>trivial
 |some x =>
  obtain⟨b,o⟩:=x
  have:=eD e;subst this
  cases hv with|ptr _ _ m0 e0 =>
  cases e1:qU H b o n with
  |none=>simp only[e1];trivial
  |some x =>
   simp only[e1]
   obtain⟨t',k,ty,op,lo,hi,hb,ho,rfl⟩:=rN e1
   refine fu hw λp=>?_
   obtain⟨m,cs,fr,em,hm,h1,h2,h3,h3',h4,h5⟩:=eW p (.inl ((aB b b).2 rfl)) hb
   rw[e0]at em;cases em
   obtain⟨i,hi',rfl⟩:=cC ok hn
   have hl:=jZ (sh:=m0.sh) ho (by omega) h4
   refine⟨.agg ⟨rowOf cs (o+m0.sh) i.size⟩,?_,.agg _ _ (rV ho λj hj=>(h4 j hj).1) hl.1 hl.2⟩
   simp[Instr.loadAt,Instr.sureAddr,loadVar,sF ok ht,aX hi',pE hm (show o+m0.sh+i.size<=cs.size by omega)]
end
def OpU (P:Program) (β:Mp) (H:Hp) (W:World) (s:Sem Unit) (x:R):Prop:=match x with
 |.fail=>True
 |.val v H' r w=>Can H H' w/\v=U/\(Pre β H H' r w W->∃ β' W',s.run P W=.ok () W'/\Post β β' H H' w W W')
 |_=>False
theorem jY (n:Nat):n<8 ^ dep n:=by
 show n<8 ^ (Nat.log2 n / 3+1)
 have h1:n<2 ^ (Nat.log2 n+1):=Nat.lt_log2_self
 have h2:2 ^ (Nat.log2 n+1)<=2 ^ (3*(Nat.log2 n / 3+1)):=Nat.pow_le_pow_right (by decide) (by omega)
 rw[Nat.pow_mul]at h2
 exact Nat.lt_of_lt_of_le h1 h2
theorem kF (d:Nat):∀ (vs:List Value) (o:Nat) (t:T Value) (i:Nat),o+vs.length<=8 ^ d->i<8 ^ d ->
 (QJ d vs o t).get i=if o<=i/\i<o+vs.length then vs.getD (i-o) U else t.get i:=by
 intro vs
 induction vs with
 |nil=>intro o t i _ _;simp[QJ];intro h1 h2;omega
 |cons v r ih =>
  intro o t i h hi
  simp only[List.length_cons]at h
  simp only[QJ]
  rw[ih (o+1) (T.set d t o v) i (by omega) hi,T.ef d t o i v (by omega) hi]
  simp only[List.length_cons]
  by_cases h1:o+1<=i/\i<o+1+r.length
  ·rw[if_pos h1,if_pos (by omega),show i-o=(i-(o+1))+1 from by omega,List.getD_cons_succ]
  ·rw[if_neg h1]
   by_cases h2:i=o
   ·subst h2;rw[if_pos rfl,if_pos (by omega)];simp
   ·rw[if_neg h2,if_neg (by omega)]
theorem bW (cs:List Value) (ty:TypeId) (op:Nat):∃ t,aG cs ty op=.cells t cs.length ty op 0 0/\∀ (i:Nat) (v:Value),cs[i]?=some v->t.get i=v:=by
 unfold aG
 split
 ·exact⟨_,rfl,λi v h=>by simp at h⟩
 ·rename_i v
  refine⟨_,rfl,λi x h=>?_⟩
  cases i with
  |zero=>simp at h;subst h;rfl
  |succ i=>simp at h
 ·refine⟨_,rfl,λi v h=>?_⟩
  have hi:i<cs.length:=by
   rcases Nat.lt_or_ge i cs.length with h'|h'
   ·exact h'
   ·simp[List.getElem?_eq_none h']at h
  have hd:=jY cs.length
  rw[kF _ _ _ _ _ (by omega) (by omega),if_pos (by omega)]
  simp[List.getD,h]
theorem Ks {H H':Hp} {b o:Nat} {vs:List Value} (h:N3 H b o vs=some H'):∃ t n ty op lo hi,H.blk b=.cells t n ty op lo hi/\o+vs.length<=n/\iu o vs.length lo hi=true /\
 H'=H.put b (.cells (QJ (dep n) vs o t) n ty op lo hi):=by
 unfold N3 at h
 split at h
 ·rename_i t n ty op lo hi e
  cases hb:(Nat.ble (o+vs.length) n&&iu o vs.length lo hi)with
  |false=>rw[hb]at h;simp[au]at h
  |true =>
   rw[hb,aj]at h;cases h
   simp only[Bool.and_eq_true]at hb
   exact⟨t,n,ty,op,lo,hi,e,(aE _ _).1 hb.1,hb.2,rfl⟩
 ·simp at h
theorem Aq {m:Bm} {o k lo hi:Nat} {fr:Nat×Nat} (h:iu o k lo hi=true) (hf:Ag m lo hi fr) (ht:m.sh+o+k<=m.tot) :
 ∀ j,m.sh+o<=j->j<m.sh+o+k->¬ (fr.1<=j/\j<fr.2):=by
 intro j h1 h2
 simp only[iu,Bool.or_eq_true,aE]at h
 rcases hf with⟨h3,h4|h4⟩|⟨h3,h4|h4⟩|⟨h3,h4⟩<;>omega
theorem Le {β:Mp} {v v':Value} (h:ai β v v') (h1:bQ v=true):bQ v'=true:=by
 cases h<;>first
  |rfl
  |exact h1
  |(rename_i k m e hv;exact(lU hv).2.1)
  |(cases h1;done)
theorem NM {β:Mp} {l l':List Value} (h:ak β l l') (h1:l.all bQ=true):∀ v∈l',bQ v=true:=by
 intro v hv
 obtain⟨i,hi⟩:=List.mem_iff_getElem?.1 hv
 have hl:i<l.length:=by
  rcases Nat.lt_or_ge i l'.length with h'|h'
  ·rw[h.1];exact h'
  ·simp[List.getElem?_eq_none h']at hi
 have:=h.2 i l[i] v (by simp[hl]) hi
 exact Le this (List.all_eq_true.1 h1 _ (List.getElem_mem hl))
theorem AE {a b:Value} (h:tM a b=true):a=b:=by
 unfold tM at h
 split at h
 ·split at h
  ·rw[(beq_iff _ _).1 h]
  ·cases h
 ·cases h
theorem ajT {α β:Type} (t:T α) (k:T α->β):T.fz t k=k t:=by cases t<;>rfl
theorem XL (d:Nat):∀ (vs:List Value) (o:Nat) (t:T Value) (i:Nat),o+vs.length<=8 ^ d->i<8 ^ d->(wrS d vs o t).get i=(QJ d vs o t).get i:=by
 intro vs
 induction vs with
 |nil=>intro o t i _ _;rfl
 |cons v r ih =>
  intro o t i h hi
  simp only[List.length_cons]at h
  simp only[wrS,QJ]
  cases hs:tM (t.get o) v with
  |false=>rw[au,ajT];exact ih (o+1) _ i (by omega) hi
  |true =>
   rw[aj]
   refine(ih (o+1) t i (by omega) hi).trans ?_
   rw[kF _ _ _ _ _ (by omega) hi,kF _ _ _ _ _ (by omega) hi]
   split
   ·rfl
   ·rw[T.ef d t o i v (by omega) hi]
    split
    ·rename_i e;rw[e];exact AE hs
    ·rfl
theorem Ea {H H':Hp} {b o:Nat} {vs:List Value} (h:G8 H b o vs=some H'):∃ t n ty op lo hi,H.blk b=.cells t n ty op lo hi/\o+vs.length<=n/\iu o vs.length lo hi=true /\
 H'=H.put b (.cells (wrS (dep n) vs o t) n ty op lo hi):=by
 unfold G8 at h
 split at h
 ·rename_i t n ty op lo hi e
  cases hb:(Nat.ble (o+vs.length) n&&iu o vs.length lo hi)with
  |false=>rw[hb]at h;simp[au]at h
  |true =>
   rw[hb,aj]at h;cases h
   simp only[Bool.and_eq_true]at hb
   exact⟨t,n,ty,op,lo,hi,e,(aE _ _).1 hb.1,hb.2,rfl⟩
 ·simp at h
theorem Ak {β:Mp} {H Hx:Hp} {W:World} {P:Program} {r w b o n ty op lo hi:Nat} {t t':T Value} {vs vs':List Value} {m:Bm} (hw:H.wf) (hb:H.blk b=.cells t n ty op lo hi) (ho:o+vs.length<=n) (Z3:iu o vs.length lo hi=true)
 (hg:∀ i,i<n->t'.get i=if o<=i/\i<o+vs.length then vs.getD (i-o) U else t.get i) (e:β b=some m) (hl:ak β vs vs') (h1:vs.all bQ=true) :
 Can H (H.put b (.cells t' n ty op lo hi)) (bit b)/\(Pre β H Hx r w W->oe r w b->∃ o',(storeCells ⟨m.rb,o+m.sh,none⟩ vs').run P W=.ok () (World.fj W m.rb o')/\Post β β H (H.put b (.cells t' n ty op lo hi)) (bit b) W (World.fj W m.rb o')):=by
 have ha:alive H b:=(aH H b).2 (by rw[hb];simp)
 refine⟨eJ hw _ ha,λp hs=>?_⟩
 obtain⟨m',cs,fr,em,hm,h2,h3,h4,h4',h5,h6⟩:=eW p hs hb
 rw[e]at em;cases em
 refine⟨.cells (putRow cs (o+m.sh) vs') ty fr,?_,?_⟩
 ·have:=lW P m.rb ty fr (o+m.sh) vs' 0 cs W hm (by rw[<-hl.1];omega) (NM hl h1)
   (λj a b=>Aq Z3 h6 (by omega) j (by omega) (by rw[<-hl.1]at b;omega))
  simpa using this
 ·refine jm _ hw ha e hm ?_ p.dom
  refine⟨putRow cs (o+m.sh) vs',fr,rfl,by rw[uT];exact h2,h3,h4,h4',λi hi=>?_,h6⟩
  rw[hg i hi]
  rw[qu _ _ _ _ (by rw[<-hl.1];omega)]
  by_cases hin:o<=i/\i<o+vs.length
  ·rw[if_pos hin,if_pos (by rw[<-hl.1];omega)]
   have hlt:i-o<vs.length:=by omega
   have hv:vs[i-o]?=some vs[i-o]:=by simp[hlt]
   have hg:vs.getD (i-o) U=vs[i-o]:=by simp[List.getD,hlt]
   rw[hg]
   obtain⟨v',ev,hr⟩:=hl.get hv
   exact⟨List.all_eq_true.1 h1 _ (List.getElem_mem hlt),v',by rw[show m.sh+i-(o+m.sh)=i-o from by omega];exact ev,hr⟩
  ·rw[if_neg hin,if_neg (by rw[<-hl.1];omega)]
   exact h5 i hi
theorem NY {β:Mp} {H H' Hx:Hp} {W:World} {P:Program} {r w b o:Nat} {vs vs':List Value} {m:Bm} (hw:H.wf) (h:G8 H b o vs=some H') (e:β b=some m) (hl:ak β vs vs') (h1:vs.all bQ=true) :
 Can H H' (bit b)/\(Pre β H Hx r w W->oe r w b->∃ o',(storeCells ⟨m.rb,o+m.sh,none⟩ vs').run P W=.ok () (World.fj W m.rb o')/\Post β β H H' (bit b) W (World.fj W m.rb o')):=by
 obtain⟨t,n,ty,op,lo,hi,hb,ho,Z3,rfl⟩:=Ea h
 have hd:=jY n
 exact Ak hw hb ho Z3 (λi hi=>by rw[XL _ _ _ _ _ (by omega) (by omega),kF _ _ _ _ _ (by omega) (by omega)]) e hl h1
theorem wV {β:Mp} {H H' Hx:Hp} {W:World} {P:Program} {r w b o:Nat} {vs vs':List Value} {m:Bm} (hw:H.wf) (h:N3 H b o vs=some H') (e:β b=some m) (hl:ak β vs vs') (h1:vs.all bQ=true) :
 Can H H' (bit b)/\(Pre β H Hx r w W->oe r w b->∃ o',(storeCells ⟨m.rb,o+m.sh,none⟩ vs').run P W=.ok () (World.fj W m.rb o')/\Post β β H H' (bit b) W (World.fj W m.rb o')):=by
 obtain⟨t,n,ty,op,lo,hi,hb,ho,Z3,rfl⟩:=Ks h
 have hd:=jY n
 exact Ak hw hb ho Z3 (λi hi=>by rw[kF _ _ _ _ _ (by omega) (by omega)]) e hl h1
theorem qP {β:Mp} {v v':Value} {l:List Value} (h:gX v=some l) (hv:ai β v v'):l.all bQ=true/\ak β l v'.cells.toList:=by
 have keep:=hv
 cases hv with
 |agg as as' h0 h1 h2=>cases h;exact⟨h0,h1,h2⟩
 |tuple as as' h1 h2=>cases h
 |dead v'=>cases h
 |sym k m v' e hv =>
  cases h;rw[(lU hv).2.2];exact⟨rfl,ak.cons keep (ak.nil β)⟩
 |_=>cases h;exact⟨rfl,ak.cons keep (ak.nil β)⟩
section
variable {P:Program} {tb:Tb} (ok:dI P tb) {β:Mp} {H:Hp} {W:World} (hw:H.wf)
include ok hw
theorem RT {t:TypeId} {n:Nat} {a a' x x':Value} (hn:eY tb t=some n) (ha:ai β a a') (hx:ai β x x'):OpU P β H W (Instr.storeAt t a' x') (i_ n a x H):=by
 unfold i_
 cases e:eZ a with
 |none=>trivial
 |some y =>
  obtain⟨b,o⟩:=y
  have:=eD e;subst this
  cases ha with|ptr _ _ m e0 =>
  cases e1:gX x with
  |none=>trivial
  |some vs =>
   obtain⟨h1,hl⟩:=qP e1 hx
   simp only[]
   cases e2:Nat.beq vs.length n with
   |false=>rw[au];trivial
   |true =>
    rw[aj]
    have e2':=(beq_iff _ _).1 e2
    cases e3:N3 H b o vs with
    |none=>trivial
    |some H' =>
     simp only[]
     obtain⟨c,hwr⟩:=wV (Hx:=H') (W:=W) (P:=P) (r:=0) (w:=bit b) hw e3 e0 hl h1
     refine⟨c,rfl,λp=>?_⟩
     obtain⟨o',hrun,hpost⟩:=hwr p (.inr ((aB b b).2 rfl))
     obtain⟨i,hi,hsz⟩:=cC ok hn
     refine⟨β,_,?_,hpost⟩
     have hcs:x'.cells.size=i.size:=by
      have h3:=hl.1
      have h4:x'.cells.toList.length=x'.cells.size:=Array.length_toList
      omega
     simp[Instr.storeAt,Instr.sureAddr,storeVar,aX hi,hcs,hrun]
omit ok hw in
theorem zb {cs cs':List Value} {ty:TypeId} {f:Nat->Value} {r:Nat} {s:Sem Value} (h1:cs.all bQ=true) (hl:ak β cs cs')
 (h:Pre β H (H.push (aG cs ty 0)) r 0 W->∃ v',s.run P W=.ok v' (World.hJ W (.cells ⟨cs'⟩ ty)) /\
  ∀ β' m,Mp.le β β'->β' H.nx=some m->m.rb=W.heap.size->m.sh=0->m.tot=cs.length->ai β' (f H.nx) v') :
 gl P β H W s (aS (aG cs ty 0) H f r 0):=by
 rw[fG]
 split
 ·rename_i hn
  refine⟨fB hn,λp=>?_⟩
  obtain⟨v',hrun,hv⟩:=h p
  have hf:β H.nx=none:=p.fresh _ (Nat.le_refl _) (by rw[aZ];omega)
  obtain⟨t,hb,ht⟩:=bW cs ty 0
  let m:Bm:=⟨W.heap.size,0,cs.length,1⟩
  refine⟨β.put H.nx m,_,v',hrun,hv _ m (Mp.nk m hf) (Mp.dJ _ _ _) rfl rfl rfl,iU _ _ m hn rfl hf ?_ p.dom⟩
  rw[hb]
  refine⟨⟨cs'⟩,(0,0),rfl,by simp[m,hl.1],by simp[m],λ_=>⟨rfl,rfl⟩,(λk h=>by cases h),λi hi=>?_,.inl ⟨Nat.le_refl _,.inl rfl⟩⟩
  have hv':cs[i]?=some cs[i]:=by simp[hi]
  rw[ht i _ hv']
  obtain⟨v',ev,hr⟩:=hl.get hv'
  exact⟨List.all_eq_true.1 h1 _ (List.getElem_mem hi),v',by simpa [m] using ev,hr.mono (Mp.nk m hf)⟩
 ·trivial
end
theorem Kp {k:IntKind} {n:Int} (h1:k.min<=n) (h2:n<=k.max):k.wrap n=n:=by
 cases k<;>simp only[IntKind.min,IntKind.max,IntKind.wrap,IntKind.bits,IntKind.signed]at *<;>simp at *<;>omega
theorem dO (k:IntKind) (n:Int):aN k n=k.wrap n:=by
 cases n with
 |ofNat m =>
  show Bc (Nat.ble m (C5 k)) _ _=_
  cases h:Nat.ble m (C5 k)with
  |false=>rfl
  |true =>
   rw[aj]
   have h':=(aE _ _).1 h
   symm
   cases k<;>simp only[C5]at h'<;>exact Kp (by simp[IntKind.min,IntKind.signed,IntKind.bits]<;>omega) (by simp[IntKind.max,IntKind.signed,IntKind.bits]<;>omega)
 |negSucc m =>
  show Bc (k.signed&&Nat.ble m (C5 k)) _ _=_
  cases h:(k.signed&&Nat.ble m (C5 k))with
  |false=>rfl
  |true =>
   rw[aj]
   simp only[Bool.and_eq_true,aE]at h
   obtain⟨hs,h'⟩:=h
   symm
   cases k<;>simp only[C5,IntKind.signed]at h' hs<;>first|(cases hs;done)|exact Kp (by simp[IntKind.min,IntKind.signed,IntKind.bits]<;>omega) (by simp[IntKind.max,IntKind.signed,IntKind.bits]<;>omega)
theorem gG (x y:Int):pW x y=decide (x<y):=by
 cases x with
 |ofNat a=>cases y with
  |ofNat b =>
   show Nat.blt a b=_
   rw[Bool.eq_iff_iff,an,decide_eq_true_iff];exact(Int.ofNat_lt).symm
  |negSucc b =>
   show false=_
   symm;rw[decide_eq_false_iff_not];have:=Int.negSucc_lt_zero b;have:(0:Int)<=Int.ofNat a:=Int.natCast_nonneg a;omega
 |negSucc a=>cases y with
  |ofNat b =>
   show true=_
   symm;rw[decide_eq_true_iff];have:=Int.negSucc_lt_zero a;have:(0:Int)<=Int.ofNat b:=Int.natCast_nonneg b;omega
  |negSucc b =>
   show Nat.blt b a=_
   rw[Bool.eq_iff_iff,an,decide_eq_true_iff,Int.negSucc_eq,Int.negSucc_eq];omega
theorem dY (x y:Int):nQ x y=(x==y):=by
 rw[Bool.eq_iff_iff,beq_iff_eq]
 cases x with
 |ofNat a=>cases y with
  |ofNat b=>show Nat.beq a b=true↔_;rw[beq_iff];exact⟨λh=>by rw[h],λh=>by cases h;rfl⟩
  |negSucc b=>show false=true↔_;exact⟨λh=>(by cases h),λh=>by cases h⟩
 |negSucc a=>cases y with
  |ofNat b=>show false=true↔_;exact⟨λh=>(by cases h),λh=>by cases h⟩
  |negSucc b=>show Nat.beq a b=true↔_;rw[beq_iff];exact⟨λh=>by rw[h],λh=>by cases h;rfl⟩
theorem iB {a b:IntKind} (h:tD a b=true):a=b:=by cases a<;>cases b<;>first|rfl|(exact absurd h (by decide))
theorem wW (k:IntKind) (n:Nat):k.wrap ((n % 2 ^ k.bits:Nat):Int)=k.wrap (n:Int):=by
 unfold IntKind.wrap
 have:((n % 2 ^ k.bits:Nat):Int) % (2 ^ k.bits:Int)=(n:Int) % (2 ^ k.bits:Int):=by
  cases k<;>simp only[IntKind.bits]<;>omega
 rw[this]
theorem oZ (op:BinOp) (k:IntKind) (x y:Int):qk op k x y=.int k (k.wrap (match op with
 |.and=>((BitVec.ofInt k.bits x &&& BitVec.ofInt k.bits y).toNat:Int)
 |.or=>((BitVec.ofInt k.bits x ||| BitVec.ofInt k.bits y).toNat:Int)
 |.xor=>((BitVec.ofInt k.bits x ^^^ BitVec.ofInt k.bits y).toNat:Int)
 |_=>((BitVec.ofInt k.bits x &&& ~~~ (BitVec.ofInt k.bits y)).toNat:Int))):=by
 have key:∀ a:Nat,(BitVec.ofInt k.bits (Int.ofNat a)).toNat=a % 2 ^ k.bits:=by
  intro a
  show(BitVec.ofInt k.bits (a:Int)).toNat=_
  rw[BitVec.ofInt_natCast,BitVec.toNat_ofNat]
 unfold qk
 split
 ·rename_i a b
  cases op<;>simp only[dO]<;>try rfl
  ·rw[BitVec.toNat_and,key,key,<-Nat.and_mod_two_pow,wW];rfl
  ·rw[BitVec.toNat_or,key,key,<-Nat.or_mod_two_pow,wW];rfl
  ·rw[BitVec.toNat_xor,key,key,<-Nat.xor_mod_two_pow,wW];rfl
 ·cases op<;>rfl
theorem Pt {P:Program} {op:BinOp} {t:TypeId} {k k':IntKind} {a b:Int} {v:Value} (hk:k=k'\/op=.shl\/op=.shr) (h:iz op k a b=some v) (W:World) :
 (binOp op t (.int k a) (.int k' b)).run P W=.ok v W:=by
 cases op with
 |shl =>
  simp only[iz]at h
  cases e:pW b 0 with
  |true=>rw[e,aj]at h;cases h
  |false =>
   rw[e,au]at h;cases h
   rw[gG,decide_eq_false_iff_not]at e
   simp[binOp,Op.shift,e]
 |shr =>
  simp only[iz]at h
  cases e:pW b 0 with
  |true=>rw[e,aj]at h;cases h
  |false =>
   rw[e,au]at h;cases h
   rw[gG,decide_eq_false_iff_not]at e
   simp[binOp,Op.shift,e]
 |quo =>
  have hk:=hk.resolve_right (by simp);subst hk
  simp only[iz]at h
  cases e:nQ b 0 with
  |true=>rw[e,aj]at h;cases h
  |false =>
   rw[e,au]at h;cases h
   rw[dY,beq_eq_false_iff_ne]at e
   simp[binOp,Op.intDiv,e,dO]
 |rem =>
  have hk:=hk.resolve_right (by simp);subst hk
  simp only[iz]at h
  cases e:nQ b 0 with
  |true=>rw[e,aj]at h;cases h
  |false =>
   rw[e,au]at h;cases h
   rw[dY,beq_eq_false_iff_ne]at e
   simp[binOp,Op.intDiv,e]
 |_ =>
  have hk:=hk.resolve_right (by simp);subst hk
  have ea:∀ x y:Int,Int.add x y=x+y:=λ_ _=>rfl
  have es:∀ x y:Int,Int.sub x y=x-y:=λ_ _=>rfl
  have em:∀ x y:Int,Int.mul x y=x*y:=λ_ _=>rfl
  simp only[iz,Option.some.injEq,ea,es,em]at h;subst h
  first
   |(simp[binOp,Op.intArith,dO];done)
   |(simp only[oZ];simp[binOp,Op.intBits];done)
   |(simp[binOp,Op.intCmp,gG,dY];done)
   |(simp[binOp,Op.intCmp,gG,dY,bne];done)
   |(simp only[binOp,Op.intCmp,gG,ne_eq,not_true_eq_false,if_false,Sem.run_pure];congr 2;rw[Bool.eq_iff_iff];simp<;>omega)
theorem toList_eq (x:ByteArray):x.toList=x.data.toList:=by
 have loop:∀ (bs:ByteArray) (n i:Nat) (r:List UInt8),bs.size-i=n->ByteArray.toList.loop bs i r=r.reverse++bs.data.toList.drop i:=by
  intro bs n
  induction n with
  |zero =>
   intro i r h
   unfold ByteArray.toList.loop
   have:¬ i<bs.size:=by omega
   have hs:bs.data.toList.length=bs.size:=rfl
   simp[this,List.drop_eq_nil_of_le (show bs.data.toList.length<=i by omega)]
  |succ n ih =>
   intro i r h
   unfold ByteArray.toList.loop
   have hi:i<bs.size:=by omega
   have hs:bs.data.toList.length=bs.size:=rfl
   simp only[hi,if_true]
   rw[ih (i+1) _ (by omega)]
   rw[List.reverse_cons,List.append_assoc]
   congr 1
   rw[List.drop_eq_getElem_cons (show i<bs.data.toList.length by omega)]
   simp only[List.singleton_append,List.cons.injEq,and_true]
   show bs.get! i=_
   unfold ByteArray.get!
   simp[hi]
 unfold ByteArray.toList
 rw[loop x _ 0 [] rfl]
 simp
theorem Ro (a b:UInt8):Nat.beq a.toNat b.toNat=(a==b):=by
 rw[Bool.eq_iff_iff,beq_iff,beq_iff_eq];exact UInt8.toNat_inj
theorem gv (x y:List UInt8):p8 x y=(x==y):=by
 induction x generalizing y with
 |nil=>cases y<;>rfl
 |cons a x ih =>
  cases y with
  |nil=>rfl
  |cons b y =>
   simp only[p8,Ro,ih]
   rw[List.cons_beq_cons]
   cases (a==b)<;>simp[aj,au]
theorem LO (x y:List UInt8):Iz x y=Op.bytesLess x y:=by
 induction x generalizing y with
 |nil=>cases y<;>rfl
 |cons a x ih =>
  cases y with
  |nil=>rfl
  |cons b y =>
   have hlt:Nat.blt a.toNat b.toNat=decide (a<b):=by
    rw[Bool.eq_iff_iff,an,decide_eq_true_iff];exact UInt8.lt_iff_toNat_lt.symm
   simp only[Iz,Op.bytesLess,Ro,ih,hlt]
   cases decide (a<b)<;>cases (a==b)<;>simp[aj,au]
theorem nR (x y:List UInt8):(!(Op.bytesLess y x))=(Op.bytesLess x y||x==y):=by
 induction x generalizing y with
 |nil=>cases y<;>rfl
 |cons a x ih =>
  cases y with
  |nil=>rfl
  |cons b y =>
   simp only[Op.bytesLess,List.cons_beq_cons]
   have ih':=ih y
   by_cases h1:a<b
   ·have h2:¬ b<a:=by rw[UInt8.lt_iff_toNat_lt]at *;omega
    have h3:(b==a)=false:=by rw[beq_eq_false_iff_ne];rintro rfl;exact h2 h1
    simp[h1,h2,h3]
   ·by_cases h2:b<a
    ·have h3:(a==b)=false:=by rw[beq_eq_false_iff_ne];rintro rfl;exact h1 h2
     simp[h1,h2,h3]
    ·have h3:a=b:=by
      apply UInt8.toNat_inj.1;rw[UInt8.lt_iff_toNat_lt]at *;omega
     subst h3
     simp[h1]
     simpa using ih'
theorem W5 {x y:ByteArray} (h:x.data.toList=y.data.toList):x=y:=by
 cases x;cases y;simp at h;simp;exact h
theorem Oh {P:Program} {op:BinOp} {t:TypeId} {a b:ByteArray} {v:Value} (h:xk op a b=some v) (W:World) :
 (binOp op t (.string a) (.string b)).run P W=.ok v W:=by
 have hs1:a.size=a.data.toList.length:=rfl
 have hs2:b.size=b.data.toList.length:=rfl
 cases op with
 |add =>
  simp only[xk]at h
  cases ad6:Nat.ble (a.data.toList.length+b.data.toList.length) 1073741824 with
  |false=>rw[ad6,au]at h;cases h
  |true =>
  rw[ad6,aj]at h;cases h
  have hsz:=(aE _ _).1 ad6
  have h1:¬ ((a.size+b.size:Nat):Int) > IntKind.i64.max:=by
   have:IntKind.i64.max=9223372036854775807:=by decide
   rw[this,hs1,hs2];omega
  have h2:a++b=⟨⟨a.data.toList++b.data.toList⟩⟩:=by apply W5;simp
  simp only[binOp,Op.stringOp,if_neg h1,Sem.run_pure,h2]
 |_ =>
  first
   |(cases h;done)
   |(cases h;simp only[binOp,Op.stringOp,toList_eq,gv,LO,nR,Sem.run_pure];done)
   |(cases h;simp only[binOp,Op.stringOp,toList_eq,LO,<-nR,Sem.run_pure,Bool.not_not];done)
section
variable {P:Program} {tb:Tb} (ok:dI P tb) {β:Mp} {W:World}
include ok
theorem L7 {t:TypeId} {d:TypeDesc} {l:iG} {x y x' y':Value} {b:Bool} {k:Nat} (hl:qA tb d=some l) (hd:P.underlying t=some d) (hx:ai β x x') (hy:ai β y y')
 (h:cu l x y=some b):(Op.equalIn (k+1) t x' y').run P W=.ok b W:=by
 unfold qA at hl
 split at hl
 ·cases hl
  cases hx<;>simp only[cu]at h<;>try (cases h;done)
  cases hy<;>simp only at h<;>try (cases h;done)
  rename_i a c
  cases h
  rw[run_equalIn_bool W k t a c hd]
  cases a<;>cases c<;>rfl
 ·cases hl
  cases hx<;>simp only[cu]at h<;>try (cases h;done)
  cases hy<;>simp only at h<;>try (cases h;done)
  rename_i j a k2 c
  cases e:tD j k2 with
  |false=>rw[e,au]at h;cases h
  |true =>
   rw[e,aj]at h;cases h
   have:=iB e;subst this
   rw[run_equalIn_int W k t j _ a c hd,dY]
 ·cases hl
  cases hx<;>simp only[cu]at h<;>try (cases h;done)
  cases hy<;>simp only at h<;>try (cases h;done)
  cases h
  rw[run_equalIn_string W k t _ _ hd,toList_eq,toList_eq,gv]
 ·rename_i e
  split at hl<;>try (cases hl;done)
  rename_i n hsz
  cases hl
  obtain⟨i,hi,hs⟩:=cC ok hsz
  cases hx<;>simp only[cu]at h<;>try (cases h;done)
  ·cases hy<;>simp only at h<;>try (cases h;done)
   ·cases h;simp[Op.equalIn,run_underlying hd]
   ·cases h;simp[Op.equalIn,run_underlying hd]
  ·cases hy<;>simp only at h<;>try (cases h;done)
   ·cases h;simp[Op.equalIn,run_underlying hd]
   ·rename_i b1 o1 m1 e1 b2 o2 m2 e2
    cases e:Nat.beq b1 b2 with
    |false=>rw[e,au]at h;cases h
    |true =>
     rw[e,aj]at h;cases h
     have:=(beq_iff _ _).1 e;subst this
     rw[e1]at e2;cases e2
     simp[Op.equalIn,run_underlying hd,aX hi,hs,sameAddr]
     rw[Bool.eq_iff_iff,beq_iff,beq_iff_eq]
     constructor
     ·intro h;simp at h;omega
     ·intro h;rw[h]
 ·cases hl
  cases hx<;>simp only[cu]at h<;>try (cases h;done)
  all_goals (cases hy<;>simp only at h<;>first|(cases h;done)|(cases h;simp[Op.equalIn,run_underlying hd]))
 ·cases hl
  cases hx<;>simp only[cu]at h<;>try (cases h;done)
  all_goals (cases hy<;>simp only at h<;>first|(cases h;done)|(cases h;simp[Op.equalIn,run_underlying hd]))
 ·cases hl
  cases hx<;>simp only[cu]at h<;>try (cases h;done)
  all_goals (cases hy<;>simp only at h<;>first|(cases h;done)|(cases h;simp[Op.equalIn,run_underlying hd]))
 ·cases hl
  cases hx<;>simp only[cu]at h<;>try (cases h;done)
  all_goals (cases hy<;>simp only at h<;>first|(cases h;done)|(cases h;simp[Op.equalIn,run_underlying hd]))
 ·cases hl
end
end Go.Ev
end
