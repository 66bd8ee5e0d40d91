/-
 A part of the proof that pliantlaw16.MeanAssigns returns true and leaves its arguments alone. Conditions: those of the card in the last text.
-/
import Derived.Ground.Names2Prog
import Derived.Ground.NamesProg
import Derived.Shelf.Strconv.Itoa3
import Derived.Shelf.Strings.SlTrimAscii
import Derived.Shelf.Strings.Trim
import Derived.Test.YtdmcanlbncbemaaGreatDoorProg
import Derived.Test.YtdmcanlbncbemaaGreatDoorG09
import Derived.Test.YtdmcanlbncbemaaGreatDoorG13
import Derived.Test.YtdmcanlbncbemaaGreatDoorG14
set_option linter.unusedSimpArgs false
set_option linter.unusedVariables false
set_option linter.unusedSectionVars false
set_option maxRecDepth 100000
set_option maxHeartbeats 8000000
noncomputable section
namespace Go.Proofs.CN
open Go Go.Ev Go.Proofs Go.Ev.SM Go.Proofs.MN
theorem Q6 {n:Nat} (h:n<9000000000000000000):aN .i64 ((n:Nat):Int)=((n:Nat):Int):=wrap64 (by omega) (by omega)
theorem afX {n:Nat} (h:n<256):aN .i32 ((n:Nat):Int)=((n:Nat):Int):=by
 rw[dO]
 simp[IntKind.wrap,IntKind.signed,IntKind.bits]
 omega
theorem pP {a b c:Nat} (h:a+b=c) (hc:c<9000000000000000000):gD .add (nI .i64 a) (nI .i64 b)=some (nI .i64 c):=by
 show some (Value.int .i64 (aN .i64 ((a:Int)+(b:Int))))=_
 rw[show(a:Int)+(b:Int)=((c:Nat):Int)from by omega,Q6 hc];rfl
theorem Qx {b c:Nat} (h:10*b=c) (hc:c<9000000000000000000):gD .mul (nI .i64 10) (nI .i64 b)=some (nI .i64 c):=by
 show some (Value.int .i64 (aN .i64 ((10:Int)*(b:Int))))=_
 rw[show(10:Int)*(b:Int)=((c:Nat):Int)from by omega,Q6 hc];rfl
theorem pO {x y z:List UInt8} (h:x++y=z) (hl:z.length<=1073741824):gD .add (sI x) (sI y)=some (sI z):=by
 show Bc (Nat.ble (x.length+y.length) 1073741824) (some (Value.string ⟨⟨x++y⟩⟩)) none=_
 rw[<-List.length_append,h,(aE _ _).2 hl];rfl
theorem IQ {x:List UInt8} {i:Nat} {c:UInt8} (h:x[i]?=some c):iW .A5 [sI x,nI .i64 i]=some (nI .u8 c.toNat):=by
 have hi:i<x.length:=by
  rcases Nat.lt_or_ge i x.length with h2|h2
  ·exact h2
  ·rw[List.getElem?_eq_none h2]at h;cases h
 have h1:idx (nI .i64 i) x.length=some i:=by
  show Bc (Nat.blt i x.length) (some i) none=some i
  rw[(an _ _).2 hi];rfl
 show(match idx (nI .i64 i) x.length with
  |some m=>(match x[m]? with|some c=>some (Value.int .u8 (.ofNat c.toNat))|none=>none)
  |none=>none)=_
 rw[h1]
 show(match x[i]? with|some c=>some (Value.int .u8 (.ofNat c.toNat))|none=>none)=_
 rw[h];rfl
theorem tU {k:Nat} {v:Value} (h:0<k) (hv:wq v=true):[sy k,v].all wq=true:=by rw[List.all_cons,List.all_cons,bR h,hv];rfl
theorem E9 {k:Nat} {v:Value} (h:0<k) (hv:wq v=true):[v,sy k].all wq=true:=by rw[List.all_cons,List.all_cons,bR h,hv];rfl
theorem UF {Q:(Nat->Int)->Prop} {S:Nat} {sh:Sh} (hQ:∀ zs,Q zs->th sh (zs S)):ki (PW Q) (hkD S sh):=by
 rintro s ⟨zs,rfl,hl,hr,hq⟩ h l v e
 have o:=hQ zs hq
 have h6:(zs S).natAbs<1000000:=Nat.lt_of_le_of_lt o.hi o.h6
 have mP:=o.ng
 have hL:=o.L
 have hnd:=Fe (zs S).natAbs
 have hnp:=lu (zs S).natAbs
 have hsg:=KK sh.ng
 have nY:=vX (zs S) sh.ng mP
 unfold hkD at e
 split at e
 ·
  rename_i k
  have aux:∀ {j n:Nat} {x:List UInt8},j<1000->0<1000*S+j->slot (zs S) j=sI x->x.length=n->[Value.chan (some (1000*S+j))].all wq=true/\wq (nI .i64 n)=true/\iW .len ([Value.chan (some (1000*S+j))].map (real (aJ zs)))=some (real (aJ zs) (nI .i64 n)):=by
   intro j n x hj h0 hs hn
   refine⟨QK h0,rfl,?_⟩
   show iW .len [aJ zs (1000*S+j)]=_
   rw[gz zs S hj,hs]
   show some (Value.int .i64 (.ofNat x.length))=some (nI .i64 n)
   rw[hn];rfl
  cases c1:Nat.beq k (1000*S+2)with
  |true =>
   rw[c1,aj]at e;cases e
   have:=(beq_iff _ _).1 c1;subst this
   exact aux (by omega) (by omega) rfl (by rw[fc,hL])
  |false =>
  rw[c1,au]at e
  cases c2:(Nat.beq k (1000*S+3)&&Nat.blt sh.q 6)with
  |true =>
   rw[c2,aj]at e;cases e
   rw[Bool.and_eq_true,beq_iff,an]at c2
   obtain⟨rfl,c2⟩:=c2
   exact aux (by omega) (by omega) rfl (by rw[List.length_take,fc,hL,(o.q c2).1];omega)
  |false =>
  rw[c2,au]at e
  replace e:=aq e
  obtain⟨c3,e⟩:=e
  have:=(beq_iff _ _).1 c3;subst this
  cases e
  exact aux (by omega) (by omega) rfl (by rw[nY,hL])
 ·
  replace e:=aq e
  obtain⟨c,e⟩:=e
  simp only[Bool.and_eq_true,beq_iff,an]at c
  obtain⟨rfl,c1,c2,c3⟩:=c
  have:=fV c3;subst this
  cases e
  refine⟨tU (by omega) rfl,rfl,?_⟩
  show iW (.eq .s) [aJ zs (1000*S+3),sI []]=some (.bool false)
  rw[gz zs S (by omega)]
  show some (Value.bool (p8 ((bE (zs S).natAbs).take (nd (zs S).natAbs-nz (zs S).natAbs)) []))=_
  rw[gv]
  have:((bE (zs S).natAbs).take (nd (zs S).natAbs-nz (zs S).natAbs)).length=sh.L-sh.q:=by rw[List.length_take,fc,hL,(o.q c1).1];omega
  cases hh:(bE (zs S).natAbs).take (nd (zs S).natAbs-nz (zs S).natAbs)with
  |nil=>rw[hh]at this;simp at this;omega
  |cons a b=>rfl
 ·
  replace e:=aq e
  obtain⟨c,e⟩:=e
  simp only[Bool.and_eq_true,Bool.or_eq_true,beq_iff]at c
  obtain⟨rfl,c⟩:=c
  cases e
  rcases c with rfl|⟨rfl,c2⟩
  ·refine⟨H_ (by omega) (by omega),rfl,?_⟩
   show iW (.eq .s) [aJ zs (1000*S+4),aJ zs (1000*S+4)]=some (.bool true)
   rw[gz zs S (by omega)]
   show some (Value.bool (p8 (stx (zs S)) (stx (zs S))))=_
   rw[gv,beq_self_eq_true]
  ·refine⟨H_ (by omega) (by omega),rfl,?_⟩
   show iW (.eq .s) [aJ zs (1000*S+4),aJ zs (1000*S+2)]=some (.bool true)
   rw[gz zs S (by omega),gz zs S (by omega)]
   show some (Value.bool (p8 (stx (zs S)) (bE (zs S).natAbs)))=_
   have:sh.ng=false:=by cases hb:sh.ng<;>simp[hb]at c2 ⊢
   rw[this,if_neg Bool.false_ne_true]at mP
   rw[jH mP,gv,beq_self_eq_true]
 ·
  rename_i k i
  cases c1:(Nat.beq k (1000*S+2)&&Nat.blt i sh.L)with
  |true =>
   rw[c1,aj]at e;cases e
   rw[Bool.and_eq_true,beq_iff,an]at c1
   obtain⟨rfl,c1⟩:=c1
   refine⟨tU (by omega) rfl,bR (by omega),?_⟩
   show iW .A5 [aJ zs (1000*S+2),nI .i64 i]=some (aJ zs (1000*S+(100+i)))
   rw[gz zs S (by omega),gz zs S (by omega),rG _ (by omega)]
   refine(IQ (x:=bE (zs S).natAbs) (qn (by omega))).trans ?_
   rw[qO]
  |false =>
  rw[c1,au]at e
  cases c2:(Nat.beq k (1000*S+3)&&(Nat.blt sh.q 6&&Nat.blt i (sh.L-sh.q)))with
  |true =>
   rw[c2,aj]at e;cases e
   simp only[Bool.and_eq_true,beq_iff,an]at c2
   obtain⟨rfl,c2,c3⟩:=c2
   have hz:=(o.q c2).1
   refine⟨tU (by omega) rfl,bR (by omega),?_⟩
   show iW .A5 [aJ zs (1000*S+3),nI .i64 i]=some (aJ zs (1000*S+(100+i)))
   rw[gz zs S (by omega),gz zs S (by omega),rG _ (by omega)]
   refine(IQ (x:=(bE (zs S).natAbs).take (nd (zs S).natAbs-nz (zs S).natAbs)) (c:=UInt8.ofNat (48+jr (zs S).natAbs i)) ?_).trans ?_
   ·rw[List.getElem?_take_of_lt (by omega)];exact qn (by omega)
   rw[qO]
  |false =>
  rw[c2,au]at e
  replace e:=aq e
  obtain⟨c3,e⟩:=e
  rw[Bool.and_eq_true,beq_iff,an]at c3
  obtain⟨rfl,c3⟩:=c3
  cases e
  refine⟨tU (by omega) rfl,bR (by omega),?_⟩
  show iW .A5 [aJ zs (1000*S+4),nI .i64 i]=some (aJ zs (1000*S+(200+i)))
  rw[gz zs S (by omega),gz zs S (by omega),ow _ (by omega)]
  have hi:i<(stx (zs S)).length:=by rw[nY,hL];exact c3
  exact IQ (x:=stx (zs S)) (by rw[List.getElem?_eq_getElem hi,wJ (List.getElem?_eq_getElem hi)])
 ·
  replace e:=aq e
  obtain⟨c,e⟩:=e
  obtain⟨i,rfl,hi⟩:=mZ c
  cases e
  refine⟨tU (by omega) rfl,bR (by omega),?_⟩
  show iW (.bin .sub) [aJ zs (1000*S+(100+i)),.int .u8 48]=some (aJ zs (1000*S+(100+i)+20))
  rw[show 1000*S+(100+i)+20=1000*S+(120+i)from by omega,gz zs S (by omega),gz zs S (by omega),rG _ (by omega),Eu _ (by omega)]
  have:=lG (zs S).natAbs i
  show some (Value.int .u8 (aN .u8 (((48+jr (zs S).natAbs i:Nat):Int)-48)))=_
  rw[show((48+jr (zs S).natAbs i:Nat):Int)-48=((jr (zs S).natAbs i:Nat):Int)from by omega,iR (by omega)];rfl
 ·
  replace e:=aq e
  obtain⟨c,e⟩:=e
  obtain⟨i,rfl,hi⟩:=mZ c
  cases e
  refine⟨QK (by omega),bR (by omega),?_⟩
  show iW (.jM .i64) [aJ zs (1000*S+(120+i))]=some (aJ zs (1000*S+(120+i)+20))
  rw[show 1000*S+(120+i)+20=1000*S+(140+i)from by omega,gz zs S (by omega),gz zs S (by omega),Eu _ (by omega),oA _ (by omega)]
  have:=lG (zs S).natAbs i
  show some (Value.int .i64 (aN .i64 ((jr (zs S).natAbs i:Nat):Int)))=_
  rw[iR (by omega)];rfl
 ·
  replace e:=aq e
  obtain⟨c,e⟩:=e
  obtain⟨i,rfl,hi⟩:=mZ c
  cases e
  refine⟨QK (by omega),bR (by omega),?_⟩
  show iW (.jM .i32) [aJ zs (1000*S+(200+i))]=some (aJ zs (1000*S+(200+i)+260))
  rw[show 1000*S+(200+i)+260=1000*S+(460+i)from by omega,gz zs S (by omega),gz zs S (by omega),ow _ (by omega),Er _ (by omega)]
  have:((stx (zs S)).getD i 0).toNat<256:=UInt8.toNat_lt _
  show some (Value.int .i32 (aN .i32 ((((stx (zs S)).getD i 0).toNat:Nat):Int)))=_
  rw[afX this];rfl
 ·
  replace e:=aq e
  obtain⟨c,e⟩:=e
  obtain⟨i,rfl,hi⟩:=mZ c
  cases e
  refine⟨QK (by omega),bR (by omega),?_⟩
  show iW .chr [aJ zs (1000*S+(460+sg sh.ng+i))]=some (aJ zs (1000*S+(460+sg sh.ng+i)+20))
  rw[show 1000*S+(460+sg sh.ng+i)+20=1000*S+(480+(sg sh.ng+i))from by omega,show 460+sg sh.ng+i=460+(sg sh.ng+i)from by omega,gz zs S (by omega),gz zs S (by omega),Er _ (by omega),xq _ (by omega),
   xe mP (by omega),show sg sh.ng+i=i+sg sh.ng from by omega,wJ (Hv mP (by omega)),qO]
  show some (Value.string (Utf8.encode ((48+jr (zs S).natAbs i:Nat):Int)))=_
  rw[XW (by omega)];rfl
 ·
  replace e:=aq e
  obtain⟨c,e⟩:=e
  simp only[Bool.and_eq_true,beq_iff,Bool.not_eq_true',<-Bool.not_eq_true]at c
  obtain⟨rfl,c1,c2⟩:=c
  cases e
  refine⟨QK (by omega),bR (by omega),?_⟩
  show iW .neg [aJ zs (1000*S+0)]=some (aJ zs (1000*S+1))
  rw[gz zs S (by omega),gz zs S (by omega)]
  rw[c1,if_pos rfl]at mP
  show some (Value.int .i64 (aN .i64 (0-zs S)))=some (Value.int .i64 (((zs S).natAbs:Nat):Int))
  rw[show 0-zs S=(((zs S).natAbs:Nat):Int)from by omega,Q6 (by omega)]
 ·
  replace e:=aq e
  obtain⟨c,e⟩:=e
  rw[beq_iff]at c;subst c
  cases e
  refine⟨E9 (by omega) rfl,bR (by omega),?_⟩
  show iW (.bin .add) [nI .i64 0,aJ zs (1000*S+(140+0))]=some (aJ zs (1000*S+(160+1)))
  rw[gz zs S (by omega),gz zs S (by omega),oA _ (by omega),ox _ (by omega)]
  have:=lG (zs S).natAbs 0
  exact pP (by rw[Nr h6];omega) (by rw[<-Nr h6];omega)
 ·
  replace e:=aq e
  obtain⟨c,e⟩:=e
  obtain⟨i,rfl,hi⟩:=mZ c
  cases e
  refine⟨E9 (by omega) rfl,bR (by omega),?_⟩
  show iW (.bin .mul) [nI .i64 10,aJ zs (1000*S+(160+i))]=some (aJ zs (1000*S+(160+i)+20))
  rw[show 1000*S+(160+i)+20=1000*S+(180+i)from by omega,gz zs S (by omega),gz zs S (by omega),ox _ (by omega),xw _ (by omega)]
  have:(zs S).natAbs / 10 ^ (nd (zs S).natAbs-i)<=(zs S).natAbs:=Nat.div_le_self _ _
  exact Qx rfl (by omega)
 ·
  rename_i j k
  cases c1:(Xt S j 180 187&&(Nat.beq j (k+40)&&Nat.blt j (1000*S+180+sh.L)))with
  |true =>
   rw[c1,aj]at e;cases e
   simp only[Bool.and_eq_true,beq_iff,an]at c1
   obtain⟨c1,c2,c3⟩:=c1
   obtain⟨i,rfl,hi⟩:=mZ c1
   have:k=1000*S+(140+i):=by omega
   subst this
   refine⟨H_ (by omega) (by omega),bR (by omega),?_⟩
   show iW (.bin .add) [aJ zs (1000*S+(180+i)),aJ zs (1000*S+(140+i))]=some (aJ zs (1000*S+(180+i)-19))
   rw[show 1000*S+(180+i)-19=1000*S+(160+(i+1))from by omega,gz zs S (by omega),gz zs S (by omega),gz zs S (by omega),oA _ (by omega),ox _ (by omega),xw _ (by omega)]
   have h7:(zs S).natAbs / 10 ^ (nd (zs S).natAbs-(i+1))<=(zs S).natAbs:=Nat.div_le_self _ _
   exact pP (KW (by omega)) (by omega)
  |false =>
  rw[c1,au]at e
  replace e:=aq e
  obtain⟨c,e⟩:=e
  simp only[Bool.and_eq_true,beq_iff,an]at c
  obtain⟨c1,c2,c3⟩:=c
  obtain⟨i,rfl,hi⟩:=mZ c1
  have:k=1000*S+(480+(sg sh.ng+i)):=by omega
  subst this
  have key:gD .add (aJ zs (1000*S+(500+i))) (aJ zs (1000*S+(480+(sg sh.ng+i))))=some (sI ((bE (zs S).natAbs).take (i+1))):=by
   rw[gz zs S (by omega),gz zs S (by omega),xp _ (by omega),xq _ (by omega),xe mP (by omega)]
   exact pO (qc (by omega)) (by rw[List.length_take];omega)
  cases e
  cases c4:Nat.beq (1000*S+(500+i)+1) (1000*S+500+sh.L)with
  |true =>
   rw[aj]
   rw[beq_iff]at c4
   refine⟨H_ (by omega) (by omega),bR (by omega),?_⟩
   refine key.trans ?_
   show _=some (aJ zs (1000*S+2))
   rw[q_ (by omega),gz zs S (by omega)];rfl
  |false =>
   rw[au]
   refine⟨H_ (by omega) (by omega),bR (by omega),?_⟩
   refine key.trans ?_
   show _=some (aJ zs (1000*S+(500+i)+1))
   rw[show 1000*S+(500+i)+1=1000*S+(500+(i+1))from by omega,gz zs S (by omega),xp _ (by omega)]
 ·
  replace e:=aq e
  obtain⟨c,e⟩:=e
  simp only[Bool.and_eq_true,beq_iff,an]at c
  obtain⟨rfl,c1,c2⟩:=c
  have:=fV c2;subst this
  obtain⟨q1,q2⟩:=o.q c1
  cases e
  refine⟨tU (by omega) rfl,bR (by omega),?_⟩
  show iW (.bin .add) [aJ zs (1000*S+3),sI (List.replicate sh.q 48)]=some (aJ zs (1000*S+2))
  rw[gz zs S (by omega),gz zs S (by omega)]
  refine pO (x:=(bE (zs S).natAbs).take (nd (zs S).natAbs-nz (zs S).natAbs)) (z:=bE (zs S).natAbs) ?_ (by rw[fc];omega)
  rw[<-q1];exact N5 q2 h6
 ·
  replace e:=aq e
  obtain⟨c,e⟩:=e
  rw[Bool.and_eq_true,beq_iff]at c
  obtain⟨c1,rfl⟩:=c
  have:=fV c1;subst this
  have key:gD .add (sI []) (aJ zs (1000*S+(480+sg sh.ng)))=some (sI ((bE (zs S).natAbs).take 1)):=by
   rw[gz zs S (by omega),xq _ (by omega),show sg sh.ng=sg sh.ng+0 from rfl,xe mP (by omega)]
   exact pO (x:=[]) (qc (i:=0) (by omega)) (by rw[List.length_take];omega)
  cases e
  cases c4:Nat.beq sh.L 1 with
  |true =>
   rw[beq_iff]at c4
   rw[aj]
   refine⟨E9 (by omega) rfl,bR (by omega),key.trans ?_⟩
   show _=some (aJ zs (1000*S+2))
   rw[q_ (by omega),gz zs S (by omega)];rfl
  |false =>
   rw[au]
   refine⟨E9 (by omega) rfl,bR (by omega),key.trans ?_⟩
   have h9:aJ zs (1000*S+501)=sI ((bE (zs S).natAbs).take 1):=by
    rw[gz zs S (by omega)]
    exact xp (zs S) (i:=1) (by omega)
   have hx:∀ k,real (aJ zs) (sy k)=aJ zs k:=λ_=>rfl
   rw[hx,h9]
 ·cases e
end Go.Proofs.CN
end
noncomputable section
namespace Go.Proofs.CN
open Go Go.Ev Go.Proofs
noncomputable def y9:Code:=(Tryz.f230.body).getD .skip
def WQ:List CO:=[
 ⟨(some 2),none,.mv (.const (.bool false))⟩]
def WM:List CO:=[
 ⟨(some 4),none,.mv (.tmp 0)⟩,
 ⟨(some 5),none,.len 0 (.tmp 4)⟩,
 ⟨(some 6),none,.mv (.const (.int .i64 (0)))⟩]
def JY:List CO:=[
 ⟨(some 7),none,.bin .lss (.tmp 6) (.tmp 5)⟩]
def WL:List CO:=[
 ⟨(some 8),none,.mv (.tmp 6)⟩,
 ⟨(some 3),none,.mv (.tmp 8)⟩]
def JX:List CO:=[
 ⟨(some 9),none,.mv (.tmp 0)⟩,
 ⟨(some 10),none,.mv (.tmp 3)⟩,
 ⟨(some 11),none,.A5 (.tmp 9) (.tmp 10)⟩,
 ⟨(some 12),none,.eq true (.one .i) (.tmp 11) (.const (.int .u8 (48)))⟩,
 ⟨(some 13),none,.mv (.tmp 12)⟩,
 ⟨(some 14),(some (13,true)),.mv (.tmp 0)⟩,
 ⟨(some 15),(some (13,true)),.mv (.tmp 3)⟩,
 ⟨(some 16),(some (13,true)),.A5 (.tmp 14) (.tmp 15)⟩,
 ⟨(some 17),(some (13,true)),.eq true (.one .i) (.tmp 16) (.const (.int .u8 (49)))⟩,
 ⟨(some 18),none,.pick (.tmp 13) (.tmp 17) (.const (.bool false))⟩]
def afC:List CO:=[
 ⟨(some 2),none,.mv (.const (.bool false))⟩]
def WJ:List CO:=[
 ⟨(some 19),none,.bin .add (.tmp 6) (.const (.int .i64 (1)))⟩,
 ⟨(some 6),none,.mv (.tmp 19)⟩]
noncomputable def WS:KC :=
 (.seq (.bp JY)
 (.seq (.cond (.tmp 7) .skip
  (.exit 0))
 (.seq (.block 1 (.seq (.bp WL)
  (.seq (.bp JX)
  (.cond (.tmp 18) (.seq (.bp afC)
   .ret)
   .skip))))
 (.bp WJ))))
def WH:List CO:=[
 ⟨(some 2),none,.mv (.const (.bool true))⟩]
noncomputable def WT:KC :=
 (.seq (.bp WQ)
 (.seq (.seq (.bp WM)
 (.block 0 (.loop y9.sr.sl.sr.bl.lp WS)))
 (.seq (.bp WH)
 .ret)))
theorem WU:bC Go.Proofs.MN.dm Tryz.f230.ntmps y9=WT:=by kernel_rfl
theorem WG:Tryz.f230.body=some y9:=rfl
end Go.Proofs.CN
end
noncomputable section
namespace Go.Proofs.CN
open Go Go.Ev Go.Proofs Go.Ev.SM Go.Proofs.MN
open Go.Ar (By)
theorem aj4:dm.fn 230=some Tryz.f230:=by kernel_rfl
theorem aaR (u:UInt8) (i:Nat):jB u i=48\/jB u i=49:=by
 unfold jB
 have:=Nat.mod_lt (u.toNat / 2 ^ (7-i)) (show 0<2 by decide)
 rcases(by omega:u.toNat / 2 ^ (7-i) % 2=0\/u.toNat / 2 ^ (7-i) % 2=1)with h|h<;>rw[h]
 ·exact .inl rfl
 ·exact .inr rfl
section
variable [dj]
attribute [local go_sem] au aj GT dF gF aR Yj Yk Yl Ym Yn Yo Yp Yq Yr and_self and_true cV cU cQ cP cN cM bx ig ic de dR aP bw af cJ cI bP cG cF cE if_false if_true dM dD bM run true_and ck bL bK bJ bI bf bu
variable {sp:Nat->List Value->Hp->Option (Value×Hp×Nat×Nat)} {e:Env}
theorem afD (S:∀ f args H,sp f args H=none) {H:Hp} (hf:H.bG=true) (he:e.n0<=H.nx) {u v:UInt8}:EC dm sp e 230 [vS (bitsOf u++bitsOf v)] H λr H'=>r=.bool true/\H'=H:=by
 refine EC.i1 aj4 WG WU (S _ _ _) (by show 1<=20;decide) λt0 g0=>?_
 show WK dm sp e ⟨2,20,none,false⟩ WT t0 [] H _
 unfold WT
 refine WK.seq ?_
 refine WK.av ?_
 refine aR.all (λt' H'=>H=H'/\GT t' [(0,vS (bitsOf u++bitsOf v))]) ?_ ?_
 ·simp +decide only[WQ,g0,Xo 2,go_sem]
 rintro t1 _ ⟨rfl,dQ, -⟩
 refine WK.seq ?_
 refine WK.seq ?_
 refine WK.av ?_
 have ml_:∀ Hq,fY 0 (vS (bitsOf u++bitsOf v)) Hq=.val (vN ((16:Nat))) Hq 0 0:=λHq=>AV u v Hq
 refine aR.all (λt' H'=>H=H'/\GT t' [(0,vS (bitsOf u++bitsOf v)),(5,iN 16),(6,.int .i64 (0))]) ?_ ?_
 ·simp +decide only[WM,dQ,ml_,Xo 2,go_sem]
 rintro t2 _ ⟨rfl,dV,qF,lC, -⟩
 refine WK.block (WK.eR (λm t' ds' H'=>ds'=[]/\H'=H/\∃ i:Nat,m=16-i/\i<=16/\t'.get 0=vS (bitsOf u++bitsOf v)/\t'.get 5=iN 16/\t'.get 6=iN i) ?_ _ t2 [] H ⟨rfl,rfl,0,rfl,by omega,dV,qF,lC⟩)
 rintro m_ tl ds_ H_l ⟨rfl,rfl,i,rfl,hi,ku,zT,ais⟩
 unfold WS
 refine WK.seq ?_
 by_cases hlt:i<16
 case pos =>
  refine WK.av ?_
  have d_:decide (((i:Nat):Int)<((16:Nat):Int))=true:=decide_eq_true (by omega)
  refine aR.all (λt' H'=>H_l=H'/\GT t' [(0,vS (bitsOf u++bitsOf v)),(5,iN 16),(6,iN i),(7,.bool true)]) ?_ ?_
  ·simp +decide only[JY,ku,zT,ais,d_,Xo 2,go_sem]
  rintro t3 _ ⟨rfl,iq,n8,nZ,lB, -⟩
  refine WK.seq ?_
  refine WK.cond (v:=true) (by rw[af,lB];rfl) ?_
  refine WK.skip ?_
  refine WK.seq ?_
  refine WK.block ?_
  refine WK.seq ?_
  refine WK.av ?_
  refine aR.all (λt' H'=>H_l=H'/\GT t' [(0,vS (bitsOf u++bitsOf v)),(3,iN i),(5,iN 16),(6,iN i)]) ?_ ?_
  ·simp +decide only[WL,iq,n8,nZ,lB,Xo 2,go_sem]
  rintro t4 _ ⟨rfl,gV,zW,nC,uw, -⟩
  refine WK.seq ?_
  refine WK.av ?_
  have mi_:∀ Hq,kS (vS (bitsOf u++bitsOf v)) (iN i) Hq=.val (uB (jB (zu u v i) (i % 8))) Hq 0 0:=λHq=>uj hlt Hq
  refine aR.all (λt' H'=>H_l=H'/\GT t' [(0,vS (bitsOf u++bitsOf v)),(3,iN i),(5,iN 16),(6,iN i),(18,.bool false)]) ?_ ?_
  ·rcases aaR (zu u v i) (i % 8)with hc|hc
   ·rw[hc]at mi_
    have q1:∀ Hq,jo true (.one .i) (uB 48) (.int .u8 (48)) Hq=.val (.bool false) Hq 0 0:=λHq=>rfl
    simp +decide only[JX,gV,zW,nC,uw,mi_,q1,Xo 2,go_sem]
   ·rw[hc]at mi_
    have q1:∀ Hq,jo true (.one .i) (uB 49) (.int .u8 (48)) Hq=.val (.bool true) Hq 0 0:=λHq=>rfl
    have q2:∀ Hq,jo true (.one .i) (uB 49) (.int .u8 (49)) Hq=.val (.bool false) Hq 0 0:=λHq=>rfl
    simp +decide only[JX,gV,zW,nC,uw,mi_,q1,q2,Xo 2,go_sem]
  rintro t5 _ ⟨rfl,kz,FZ,uy,sO,Vu, -⟩
  refine WK.cond (v:=false) (by rw[af,Vu];rfl) ?_
  refine WK.skip ?_
  refine WK.av ?_
  have w_:Value.int .i64 (aN .i64 (((i:Nat):Int)+(1:Int)))=.int .i64 (((i+1):Nat):Int):=wF (by omega)
  refine aR.all (λt' H'=>H_l=H'/\GT t' [(0,vS (bitsOf u++bitsOf v)),(5,iN 16),(6,iN ((i+1)))]) ?_ ?_
  ·simp +decide only[WJ,kz,uy,sO,w_,Xo 2,go_sem]
  rintro t6 _ ⟨rfl,iK,vH,oQ, -⟩
  exact⟨_,by omega,rfl,rfl,i+1,rfl,by omega,iK,vH,oQ⟩
 case neg =>
  obtain rfl:i=16:=by omega
  refine WK.av ?_
  have d_:decide (((16:Nat):Int)<((16:Nat):Int))=false:=decide_eq_false (by omega)
  refine aR.all (λt' H'=>H_l=H'/\GT t' [(0,vS (bitsOf u++bitsOf v)),(7,.bool false)]) ?_ ?_
  ·simp +decide only[JY,ku,zT,ais,d_,Xo 2,go_sem]
  rintro t3 _ ⟨rfl,iq,lB, -⟩
  refine WK.seq ?_
  refine WK.cond (v:=false) (by rw[af,lB];rfl) ?_
  refine WK.exit ?_
  refine WK.seq ?_
  refine WK.av ?_
  refine aR.all (λt' H'=>H_l=H'/\GT t' [(2,.bool true)]) ?_ ?_
  ·simp +decide only[WH,iq,Xo 2,go_sem]
  rintro t4 _ ⟨rfl,Dn, -⟩
  refine WK.ret ⟨.inr rfl,rfl,[.bool true],0,?_,.zero _ _,rfl,rfl⟩
  show eg dm 20 t4 _ [.tmp 2]=_
  simp only[eg,Dn];rfl
end
def sE (v:Value):Bool:=match v with
 |.int .u8 (.ofNat x)=>Nat.blt x 256
 |.chan (some k)=>Nat.beq (k % 1000) 8||Nat.beq (k % 1000) 9
 |_=>false
def uc (B:dB):Option (T Value):=match B with
 |.cells t sz ty op lo hi=>Bc (Nat.beq sz 65536&&(Nat.beq ty 199&&(Nat.beq op 0&&(Nat.beq lo 0&&(Nat.beq hi 0&&QC sE t))))) (some t) none
 |_=>none
def A6 (k:Nat) (v:Value):Bool:=match v with|.chan (some j)=>Nat.beq j k|_=>false
theorem pJ {k:Nat} {v:Value} (h:A6 k v=true):v=sy k:=by
 unfold A6 at h
 split at h
 ·rw[(beq_iff _ _).1 h];rfl
 ·cases h
def BW (args:List Value) (H:Hp):kE:=match args with
 | [.pointer (some ⟨b,0,none⟩),.int .i64 (.ofNat at_),.int .i64 n]=>(match uc (H.blk b)with
  |some t=>Bc (nQ n 16&&(Nat.beq (Nat.mod at_ 8) 0&&(Nat.blt (Nat.div at_ 8) 65535&&vt H)))
   (Bc (A6 4008 (t.get (Nat.div at_ 8))&&A6 4009 (t.get (Nat.succ (Nat.div at_ 8)))) (some (sy 4007,H,bit b,0)) none) none
  |none=>none)
 |_=>none
def zE (t:T Value) (b at_:Nat) (H:Hp):kE :=
 Bc (Nat.beq (Nat.mod at_ 8) 0&&(Nat.blt (Nat.div at_ 8) 65535&&vt H))
     (some (.tuple #[],H.put b (.cells (T.set 6 (T.set 6 t (Nat.div at_ 8) (sy 4008)) (Nat.succ (Nat.div at_ 8)) (sy 4009)) 65536 199 0 0 0),0,bit b)) none
def BU (args:List Value) (H:Hp):kE:=match args with
 | [.pointer (some ⟨b,0,none⟩),.int .i64 (.ofNat at_),s]=>(match uc (H.blk b)with
  |some t=>Bc (A6 4007 s) (zE t b at_ H) none
  |none=>none)
 |_=>none
def vC (z:Int):UInt8:=UInt8.ofNat (u16 z / 256)
def vw (z:Int):UInt8:=UInt8.ofNat (u16 z % 256)
theorem Mx (z:Int):(vC z).toNat=u16 z / 256:=by
 have:=Rp z
 unfold vC;rw[UInt8.toNat_ofNat'];omega
theorem L4 (z:Int):(vw z).toNat=u16 z % 256:=by unfold vw;rw[UInt8.toNat_ofNat'];omega
theorem HK (z:Int):slot z 8=uB (vC z):=by
 show nI .u8 (u16 z / 256)=Value.int .u8 (.ofNat (vC z).toNat)
 rw[Mx];rfl
theorem HJ (z:Int):slot z 9=uB (vw z):=by
 show nI .u8 (u16 z % 256)=Value.int .u8 (.ofNat (vw z).toNat)
 rw[L4];rfl
theorem aaT (z:Int) {i:Nat} (h:i<8):u16 z / 256 / 2 ^ i % 2=jC z (8+i):=by
 unfold jC
 rw[Nat.div_div_eq_div_mul,show 256*2 ^ i=2 ^ (8+i)from by rw[Nat.pow_add]]
theorem aaS (z:Int) {i:Nat} (h:i<8):u16 z % 256 / 2 ^ i % 2=jC z i:=by
 unfold jC
 generalize u16 z=n
 rcases(by omega:i=0\/i=1\/i=2\/i=3\/i=4\/i=5\/i=6\/i=7)with rfl|rfl|rfl|rfl|rfl|rfl|rfl|rfl<;>simp<;>omega
theorem J1 (z:Int):vS (bitsOf (vC z)++bitsOf (vw z))=slot z 7:=by
 rw[BZ]
 have h1:bitsOf (vC z)=(List.range 8).map λi=>UInt8.ofNat (48+jC z (15-i)):=by
  unfold bitsOf
  apply List.map_congr_left
  intro i hi
  have hi:=List.mem_range.1 hi
  unfold jB
  rw[Mx,aaT z (by omega),show 8+(7-i)=15-i from by omega]
 have h2:bitsOf (vw z)=(List.range 8).map λi=>UInt8.ofNat (48+jC z (15-(8+i))):=by
  unfold bitsOf
  apply List.map_congr_left
  intro i hi
  have hi:=List.mem_range.1 hi
  unfold jB
  rw[L4,aaS z (by omega),show 15-(8+i)=7-i from by omega]
 rw[h1,h2]
 rfl
section
variable [dj]
theorem ni {B:dB} {t:T Value} (h:uc B=some t):B=.cells t 65536 199 0 0 0/\∀ i,sE (t.get i)=true:=by
 unfold uc at h
 split at h
 ·obtain⟨h1,h2⟩:=aq h
  cases h2
  simp only[Bool.and_eq_true,beq_iff]at h1
  obtain⟨rfl,rfl,rfl,rfl,rfl,h1⟩:=h1
  exact⟨rfl,zd h1⟩
 ·cases h
end
theorem IS {zs:Nat->Int} {β:Mp} (tb:uM (aJ zs) β) {v v':Value} (h:sE v=true) (hv:ai β v v'):∃ u:UInt8,v'=uB u:=by
 unfold sE at h
 split at h
 ·rename_i x
  cases hv
  have hx:=(an _ _).1 h
  exact⟨UInt8.ofNat x,by show Value.int .u8 (Int.ofNat x)=.int .u8 (.ofNat (UInt8.ofNat x).toNat);rw[UInt8.toNat_ofNat',Nat.mod_eq_of_lt (by omega)]⟩
 ·rename_i k
  simp only[Bool.or_eq_true,beq_iff]at h
  have hk:wq (.chan (some k))=true:=by cases k with
   |zero=>simp at h
   |succ k=>rfl
  have e:=(bY (cy zs) tb (v:=.chan (some k)) hk).1 hv
  rcases h with h|h
  ·refine⟨vC (zs (k / 1000)),?_⟩
   rw[e,<-HK]
   show slot (zs (k / 1000)) (k % 1000)=_
   rw[h]
  ·refine⟨vw (zs (k / 1000)),?_⟩
   rw[e,<-HJ]
   show slot (zs (k / 1000)) (k % 1000)=_
   rw[h]
 ·cases h
theorem AO [dj] {zs:Nat->Int} {β:Mp} {W:World} (tb:uM (aJ zs) β) {B:dB} {t:T Value} (h:uc B=some t) {m:Bm} (hb:fM β W B m) :
 m.sh=0/\m.tot=65536/\∃ (cs:Array Value) (fr:Nat×Nat) (f:By),W.heap[m.rb]?=some (.cells cs 199 fr)/\cs.size=65536/\Ag m 0 0 fr/\∀ i,i<65536->cs[i]?=some (uB (f i))/\ai β (t.get i) (uB (f i)):=by
 obtain⟨rfl,hB⟩:=ni h
 obtain⟨o,ho,cs,fr,rfl,h1,h2,h3,h4,h5,h6⟩:=hb
 obtain⟨hs,ht⟩:=h3 rfl
 have key:∀ i,∃ u:UInt8,i<65536->cs[i]?=some (uB u)/\ai β (t.get i) (uB u):=λi=>by
  by_cases hi:i<65536
  ·obtain⟨_,v',e,hv⟩:=h5 i hi
   rw[hs,Nat.zero_add]at e
   obtain⟨u,rfl⟩:=IS tb (hB i) hv
   exact⟨u,λ_=>⟨e,hv⟩⟩
  ·exact⟨0,λh=>absurd h hi⟩
 exact⟨hs,ht,cs,fr,λi=>(key i).choose,ho,by omega,h6,λi hi=>(key i).choose_spec hi⟩
theorem Ay {Q:(Nat->Int)->Prop} {hk:er->List Value->Option Value} {vA:gO (PW Q) hk} {args:List Value} {H H':Hp} {v:Value} {r w:Nat} (hw:H.wf) (h:BW args H=some (v,H',r,w)):@aI (jj (PW Q) hk vA) Tryz.prog NG (.call 308 args) H (.k (.ret v H' r w)):=by
 letI:=jj (PW Q) hk vA
 unfold BW at h
 split at h
 case h_2=>cases h
 rename_i b a n
 split at h
 case h_2=>cases h
 rename_i t hm
 have h2:=aq h
 clear h
 obtain⟨h1,h⟩:=h2
 simp only[Bool.and_eq_true,dY,beq_iff_eq,beq_iff,an,vt,aE]at h1
 obtain⟨rfl,ha,hlt,qC,mP⟩:=h1
 have ha:a % 8=0:=ha
 have hlt:a / 8<65535:=hlt
 obtain⟨hby,h⟩:=aq h
 rw[Bool.and_eq_true]at hby
 have e0:=pJ hby.1
 have e1:=pJ hby.2
 cases h
 refine⟨Can.refl hw,λβ W hg p args' hl=>?_⟩
 have hgK:=hg
 obtain⟨zB,s,⟨zs,rfl,Xy,hr4,hQ⟩,tb⟩:=hg
 obtain⟨hB,_⟩:=ni hm
 have hal:alive H b:=(aH _ _).2 (by rw[hB];intro e;cases e)
 obtain⟨m,em,hbk⟩:=p.rel b (.inl ((aB b b).2 rfl)) hal
 obtain⟨hs,ht,cs,fr,f,ho,hc,hf,hcs⟩:=AO tb hm hbk
 have qh:b<H.nx:=hal.1
 have IX:=LL (sp:=λ_ _ _=>none) (e:=⟨H.nx,λc=>c=b,λ_=>False⟩) (λ_ _ _=>rfl) (H:=Hw b f H.nx) rfl (Nat.le_refl _) (p:=a / 8) (DY f qh) (by omega) (λ_=>rfl)
 obtain⟨N,v1,H1,r1,w1,ju,hok,A7,rfl,hkp,hub⟩:=IX
 have hT:=oW jS oF (mU Tryz.prog dm.ng) N (.call 308 [pA b 0,Go.Ev.iN (8*(a / 8)),.int .i64 16]) (Hw b f H.nx) trivial
 rw[ju]at hT
 have hpre:Pre (β.cut H.nx) (Hw b f H.nx) H1 r1 w1 W:=KV qC qh em (λβ'=>BK qh hs ht ho hc hf λi hi=>(hcs i hi).1) hub p.dom
 have Df:cX NG (β.cut H.nx):=cX.cut mP hgK
 have sL:ak (β.cut H.nx) [pA b 0,Go.Ev.iN (8*(a / 8)),.int .i64 16] args'.toList:=by
  obtain⟨x1,l1,e,hx1,hl⟩:=hl.cons_inv
  obtain⟨x2,l2,rfl,hx2,hl⟩:=hl.cons_inv
  rw[e]
  refine ak.cons ?_ (ak.cons ?_ ?_)
  ·cases hx1 with|ptr _ _ m' e'=>exact .ptr _ _ m' (by rw[Mp.eU qh];exact e')
  ·cases hx2
   have:a=8*(a / 8):=by omega
   show ai _ (.int .i64 ((8*(a / 8):Nat):Int)) _
   rw[<-this];exact .int _ _
  ·obtain⟨x3,l3,rfl,hx3,Xy⟩:=hl.cons_inv
   have:=Xy.aL;subst this
   cases hx3
   exact ak.cons (.int _ _) (ak.nil _)
 refine(hT.2 _ W Df hpre args' sL).mono λe W' hR=>?_
 obtain⟨β1,v',he,hv,q⟩:=hR
 have hv':v'=vS (bitsOf (f (a / 8))++bitsOf (f (a / 8+1))):=by cases hv;rfl
 have b0:=(hcs (a / 8) (by omega)).2
 have b1:=(hcs (a / 8+1) (by omega)).2
 have e0:t.get (a / 8)=sy 4008:=e0
 have e1:t.get (a / 8+1)=sy 4009:=e1
 rw[e0]at b0
 rw[e1]at b1
 have r0:=(bY (cy zs) tb (v:=sy 4008) rfl).1 b0
 have r1:=(bY (cy zs) tb (v:=sy 4009) rfl).1 b1
 have r0:uB (f (a / 8))=uB (vC (zs 4)):=r0.trans (HK _)
 have r1:uB (f (a / 8+1))=uB (vw (zs 4)):=r1.trans (HJ _)
 have hb0:f (a / 8)=vC (zs 4):=by
  injection r0 with _ h2
  exact UInt8.toNat_inj.1 (Int.ofNat.inj h2)
 have jK:f (a / 8+1)=vw (zs 4):=by
  injection r1 with _ h2
  exact UInt8.toNat_inj.1 (Int.ofNat.inj h2)
 refine⟨β,v',he,?_,?_⟩
 ·rw[hv',hb0,jK,J1]
  exact(bY (cy zs) tb (v:=sy 4007) rfl).2 rfl
 ·refine⟨Mp.le.refl _,λc mc e1 e2=>(by rw[e2]at e1;cases e1),λc hc' hac=>?_,λrb o ho' hno=>q.frame rb o ho' λc mc hc' u0 ec=>?_,q.size,λc mc e1=>Nat.lt_of_lt_of_le (p.dom c mc e1) q.size,λc mc _ e1 e2=>(by rw[e1]at e2;cases e2),λc d mc md hc' _ hac=>?_,q.env⟩
  ·rcases hc' with h|h
   ·have:=hac.1;omega
   ·simp at h
  ·exact(hok.wr c hc' u0).elim
  ·rcases hc' with h|h
   ·have:=hac.1;omega
   ·simp at h
theorem Oz {Q:(Nat->Int)->Prop} {hk:er->List Value->Option Value} {vA:gO (PW Q) hk} {H H':Hp} {t:T Value} {b a:Nat} {v0:Value} {r w:Nat} (hw:H.wf) (hm:uc (H.blk b)=some t) (h:zE t b a H=some (v0,H',r,w)) :
 @aI (jj (PW Q) hk vA) Tryz.prog NG (.call 137 [.pointer (some ⟨b,0,none⟩),.int .i64 (.ofNat a),sy 4007]) H (.k (.ret v0 H' r w)):=by
 letI:=jj (PW Q) hk vA
 unfold zE at h
 have h2:=aq h
 clear h
 obtain⟨h1,h⟩:=h2
 simp only[Bool.and_eq_true,beq_iff,an,vt,aE]at h1
 obtain⟨ha,hlt,qC,mP⟩:=h1
 have ha:a % 8=0:=ha
 have hlt:a / 8<65535:=hlt
 obtain⟨p,hp⟩:∃ p,a / 8=p:=⟨_,rfl⟩
 have hap:a=8*p:=by omega
 have hpl:p<65535:=by omega
 cases h
 obtain⟨hB,_⟩:=ni hm
 have hal:alive H b:=(aH _ _).2 (by rw[hB];intro e;cases e)
 have qh:b<H.nx:=hal.1
 have hcan:Go.Ev.Can H (H.put b (.cells (T.set 6 (T.set 6 t (Nat.div a 8) (sy 4008)) (Nat.succ (Nat.div a 8)) (sy 4009)) 65536 199 0 0 0)) (bit b):=eJ hw _ hal
 refine⟨hcan,λβ W hg pp args' hl=>?_⟩
 have hgK:=hg
 obtain⟨zB,s,⟨zs,rfl,Xy,hr4,hQ⟩,tb⟩:=hg
 obtain⟨m,em,hbk⟩:=pp.rel b (.inr ((aB b b).2 rfl)) hal
 obtain⟨UA,ht,cs,fr,f,ho,hc,hf,hcs⟩:=AO tb hm hbk
 obtain⟨x1,l1,eargs,hx1,hl⟩:=hl.cons_inv
 obtain⟨x2,l2,rfl,hx2,hl⟩:=hl.cons_inv
 obtain⟨x3,l3,rfl,hx3,Xy⟩:=hl.cons_inv
 have:=Xy.aL;subst this
 have hx3:x3=vS (bitsOf (vC (zs 4))++bitsOf (vw (zs 4))):=by rw[J1];exact(bY (cy zs) tb (v:=sy 4007) rfl).1 hx3
 subst hx3
 have hvh:ai β (sy 4008) (uB (vC (zs 4))):=(bY (cy zs) tb (v:=sy 4008) rfl).2 (HK _).symm
 have hvl:ai β (sy 4009) (uB (vw (zs 4))):=(bY (cy zs) tb (v:=sy 4009) rfl).2 (HJ _).symm
 have IX:=Ly (sp:=λ_ _ _=>none) (e:=⟨H.nx,λc=>c=b,λc=>c=b⟩) (λ_ _ _=>rfl) (H:=Hw b f H.nx) rfl (Nat.le_refl _) (u:=vC (zs 4)) (v:=vw (zs 4)) (p:=p) (DY f qh) (by omega) (λ_=>rfl) (λ_=>rfl)
 obtain⟨N,v1,H1,r1,w1,ju,hok,A7,rfl,zP⟩:=IX
 have hT:=oW jS oF (mU Tryz.prog dm.ng) N (.call 137 [pA b 0,Go.Ev.iN (8*p),vS (bitsOf (vC (zs 4))++bitsOf (vw (zs 4)))]) (Hw b f H.nx) trivial
 rw[ju]at hT
 have ahh:H1.nx=H.nx:=zP.nx
 have hpre:Pre (β.cut H.nx) (Hw b f H.nx) H1 r1 w1 W:=KV qC qh em (λβ'=>BK qh UA ht ho hc hf λi hi=>(hcs i hi).1) (by omega) pp.dom
 have Df:cX NG (β.cut H.nx):=cX.cut mP hgK
 have sL:ak (β.cut H.nx) [pA b 0,Go.Ev.iN (8*p),vS (bitsOf (vC (zs 4))++bitsOf (vw (zs 4)))] args'.toList:=by
  rw[eargs]
  refine ak.cons ?_ (ak.cons ?_ (ak.cons ?_ (ak.nil _)))
  ·cases hx1 with|ptr _ _ m' e'=>exact .ptr _ _ m' (by rw[Mp.eU qh];exact e')
  ·cases hx2
   show ai _ (.int .i64 ((8*p:Nat):Int)) _
   rw[<-hap];exact .int _ _
  ·exact .string _
 refine(hT.2 _ W Df hpre args' sL).mono λe W' hR=>?_
 obtain⟨β1,v',he,hv,q⟩:=hR
 have hv':v'=.tuple #[]:=by
  cases hv with|tuple xs xs' e1 e2 =>
  have:xs'=[]:=by cases xs' with|nil=>rfl|cons=>simp at e1
  subst this;rfl
 have hrow:=zP.row
 obtain⟨t1,jK,aem⟩:=hrow
 rw[cA]at jK
 have aer:∃ cs1 fr1,W'.heap[m.rb]?=some (.cells cs1 199 fr1)/\cs1.size=65536/\Ag m 0 0 fr1/\∀ i,i<65536->cs1[i]?=some (uB (over f p 2 (λk=>if k=0 then vC (zs 4)else vw (zs 4)) i)):=by
  have IZ:alive H1 b:=(aH _ _).2 (by rw[jK];intro e;cases e)
  have Dg:β.cut H.nx b=some m:=by rw[Mp.eU qh];exact em
  have hB1:fM β1 W' (H1.blk b) m:=by
   by_cases zA:w1.testBit b=true
   ·obtain⟨m',em',hr'⟩:=q.rel b (.inr zA) IZ
    have:=q.le _ _ Dg
    rw[em']at this;cases this
    exact hr'
   ·have hwf:w1.testBit b=false:=by cases e:w1.testBit b with|false=>rfl|true=>exact absurd e zA
    have hk:=hT.1.keep b qh hwf
    rw[hk]
    obtain⟨o,FQ,QL⟩:=BK (β:=β1) qh UA ht ho hc hf λi hi=>(hcs i hi).1
    refine⟨o,?_,QL⟩
    refine q.frame m.rb o FQ λc mc uv u0 ec he=>?_
    have:=hok.wr c uv u0
    subst this
    exact zA u0
  rw[jK]at hB1
  obtain⟨o1,G0,cs1,fr1,rfl,g1,g2,g3,g4,g5,g6⟩:=hB1
  refine⟨cs1,fr1,G0,by rw[g1,ht],g6,λi hi=>?_⟩
  obtain⟨_,y,ey,hy⟩:=g5 i hi
  rw[UA,Nat.zero_add]at ey
  have e1:=aem i _ (gx hi)
  rw[e1]at hy
  have:y=_:=b8 10 _ _ rfl hy
  rw[ey,this]
 obtain⟨cs1,fr1,G0,hc1,My,aep⟩:=aer
 refine⟨β,v',he,by rw[hv'];exact ai.flat β 10 _ rfl,?_⟩
 refine⟨Mp.le.refl _,λc mc e1 e2=>(by rw[e2]at e1;cases e1),λc hc' hac=>?_,λrb o ho' hno=>?_,q.size,λc mc e1=>Nat.lt_of_lt_of_le (pp.dom c mc e1) q.size,λc mc _ e1 e2=>(by rw[e1]at e2;cases e2),λc d mc md hc' hd' hac had _ _ _=>?_,q.env⟩
 ·have hcb:c=b:=by
   rcases hc' with h|h
   ·have:=hac.1;rw[cW]at this;omega
   ·exact(aB b c).1 h
  subst hcb
  refine⟨m,em,?_⟩
  rw[jh _ hw qh,if_pos rfl]
  refine⟨_,G0,cs1,fr1,rfl,by omega,by omega,λ_=>⟨UA,ht⟩,(λk h=>by cases h),λi hi=>?_,My⟩
  have hp8:Nat.div a 8=p:=hp
  rw[hp8,T.ef 6 _ _ _ _ (by omega) (by omega),T.ef 6 _ _ _ _ (by omega) (by omega),UA,Nat.zero_add]
  have e2:=aep i hi
  by_cases i1:i=Nat.succ p
  ·rw[if_pos i1]
   refine⟨rfl,_,e2,?_⟩
   have:over f p 2 (λk=>if k=0 then vC (zs 4)else vw (zs 4)) i=vw (zs 4):=by
    unfold over;rw[if_pos (by omega)];show(if i-p=0 then vC (zs 4)else vw (zs 4))=_;rw[if_neg (by omega)]
   rw[this];exact hvl
  ·rw[if_neg i1]
   by_cases i0:i=p
   ·rw[if_pos i0]
    refine⟨rfl,_,e2,?_⟩
    have:over f p 2 (λk=>if k=0 then vC (zs 4)else vw (zs 4)) i=vC (zs 4):=by
     unfold over;rw[if_pos (by omega)];show(if i-p=0 then vC (zs 4)else vw (zs 4))=_;rw[if_pos (by omega)]
    rw[this];exact hvh
   ·rw[if_neg i0]
    have Px:=hcs i hi
    have hb0:bQ (t.get i)=true:=by
     obtain⟨_,hby⟩:=ni hm
     have:=hby i
     unfold sE at this
     split at this
     ·rename_i e;rw[e];rfl
     ·rename_i e;rw[e];rfl
     ·cases this
    refine⟨hb0,_,e2,?_⟩
    have:over f p 2 (λk=>if k=0 then vC (zs 4)else vw (zs 4)) i=f i:=by
     unfold over;rw[if_neg (by omega)]
    rw[this];exact Px.2
 ·refine q.frame rb o ho' λc mc uv u0 ec=>?_
  have:=hok.wr c uv u0
  subst this
  exact hno c mc uv ((aB c c).2 rfl) (Mp.jy _ _ _ _ ec)
 ·have key:∀ {y},(H.nx<=y\/(bit b).testBit y=true)->alive (H.put b (.cells (T.set 6 (T.set 6 t (Nat.div a 8) (sy 4008)) (Nat.succ (Nat.div a 8)) (sy 4009)) 65536 199 0 0 0)) y->y=b:=λ{y} hy hay=>by
   rcases hy with h|h
   ·have:=hay.1;rw[cW]at this;omega
   ·exact(aB b y).1 h
  exact(key hc' hac).trans (key hd' had).symm
theorem Ax {Q:(Nat->Int)->Prop} {hk:er->List Value->Option Value} {vA:gO (PW Q) hk} {args:List Value} {H H':Hp} {v:Value} {r w:Nat} (hw:H.wf) (h:BU args H=some (v,H',r,w)):@aI (jj (PW Q) hk vA) Tryz.prog NG (.call 137 args) H (.k (.ret v H' r w)):=by
 unfold BU at h
 split at h
 case h_2=>cases h
 rename_i b a s
 split at h
 case h_2=>cases h
 rename_i t hm
 obtain⟨h1,h⟩:=aq h
 rw[pJ h1]
 exact Oz (Q:=Q) (hk:=hk) (vA:=vA) hw hm h
end Go.Proofs.CN
end
noncomputable section
namespace Go.Proofs.CN
open Go Go.Ev Go.Proofs Go.Ev.SM Go.Proofs.MN
def tJ (args:List Value) (H:Hp):kE:=match args with
 | [s]=>Bc (A6 4007 s&&vt H) (some (.bool true,H,0,0)) none
 |_=>none
theorem Az {Q:(Nat->Int)->Prop} {hk:er->List Value->Option Value} {vA:gO (PW Q) hk} {args:List Value} {H H':Hp} {v:Value} {r w:Nat} (hw:H.wf) (h:tJ args H=some (v,H',r,w)):@aI (jj (PW Q) hk vA) Tryz.prog NG (.call 230 args) H (.k (.ret v H' r w)):=by
 letI:=jj (PW Q) hk vA
 unfold tJ at h
 split at h
 case h_2=>cases h
 rename_i s
 obtain⟨h1,h⟩:=aq h
 simp only[Bool.and_eq_true,vt,aE]at h1
 obtain⟨h1,qC,mP⟩:=h1
 rw[pJ h1]
 cases h
 refine⟨Can.refl hw,λβ W hg p args' hl=>?_⟩
 have hgK:=hg
 obtain⟨zB,s,⟨zs,rfl,Xy,hr4,hQ⟩,tb⟩:=hg
 have IX:=afD (sp:=λ_ _ _=>none) (e:=⟨H.nx,λ_=>False,λ_=>False⟩) (λ_ _ _=>rfl) (H:=.fn (λ_=>.no) H.nx) rfl (Nat.le_refl _) (u:=vC (zs 4)) (v:=vw (zs 4))
 obtain⟨N,v1,H1,r1,w1,ju,hok,A7,rfl,rfl⟩:=IX
 have hT:=oW jS oF (mU Tryz.prog dm.ng) N (.call 230 [vS (bitsOf (vC (zs 4))++bitsOf (vw (zs 4)))]) (.fn (λ_=>.no) H.nx) trivial
 rw[ju]at hT
 have hno:∀ c,¬ alive (.fn (λ_=>.no) H.nx:Hp) c:=λc ha=>ha.2 (by rw[jA];split<;>rfl)
 have hpre:Pre (β.cut H.nx) (.fn (λ_=>.no) H.nx) (.fn (λ_=>.no) H.nx) r1 w1 W :=
  ⟨λc _ ha=>absurd ha (hno c),λc d mc md _ _ ac _ _ _ _=>absurd ac (hno c),λc h1 h2=>by
   have h1:H.nx<=c:=h1
   have h2:c<H.nx:=h2
   omega,λc mc e=>p.dom c mc (Mp.jy _ _ _ _ e)⟩
 have Df:cX NG (β.cut H.nx):=cX.cut mP hgK
 have sL:ak (β.cut H.nx) [vS (bitsOf (vC (zs 4))++bitsOf (vw (zs 4)))] args'.toList:=by
  obtain⟨x1,l1,e,hx1,hl⟩:=hl.cons_inv
  have:=hl.aL;subst this
  rw[e,show x1=vS (bitsOf (vC (zs 4))++bitsOf (vw (zs 4)))from by rw[J1];exact(bY (cy zs) tb (v:=sy 4007) rfl).1 hx1]
  exact ak.cons (.string _) (ak.nil _)
 refine(hT.2 _ W Df hpre args' sL).mono λe W' hR=>?_
 obtain⟨β1,v',he,hv,q⟩:=hR
 have hv':v'=.bool true:=by cases hv;rfl
 refine⟨β,v',he,by rw[hv'];exact .bool _,?_⟩
 refine⟨Mp.le.refl _,λc mc e1 e2=>(by rw[e2]at e1;cases e1),λc hc' hac=>?_,λrb o ho' ao7=>q.frame rb o ho' λc mc hc' u0 ec=>(hok.wr c hc' u0).elim,q.size,λc mc e1=>Nat.lt_of_lt_of_le (p.dom c mc e1) q.size,λc mc _ e1 e2=>(by rw[e1]at e2;cases e2),λc d mc md hc' _ hac=>?_,q.env⟩
 ·rcases hc' with h|h
  ·have:=hac.1;omega
  ·simp at h
 ·rcases hc' with h|h
  ·have:=hac.1;omega
  ·simp at h
end Go.Proofs.CN
end
noncomputable section
namespace Go.Proofs
open Go.Shelf
def Tryz.FF:Go.Shelf.Ren:=⟨λ| 161=>383|231=>369|227=>371|233=>372|235=>374|228=>437|197=>438|151=>439|260=>495|152=>482|137=>481|119=>537|224=>538|225=>539|217=>536|266=>557|n=>n,λ| 9=>9|4=>4|3=>3|5=>5|117=>471|116=>470|0=>0|124=>474|105=>526|21=>21|119=>100|46=>216|139=>619|138=>618|n=>n,λ| 3=>12|4=>13|n=>n⟩
theorem Tryz.ZP:Go.Proofs.Lays.n161 Tryz.prog Tryz.FF:={
 mixed:=by kernel_rfl
 f119:=Tryz.func537.trans (congrArg some (by kernel_rfl))
 f137:=Tryz.func481.trans (congrArg some (by kernel_rfl))
 f151:=Tryz.func439.trans (congrArg some (by kernel_rfl))
 f152:=Tryz.func482.trans (congrArg some (by kernel_rfl))
 f161:=Tryz.func383.trans (congrArg some (by kernel_rfl))
 f197:=Tryz.func438.trans (congrArg some (by kernel_rfl))
 f217:=Tryz.func536.trans (congrArg some (by kernel_rfl))
 f224:=Tryz.func538.trans (congrArg some (by kernel_rfl))
 f225:=Tryz.func539.trans (congrArg some (by kernel_rfl))
 f227:=Tryz.func371.trans (congrArg some (by kernel_rfl))
 f228:=Tryz.func437.trans (congrArg some (by kernel_rfl))
 f231:=Tryz.func369.trans (congrArg some (by kernel_rfl))
 f233:=Tryz.func372.trans (congrArg some (by kernel_rfl))
 f235:=Tryz.func374.trans (congrArg some (by kernel_rfl))
 f260:=Tryz.func495.trans (congrArg some (by kernel_rfl))
 f266:=Tryz.func557.trans (congrArg some (by kernel_rfl))
 t0:=Tryz.underlying0
 a0:=Tryz.isAgg0
 z0:=Tryz.sizeOf0
 v0:=Tryz.zeroValue0
 t3:=Tryz.underlying3
 a3:=Tryz.isAgg3
 z3:=Tryz.sizeOf3
 v3:=Tryz.zeroValue3
 t4:=Tryz.underlying4
 a4:=Tryz.isAgg4
 z4:=Tryz.sizeOf4
 v4:=Tryz.zeroValue4
 t5:=Tryz.underlying5
 a5:=Tryz.isAgg5
 z5:=Tryz.sizeOf5
 v5:=Tryz.zeroValue5
 t9:=Tryz.underlying9
 a9:=Tryz.isAgg9
 z9:=Tryz.sizeOf9
 v9:=Tryz.zeroValue9
 t21:=Tryz.underlying21
 a21:=Tryz.isAgg21
 z21:=Tryz.sizeOf21
 v21:=Tryz.zeroValue21
 t46:=Tryz.underlying216
 a46:=Tryz.isAgg216
 z46:=Tryz.sizeOf216
 v46:=Tryz.zeroValue216
 t105:=Tryz.underlying526
 a105:=Tryz.isAgg526
 z105:=Tryz.sizeOf526
 v105:=Tryz.zeroValue526
 t116:=Tryz.underlying470
 a116:=Tryz.isAgg470
 z116:=Tryz.sizeOf470
 t117:=Tryz.underlying471
 a117:=Tryz.isAgg471
 z117:=Tryz.sizeOf471
 v117:=Tryz.zeroValue471
 t119:=Tryz.underlying100
 a119:=Tryz.isAgg100
 z119:=Tryz.sizeOf100
 t124:=Tryz.underlying474
 a124:=Tryz.isAgg474
 z124:=Tryz.sizeOf474
 v124:=Tryz.zeroValue474
 t138:=Tryz.underlying618
 a138:=Tryz.isAgg618
 z138:=Tryz.sizeOf618
 v138:=Tryz.zeroValue618
 t139:=Tryz.underlying619
 a139:=Tryz.isAgg619
 z139:=Tryz.sizeOf619
 v139:=Tryz.zeroValue619
 g3:=by kernel_rfl
 g4:=by kernel_rfl }
theorem Tryz.strings_TrimLeft_one (s:ByteArray) (c:UInt8) (hc:c.toNat<128) (w:World) :
 Calls Tryz.prog 383 #[.string s,.string ⟨#[c]⟩] w λe w'=>e=.returned (.string ⟨(Lib.trimLeftB s.data.toList c).toArray⟩)/\w'=w:=Any.strings_TrimLeft_one Tryz.ZP s c hc w
def Tryz.FE:Go.Shelf.Ren:=⟨λ| 162=>441|232=>370|227=>371|234=>373|236=>375|228=>437|271=>440|151=>439|120=>496|197=>438|152=>482|260=>495|137=>481|119=>537|224=>538|225=>539|217=>536|266=>557|n=>n,λ| 9=>9|4=>4|3=>3|5=>5|117=>471|116=>470|0=>0|124=>474|21=>21|105=>526|46=>216|119=>100|139=>619|138=>618|n=>n,λ| 3=>12|4=>13|n=>n⟩
theorem Tryz.ZO:Go.Proofs.Lays.n162 Tryz.prog Tryz.FE:={
 mixed:=by kernel_rfl
 f119:=Tryz.func537.trans (congrArg some (by kernel_rfl))
 f120:=Tryz.func496.trans (congrArg some (by kernel_rfl))
 f137:=Tryz.func481.trans (congrArg some (by kernel_rfl))
 f151:=Tryz.func439.trans (congrArg some (by kernel_rfl))
 f152:=Tryz.func482.trans (congrArg some (by kernel_rfl))
 f162:=Tryz.func441.trans (congrArg some (by kernel_rfl))
 f197:=Tryz.func438.trans (congrArg some (by kernel_rfl))
 f217:=Tryz.func536.trans (congrArg some (by kernel_rfl))
 f224:=Tryz.func538.trans (congrArg some (by kernel_rfl))
 f225:=Tryz.func539.trans (congrArg some (by kernel_rfl))
 f227:=Tryz.func371.trans (congrArg some (by kernel_rfl))
 f228:=Tryz.func437.trans (congrArg some (by kernel_rfl))
 f232:=Tryz.func370.trans (congrArg some (by kernel_rfl))
 f234:=Tryz.func373.trans (congrArg some (by kernel_rfl))
 f236:=Tryz.func375.trans (congrArg some (by kernel_rfl))
 f260:=Tryz.func495.trans (congrArg some (by kernel_rfl))
 f266:=Tryz.func557.trans (congrArg some (by kernel_rfl))
 f271:=Tryz.func440.trans (congrArg some (by kernel_rfl))
 t0:=Tryz.underlying0
 a0:=Tryz.isAgg0
 z0:=Tryz.sizeOf0
 v0:=Tryz.zeroValue0
 t3:=Tryz.underlying3
 a3:=Tryz.isAgg3
 z3:=Tryz.sizeOf3
 v3:=Tryz.zeroValue3
 t4:=Tryz.underlying4
 a4:=Tryz.isAgg4
 z4:=Tryz.sizeOf4
 v4:=Tryz.zeroValue4
 t5:=Tryz.underlying5
 a5:=Tryz.isAgg5
 z5:=Tryz.sizeOf5
 v5:=Tryz.zeroValue5
 t9:=Tryz.underlying9
 a9:=Tryz.isAgg9
 z9:=Tryz.sizeOf9
 v9:=Tryz.zeroValue9
 t21:=Tryz.underlying21
 a21:=Tryz.isAgg21
 z21:=Tryz.sizeOf21
 v21:=Tryz.zeroValue21
 t46:=Tryz.underlying216
 a46:=Tryz.isAgg216
 z46:=Tryz.sizeOf216
 v46:=Tryz.zeroValue216
 t105:=Tryz.underlying526
 a105:=Tryz.isAgg526
 z105:=Tryz.sizeOf526
 v105:=Tryz.zeroValue526
 t116:=Tryz.underlying470
 a116:=Tryz.isAgg470
 z116:=Tryz.sizeOf470
 t117:=Tryz.underlying471
 a117:=Tryz.isAgg471
 z117:=Tryz.sizeOf471
 v117:=Tryz.zeroValue471
 t119:=Tryz.underlying100
 a119:=Tryz.isAgg100
 z119:=Tryz.sizeOf100
 t124:=Tryz.underlying474
 a124:=Tryz.isAgg474
 z124:=Tryz.sizeOf474
 v124:=Tryz.zeroValue474
 t138:=Tryz.underlying618
 a138:=Tryz.isAgg618
 z138:=Tryz.sizeOf618
 v138:=Tryz.zeroValue618
 t139:=Tryz.underlying619
 a139:=Tryz.isAgg619
 z139:=Tryz.sizeOf619
 v139:=Tryz.zeroValue619
 g3:=by kernel_rfl
 g4:=by kernel_rfl }
theorem Tryz.strings_TrimRight_one (s:ByteArray) (c:UInt8) (hc:c.toNat<128) (w:World) (hs:s.size<=9223372036854775807) :
 Calls Tryz.prog 441 #[.string s,.string ⟨#[c]⟩] w λe w'=>e=.returned (.string ⟨(Lib.trimRightB s.data.toList c).toArray⟩)/\w'=w:=Any.strings_TrimRight_one Tryz.ZO s c hc w hs
def Tryz.CP:Go.Shelf.Ren:=⟨λ| 171=>13|243=>28|246=>42|283=>61|284=>62|285=>63|286=>64|129=>115|317=>114|318=>116|319=>117|320=>118|337=>161|338=>162|n=>n,λ| 3=>3|9=>9|2=>2|4=>4|171=>148|0=>0|53=>66|37=>126|5=>5|173=>151|212=>214|51=>141|20=>20|213=>215|46=>216|232=>333|233=>334|n=>n,λ| 17=>2|18=>4|19=>5|n=>n⟩
theorem Tryz.T7:Go.Proofs.LaysM.n171 Tryz.prog Tryz.CP:={
 mixed:=by kernel_rfl
 f129:=Tryz.func115.trans (congrArg some (by kernel_rfl))
 f171:=Tryz.func13.trans (congrArg some (by kernel_rfl))
 f243:=Tryz.func28.trans (congrArg some (by kernel_rfl))
 f246:=Tryz.func42.trans (congrArg some (by kernel_rfl))
 f283:=Tryz.func61.trans (congrArg some (by kernel_rfl))
 f284:=Tryz.func62.trans (congrArg some (by kernel_rfl))
 f285:=Tryz.func63.trans (congrArg some (by kernel_rfl))
 f286:=Tryz.func64.trans (congrArg some (by kernel_rfl))
 f317:=Tryz.func114.trans (congrArg some (by kernel_rfl))
 f318:=Tryz.func116.trans (congrArg some (by kernel_rfl))
 f319:=Tryz.func117.trans (congrArg some (by kernel_rfl))
 f320:=Tryz.func118.trans (congrArg some (by kernel_rfl))
 f337:=Tryz.func161.trans (congrArg some (by kernel_rfl))
 f338:=Tryz.func162.trans (congrArg some (by kernel_rfl))
 t0:=Tryz.underlying0
 a0:=Tryz.isAgg0
 z0:=Tryz.sizeOf0
 v0:=Tryz.zeroValue0
 t2:=Tryz.underlying2
 a2:=Tryz.isAgg2
 z2:=Tryz.sizeOf2
 v2:=Tryz.zeroValue2
 t3:=Tryz.underlying3
 a3:=Tryz.isAgg3
 z3:=Tryz.sizeOf3
 v3:=Tryz.zeroValue3
 t4:=Tryz.underlying4
 a4:=Tryz.isAgg4
 z4:=Tryz.sizeOf4
 v4:=Tryz.zeroValue4
 t5:=Tryz.underlying5
 a5:=Tryz.isAgg5
 z5:=Tryz.sizeOf5
 v5:=Tryz.zeroValue5
 t9:=Tryz.underlying9
 a9:=Tryz.isAgg9
 z9:=Tryz.sizeOf9
 v9:=Tryz.zeroValue9
 t20:=Tryz.underlying20
 a20:=Tryz.isAgg20
 z20:=Tryz.sizeOf20
 v20:=Tryz.zeroValue20
 t37:=Tryz.underlying126
 a37:=Tryz.isAgg126
 z37:=Tryz.sizeOf126
 v37:=Tryz.zeroValue126
 t46:=Tryz.underlying216
 a46:=Tryz.isAgg216
 z46:=Tryz.sizeOf216
 v46:=Tryz.zeroValue216
 t51:=Tryz.underlying141
 a51:=Tryz.isAgg141
 z51:=Tryz.sizeOf141
 v51:=Tryz.zeroValue141
 t53:=Tryz.underlying66
 a53:=Tryz.isAgg66
 z53:=Tryz.sizeOf66
 v53:=Tryz.zeroValue66
 t171:=Tryz.underlying148
 a171:=Tryz.isAgg148
 z171:=Tryz.sizeOf148
 v171:=Tryz.zeroValue148
 t173:=Tryz.underlying151
 a173:=Tryz.isAgg151
 z173:=Tryz.sizeOf151
 v173:=Tryz.zeroValue151
 t212:=Tryz.underlying214
 a212:=Tryz.isAgg214
 z212:=Tryz.sizeOf214
 v212:=Tryz.zeroValue214
 t213:=Tryz.underlying215
 a213:=Tryz.isAgg215
 z213:=Tryz.sizeOf215
 t232:=Tryz.underlying333
 a232:=Tryz.isAgg333
 z232:=Tryz.sizeOf333
 v232:=Tryz.zeroValue333
 t233:=Tryz.underlying334
 a233:=Tryz.isAgg334
 z233:=Tryz.sizeOf334
 v233:=Tryz.zeroValue334
 g17:=by kernel_rfl
 g18:=by kernel_rfl
 g19:=by kernel_rfl
 i0:=by kernel_rfl
 i2:=by kernel_rfl
 i3:=by kernel_rfl
 i4:=by kernel_rfl
 i5:=by kernel_rfl
 i9:=by kernel_rfl
 i20:=by kernel_rfl
 i37:=by kernel_rfl
 i46:=by kernel_rfl
 i51:=by kernel_rfl
 i53:=by kernel_rfl
 i171:=by kernel_rfl
 i173:=by kernel_rfl
 i212:=by kernel_rfl
 i232:=by kernel_rfl
 i233:=by kernel_rfl
 m17:=by kernel_rfl
 m18:=by kernel_rfl
 m19:=by kernel_rfl }
open Go.RowKit Go.Sort Go.Lib in
theorem Tryz.strconv_Itoa (n : Int) (h0 : -9223372036854775808 ≤ n) (h1 : n ≤ 9223372036854775807) (w : World) (htab : Lib.TabIs Tryz.prog w "internal/strconv.uint64pow10" .u64 Lib.pow10Tab) :
 Calls Tryz.prog 13 #[.int .i64 n] w λe w'=>e=.returned (.string ⟨(Lib.itoa n).toArray⟩)/\∃ k os,w'=grow (w.drewN k) os:=Any.strconv_Itoa Tryz.T7 n h0 h1 w htab
end Go.Proofs
end
noncomputable section
namespace Go.Proofs.CN
open Go Go.Ev Go.Proofs Go.Ev.SM Go.Proofs.MN
theorem afg (args:Array Value) (W:World):(callFunc 383 args).run Tryz.prog W=.ok (.enter 383 args) W:=by kernel_rfl
theorem aff (args:Array Value) (W:World):(callFunc 441 args).run Tryz.prog W=.ok (.enter 441 args) W:=by kernel_rfl
end Go.Proofs.CN
end
noncomputable section
namespace Go.Proofs
open Go.Shelf
def Tryz.oI:Go.Shelf.Ren:=⟨λ| 160=>309|232=>370|231=>369|227=>371|234=>373|233=>372|236=>375|235=>374|228=>437|271=>440|151=>439|197=>438|120=>496|152=>482|260=>495|137=>481|119=>537|224=>538|225=>539|217=>536|266=>557|n=>n,λ| 9=>9|4=>4|3=>3|5=>5|117=>471|116=>470|0=>0|124=>474|21=>21|105=>526|46=>216|119=>100|139=>619|138=>618|n=>n,λ| 3=>12|4=>13|n=>n⟩
theorem Tryz.ZQ:Go.Proofs.Lays.n160 Tryz.prog Tryz.oI:={
 mixed:=by kernel_rfl
 f119:=Tryz.func537.trans (congrArg some (by kernel_rfl))
 f120:=Tryz.func496.trans (congrArg some (by kernel_rfl))
 f137:=Tryz.func481.trans (congrArg some (by kernel_rfl))
 f151:=Tryz.func439.trans (congrArg some (by kernel_rfl))
 f152:=Tryz.func482.trans (congrArg some (by kernel_rfl))
 f160:=Tryz.func309.trans (congrArg some (by kernel_rfl))
 f197:=Tryz.func438.trans (congrArg some (by kernel_rfl))
 f217:=Tryz.func536.trans (congrArg some (by kernel_rfl))
 f224:=Tryz.func538.trans (congrArg some (by kernel_rfl))
 f225:=Tryz.func539.trans (congrArg some (by kernel_rfl))
 f227:=Tryz.func371.trans (congrArg some (by kernel_rfl))
 f228:=Tryz.func437.trans (congrArg some (by kernel_rfl))
 f231:=Tryz.func369.trans (congrArg some (by kernel_rfl))
 f232:=Tryz.func370.trans (congrArg some (by kernel_rfl))
 f233:=Tryz.func372.trans (congrArg some (by kernel_rfl))
 f234:=Tryz.func373.trans (congrArg some (by kernel_rfl))
 f235:=Tryz.func374.trans (congrArg some (by kernel_rfl))
 f236:=Tryz.func375.trans (congrArg some (by kernel_rfl))
 f260:=Tryz.func495.trans (congrArg some (by kernel_rfl))
 f266:=Tryz.func557.trans (congrArg some (by kernel_rfl))
 f271:=Tryz.func440.trans (congrArg some (by kernel_rfl))
 t0:=Tryz.underlying0
 a0:=Tryz.isAgg0
 z0:=Tryz.sizeOf0
 v0:=Tryz.zeroValue0
 t3:=Tryz.underlying3
 a3:=Tryz.isAgg3
 z3:=Tryz.sizeOf3
 v3:=Tryz.zeroValue3
 t4:=Tryz.underlying4
 a4:=Tryz.isAgg4
 z4:=Tryz.sizeOf4
 v4:=Tryz.zeroValue4
 t5:=Tryz.underlying5
 a5:=Tryz.isAgg5
 z5:=Tryz.sizeOf5
 v5:=Tryz.zeroValue5
 t9:=Tryz.underlying9
 a9:=Tryz.isAgg9
 z9:=Tryz.sizeOf9
 v9:=Tryz.zeroValue9
 t21:=Tryz.underlying21
 a21:=Tryz.isAgg21
 z21:=Tryz.sizeOf21
 v21:=Tryz.zeroValue21
 t46:=Tryz.underlying216
 a46:=Tryz.isAgg216
 z46:=Tryz.sizeOf216
 v46:=Tryz.zeroValue216
 t105:=Tryz.underlying526
 a105:=Tryz.isAgg526
 z105:=Tryz.sizeOf526
 v105:=Tryz.zeroValue526
 t116:=Tryz.underlying470
 a116:=Tryz.isAgg470
 z116:=Tryz.sizeOf470
 t117:=Tryz.underlying471
 a117:=Tryz.isAgg471
 z117:=Tryz.sizeOf471
 v117:=Tryz.zeroValue471
 t119:=Tryz.underlying100
 a119:=Tryz.isAgg100
 z119:=Tryz.sizeOf100
 t124:=Tryz.underlying474
 a124:=Tryz.isAgg474
 z124:=Tryz.sizeOf474
 v124:=Tryz.zeroValue474
 t138:=Tryz.underlying618
 a138:=Tryz.isAgg618
 z138:=Tryz.sizeOf618
 v138:=Tryz.zeroValue618
 t139:=Tryz.underlying619
 a139:=Tryz.isAgg619
 z139:=Tryz.sizeOf619
 v139:=Tryz.zeroValue619
 g3:=by kernel_rfl
 g4:=by kernel_rfl }
end Go.Proofs
end
noncomputable section
namespace Go.Proofs.CN
open Go Go.Ev Go.Proofs Go.Ev.SM Go.Proofs.MN
inductive jP:Nat->List Value->Value->Prop
 |itoa (n:Int) (h0 : -9223372036854775808<=n) (h1:n<=9223372036854775807):jP 13 [.int .i64 n] (.string ⟨(Lib.itoa n).toArray⟩)
 |Kt (s:ByteArray) (c:UInt8) (hc:c.toNat<128):jP 383 [.string s,.string ⟨#[c]⟩] (.string ⟨(Lib.trimLeftB s.data.toList c).toArray⟩)
 |aa' (s:ByteArray) (c:UInt8) (hc:c.toNat<128) (hs:s.size<=9223372036854775807):jP 441 [.string s,.string ⟨#[c]⟩] (.string ⟨(Lib.trimRightB s.data.toList c).toArray⟩)
 |trim (s t:ByteArray) (h2:2<=t.size) (h0:0<s.size) (hs:s.size<=9223372036854775807) (hcs:t.size<4294967281) (hac:∀ (j:Nat) b,t.data.toList[j]?=some b->b.toNat<128) :
  jP 309 [.string s,.string t] (.string ⟨(Lib.trimS s.data.toList t.data.toList).toArray⟩)
theorem XG (w:World):(zeroValue 470).run Tryz.prog w=.ok (.agg (Array.replicate 256 (.bool false))) w:=by kernel_rfl
theorem YA:(Tryz.prog.info? 470).map (·.size)=some 256:=by kernel_rfl
theorem akf (args:Array Value) (W:World):(callFunc 13 args).run Tryz.prog W=.ok (.enter 13 args) W:=by kernel_rfl
theorem afh (args:Array Value) (W:World):(callFunc 309 args).run Tryz.prog W=.ok (.enter 309 args) W:=by kernel_rfl
theorem jP.ent {f:Nat} {l:List Value} {v:Value} (h:jP f l v) (args:Array Value) (W:World):(callFunc f args).run Tryz.prog W=.ok (.enter f args) W:=by
 cases h
 ·exact akf _ _
 ·exact afg _ _
 ·exact aff _ _
 ·exact afh _ _
theorem jP.calls {f : Nat} {l : List Value} {v : Value} (h : jP f l v) (W : World) (ht : f = 13 → Lib.TabIs Tryz.prog W "internal/strconv.uint64pow10" .u64 Lib.pow10Tab) (args : Array Value) (ha : args.toList = l) :
 Calls Tryz.prog f args W λe W'=>e=.returned v/\∃ k os,W'=Sort.grow (W.drewN k) os:=by
 have:args=l.toArray:=by rw[<-ha]
 subst this
 cases h with
 |itoa n h0 h1=>exact Tryz.strconv_Itoa n h0 h1 W (ht rfl)
 |Kt s c hc =>
  refine(Tryz.strings_TrimLeft_one s c hc W).mono λe W' h=>?_
  exact⟨h.1,0,#[],by rw[h.2];simp[Sort.grow,World.drewN]⟩
 |aa' s c hc hs =>
  refine(Tryz.strings_TrimRight_one s c hc W hs).mono λe W' h=>?_
  exact⟨h.1,0,#[],by rw[h.2];simp[Sort.grow,World.drewN]⟩
 |trim s t h2 h0 hs hcs hac =>
  refine(Any.strings_Trim_set Tryz.ZQ XG YA s t W h2 h0 hs hcs hac).mono λe W' h=>?_
  obtain⟨he,q,hw⟩:=h
  refine⟨he,q,#[.cells (Lib.setCells t.data.toList) (Tryz.oI.t 116)] ++ #[.cells (Lib.setCells t.data.toList) (Tryz.oI.t 116)],?_⟩
  rw[hw,Sort.alloc_eq_grow,Sort.alloc_eq_grow,Sort.grow_grow];rfl
theorem SD {β : Mp} {W : World} {m : Bm} (h : fM β W zH m) (h2 : m.rb = 2) (h3 : m.sh = 0) : Lib.TabIs Tryz.prog W "internal/strconv.uint64pow10" .u64 Lib.pow10Tab := by
 obtain⟨t,ht,hc⟩:=bW ((List.range 20).map λi=>Value.int .u64 (.ofNat (Nat.pow 10 i))) 214 0
 unfold zH at h
 rw[ht]at h
 obtain⟨o,ho,cs,fr,rfl,h4,h5,h6,h7,h8,h9⟩:=h
 rw[h2]at ho
 unfold Lib.TabIs World.var?
 rw [show Tryz.prog.globalNamed "internal/strconv.uint64pow10" = some 2 from by kernel_rfl]
 show(match W.heap[2]? with|some (.cells cs _ _)=>some cs|_=>none)=_
 rw[ho]
 show some cs=some _
 congr 1
 have hn:cs.size=20:=by rw[h4,(h6 rfl).2];rfl
 apply Array.ext
 ·rw[hn];rfl
 ·intro i h1 h2'
  have hi:i<20:=by omega
  obtain⟨q1,v',q2,q3⟩:=h8 i (by show i<_;simpa using hi)
  rw[h3,Nat.zero_add,Array.getElem?_eq_getElem h1]at q2
  have hv:=hc i (.int .u64 (.ofNat (Nat.pow 10 i))) (by rw[List.getElem?_map,List.getElem?_range hi];rfl)
  rw[hv]at q3
  cases q3
  rw[Option.some.inj q2]
  have key:(Lib.pow10Tab.map λz=>Value.int .u64 z)=(List.range 20).map λi=>Value.int .u64 (.ofNat (Nat.pow 10 i)):=by kernel_rfl
  have:((Lib.pow10Tab.map λz=>Value.int .u64 z).toArray)[i]?=some (Value.int .u64 (.ofNat (Nat.pow 10 i))):=by
   rw[List.getElem?_toArray,key,List.getElem?_map,List.getElem?_range hi];rfl
  rw[Array.getElem?_eq_getElem h2']at this
  exact(Option.some.inj this).symm
abbrev DX:=Nat->List Value->Option Value
def aa2 (P:Sem->Prop) (lt:DX):Prop:=∀ s,P s->∀ f l v,lt f l=some v->l.all wq=true/\wq v=true/\jP f (l.map (real s)) (real s v)
def uQ (lt:DX) (f:Nat) (args:List Value) (H:Hp):kE:=match lt f args with
 |some v=>Bc (Nat.beq f 13) (Bc (yt H) (some (v,H,4,0)) none) (some (v,H,0,0))
 |none=>none
theorem T5 {P:Sem->Prop} {hk:er->List Value->Option Value} {hok:gO P hk} {lt:DX} (hlt:aa2 P lt) {f:Nat} {args:List Value} {H H':Hp} {v:Value} {r w:Nat} (hw:H.wf) (h:uQ lt f args H=some (v,H',r,w)) :
 @aI (jj P hk hok) Tryz.prog NG (.call f args) H (.k (.ret v H' r w)):=by
 letI:=jj P hk hok
 unfold uQ at h
 cases e1:lt f args with
 |none=>rw[e1]at h;cases h
 |some u =>
  rw[e1]at h
  replace h:Bc (Nat.beq f 13) (Bc (yt H) (some (u,H,4,0)) none) (some (u,H,0,0))=some (v,H',r,w):=h
  have key:∀ {r':Nat},(f=13->yt H=true/\r'=4)->aI Tryz.prog NG (.call f args) H (.k (.ret u H r' 0)):=by
   intro r' hp
   have hent:∀ (args:Array Value) (W:World),(callFunc f args).run Tryz.prog W=.ok (.enter f args) W\/True:=λ_ _=>.inr trivial
   refine⟨Can.refl hw,λβ W hg p args' hl=>?_⟩
   obtain⟨zB,s,hP,tb⟩:=hg
   obtain⟨q1,q2,q3⟩:=hlt s hP f args u e1
   have hr:=xE (hok.sc s hP) tb q1 hl
   refine .inl ⟨q3.ent _ _,callsIn_wide.2 ((q3.calls W (λhf=>?_) args' hr).mono λe W' hR=>?_)⟩
   ·obtain⟨p1,rfl⟩:=hp hf
    obtain⟨m,em,Da,hm2⟩:=zB 2 (by decide)
    have hal:alive H 2:=by
     unfold yt at p1
     refine⟨?_,j6 p1 (by show zH≠.no;obtain⟨t,ht,_⟩:=bW ((List.range 20).map λi=>Value.int .u64 (.ofNat (Nat.pow 10 i))) 214 0;unfold zH;rw[ht];exact λh=>by cases h)⟩
     rcases Nat.lt_or_ge 2 H.nx with h|h
     ·exact h
     ·exfalso
      have:H.blk 2=.no:=s8 h
      rw[this]at p1;cases p1
    obtain⟨m',em',hb⟩:=p.rel 2 (.inl (by decide)) hal
    rw[em]at em';cases em'
    have wH:=sY (tab:=λ_=>none) fK.none (iV β 15) ⟨s,hP,tb⟩ p1 hb
    exact SD wH Da hm2
   ·obtain⟨rfl,k,os,rfl⟩:=hR
    exact⟨β,_,rfl,(bY (hok.sc s hP) tb q2).2 rfl,(Post.refl p.dom).grow (os:=os) rfl ⟨rfl,rfl,rfl⟩⟩
  cases e2:Nat.beq f 13 with
  |true =>
   rw[e2,aj]at h
   obtain⟨h1,h⟩:=aq h
   cases h
   exact key λ_=>⟨h1,rfl⟩
  |false =>
   rw[e2,au]at h
   cases h
   exact key λhf=>by rw[hf]at e2;cases e2
def hkT (sh:Sh) (cut:Bool):er->List Value->Option Value
 |.bin .add,[.int .i64 (.ofNat 0),.chan (some k)]=>Bc (!cut&&(!sh.ng&&(Nat.beq sh.L 1&&Nat.beq k 3140))) (some (sy 4000)) none
 |.bin .add,[.chan (some j),.chan (some k)]=>Bc (!cut&&(!sh.ng&&(Nat.blt 1 sh.L&&(Nat.beq (j+1) (3180+sh.L)&&Nat.beq j (k+40))))) (some (sy 4000)) none
 |.neg,[.chan (some k)]=>Bc (sh.ng&&(Bc cut (Nat.beq k 4001) (Nat.beq k (3160+sh.L)))) (some (sy 4000)) none
 |.bin .rem,[.chan (some k),.int .i64 (.ofNat 32768)]=>Bc (cut&&Nat.beq k (3160+sh.L)) (some (sy (Bc sh.ng 4001 4000))) none
 |_,_=>none
theorem Il {b:Bool}:(!b)=true↔b=false:=by cases b<;>simp
theorem at3 (zs:Nat->Int) {j:Nat} (h:j<1000):aJ zs (3000+j)=slot (zs 3) j:=by
 unfold aJ
 rw[show(3000+j) / 1000=3 from by omega,show(3000+j) % 1000=j from by omega]
theorem mS {z:Int} (h:z.natAbs<32768):z.tmod 32768=z:=by
 rcases Int.natAbs_eq z with e|e
 ·rw[e];exact Int.tmod_eq_of_lt (by omega) (by omega)
 ·rw[e,Int.neg_tmod,Int.tmod_eq_of_lt (by omega) (by omega)]
theorem Ed (z:Int):((z.tmod 32768).natAbs:Int)=((z.natAbs:Int)).tmod 32768:=by
 rcases Int.natAbs_eq z with e|e
 ·rw[e,Int.natAbs_natCast]
  have:(0:Int)<=((z.natAbs:Int)).tmod 32768:=Int.tmod_nonneg _ (by omega)
  omega
 ·rw[e,Int.neg_tmod,Int.natAbs_neg,Int.natAbs_neg,Int.natAbs_natCast]
  have:(0:Int)<=((z.natAbs:Int)).tmod 32768:=Int.tmod_nonneg _ (by omega)
  omega
theorem Ob {z:Int} (h:z<0):z.tmod 32768 = -((z.tmod 32768).natAbs:Int):=by
 rw[Ed]
 have e:z = -((z.natAbs:Nat):Int):=by omega
 conv=>lhs;rw[e]
 rw[Int.neg_tmod]
theorem ago {m:Nat}:gD .rem (nI .i64 m) (nI .i64 32768)=some (.int .i64 (((m:Nat):Int).tmod 32768)):=rfl
theorem aeg {Q:(Nat->Int)->Prop} {sh:Sh} {cut:Bool} (hQ:∀ zs,Q zs->th sh (zs 3)/\zs 4=(zs 3).tmod 32768/\(cut=false->sh.hi<32768)):ki (PW Q) (hkT sh cut):=by
 rintro s ⟨zs,rfl,hl,hr,hq⟩ h l v e
 obtain⟨o,h4,hc⟩:=hQ zs hq
 have h6:(zs 3).natAbs<1000000:=Nat.lt_of_le_of_lt o.hi o.h6
 have hhi:=o.hi
 have mP:=o.ng
 have hL:=o.L
 have hnd:=Fe (zs 3).natAbs
 have hnp:=lu (zs 3).natAbs
 have Xx:slot (zs 3) (160+sh.L)=nI .i64 (zs 3).natAbs:=by
  rw[ox _ (by omega),hL,Nat.sub_self,Nat.pow_zero,Nat.div_one]
 have h40:aJ zs 4000=.int .i64 (zs 4):=o3 zs (j:=0) (by omega)
 have h41:aJ zs 4001=nI .i64 (zs 4).natAbs:=o3 zs (j:=1) (by omega)
 unfold hkT at e
 split at e
 ·replace e:=aq e
  obtain⟨c,e⟩:=e
  simp only[Bool.and_eq_true,beq_iff,Il]at c
  obtain⟨c1,c2,c3,rfl⟩:=c
  cases e
  have h43:zs 4=zs 3:=by rw[h4];exact mS (by have:=hc c1;omega)
  rw[c2,if_neg Bool.false_ne_true]at mP
  refine⟨E9 (by omega) rfl,rfl,?_⟩
  show iW (.bin .add) [nI .i64 0,aJ zs (3000+(140+0))]=some (aJ zs 4000)
  rw[at3 zs (by omega),oA _ (by omega),h40,h43]
  refine(pP (c:=(zs 3).natAbs) ?_ (by omega)).trans ?_
  ·rw[Nat.zero_add,Nr h6,hL,c3];simp
  ·show some (Value.int .i64 (((zs 3).natAbs:Nat):Int))=_
   rw[show(((zs 3).natAbs:Nat):Int)=zs 3 from by omega]
 ·rename_i j k
  replace e:=aq e
  obtain⟨c,e⟩:=e
  simp only[Bool.and_eq_true,beq_iff,an,Il]at c
  obtain⟨c1,c2,c3,c4,c5⟩:=c
  cases e
  have h43:zs 4=zs 3:=by rw[h4];exact mS (by have:=hc c1;omega)
  rw[c2,if_neg Bool.false_ne_true]at mP
  obtain⟨i,hi⟩:∃ i,sh.L=i+1:=⟨sh.L-1,by omega⟩
  have e1:j=3000+(180+i):=by omega
  have e2:k=3000+(140+i):=by omega
  subst e1;subst e2
  refine⟨H_ (by omega) (by omega),rfl,?_⟩
  show iW (.bin .add) [aJ zs (3000+(180+i)),aJ zs (3000+(140+i))]=some (aJ zs 4000)
  rw[at3 zs (by omega),at3 zs (by omega),oA _ (by omega),xw _ (by omega),h40,h43]
  have hp:=KW (m:=(zs 3).natAbs) (i:=i) (by omega)
  refine(pP (c:=(zs 3).natAbs) ?_ (by omega)).trans ?_
  ·rw[hp,hL,hi,Nat.sub_self,Nat.pow_zero,Nat.div_one]
  ·show some (Value.int .i64 (((zs 3).natAbs:Nat):Int))=_
   rw[show(((zs 3).natAbs:Nat):Int)=zs 3 from by omega]
 ·rename_i k
  replace e:=aq e
  obtain⟨c,e⟩:=e
  rw[Bool.and_eq_true]at c
  obtain⟨c1,c2⟩:=c
  cases e
  rw[c1,if_pos rfl]at mP
  cases Dg:cut with
  |true =>
   rw[Dg,aj,beq_iff]at c2;subst c2
   refine⟨rfl,rfl,?_⟩
   show iW .neg [aJ zs 4001]=some (aJ zs 4000)
   rw[h41,h40]
   show some (Value.int .i64 (aN .i64 (0-(((zs 4).natAbs:Nat):Int))))=_
   rw[show 0-(((zs 4).natAbs:Nat):Int)=zs 4 from by
    have:=Ob mP
    rw[h4];omega,wrap64 (by omega) (by omega)]
  |false =>
   rw[Dg,au,beq_iff]at c2;subst c2
   have h43:zs 4=zs 3:=by rw[h4];exact mS (by have:=hc Dg;omega)
   refine⟨QK (by omega),rfl,?_⟩
   show iW .neg [aJ zs (3160+sh.L)]=some (aJ zs 4000)
   rw[show 3160+sh.L=3000+(160+sh.L)from by omega,at3 zs (by omega),Xx,h40,h43]
   show some (Value.int .i64 (aN .i64 (0-(((zs 3).natAbs:Nat):Int))))=_
   rw[show 0-(((zs 3).natAbs:Nat):Int)=zs 3 from by omega,wrap64 (by omega) (by omega)]
 ·rename_i k
  replace e:=aq e
  obtain⟨c,e⟩:=e
  rw[Bool.and_eq_true,beq_iff]at c
  obtain⟨c1,rfl⟩:=c
  cases e
  have key:iW (.bin .rem) [aJ zs (3160+sh.L),nI .i64 32768]=some (nI .i64 (zs 4).natAbs):=by
   rw[show 3160+sh.L=3000+(160+sh.L)from by omega,at3 zs (by omega),Xx]
   refine ago.trans ?_
   rw[<-Ed,<-h4];rfl
  cases hb:sh.ng with
  |true =>
   rw[aj]
   refine⟨tU (by omega) rfl,rfl,?_⟩
   refine key.trans ?_
   show _=some (aJ zs 4001)
   rw[h41]
  |false =>
   rw[au]
   rw[hb,if_neg Bool.false_ne_true]at mP
   refine⟨tU (by omega) rfl,rfl,?_⟩
   refine key.trans ?_
   show _=some (aJ zs 4000)
   rw[h40,h4]
   have:(0:Int)<=(zs 3).tmod 32768:=Int.tmod_nonneg _ mP
   show some (Value.int .i64 (((zs 3).tmod 32768).natAbs:Int))=_
   rw[show((((zs 3).tmod 32768).natAbs:Nat):Int)=(zs 3).tmod 32768 from by omega]
 ·cases e
def aaC:List Value->Nat->Nat->Bool
 | [],_,n=>Nat.beq n 0
 |v::r,k,n=>match v with|.chan (some j)=>Bc (Nat.beq j k&&Nat.blt 0 n) (aaC r (k+1) (n-1)) false|_=>false
theorem GF:∀ {l:List Value} {k n:Nat},aaC l k n=true->l=(List.range n).map λi=>sy (k+i)
 | [],k,n,h=>by have:=(beq_iff _ _).1 h;subst this;rfl
 |v::r,k,n,h=>by
  unfold aaC at h
  split at h
  ·rename_i j
   cases e:(Nat.beq j k&&Nat.blt 0 n)with
   |false=>rw[e,au]at h;cases h
   |true =>
    rw[e,aj]at h
    simp only[Bool.and_eq_true,beq_iff,an]at e
    obtain⟨rfl,e⟩:=e
    obtain⟨m,rfl⟩:∃ m,n=m+1:=⟨n-1,by omega⟩
    rw[GF h,List.range_succ_eq_map,List.map_cons,List.map_map]
    congr 1
    apply List.map_congr_left
    intro i hi
    show sy (j+1+i)=sy (j+(i+1))
    congr 1;omega
  ·cases h
def hkP (S:Nat) (sh:Sh):er->List Value->Option Value
 |.bin .add,[.string s,.chan (some k)]=>Bc (Nat.beq k (1000*S+2)&&oL s (Bc sh.ng [45] [])) (some (sy (1000*S+4)))
  (Bc (Nat.beq k (1000*S+4)&&oL s []) (some (sy (1000*S+4)))
  (Bc (Nat.beq k (1000*S+4)&&oL s (List.replicate (9-(sh.L+sg sh.ng)) 32)) (some (sy (1000*S+5))) none))
 |.str,l=>Bc (aaC l (1000*S+200) (sh.L+sg sh.ng)) (some (sy (1000*S+4))) none
 |_,_=>none
theorem Og {z:Int} {b:Bool} (h:if b then z<0 else 0<=z):(Bc b [45] []:List UInt8)++bE z.natAbs=stx z:=by
 cases b with
 |true=>exact(mT h).symm
 |false=>exact(jH h).symm
theorem aeh {Q:(Nat->Int)->Prop} {S:Nat} {sh:Sh} (hQ:∀ zs,Q zs->th sh (zs S)):ki (PW Q) (hkP S sh):=by
 rintro s ⟨zs,rfl,hl,hr,hq⟩ h l v e
 have o:=hQ zs hq
 have mP:=o.ng
 have hL:=o.L
 have hnd:=Fe (zs S).natAbs
 have hsg:=KK sh.ng
 have nY:=vX (zs S) sh.ng mP
 unfold hkP at e
 split at e
 ·rename_i s k
  cases c1:(Nat.beq k (1000*S+2)&&oL s (Bc sh.ng [45] []))with
  |true =>
   rw[c1,aj]at e;cases e
   rw[Bool.and_eq_true,beq_iff]at c1
   obtain⟨rfl,c1⟩:=c1
   have:=fV c1;subst this
   refine⟨E9 (by omega) rfl,bR (by omega),?_⟩
   show iW (.bin .add) [sI (Bc sh.ng [45] []),aJ zs (1000*S+2)]=some (aJ zs (1000*S+4))
   rw[gz zs S (by omega),gz zs S (by omega)]
   exact pO (Og mP) (by rw[nY];omega)
  |false =>
  rw[c1,au]at e
  cases c2:(Nat.beq k (1000*S+4)&&oL s [])with
  |true =>
   rw[c2,aj]at e;cases e
   rw[Bool.and_eq_true,beq_iff]at c2
   obtain⟨rfl,c2⟩:=c2
   have:=fV c2;subst this
   refine⟨E9 (by omega) rfl,bR (by omega),?_⟩
   show iW (.bin .add) [sI [],aJ zs (1000*S+4)]=some (aJ zs (1000*S+4))
   rw[gz zs S (by omega)]
   exact pO (List.nil_append _) (by rw[nY];omega)
  |false =>
  rw[c2,au]at e
  replace e:=aq e
  obtain⟨c3,e⟩:=e
  rw[Bool.and_eq_true,beq_iff]at c3
  obtain⟨rfl,c3⟩:=c3
  have:=fV c3;subst this
  cases e
  refine⟨E9 (by omega) rfl,bR (by omega),?_⟩
  show iW (.bin .add) [sI (List.replicate (9-(sh.L+sg sh.ng)) 32),aJ zs (1000*S+4)]=some (aJ zs (1000*S+5))
  rw[gz zs S (by omega),gz zs S (by omega)]
  refine pO (y:=stx (zs S)) (z:=List.replicate (9-(stx (zs S)).length) 32++stx (zs S)) ?_ ?_
  ·rw[nY,hL]
  ·rw[List.length_append,List.length_replicate,nY];omega
 ·rename_i l
  replace e:=aq e
  obtain⟨c,e⟩:=e
  have sL:=GF c
  cases e
  subst sL
  refine⟨?_,bR (by omega),?_⟩
  ·rw[List.all_eq_true];intro x hx
   obtain⟨i,_,rfl⟩:=List.mem_map.1 hx
   exact bR (by omega)
  rw[List.map_map]
  have e1:(List.range (sh.L+sg sh.ng)).map (real (aJ zs)∘λi=>sy (1000*S+200+i))=(List.range (sh.L+sg sh.ng)).map λi=>nI .u8 ((stx (zs S)).getD i 0).toNat:=by
   apply List.map_congr_left
   intro i hi
   have hi:=List.mem_range.1 hi
   show aJ zs (1000*S+200+i)=_
   rw[show 1000*S+200+i=1000*S+(200+i)from by omega,gz zs S (by omega),ow _ (by omega)]
  rw[e1]
  show(match strOf ((List.range (sh.L+sg sh.ng)).map λi=>nI .u8 ((stx (zs S)).getD i 0).toNat)with|some s=>some (Value.string ⟨⟨s⟩⟩)|none=>none)=_
  rw[xh (λi=>((stx (zs S)).getD i 0).toNat) (λi=>UInt8.toNat_lt _)]
  show some (sI ((List.range (sh.L+sg sh.ng)).map λi=>UInt8.ofNat ((stx (zs S)).getD i 0).toNat))=some (aJ zs (1000*S+4))
  rw[gz zs S (by omega)]
  congr 1
  show sI _=sI (stx (zs S))
  congr 1
  apply List.ext_getElem?
  intro i
  rw[List.getElem?_map]
  by_cases hi:i<sh.L+sg sh.ng
  ·rw[List.getElem?_range hi]
   have hi2:i<(stx (zs S)).length:=by rw[nY,hL];exact hi
   show some (UInt8.ofNat ((stx (zs S)).getD i 0).toNat)=_
   rw[UInt8.ofNat_toNat,List.getElem?_eq_getElem hi2,wJ (List.getElem?_eq_getElem hi2)]
  ·rw[List.getElem?_eq_none (by rw[List.length_range];omega),List.getElem?_eq_none (by rw[nY,hL];omega)];rfl
 ·cases e
def Ee:List UInt8:=[48,49,50,51,52,53,54,55,56,57]
def ltD (S:Nat) (sh:Sh) (f:Nat) (args:List Value):Option Value:=match args with
 | [.chan (some k)]=>Bc (Nat.beq f 13&&!(Nat.beq S 0)) (Bc (Nat.beq k (1000*S)) (some (Bc (Nat.beq sh.hi 0) (sI [48]) (sy (Bc sh.ng (1000*S+4) (1000*S+2))))) (Bc (Nat.beq k (1000*S+1)) (some (sy (1000*S+2))) none)) none
 | [.chan (some k),.string s]=>Bc (Nat.beq f 383)
  (Bc (Nat.beq k (1000*S+2)&&(Nat.blt sh.q 6&&oL s [48])) (some (sy (1000*S+2))) (Bc (Nat.beq k (1000*S+5)&&oL s [32]) (some (sy (1000*S+4))) (Bc (Nat.beq k (1000*S+2)&&(Nat.beq sh.hi 0&&oL s [48])) (some (sI [])) none)))
  (Bc (Nat.beq f 441) (Bc (Nat.beq k (1000*S+2)&&(Nat.blt sh.q 6&&oL s [48])) (some (sy (1000*S+3))) none)
  (Bc (Nat.beq f 309) (Bc (Nat.beq k (1000*S+3)&&(Nat.blt sh.q 6&&(Nat.blt sh.q sh.L&&oL s Ee))) (some (sI [])) none) none))
 |_=>none
theorem X1 {m i:Nat}:Ee.contains (UInt8.ofNat (48+jr m i))=true:=by
 have:=lG m i
 generalize jr m i=d at this
 rcases(by omega:d=0\/d=1\/d=2\/d=3\/d=4\/d=5\/d=6\/d=7\/d=8\/d=9)with rfl|rfl|rfl|rfl|rfl|rfl|rfl|rfl|rfl|rfl<;>decide
theorem Gu {p:UInt8->Bool}:∀ {l:List UInt8},(∀ c∈l,p c=true)->l.dropWhile p=[]
 | [],_=>rfl
 |c::l,h=>by rw[List.dropWhile_cons_of_pos (h c List.mem_cons_self)];exact Gu λc hc=>h c (List.mem_cons_of_mem _ hc)
theorem N7 {l:List UInt8} (h:∀ c∈l,Ee.contains c=true):Lib.trimS l Ee=[]:=by
 unfold Lib.trimS Lib.trimLeftS Lib.trimRightS
 rw[Gu (l:=l.reverse) (λc hc=>h c (List.mem_reverse.1 hc))];rfl
theorem vR {m:Nat} {c:UInt8} (h:c∈bE m):∃ i,c=UInt8.ofNat (48+jr m i):=by
 unfold bE at h
 obtain⟨i,_,rfl⟩:=List.mem_map.1 h
 exact⟨i,rfl⟩
theorem Ap {l:List UInt8} (h:l.head?≠some 32):∀ n,Lib.trimLeftB (List.replicate n 32++l) 32=l
 |0=>by
  unfold Lib.trimLeftB
  cases l with
  |nil=>rfl
  |cons c l =>
   have:¬ c=32:=λe=>h (by rw[e];rfl)
   show List.dropWhile _ (c::l)=_
   rw[List.dropWhile_cons_of_neg (by simp[this])]
 |n+1=>by
  have:=Ap h n
  unfold Lib.trimLeftB at this ⊢
  rw[List.replicate_succ,List.cons_append,List.dropWhile_cons_of_pos (by simp),this]
theorem RM (z:Int):(stx z).head?≠some 32:=by
 rcases(by omega:z<0\/0<=z)with h|h
 ·rw[mT h];intro h;cases h
 ·rw[jH h]
  have hp:=lu z.natAbs
  have e:=qn (m:=z.natAbs) (i:=0) hp
  rw[List.head?_eq_getElem?,e]
  intro h
  have:=congrArg UInt8.toNat (Option.some.inj h)
  rw[qO]at this
  have h2:(32:UInt8).toNat=32:=rfl
  omega
theorem bsz (l:List UInt8):(ByteArray.mk ⟨l⟩).size=l.length:=rfl
theorem Iy {Q:(Nat->Int)->Prop} {S:Nat} {sh:Sh} (hQ:∀ zs,Q zs->th sh (zs S)):aa2 (PW Q) (ltD S sh):=by
 rintro s ⟨zs,rfl,hl,hr,hq⟩ f l v e
 have o:=hQ zs hq
 have h6:(zs S).natAbs<1000000:=Nat.lt_of_le_of_lt o.hi o.h6
 have mP:=o.ng
 have hhi:=o.hi
 have hL:=o.L
 have hnd:=Fe (zs S).natAbs
 unfold ltD at e
 split at e
 ·rename_i k
  replace e:=aq e
  obtain⟨c,e⟩:=e
  rw[Bool.and_eq_true,beq_iff,Il]at c
  obtain⟨rfl,c⟩:=c
  have hS:0<S:=by
   cases S with
   |zero=>cases c
   |succ S=>omega
  cases c1:Nat.beq k (1000*S)with
  |true =>
   rw[c1,aj]at e;cases e
   rw[beq_iff]at c1;subst c1
   have key:∀ w,w=Value.string ⟨(stx (zs S)).toArray⟩->jP 13 [aJ zs (1000*S+0)] w:=by
    rintro w rfl
    rw[gz zs S (by omega),<-xd h6]
    exact .itoa (zs S) (by omega) (by omega)
   cases c2:Nat.beq sh.hi 0 with
   |true =>
    rw[beq_iff]at c2
    refine⟨QK (by omega),rfl,key _ ?_⟩
    rw[show zs S=0 from by omega];rfl
   |false =>
    rw[au]
    cases hb:sh.ng with
    |true =>
     refine⟨QK (by omega),bR (by rw[aj];omega),key _ ?_⟩
     show aJ zs (1000*S+4)=_
     rw[gz zs S (by omega)];rfl
    |false =>
     rw[hb,if_neg Bool.false_ne_true]at mP
     refine⟨QK (by omega),bR (by rw[au];omega),key _ ?_⟩
     show aJ zs (1000*S+2)=_
     rw[gz zs S (by omega),jH mP];rfl
  |false =>
  rw[c1,au]at e
  replace e:=aq e
  obtain⟨c2,e⟩:=e
  rw[beq_iff]at c2;subst c2
  cases e
  refine⟨QK (by omega),bR (by omega),?_⟩
  show jP 13 [aJ zs (1000*S+1)] (aJ zs (1000*S+2))
  rw[gz zs S (by omega),gz zs S (by omega)]
  have:=jP.itoa (((zs S).natAbs:Nat):Int) (by omega) (by omega)
  rw[xd (by omega),jH (by omega),Int.natAbs_natCast]at this
  exact this
 ·rename_i k s
  cases c0:Nat.beq f 383 with
  |true =>
   rw[c0,aj]at e
   rw[beq_iff]at c0;subst c0
   cases c1:(Nat.beq k (1000*S+2)&&(Nat.blt sh.q 6&&oL s [48]))with
   |true =>
    rw[c1,aj]at e;cases e
    simp only[Bool.and_eq_true,beq_iff,an]at c1
    obtain⟨rfl,c1,c2⟩:=c1
    have:=fV c2;subst this
    refine⟨tU (by omega) rfl,bR (by omega),?_⟩
    show jP 383 [aJ zs (1000*S+2),.string ⟨#[48]⟩] (aJ zs (1000*S+2))
    rw[gz zs S (by omega)]
    have:=jP.Kt ⟨⟨bE (zs S).natAbs⟩⟩ 48 (by decide)
    rw[N_ (o.q c1).2 h6]at this
    exact this
   |false =>
   rw[c1,au]at e
   cases c2:(Nat.beq k (1000*S+5)&&oL s [32])with
   |true =>
    rw[c2,aj]at e;cases e
    rw[Bool.and_eq_true,beq_iff]at c2
    obtain⟨rfl,c2⟩:=c2
    have:=fV c2;subst this
    refine⟨tU (by omega) rfl,bR (by omega),?_⟩
    show jP 383 [aJ zs (1000*S+5),.string ⟨#[32]⟩] (aJ zs (1000*S+4))
    rw[gz zs S (by omega),gz zs S (by omega)]
    have:=jP.Kt ⟨⟨List.replicate (9-(stx (zs S)).length) 32++stx (zs S)⟩⟩ 32 (by decide)
    rw[Ap (RM _)]at this
    exact this
   |false =>
   rw[c2,au]at e
   replace e:=aq e
   obtain⟨c3,e⟩:=e
   simp only[Bool.and_eq_true,beq_iff]at c3
   obtain⟨rfl,c3,c4⟩:=c3
   have:=fV c4;subst this
   cases e
   refine⟨tU (by omega) rfl,rfl,?_⟩
   show jP 383 [aJ zs (1000*S+2),.string ⟨#[48]⟩] (sI [])
   rw[gz zs S (by omega),show zs S=0 from by omega]
   exact jP.Kt ⟨⟨bE 0⟩⟩ 48 (by decide)
  |false =>
  rw[c0,au]at e
  cases c1:Nat.beq f 441 with
  |true =>
   rw[c1,aj]at e
   rw[beq_iff]at c1;subst c1
   replace e:=aq e
   obtain⟨c2,e⟩:=e
   simp only[Bool.and_eq_true,beq_iff,an]at c2
   obtain⟨rfl,c2,c3⟩:=c2
   have:=fV c3;subst this
   cases e
   refine⟨tU (by omega) rfl,bR (by omega),?_⟩
   show jP 441 [aJ zs (1000*S+2),.string ⟨#[48]⟩] (aJ zs (1000*S+3))
   rw[gz zs S (by omega),gz zs S (by omega)]
   have:=jP.aa' ⟨⟨bE (zs S).natAbs⟩⟩ 48 (by decide) (by rw[bsz,fc];omega)
   rw[N9 _ (o.q c2).2 h6]at this
   exact this
  |false =>
  rw[c1,au]at e
  replace e:=aq e
  obtain⟨c2,e⟩:=e
  rw[beq_iff]at c2;subst c2
  replace e:=aq e
  obtain⟨c3,e⟩:=e
  simp only[Bool.and_eq_true,beq_iff,an]at c3
  obtain⟨rfl,c3,c4,c5⟩:=c3
  have:=fV c5;subst this
  cases e
  refine⟨tU (by omega) rfl,rfl,?_⟩
  show jP 309 [aJ zs (1000*S+3),sI Ee] (sI [])
  rw[gz zs S (by omega)]
  have hz:=(o.q c3).1
  have hlen:((bE (zs S).natAbs).take (nd (zs S).natAbs-nz (zs S).natAbs)).length=sh.L-sh.q:=by rw[List.length_take,fc,hL,hz];omega
  have:=jP.trim ⟨⟨(bE (zs S).natAbs).take (nd (zs S).natAbs-nz (zs S).natAbs)⟩⟩ ⟨⟨Ee⟩⟩ (by decide) (by rw[bsz,hlen];omega) (by rw[bsz,hlen];omega) (by decide) (by
   intro j b hb
   have hm:b∈Ee:=List.mem_of_getElem? hb
   have:∀ b∈Ee,b.toNat<128:=by decide
   exact this b hm)
  rw[N7 (λc hc=>by obtain⟨i,rfl⟩:=vR (List.mem_of_mem_take hc);exact X1)]at this
  exact this
 ·cases e
abbrev zk (hk:er->List Value->Option Value):tf:=⟨hk⟩
def LA:Nat:=2 ^ 13+2 ^ 383+2 ^ 441+2 ^ 309
def Yv (lt:DX) (f:Nat) (args:List Value) (H:Hp):kE :=
 Bc (Nat.testBit vu f) (rW (Ej f args H)) (Bc (Nat.testBit LA f) (rW (uQ lt f args H)) (Bc (Nat.testBit Fk f) (rW (Yi f args H)) none))
def ZT (f g:QS):QS:=λk=>match f k with|some x=>some x|none=>g k
def iv4:QS:=λk=>Bc (Nat.beq k 4000) (some (.i64, -32767,32767)) none
def hkA (sh:Sh) (cut:Bool):er->List Value->Option Value:=yp (UE (ZT (ivD 3 sh) iv4)) (yp (hkT sh cut) (hkD 3 sh))
def T31:Value:=tyV 2 31
def tyC (n:Int):Value:=tyV 3 n
def vlS (v:Value):Value:=.agg ⟨[.int .i64 0,v]⟩
def toK (from_ x:Value) (cond:Int):ff:=⟨144,[x,from_,gB],[(2,zH)],NG,vU [vl (sy 4000),nV cond,nV 0],[],NG,4,0⟩
def shZ:Sh:=⟨1,6,false,0,0⟩
def X4 (z:Bool):Nat->Option Value:=λk=>Bc (z&&Nat.beq k 4000) (some (.int .i64 0)) none
noncomputable def toB (sh:Sh) (cut:Bool) (from_ x:Value) (cond:Int):Bool:=@vL (zk (hkA sh cut)) (Yv (ltD 3 sh)) (X4 (Nat.beq sh.hi 0)) (toK from_ x cond) []
def shM (L q:Nat) (ng:Bool):Sh:=⟨L,q,ng,10 ^ (L-1),min (10 ^ L-1) 32767⟩
noncomputable def GO (f:Nat->Bool->Bool) (ngs:Bool):List Nat->Bool:=λl=>@List.rec Nat (λ_=>Bool) true (λq _ ih=>Bc (f q false) (Bc ngs (Bc (f q true) ih false) ih) false) l
theorem mO {f:Nat->Bool->Bool}:∀ {l:List Nat},GO f true l=true->∀ q∈l,∀ b,f q b=true
 | [],_,x,hx,_=>by cases hx
 |y::l,h,x,hx,b=>by
  have h:Bc (f y false) (Bc true (Bc (f y true) (GO f true l) false) (GO f true l)) false=true:=h
  cases e:f y false with
  |false=>rw[e,au]at h;cases h
  |true =>
   rw[e,aj,aj]at h
   cases e2:f y true with
   |false=>rw[e2,au]at h;cases h
   |true =>
    rw[e2,aj]at h
    rcases List.mem_cons.1 hx with rfl|hx
    ·cases b<;>assumption
    ·exact mO h x hx b
def v3:Value:=vl (sy 3000)
def v3S:Value:=vlS (sy 3004)
noncomputable def Rx (L q:Nat) (ng:Bool):Bool:=toB (shM L q ng) false T31 v3 0
noncomputable def toS (L q:Nat) (ng:Bool):Bool:=toB (shM L q ng) false (tyC (L+sg ng)) v3S 0
theorem af9:Nat.beq (Bc (toB shZ false T31 v3 0) 1 0) 1=true:=by kernel_rfl
theorem af8:Nat.beq (Bc (GO (Rx 1) true [0]) 1 0) 1=true:=by kernel_rfl
theorem af7:Nat.beq (Bc (GO (Rx 2) true [0,1]) 1 0) 1=true:=by kernel_rfl
theorem af6:Nat.beq (Bc (GO (Rx 3) true [0,1,2]) 1 0) 1=true:=by kernel_rfl
theorem af5:Nat.beq (Bc (GO (Rx 4) true [0,1,2,3]) 1 0) 1=true:=by kernel_rfl
theorem af4:Nat.beq (Bc (GO (Rx 5) true [0,1,2,3,4]) 1 0) 1=true:=by kernel_rfl
end Go.Proofs.CN
end
