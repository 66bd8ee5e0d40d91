/-
 A part of the proof that pliantlaw16.MeanAssigns returns true and leaves its arguments alone. Conditions: those of the card in the last text.
-/
import Derived.Ground.Names2Prog
import Derived.Ground.SlgnProg
import Derived.Shelf.Slices.Equal
import Derived.Shelf.Strings.Fields
import Derived.Test.YtdmcanlbncbemaaGreatDoorProg
import Derived.Test.YtdmcanlbncbemaaGreatDoorG20
import Derived.Test.YtdmcanlbncbemaaGreatDoorG21
set_option linter.unusedSimpArgs false
set_option linter.unusedVariables false
set_option linter.unusedSectionVars false
set_option maxRecDepth 100000
set_option maxHeartbeats 8000000
noncomputable section
namespace Go.Proofs.CA
open Go Go.Ev Go.Proofs Go.Ev.SM Go.Proofs.MN Go.Proofs.CN
def Uq (k:Nat) (B:dB):Bool:=match B with|.obj o=>(match o with|.cells c j fr=>Nat.beq j k&&(c.toList.isEmpty&&(Nat.beq fr.1 0&&Nat.beq fr.2 0))|_=>false)|_=>false
theorem Pp {k:Nat} {B:dB} (h:Uq k B=true):B=exB k:=by
 unfold Uq at h
 split at h
 ·split at h
  ·rename_i c j fr
   simp only[Bool.and_eq_true,beq_iff,List.isEmpty_iff]at h
   obtain⟨rfl,h2,h3,h4⟩:=h
   obtain⟨f1,f2⟩:=fr
   simp only at h3 h4
   subst h3 h4
   have:c = #[]:=Array.toList_inj.1 h2
   rw[this];rfl
  ·cases h
 ·cases h
def toks (i:Nat) (H:Hp):Bool:=(List.range 5).all λj=>Uq (10000000+(10*i+j)) (H.blk (P0 i j))
def pmA (cb pb ab i b b':Nat):Bool:=(Nat.blt b 15&&Nat.beq b b')||((Nat.beq b 15&&Nat.beq b' (P0 i 0))||((Nat.beq b 16&&Nat.beq b' (P0 i 1))||((Nat.beq b 20&&Nat.beq b' cb)||((Nat.beq b 21&&Nat.beq b' pb)||(Nat.beq b 23&&Nat.beq b' ab)))))
def vo (no:Nat) (k:Nat):Option Value:=Bc (Nat.beq k 6000) (some (.int .i64 (.ofNat no))) none
def Xr (_ _:Nat):Bool:=false
def TA (i:Nat):Nat:=bit (P0 i 0) ||| (bit (P0 i 1) ||| (bit (P0 i 2) ||| (bit (P0 i 3) ||| bit (P0 i 4))))
def RU:List (Nat×dB):=[(3,Ox),(6,OM)]++Nu
def NJ (cb pb ab:Nat) (b:Nat):Nat:=Bc (Nat.blt b 15) b (Bc (Nat.beq b 20) cb (Bc (Nat.beq b 21) pb (Bc (Nat.beq b 23) ab b)))
def acG (M:Nat) (args:List Value) (H:Hp):kE:=match args with
 | [.pointer (some ⟨cb,0,none⟩),.agg s]=>(match s.toList with
  | [_, .int .i64 (.ofNat no),.slice (some ⟨b0,_,none⟩) _ _,_,_,_,_,_,_,_,_]=>(match H.blk cb with
   |.cells t _ _ _ _ _=>(match t.get 0,t.get 7 with
    |.slice (some ⟨pb,0,none⟩) _ _,.slice (some ⟨ab,0,none⟩) _ _ =>
     Bc (Qg (vo no) Xr (pmA cb pb ab ((b0-100) / 5)) 12 (.agg ⟨cT (sy 6000) 15 16⟩) (.agg s)&&(Nat.ble no 9999&&(Nat.blt ((b0-100) / 5) M&&(toks ((b0-100) / 5) H &&
      (RU.all λx=>yY (vo no) Xr (pmA cb pb ab ((b0-100) / 5)) x.2 (H.blk (NJ cb pb ab x.1)))))))
     (some (.tuple ⟨[]⟩,H,2 ^ 3 ||| (2 ^ 6 ||| (bit cb ||| (bit pb ||| (bit ab ||| TA ((b0-100) / 5))))),0)) none
    |_,_=>none)
   |_=>none)
  |_=>none)
 |_=>none
noncomputable def og (β:Mp) (zs:Nat->Int) (i:Nat) (at_:Nat->Nat):Mp:=λb =>
 if b<15 then β b else if b<20 then β (P0 i (b-15))else if b<30 then β (at_ b)else if SY<=b then some (vK (aJ zs) (b-SY))else none
theorem RH:1000<SY:=by unfold SY;decide
theorem V8 (s:CN.Sem) (k:Nat):(vK s k).rb=0:=by
 unfold vK
 split
 ·rfl
 ·generalize s k=v
  unfold Gt
  split<;>rfl
section
variable {β:Mp} {zs:Nat->Int} {i:Nat} {at_:Nat->Nat}
theorem uI {b:Nat} (h:b<15):og β zs i at_ b=β b:=by unfold og;rw[if_pos h]
theorem y_ {j:Nat} (h:j<5):og β zs i at_ (15+j)=β (P0 i j):=by unfold og;rw[if_neg (by omega),if_pos (by omega),show 15+j-15=j from by omega]
theorem gd {b:Nat} (h:20<=b) (h2:b<30):og β zs i at_ b=β (at_ b):=by
 unfold og
 rw[if_neg (by omega),if_neg (by omega),if_pos h2]
theorem gY:uM (aJ zs) (og β zs i at_):=λk=>by
 have:=RH
 unfold og
 rw[if_neg (by omega),if_neg (by omega),if_neg (by omega),if_pos (by omega),Nat.add_sub_cancel_left]
theorem s7 {ng:Nat} (hn:ng=15) {O:dj} (hg:@cX O ng β) {hk:er->List Value->Option Value} {hok:gO (PW (One zs)) hk} (hz:PW (One zs) (aJ zs)):@cX (jj (PW (One zs)) hk hok) ng (og β zs i at_):=by
 subst hn
 refine⟨λg h=>?_,aJ zs,hz,gY⟩
 rw[uI h];exact hg.1 g h
theorem wQ {W:World} (hd:∀ b m,β b=some m->m.rb<W.heap.size) (h0:0<W.heap.size):∀ b m,og β zs i at_ b=some m->m.rb<W.heap.size:=by
 intro b m e
 unfold og at e
 split at e
 ·exact hd _ _ e
 split at e
 ·exact hd _ _ e
 split at e
 ·exact hd _ _ e
 split at e
 ·have e:=Option.some.inj e
  rw[<-e,V8];exact h0
 ·cases e
end
theorem lY {β:Mp}:∀ {L:List Value},L.all (aW 10)=true->ak β L L:=λh=>fE β h
theorem sj {β:Mp} {a a' b b':List Value} (h1:ak β a a') (h2:ak β b b'):ak β (a++b) (a'++b'):=by
 refine⟨by rw[List.length_append,List.length_append,h1.1,h2.1],λi v v' e1 e2=>?_⟩
 rcases Nat.lt_or_ge i a.length with h|h
 ·rw[List.getElem?_append_left h]at e1
  rw[List.getElem?_append_left (by rw[<-h1.1];exact h)]at e2
  exact h1.2 i v v' e1 e2
 ·rw[List.getElem?_append_right h]at e1
  rw[List.getElem?_append_right (by rw[<-h1.1];exact h)]at e2
  exact h2.2 (i-a.length) v v' e1 (by rw[h1.1];exact e2)
def aa3 (β:Mp) (b rb:Nat):Prop:=∃ m,β b=some m/\m.rb=rb/\m.sh=0
theorem R_ {β:Mp} {b rb:Nat} (h:aa3 β b rb):ai β (cD b 1 2) (rSl rb):=by
 obtain⟨m,e,h1,h2⟩:=h
 have:=ai.sl b 0 1 2 1 m e ⟨λ_=>rfl,λh=>by omega⟩
 rw[h1,h2]at this
 exact this
theorem abe {β:Mp} {v sb b:Nat} (h:(Nat.blt 3 v&&Nat.blt v 8)=true->aa3 β sb b):ak β (cR v sb 2) (rR v b):=by
 unfold cR rR
 cases h1:Nat.blt v 4 with
 |true=>exact lY rfl
 |false =>
  cases h2:Nat.blt v 8 with
  |true =>
   rw[au,au,aj,aj]
   have h3:Nat.blt 3 v=true:=by
    rw[<-Bool.not_eq_true,an]at h1
    rw[an];omega
   refine sj (a:=[iI 1,iI 0,iI 0,iI 64,aT,cD sb 1 2]) ?_ (lY rfl)
   exact ak.cons (.int _ _) (ak.cons (.int _ _) (ak.cons (.int _ _) (ak.cons (.int _ _) (ak.cons (.AA _ _) (ak.cons (R_ (h (by rw[h3,h2];rfl))) (ak.nil _))))))
  |false=>exact lY rfl
theorem agp {β:Mp} {lb b:Nat} (h:aa3 β lb b):ak β (cL lb 2) (rL b):=by
 unfold cL rL
 refine sj (lY rfl) ?_
 exact ak.cons (.int _ _) (ak.cons (.string _) (ak.cons (.int _ _) (ak.cons (.AA _ _) (ak.cons (R_ h) (ak.nil _)))))
theorem abf {β:Mp} {n:Int} {x:Value} (h:ai β x (iI n)):ak β (cK x) (rK n):=by
 unfold rK cK
 refine sj (lY rfl) ?_
 exact ak.cons h (ak.cons (.string _) (ak.cons (.int _ _) (ak.cons (.AA _ _) (ak.cons (.AA _ _) (ak.nil _)))))
theorem abd {β:Mp} {v:Nat}:ak β (cS v) (rS v):=sj (abf (.int _ _)) (lY rfl)
theorem bg (b:Nat):(bit b).testBit b=true:=by simp[bit]
theorem nh {x y b:Nat} (h:x.testBit b=true):(x ||| y).testBit b=true:=by rw[Nat.testBit_or,h,Bool.true_or]
theorem ei {x y b:Nat} (h:y.testBit b=true):(x ||| y).testBit b=true:=by rw[Nat.testBit_or,h,Bool.or_true]
theorem Tz {i j:Nat} (h:j<5):(TA i).testBit (P0 i j)=true:=by
 unfold TA
 rcases(by omega:j=0\/j=1\/j=2\/j=3\/j=4)with rfl|rfl|rfl|rfl|rfl
 ·exact nh (bg _)
 ·exact ei (nh (bg _))
 ·exact ei (ei (nh (bg _)))
 ·exact ei (ei (ei (nh (bg _))))
 ·exact ei (ei (ei (ei (bg _))))
theorem dh [dj] {H:Hp} {b:Nat} (h:H.blk b≠.no):alive H b:=by
 refine⟨?_,h⟩
 rcases Nat.lt_or_ge b H.nx with h'|h'
 ·exact h'
 ·exact absurd (s8 h') h
theorem vV {i j:Nat} {H:Hp} (h:toks i H=true) (hj:j<5):H.blk (P0 i j)=exB (10000000+(10*i+j)):=Pp (List.all_eq_true.1 h j (List.mem_range.2 hj))
theorem KX {zs:Nat->Int} {ob:Ae} {β:Mp} {W:World} {H:Hp} {i:Nat} {a:iH} (tb:uM (gT zs ob) β) (hp:GV ob i a) (ht:toks i H=true) (hr:∀ j,j<5->∃ m,β (P0 i j)=some m/\fM β W (H.blk (P0 i j)) m)
 {j ty:Nat} {l:List Nat} (hj:j<5) (ho:ob (10*i+j)=(j5 (ty::l),a.b j)):∃ m,β (P0 i j)=some m/\m.rb=a.b j/\m.sh=0/\m.tot=(iZ l).length/\∃ fr:Nat×Nat,fr.1=fr.2/\W.heap[a.b j]?=some (.cells ⟨iZ l⟩ ty fr):=by
 obtain⟨m,e,hb⟩:=hr j hj
 rw[vV ht hj]at hb
 obtain⟨h1,h2,h3,h4⟩:=aco tb ho hb
 exact⟨m,e,h1,h2,h3,h4⟩
def D7 (a:iH) (no:Nat):Nat->Int:=λk=>if k=4 then a.n else if k=6 then no else 0
theorem pwS {a:iH} {no:Nat} (h : -32768<a.n/\a.n<32768):PW (One (D7 a no)) (aJ (D7 a no)):=⟨_,rfl,h.1,h.2,rfl⟩
theorem SU [dj] {zs:Nat->Int} {ob:Ae} {β:Mp} {W:World} {H:Hp} {i:Nat} {a:iH} {at_:Nat->Nat} {zz:Nat->Int} (h4:a.ld=false->zz 4=a.n) (tb:uM (gT zs ob) β) (hp:GV ob i a) (ht:toks i H=true) (hr:∀ j,j<5->∃ m,β (P0 i j)=some m/\fM β W (H.blk (P0 i j)) m) :
 ∀ x∈uU a.v a.ld,∃ m,og β zz i at_ x.1=some m/\fM (og β zz i at_) W x.2 m:=by
 have lie:∀ {j ty:Nat} {l:List Nat},j<5->ob (10*i+j)=(j5 (ty::l),a.b j)->aa3 (og β zz i at_) (15+j) (a.b j):=λhj ho=>by
  obtain⟨m,e,h1,h2,_⟩:=KX tb hp ht hr hj ho
  exact⟨m,by rw[y_ hj];exact e,h1,h2⟩
 have row:∀ {j ty:Nat} {l:List Nat} {L:List Value},j<5->ob (10*i+j)=(j5 (ty::l),a.b j)->ak (og β zz i at_) L (iZ l)->L.all bQ=true->∃ m,og β zz i at_ (15+j)=some m/\fM (og β zz i at_) W (aG L ty 0) m:=λhj ho hl h1=>by
  obtain⟨m,e,g1,g2,g3,fr,hfr,g4⟩:=KX tb hp ht hr hj ho
  exact⟨m,by rw[y_ hj];exact e,ac2 hfr g4 g1 g2 g3 hl h1⟩
 have oR:∀ sb,(cR a.v sb 2).all bQ=true:=λsb=>by
  unfold cR
  cases Nat.blt a.v 4 with
  |true=>rfl
  |false=>cases Nat.blt a.v 8<;>rfl
 have hx4:a.ld=false->ai (og β zz i at_) (sy 4000) (iI a.n):=λhl=>(bY (cy _) gY (v:=sy 4000) rfl).2 (show iI a.n=aJ zz 4000 from by rw[<-h4 hl];exact(o3 zz (j:=0) (by omega)).symm)
 have vE:=row (j:=0) (L:=cR a.v 17 2) (by omega) hp.r (by rw[aao];exact abe λh=>lie (j:=2) (by omega) (hp.s h)) (oR _)
 have h16:∃ m,og β zz i at_ 16=some m/\fM (og β zz i at_) W (aG (Bc a.ld (cL 18 2) (cK (sy 4000))) 35 0) m:=by
  cases hl:a.ld with
  |true =>
   have he:=hp.e
   rw[hl,if_pos rfl]at he
   exact row (j:=1) (L:=cL 18 2) (by omega) he (by rw[aka];exact agp (lie (j:=3) (by omega) (hp.l hl))) rfl
  |false =>
   have he:=hp.e
   rw[hl,if_neg Bool.false_ne_true]at he
   exact row (j:=1) (L:=cK (sy 4000)) (by omega) he (by rw[akb];exact abf (hx4 hl)) rfl
 intro x hx
 unfold uU at hx
 rcases List.mem_append.1 hx with hx|hx
 ·rcases List.mem_append.1 hx with hx|hx
  ·simp only[List.mem_cons,List.mem_nil_iff,or_false]at hx
   rcases hx with rfl|rfl
   ·exact vE
   ·exact h16
  ·cases ha:(Nat.blt 3 a.v&&Nat.blt a.v 8)with
   |true =>
    rw[ha,aj]at hx
    simp only[List.mem_cons,List.mem_nil_iff,or_false]at hx
    subst hx
    exact row (j:=2) (L:=cS a.v) (by omega) (hp.s ha) (by rw[aan];exact abd) rfl
   |false=>rw[ha,au]at hx;cases hx
 ·cases hl:a.ld with
  |false=>rw[hl,au]at hx;cases hx
  |true =>
   rw[hl,aj]at hx
   rcases List.mem_append.1 hx with hx|hx
   ·simp only[List.mem_cons,List.mem_nil_iff,or_false]at hx
    subst hx
    exact row (j:=3) (L:=cR a.v 19 2) (by omega) (hp.l hl) (by rw[aao];exact abe λh=>lie (j:=4) (by omega) (hp.t hl h)) (oR _)
   ·cases ha:(Nat.blt 3 a.v&&Nat.blt a.v 8)with
    |true =>
     rw[ha,aj]at hx
     simp only[List.mem_cons,List.mem_nil_iff,or_false]at hx
     subst hx
     exact row (j:=4) (L:=cS a.v) (by omega) (hp.t hl ha) (by rw[aan];exact abd) rfl
    |false=>rw[ha,au]at hx;cases hx
theorem J7 {cb pb ab b:Nat} (h:b<15):NJ cb pb ab b=b:=by unfold NJ;rw[(an _ _).2 h];rfl
theorem adl {cb pb ab i:Nat} {β:Mp} {zs:Nat->Int} {b b':Nat} {m:Bm} (h:pmA cb pb ab i b b'=true) (e:β b'=some m):og β zs i (NJ cb pb ab) b=some m:=by
 unfold pmA at h
 simp only[Bool.or_eq_true,Bool.and_eq_true,beq_iff,an]at h
 rcases h with⟨h,rfl⟩|⟨rfl,rfl⟩|⟨rfl,rfl⟩|⟨rfl,rfl⟩|⟨rfl,rfl⟩|⟨rfl,rfl⟩
 ·rw[uI h];exact e
 ·rw[show(15:Nat)=15+0 from rfl,y_ (by omega)];exact e
 ·rw[show(16:Nat)=15+1 from rfl,y_ (by omega)];exact e
 ·rw[gd (by omega) (by omega)];exact e
 ·rw[gd (by omega) (by omega)];exact e
 ·rw[gd (by omega) (by omega)];exact e
theorem mapA {cb pb ab i no:Nat} {β:Mp} {a:iH}:aa1 (vo no) Xr (pmA cb pb ab i) β (og β (D7 a no) i (NJ cb pb ab)) where
 blk:=λb b' m h e=>adl h e
 sy:=λk j v' h=>by cases h
 un:=⟨_,gY 0,rfl⟩
 tb:=λk v h=>by
  unfold vo at h
  obtain⟨c,h⟩:=aq h
  rw[beq_iff]at c;subst c
  cases h
  exact(bY (cy _) gY (v:=sy 6000) rfl).2 (show(Value.int .i64 (.ofNat no))=aJ (D7 a no) 6000 from (J6 (D7 a no) 6).symm)
theorem Oj {cb pb ab i b:Nat} (hb:b=3\/b=6\/b=20\/b=21\/b=23):(2 ^ 3 ||| (2 ^ 6 ||| (bit cb ||| (bit pb ||| (bit ab ||| TA i))))).testBit (NJ cb pb ab b)=true:=by
 rcases hb with rfl|rfl|rfl|rfl|rfl
 ·exact nh (by rw[J7 (by omega)];decide)
 ·exact ei (nh (by rw[J7 (by omega)];decide))
 ·exact ei (ei (nh (bg _)))
 ·exact ei (ei (ei (nh (bg _))))
 ·exact ei (ei (ei (ei (nh (bg _)))))
theorem Ye {zs:Nat->Int} {ob:Ae} {M:Nat} {asg:Nat->iH} (hpc:∀ i,i<M->GV ob i (asg i)) {args:List Value} {H H':Hp} {v:Value} {r w:Nat} (hw:H.wf) (h:acG M args H=some (v,H',r,w)) :
 @aI (SX zs ob) Tryz.prog NG (.call 76 args) H (.k (eO v H' r w)):=by
 unfold acG at h
 split at h
 case h_2=>cases h
 rename_i cb s
 split at h
 case h_2=>cases h
 rename_i x0 no b0 o0 l0 c0 x3 x4 x5 x6 x7 x8 x9 x10 hs
 split at h
 case h_2=>cases h
 rename_i t n ty op lo hi hcb
 split at h
 case h_2=>cases h
 rename_i pb l1 c1 ab l2 c2 e0 e7
 obtain⟨c,h⟩:=aq h
 simp only[Bool.and_eq_true,aE,an]at c
 obtain⟨k1,k2,k3,k4,k5⟩:=c
 cases h
 generalize hi':(b0-100) / 5=i at k1 k3 k4 k5
 obtain⟨a,ha⟩:∃ a,a=asg i:=⟨_,rfl⟩
 have hp:GV ob i a:=by rw[ha];exact hpc i k3
 have hk:gO (PW (One (D7 a no))) Dc:=ki.ok (uu (zs:=D7 a no) ⟨Int.natCast_nonneg _,by show((no:Nat):Int)<=9999;omega⟩)
 have eG:=RT (zs:=D7 a no) (hk:=Dc) (hok:=hk) hp.n ⟨Int.natCast_nonneg _,by show((no:Nat):Int)<=9999;omega⟩ hp.v a.ld
 have F:=eG.2
 refine wh (O:=SX zs ob) (I:=jj (PW (One (D7 a no))) Dc hk) (cargs:=(stC a.v a.ld).args) (h0:=(stC a.v a.ld).h0) (h1:=(stC a.v a.ld).h1) (u:=.tuple ⟨[]⟩) (r:=(stC a.v a.ld).r) (w:=0)
  (Go.Ev.Can.refl hw) eG.1 λβ W args' hg p hl=>?_
 obtain⟨zB,sm,C',tb⟩:=id hg
 have C':sm=gT zs ob:=C'
 subst C'
 have hal:∀ {b B},H.blk b=B->B≠.no->alive H b:=λe hB=>@dh (SX zs ob) H _ (by rw[e];exact hB)
 have hr:∀ j,j<5->∃ m,β (P0 i j)=some m/\fM β W (H.blk (P0 i j)) m:=λj hj =>
  p.rel (P0 i j) (.inl (ei (ei (ei (ei (ei (Tz hj))))))) (hal (vV k4 hj) (by unfold exB;exact λh=>by cases h))
 have hsz:0<W.heap.size:=by
  obtain⟨m,e,h1,_⟩:=zB 0 (by decide)
  have:=p.dom 0 m e
  omega
 refine⟨og β (D7 a no) i (NJ cb pb ab),s7 rfl hg (pwS hp.n),?_,?_,λe W' hE=>?_⟩
 ·refine⟨λb _ hab=>?_,λb d _ _ hb=>?_,λb h1 h2=>?_,wQ p.dom hsz⟩
  ·letI:=jj (PW (One (D7 a no))) Dc hk
   obtain⟨B,hB,e,_⟩:=lA F hab
   rw[e]
   have hB:(b,B)∈[(3,Ox),(6,OM)]++uU a.v a.ld++Nu:=hB
   have hin:(b,B)∈uU a.v a.ld\/(b,B)∈RU:=by
    rcases List.mem_append.1 hB with h|h
    ·rcases List.mem_append.1 h with h|h
     ·exact .inr (List.mem_append.2 (.inl h))
     ·exact .inl h
    ·exact .inr (List.mem_append.2 (.inr h))
   rcases hin with hin|hin
   ·exact SU (zz:=D7 a no) (λ_=>rfl) tb hp k4 hr _ hin
   ·have hc:=List.all_eq_true.1 k5 _ hin
    have hb:b=3\/b=6\/b=20\/b=21\/b=23:=by
     simp only[RU,Nu,List.mem_append,List.mem_cons,List.mem_nil_iff,or_false,Prod.mk.injEq]at hin
     rcases hin with(⟨rfl,_⟩|⟨rfl,_⟩)|⟨rfl,_⟩|⟨rfl,_⟩|⟨rfl,_⟩<;>simp
    have hne:H.blk (NJ cb pb ab b)≠.no:=by
     intro e2
     have hc:yY (vo no) Xr (pmA cb pb ab i) B (H.blk (NJ cb pb ab b))=true:=hc
     rw[e2]at hc
     unfold yY at hc
     split at hc<;>cases hc
    obtain⟨m,em,hbk⟩:=p.rel (NJ cb pb ab b) (.inl (Oj hb)) (hal rfl hne)
    refine⟨m,?_,DE mapA hc hbk⟩
    rcases Nat.lt_or_ge b 15 with h|h
    ·rw[show og β (D7 a no) i (NJ cb pb ab) (b,B).1=og β (D7 a no) i (NJ cb pb ab) b from rfl,uI h]
     rw[J7 h]at em;exact em
    ·rw[show og β (D7 a no) i (NJ cb pb ab) (b,B).1=og β (D7 a no) i (NJ cb pb ab) b from rfl,gd (by omega) (by omega)];exact em
  ·simp at hb
  ·have h1:30<=b:=h1
   have h2:b<30:=h2
   omega
 ·letI:=jj (PW (One (D7 a no))) Dc hk
  obtain⟨a1,l1,e1,tB,hl⟩:=hl.cons_inv
  obtain⟨a2,l2,e2,vD,hl⟩:=hl.cons_inv
  have:=hl.aL;subst this
  rw[e1,e2]
  refine ak.cons ?_ (ak.cons (wO mapA 12 _ _ _ k1 vD) (ak.nil _))
  cases tB with|ptr _ _ m em =>
  refine .ptr 20 0 m ?_
  rw[gd (by omega) (by omega)];exact em
 ·obtain⟨β2,v',he,hv,q⟩:=hE
  have:=b8 10 _ _ (rfl:aW 10 (.tuple ⟨[]⟩)=true) hv
  subst this
  exact⟨β,_,he,ai.flat _ 10 _ rfl,tT q p.dom⟩
def Fq (sl:Nat->Nat) (x:Nat):Value :=
 if x<16 then .int .u8 0 else if x<24 then sy (1000*sl (8+(x-16) / 2)+(8+x % 2))else if x<40 then sy (1000*sl ((x-24) / 2)+(8+x % 2))else .int .u8 0
def kH (sl:Nat->Nat) (u:Nat) (t:T Value):T Value:=T.set 6 (T.set 6 t (adr u) (sy (1000*sl u+8))) (adr u+1) (sy (1000*sl u+9))
theorem fh (sl:Nat->Nat) {a u:Nat} (ha:adr u=a) (h:a<40) (t:T Value) {x:Nat} (hx:x<65536):(kH sl u t).get x=if x=a+1 then sy (1000*sl u+9)else if x=a then sy (1000*sl u+8)else t.get x:=by
 unfold kH
 have e:(8:Nat) ^ 6=262144:=by decide
 rw[ha,T.ef 6 _ _ _ _ (by omega) (by omega),T.ef 6 _ _ _ _ (by omega) (by omega)]
theorem oD (sl:Nat->Nat) {x:Nat} (hx:x<65536):(Fs sl).get x=Fq sl x:=by
 have e:Fs sl=kH sl 11 (kH sl 10 (kH sl 9 (kH sl 8 (kH sl 7 (kH sl 6 (kH sl 5 (kH sl 4 (kH sl 3 (kH sl 2 (kH sl 1 (kH sl 0 (.e (.int .u8 0))))))))))))):=rfl
 rw[e,fh sl (a:=22) rfl (by omega) _ hx,fh sl (a:=20) rfl (by omega) _ hx,fh sl (a:=18) rfl (by omega) _ hx,fh sl (a:=16) rfl (by omega) _ hx,
  fh sl (a:=38) rfl (by omega) _ hx,fh sl (a:=36) rfl (by omega) _ hx,fh sl (a:=34) rfl (by omega) _ hx,fh sl (a:=32) rfl (by omega) _ hx,
  fh sl (a:=30) rfl (by omega) _ hx,fh sl (a:=28) rfl (by omega) _ hx,fh sl (a:=26) rfl (by omega) _ hx,fh sl (a:=24) rfl (by omega) _ hx]
 by_cases h:x<16\/40<=x
 ·have h2:Fq sl x=.int .u8 0:=by
   unfold Fq
   rcases h with h|h
   ·rw[if_pos h]
   ·rw[if_neg (by omega),if_neg (by omega),if_neg (by omega)]
  rw[h2]
  repeat (rw[if_neg (by omega)])
  rfl
 ·rcases(by omega:x=16\/x=17\/x=18\/x=19\/x=20\/x=21\/x=22\/x=23\/x=24\/x=25\/x=26\/x=27\/x=28\/x=29\/x=30\/x=31\/x=32\/x=33\/x=34\/x=35\/x=36\/x=37\/x=38\/x=39)with rfl|rfl|rfl|rfl|rfl|rfl|rfl|rfl|rfl|rfl|rfl|rfl|rfl|rfl|rfl|rfl|rfl|rfl|rfl|rfl|rfl|rfl|rfl|rfl<;>rfl
theorem Fo [dj] {β β':Mp} {W:World} {t1 t2:T Value} {m:Bm} (hb:fM β W (.cells t1 65536 199 0 0 0) m) (h1:∀ x,x<65536->bQ (t2.get x)=true) (h:∀ x,x<65536->∀ v',ai β (t1.get x) v'->ai β' (t2.get x) v'):fM β' W (.cells t2 65536 199 0 0 0) m:=by
 obtain⟨o,ho,cs,fr,g1,g2,g3,g4,g5,g6,g7⟩:=hb
 exact⟨o,ho,cs,fr,g1,g2,g3,g4,g5,λi hi=>let ⟨c1,v',c2,c3⟩:=g6 i hi;⟨h1 i hi,v',c2,h i hi v' c3⟩,g7⟩
theorem Fp (sl:Nat->Nat) (x:Nat):bQ (Fq sl x)=true:=by
 unfold Fq
 repeat' split
 all_goals rfl
structure QT where
 mc:Nat
 sb:Nat
 ob:Nat
 mm:Nat
 ab:Nat
 pb:Nat
def QT.get (a:QT) (b:Nat):Nat:=Bc (Nat.beq b 20) a.mc (Bc (Nat.beq b 21) a.sb (Bc (Nat.beq b 22) a.ob (Bc (Nat.beq b 23) a.mm (Bc (Nat.beq b 24) a.ab (Bc (Nat.beq b 25) a.pb b)))))
def pmM (q:QT) (i b b':Nat):Bool:=(Nat.blt b 15&&Nat.beq b b')||((Nat.beq b 15&&Nat.beq b' (P0 i 0))||((Nat.beq b 16&&Nat.beq b' (P0 i 1))||(Nat.ble 20 b&&(Nat.blt b 26&&Nat.beq b' (q.get b)))))
def x_ (B:dB):Option (T Value):=match B with
 |.cells t n ty op lo hi=>Bc (Nat.beq n 65536&&(Nat.beq ty 199&&(Nat.beq op 0&&(Nat.beq lo 0&&Nat.beq hi 0)))) (some t) none
 |_=>none
def aat (x y:Value):Bool:=match x,y with
 |.chan (some a),.chan (some b)=>Nat.beq a b
 |.int .u8 (.ofNat a),.int .u8 (.ofNat b)=>Nat.beq a b
 |_,_=>false
def ad0 (x:Value):Bool:=match x with|.int .u8 (.ofNat a)=>Nat.beq a 0|_=>false
def Fu (i:Nat) (B:dB):Bool:=match x_ B with
 |some t=>Wk aat t (Fs (kj i))||(Nat.beq i 0&&QC ad0 t)
 |none=>false
def rY:List (Nat×dB):=[(20,aG [.pointer (some ⟨21,0,none⟩),sy 0,iI 64,aT,sy 0,aT,aT,cD 22 32 64,sy 0,iI (-1)] 98 0),(21,aG RS 130 0),(22,aG opsL 189 0),
 (24,aG [iI 0,aT,iI 24,iI (-1),aT,iI 0,iI 0,iI 0,s0,s0] 137 11),(25,aG [.string ⟨#[77,65,73,78]⟩,iI (-1),iI 0,iI 128,aT,aT,aT] 49 8)]
def ako (v:Value):Option Nat:=match v with|.pointer (some ⟨b,0,none⟩)=>some b|.slice (some ⟨b,0,none⟩) _ _=>some b|_=>none
def cellAt (H:Hp) (b i:Nat):Option Nat:=match H.blk b with|.cells t _ _ _ _ _=>ako (t.get i)|_=>none
def aj9 (H:Hp) (mc:Nat):Option QT:=match cellAt H mc 0,cellAt H mc 7 with
 |some sb,some ob=>(match cellAt H sb 6,cellAt H sb 7,cellAt H sb 0 with
  |some mm,some ab,some pb=>some ⟨mc,sb,ob,mm,ab,pb⟩
  |_,_,_=>none)
 |_,_=>none
def apart (q:QT) (i:Nat):Bool:=!Nat.beq q.mm q.mc&&(!Nat.beq q.mm q.sb&&(!Nat.beq q.mm q.ob&&(!Nat.beq q.mm q.ab&&(!Nat.beq q.mm q.pb&&(List.range 5).all λj=>!Nat.beq q.mm (P0 i j)))))
def Zt (q:QT) (i:Nat):Nat:=bit q.mc ||| (bit q.sb ||| (bit q.ob ||| (bit q.ab ||| (bit q.pb ||| TA i))))
def acM (M:Nat) (args:List Value) (H:Hp):kE:=match args with
 | [.pointer (some ⟨mc,0,none⟩),.agg s,.int .i64 (.ofNat i)]=>(match s.toList with
  | [_, .int .i64 (.ofNat no),_,_,_,_,_,_,_,_,_]=>(match aj9 H mc with
   |some q=>Bc (Nat.beq q.mc mc&&(Qg (vo no) Xr (pmM q i) 12 (.agg ⟨cT (sy 6000) 15 16⟩) (.agg s)&&(Nat.ble no 9999&&(Nat.blt i M&&(Nat.blt i 81&&(toks i H&&(Fu i (H.blk q.mm)&&(apart q i &&
    (rY.all λx=>yY (vo no) Xr (pmM q i) x.2 (H.blk (q.get x.1)))))))))))
    (some (.int .i64 (.ofNat (i+1)),H.put q.mm (oE (kj (i+1))),Zt q i,bit q.mm)) none
   |none=>none)
  |_=>none)
 |_=>none
structure zq (zs:Nat->Int) (asg:Nat->iH) (M:Nat):Prop where
 z0:∀ u,u<12->zs (kj 0 u)=0
 st:∀ i,i<M->∀ u,u<12->zs (kj (i+1) u)=if u=(asg i).v/\(asg i).ld=false then (asg i).n else zs (kj i u)
 bd:∀ i,i<=M->∀ u,u<12 -> -32768<zs (kj i u)/\zs (kj i u)<32768
def zsM (zs:Nat->Int) (a:iH) (no i:Nat):Nat->Int:=λk =>
 if k=4 then (if a.ld=true then zs (kj i a.v)else a.n)else if k=6 then no else if k=7 then i else if k=8 then (i:Int)+1 else if 100<=k/\k<112 then zs (kj i (k-100))else 0
theorem Kj {zs:Nat->Int} {a:iH} {no i:Nat}:zsM zs a no i 4=if a.ld=true then zs (kj i a.v)else a.n:=rfl
theorem aa6 {zs:Nat->Int} {a:iH} {no i u:Nat} (h:u<12):zsM zs a no i (100+u)=zs (kj i u):=by
 unfold zsM
 rw[if_neg (by omega),if_neg (by omega),if_neg (by omega),if_neg (by omega),if_pos (by omega),show 100+u-100=u from by omega]
theorem aa7 {zs:Nat->Int} {a:iH} {no i u:Nat} (h:u<12):zsM zs a no i (KH a.v a.ld u)=zs (kj i u):=by
 unfold KH
 cases e:(a.ld&&Nat.beq u a.v)with
 |true =>
  rw[Bool.and_eq_true,beq_iff]at e
  obtain⟨e1,rfl⟩:=e
  rw[aj,Kj,if_pos e1]
 |false=>rw[au];exact aa6 h
theorem afV {zs:Nat->Int} {asg:Nat->iH} {M no i u:Nat} (hc:zq zs asg M) (hi:i<M) (h:u<12):zsM zs (asg i) no i (Ov (asg i).v u)=zs (kj (i+1) u):=by
 rw[hc.st i hi u h]
 unfold Ov
 cases e:Nat.beq u (asg i).v with
 |true =>
  rw[beq_iff]at e;subst e
  rw[aj,Kj]
  cases hl:(asg i).ld with
  |true=>rw[if_pos rfl,if_neg (by simp)]
  |false=>rw[if_neg Bool.false_ne_true,if_pos ⟨rfl,rfl⟩]
 |false =>
  rw[au,aa6 h,if_neg (λh=>by rw[(beq_iff _ _).2 h.1]at e;cases e)]
theorem adk {q:QT} {i:Nat} {β:Mp} {zz:Nat->Int} {b b':Nat} {m:Bm} (h:pmM q i b b'=true) (e:β b'=some m):og β zz i q.get b=some m:=by
 unfold pmM at h
 simp only[Bool.or_eq_true,Bool.and_eq_true,beq_iff,an,aE]at h
 rcases h with⟨h,rfl⟩|⟨rfl,rfl⟩|⟨rfl,rfl⟩|⟨h1,h2,rfl⟩
 ·rw[uI h];exact e
 ·rw[show(15:Nat)=15+0 from rfl,y_ (by omega)];exact e
 ·rw[show(16:Nat)=15+1 from rfl,y_ (by omega)];exact e
 ·rw[gd h1 (by omega)];exact e
theorem mapM {q:QT} {i no:Nat} {β:Mp} {zz:Nat->Int} (h6:zz 6=no):aa1 (vo no) Xr (pmM q i) β (og β zz i q.get) where
 blk:=λb b' m h e=>adk h e
 sy:=λk j v' h=>by cases h
 un:=⟨_,gY 0,rfl⟩
 tb:=λk v h=>by
  unfold vo at h
  obtain⟨c,h⟩:=aq h
  rw[beq_iff]at c;subst c
  cases h
  refine(bY (cy _) gY (v:=sy 6000) rfl).2 ?_
  show(Value.int .i64 (.ofNat no))=aJ zz 6000
  rw[show aJ zz 6000=.int .i64 (zz 6)from J6 zz 6,h6];rfl
theorem xZ {B:dB} {t:T Value} (h:x_ B=some t):B=.cells t 65536 199 0 0 0:=by
 unfold x_ at h
 split at h
 ·obtain⟨c,h⟩:=aq h
  cases h
  simp only[Bool.and_eq_true,beq_iff]at c
  obtain⟨rfl,rfl,rfl,rfl,rfl⟩:=c;rfl
 ·cases h
theorem V3 {x y:Value} (h:aat x y=true):x=y:=by
 unfold aat at h
 split at h
 ·rw[beq_iff]at h;subst h;rfl
 ·rw[beq_iff]at h;subst h;rfl
 ·cases h
theorem qt {zs:Nat->Int} {ob:Ae} {β:Mp} (tb:uM (gT zs ob) β) {k:Nat} {v':Value} (h0:0<k):ai β (sy k) v'↔v'=gT zs ob k:=by
 have hk:wq (sy k)=true:=bR h0
 exact bY (B3 zs ob) tb hk
theorem v8 {zs:Nat->Int} {ob:Ae} {k:Nat} (h:k<9000000):gT zs ob k=aJ zs k:=by unfold gT;rw[if_neg (by omega),if_pos (by omega)]
theorem xX {zs:Nat->Int} {ob:Ae} {β β':Mp} {W:World} {zz:Nat->Int} {i v:Nat} {ld:Bool} {B:dB} {m:Bm} [dj] (tb:uM (gT zs ob) β) (tb':uM (aJ zz) β') (hm:Fu i B=true) (hi:i<81) (hb:fM β W B m)
 (hz:∀ u,u<12->zz (KH v ld u)=zs (kj i u)) (h0:i=0->∀ u,u<12->zs (kj 0 u)=0):fM β' W (oE (KH v ld)) m:=by
 unfold Fu at hm
 cases e:x_ B with
 |none=>rw[e]at hm;cases hm
 |some t =>
  rw[e]at hm
  have hm:(Wk aat t (Fs (kj i))||(Nat.beq i 0&&QC ad0 t))=true:=hm
  rw[xZ e]at hb
  have bB:∀ u,0<KH v ld u/\KH v ld u<9999\/12<=u:=λu=>by
   unfold KH
   cases (ld&&Nat.beq u v)with
   |true=>rw[aj];omega
   |false=>rw[au];omega
  unfold oE
  have key:∀ u,u<12->∀ j,j<2->aJ zz (1000*KH v ld u+(8+j))=gT zs ob (1000*kj i u+(8+j)):=λu hu j hj=>by
   rw[v8 (by unfold kj;omega),CN.gz zz _ (by omega),CN.gz zs _ (by omega),hz u hu]
  refine Fo hb (λx hx=>by rw[oD _ hx];exact Fp _ _) λx hx v' hv=>?_
  rw[oD _ hx]
  rcases Bool.or_eq_true _ _▸hm with hc|hc
  ·have:=V3 (Gy hc x)
   rw[this,oD _ hx]at hv
   unfold Fq at hv ⊢
   split
   ·rename_i c;rw[if_pos c]at hv;cases hv;exact .int _ _
   ·rename_i c
    rw[if_neg c]at hv
    split
    ·rename_i c2
     rw[if_pos c2]at hv
     have q:=bB (8+(x-16) / 2)
     rw[(qt tb (by omega)).1 hv,<-key _ (by omega) _ (by omega)]
     exact(bY (cy _) tb' (bR (by omega))).2 rfl
    ·rename_i c2
     rw[if_neg c2]at hv
     split
     ·rename_i c3
      rw[if_pos c3]at hv
      rw[(qt tb (by omega)).1 hv,<-key _ (by omega) _ (by omega)]
      exact(bY (cy _) tb' (bR (by omega))).2 rfl
     ·rename_i c3;rw[if_neg c3]at hv;cases hv;exact .int _ _
  ·rw[Bool.and_eq_true,beq_iff]at hc
   obtain⟨rfl,hc⟩:=hc
   have Z2:=zd hc x
   have hv':v'=.int .u8 0:=by
    unfold ad0 at Z2
    split at Z2
    ·rename_i a ha
     rw[beq_iff]at Z2;subst Z2
     rw[ha]at hv;cases hv;rfl
    ·cases Z2
   have zer:∀ u,u<12->∀ j,j<2->ai β' (sy (1000*KH v ld u+(8+j))) (.int .u8 0):=λu hu j hj=>by
    refine(bY (cy _) tb' (bR (by omega))).2 ?_
    show _=aJ zz _
    rw[CN.gz zz _ (by omega),hz u hu,h0 rfl u hu]
    rcases(by omega:j=0\/j=1)with rfl|rfl<;>rfl
   rw[hv']
   unfold Fq
   split
   ·exact .int _ _
   ·split
    ·exact zer _ (by omega) _ (by omega)
    ·split
     ·exact zer _ (by omega) _ (by omega)
     ·exact .int _ _
theorem Ir {zs:Nat->Int} {ob:Ae} {β β':Mp} {W:World} {zz:Nat->Int} {i v:Nat} {m:Bm} [dj] (tb:uM (gT zs ob) β) (tb':uM (aJ zz) β') (hi:i<81) (hb:fM β' W (oE (Ov v)) m) (hz:∀ u,u<12->zz (Ov v u)=zs (kj (i+1) u)):fM β W (oE (kj (i+1))) m:=by
 unfold oE at hb ⊢
 have key:∀ u,u<12->∀ j,j<2->aJ zz (1000*Ov v u+(8+j))=gT zs ob (1000*kj (i+1) u+(8+j)):=λu hu j hj=>by
  rw[v8 (by unfold kj;omega),CN.gz zz _ (by omega),CN.gz zs _ (by omega),hz u hu]
 refine Fo hb (λx hx=>by rw[oD _ hx];exact Fp _ _) λx hx v' hv=>?_
 rw[oD _ hx]at hv ⊢
 unfold Fq at hv ⊢
 split
 ·rename_i c;rw[if_pos c]at hv;cases hv;exact .int _ _
 ·rename_i c
  rw[if_neg c]at hv
  split
  ·rename_i c2
   rw[if_pos c2]at hv
   rw[(bY (cy _) tb' (bR (by omega))).1 hv]
   exact(qt tb (by omega)).2 (key _ (by omega) _ (by omega))
  ·rename_i c2
   rw[if_neg c2]at hv
   split
   ·rename_i c3
    rw[if_pos c3]at hv
    rw[(bY (cy _) tb' (bR (by omega))).1 hv]
    exact(qt tb (by omega)).2 (key _ (by omega) _ (by omega))
   ·rename_i c3;rw[if_neg c3]at hv;cases hv;exact .int _ _
theorem aew (q:QT):q.get 23=q.mm:=rfl
theorem Lr {q:QT} {i b:Nat} (hb:b=20\/b=21\/b=22\/b=24\/b=25):(Zt q i).testBit (q.get b)=true:=by
 unfold Zt
 rcases hb with rfl|rfl|rfl|rfl|rfl
 ·exact nh (bg _)
 ·exact ei (nh (bg _))
 ·exact ei (ei (nh (bg _)))
 ·exact ei (ei (ei (nh (bg _))))
 ·exact ei (ei (ei (ei (nh (bg _)))))
theorem TB {q:QT} {i j:Nat} (h:j<5):(Zt q i).testBit (P0 i j)=true:=ei (ei (ei (ei (ei (Tz h)))))
theorem J4 {a b:Nat} (h:(bit a).testBit b=true):b=a:=by
 exact(aB _ _).1 h
theorem AN {a b:Nat} (h:(!Nat.beq a b)=true):a≠b:=λe=>by
 rw[(beq_iff _ _).2 e]at h;cases h
theorem Yh {zs:Nat->Int} {ob:Ae} {M:Nat} {asg:Nat->iH} (hpc:∀ i,i<M->GV ob i (asg i)) (PA:zq zs asg M) {args:List Value} {H H':Hp} {v:Value} {r w:Nat} (hw:H.wf) (h:acM M args H=some (v,H',r,w)) :
 @aI (SX zs ob) Tryz.prog NG (.call 227 args) H (.k (eO v H' r w)):=by
 unfold acM at h
 split at h
 case h_2=>cases h
 rename_i mc s i
 split at h
 case h_2=>cases h
 rename_i x0 no x2 x3 x4 x5 x6 x7 x8 x9 x10 hs
 split at h
 case h_2=>cases h
 rename_i q hq
 obtain⟨c,h⟩:=aq h
 simp only[Bool.and_eq_true,aE,an,beq_iff]at c
 obtain⟨k0,k1,k2,k3,k3',k4,k5,k6,k7⟩:=c
 cases h
 subst k0
 obtain⟨a,ha⟩:∃ a,a=asg i:=⟨_,rfl⟩
 have hp:GV ob i a:=by rw[ha];exact hpc i k3
 obtain⟨zz,zx⟩:∃ zz,zz=zsM zs a no i:=⟨_,rfl⟩
 have z4 : -32768<zz 4/\zz 4<32768:=by
  rw[zx,Kj]
  split
  ·exact PA.bd i (by omega) a.v hp.v
  ·exact hp.n
 have z6:zz 6=no:=by rw[zx];rfl
 have z7:zz 7=i:=by rw[zx];rfl
 have z8:zz 8=zz 7+1:=by rw[zx];rfl
 have b6:0<=zz 6/\zz 6<=9999:=by rw[z6];omega
 have b7:0<=zz 7/\zz 7<=1000:=by rw[z7];omega
 have hk:gO (PW (One zz)) nv:=ki.ok (ki.or (uu b6) (ki.or (Mw z8 b7) (ki.or (De _) (wE _))))
 have eG:=agR (zs:=zz) (hk:=nv) (hok:=hk) z4 b6 z8 b7 hp.v a.ld
 have F:=eG.2
 have hmm:∃ t,H.blk q.mm=.cells t 65536 199 0 0 0:=by
  unfold Fu at k5
  cases e:x_ (H.blk q.mm)with
  |none=>rw[e]at k5;cases k5
  |some t=>exact⟨t,xZ e⟩
 obtain⟨tm,htm⟩:=hmm
 have hal:∀ {b B},H.blk b=B->B≠.no->alive H b:=λe hB=>@dh (SX zs ob) H _ (by rw[e];exact hB)
 have alm:alive H q.mm:=hal htm (λh=>by cases h)
 unfold apart at k6
 simp only[Bool.and_eq_true]at k6
 obtain⟨n1,n2,n3,n4,n5,n6⟩:=k6
 have nP:∀ j,j<5->q.mm≠P0 i j:=λj hj=>AN (List.all_eq_true.1 n6 j (List.mem_range.2 hj))
 have hpw:PW (One zz) (aJ zz):=⟨_,rfl,z4.1,z4.2,rfl⟩
 refine wh (O:=SX zs ob) (I:=jj (PW (One zz)) nv hk) (cargs:=(Zu a.v a.ld).args) (h0:=(Zu a.v a.ld).h0) (h1:=(Zu a.v a.ld).h1) (u:=sy 8000) (r:=(Zu a.v a.ld).r) (w:=2 ^ 23)
  (eJ hw _ alm) eG.1 λβ W args' hg p hl=>?_
 obtain⟨zB,sm,C',tb⟩:=id hg
 have C':sm=gT zs ob:=C'
 subst C'
 have hr:∀ j,j<5->∃ m,β (P0 i j)=some m/\fM β W (H.blk (P0 i j)) m:=λj hj =>
  p.rel (P0 i j) (.inl (TB hj)) (hal (vV k4 hj) (by unfold exB;exact λh=>by cases h))
 have hsz:0<W.heap.size:=by
  obtain⟨m,e,h1,_⟩:=zB 0 (by decide)
  have:=p.dom 0 m e
  omega
 have ahc:∀ {b B},(b,B)∈rY->(b=20\/b=21\/b=22\/b=24\/b=25)/\H.blk (q.get b)≠.no/\yY (vo no) Xr (pmM q i) B (H.blk (q.get b))=true:=λ{b B} hin=>by
  have hc:=List.all_eq_true.1 k7 _ hin
  refine⟨?_,λe2=>?_,hc⟩
  ·simp only[rY,List.mem_cons,List.mem_nil_iff,or_false,Prod.mk.injEq]at hin
   rcases hin with⟨rfl,_⟩|⟨rfl,_⟩|⟨rfl,_⟩|⟨rfl,_⟩|⟨rfl,_⟩<;>simp
  ·have hc:yY (vo no) Xr (pmM q i) B (H.blk (q.get b))=true:=hc
   rw[e2]at hc
   unfold yY at hc
   split at hc<;>cases hc
 have hmem:∀ {b B},(b,B)∈(Zu a.v a.ld).pre->(b,B)∈uU a.v a.ld\/(b,B)∈rY\/(b,B)=(23,oE (KH a.v a.ld)):=λ{b B} hB=>by
  have hB:(b,B)∈uU a.v a.ld++adI (KH a.v a.ld):=hB
  rcases List.mem_append.1 hB with h|h
  ·exact .inl h
  ·simp only[adI,List.mem_cons,List.mem_nil_iff,or_false]at h
   rcases h with h|h|h|h|h|h
   ·exact .inr (.inl (by rw[h];simp[rY]))
   ·exact .inr (.inl (by rw[h];simp[rY]))
   ·exact .inr (.inl (by rw[h];simp[rY]))
   ·exact .inr (.inr h)
   ·exact .inr (.inl (by rw[h];simp[rY]))
   ·exact .inr (.inl (by rw[h];simp[rY]))
 have ani:∀ {b B},(b,B)∈uU a.v a.ld->∃ j,j<5/\b=15+j:=λ{b B} h=>by
  have:15<=b/\b<20:=by
   unfold uU at h
   have g:∀ {c:Bool} {x y:List (Nat×dB)},(b,B)∈Bc c x y->(b,B)∈x\/(b,B)∈y:=λ{c x y} h=>by
    cases c with
    |true=>exact .inl h
    |false=>exact .inr h
   rcases List.mem_append.1 h with h|h
   ·rcases List.mem_append.1 h with h|h
    ·simp at h;omega
    ·rcases g h with h|h
     ·simp at h;omega
     ·cases h
   ·rcases g h with h|h
    ·rcases List.mem_append.1 h with h|h
     ·simp at h;omega
     ·rcases g h with h|h
      ·simp at h;omega
      ·cases h
    ·cases h
  exact⟨b-15,by omega,by omega⟩
 refine⟨og β zz i q.get,s7 rfl hg hpw,?_,?_,λe W' hE=>?_⟩
 ·refine⟨λb _ hab=>?_,λb d mb md hb hd ab ad eb ed hrb=>?_,λb h1 h2=>?_,wQ p.dom hsz⟩
  ·letI:=jj (PW (One zz)) nv hk
   obtain⟨B,hB,e,_⟩:=lA F hab
   rw[e]
   rcases hmem hB with hin|hin|hin
   ·exact SU (zz:=zz) (λhl=>by rw[zx,Kj,hl];exact if_neg Bool.false_ne_true) tb hp k4 hr _ hin
   ·obtain⟨hb,hne,hc⟩:=ahc hin
    obtain⟨m,em,hbk⟩:=p.rel (q.get b) (.inl (Lr hb)) (hal rfl hne)
    exact⟨m,by rw[gd (by omega) (by omega)];exact em,DE (mapM z6) hc hbk⟩
   ·cases hin
    obtain⟨m,em,hbk⟩:=p.rel q.mm (.inr (bg _)) alm
    exact⟨m,by rw[gd (by omega) (by omega)];exact em,xX tb gY k5 k3' hbk (λu hu=>by rw[zx];exact aa7 hu) (λ_=>PA.z0)⟩
  ·letI:=jj (PW (One zz)) nv hk
   have aes:b=23:=by
    have:(2 ^ 23).testBit b=true:=hb
    rw[Nat.testBit_two_pow]at this
    exact(of_decide_eq_true this).symm
   subst aes
   rw[gd (by omega) (by omega),aew]at eb
   obtain⟨B,hB,_,_⟩:=lA F ad
   rcases hmem hB with hin|hin|hin
   ·obtain⟨j,hj,rfl⟩:=ani hin
    rw[y_ hj]at ed
    exact absurd (p.inj q.mm (P0 i j) mb md (bg _) (.inl (TB hj)) alm (hal (vV k4 hj) (by unfold exB;exact λh=>by cases h)) eb ed hrb) (nP j hj)
   ·obtain⟨hb',hne,hc⟩:=ahc hin
    rw[gd (by omega) (by omega)]at ed
    have:=p.inj q.mm (q.get d) mb md (bg _) (.inl (Lr hb')) alm (hal rfl hne) eb ed hrb
    rcases hb' with rfl|rfl|rfl|rfl|rfl
    ·exact absurd this (AN n1)
    ·exact absurd this (AN n2)
    ·exact absurd this (AN n3)
    ·exact absurd this (AN n4)
    ·exact absurd this (AN n5)
   ·cases hin;rfl
  ·have h1:30<=b:=h1
   have h2:b<30:=h2
   omega
 ·letI:=jj (PW (One zz)) nv hk
  obtain⟨a1,l1,e1,tB,hl⟩:=hl.cons_inv
  obtain⟨a2,l2,e2,vD,hl⟩:=hl.cons_inv
  obtain⟨a3,l3,e3,ha3,hl⟩:=hl.cons_inv
  have:=hl.aL;subst this
  rw[e1,e2,e3]
  refine ak.cons ?_ (ak.cons (wO (mapM z6) 12 _ _ _ k1 vD) (ak.cons ?_ (ak.nil _)))
  ·cases tB with|ptr _ _ m em =>
   refine .ptr 20 0 m ?_
   rw[gd (by omega) (by omega)];exact em
  ·cases ha3
   refine(bY (cy _) gY (v:=sy 7000) rfl).2 ?_
   show(Value.int .i64 (.ofNat i))=aJ zz 7000
   rw[show aJ zz 7000=.int .i64 (zz 7)from J6 zz 7,z7];rfl
 ·letI:=jj (PW (One zz)) nv hk
  obtain⟨β2,v',he,hv,qq⟩:=hE
  have tb2:uM (aJ zz) β2:=λk=>qq.le _ _ (gY k)
  have hv:v'=.int .i64 (.ofNat (i+1)):=by
   rw[(bY (cy _) tb2 (v:=sy 8000) rfl).1 hv]
   show aJ zz 8000=_
   rw[show aJ zz 8000=.int .i64 (zz 8)from J6 zz 8,z8,z7];rfl
  subst hv
  obtain⟨mm,emm,_⟩:=p.rel q.mm (.inr (bg _)) alm
  have e23:og β zz i q.get 23=some mm:=by rw[gd (by omega) (by omega)];exact emm
  have jK:(Zu a.v a.ld).h1.blk 23=oE (Ov a.v):=Dj F (by show 23<30;omega) rfl
  have al1:alive (Zu a.v a.ld).h1 23:=⟨by show 23<30;omega,by rw[jK];unfold oE;exact λh=>by cases h⟩
  have am7:(2 ^ 23).testBit 23=true:=Nat.testBit_two_pow_self
  obtain⟨m2,em2,ahD⟩:=qq.rel 23 (.inr am7) al1
  have:=qq.le _ _ e23
  rw[em2]at this
  have:=Option.some.inj this
  subst this
  rw[jK]at ahD
  have hnew:fM β W' (oE (kj (i+1))) m2:=Ir tb tb2 k3' ahD λu hu=>by rw[zx,ha];exact afV PA k3 hu
  have Dh:(H.put q.mm (oE (kj (i+1)))).blk q.mm=oE (kj (i+1)):=by rw[jh _ hw alm.1];simp
  refine⟨β,_,he,.int _ _,⟨Mp.le.refl _,λb m h h'=>(by rw[h']at h;cases h),λb hb hab=>?_,λrb o ho hno=>?_,qq.size,λb m h=>Nat.lt_of_lt_of_le (p.dom b m h) qq.size,λb m _ h h'=>(by rw[h]at h';cases h'),λb c mb md hb hc hab hac _ _ _=>?_,qq.env⟩⟩
  ·have hbm:b=q.mm:=by
    rcases hb with h|h
    ·have:=hab.1;rw[cW]at this;omega
    ·exact J4 h
   subst hbm
   exact⟨m2,emm,by rw[Dh];exact hnew⟩
  ·refine qq.frame rb o ho λb m hb zA e=>?_
   have aes:b=23:=by
    have:(2 ^ 23).testBit b=true:=zA
    rw[Nat.testBit_two_pow]at this
    exact(of_decide_eq_true this).symm
   subst aes
   rw[e23]at e
   have:=Option.some.inj e
   subst this
   exact hno q.mm _ alm.1 (bg _) emm
  ·have one:∀ b,(H.nx<=b\/(bit q.mm).testBit b=true)->alive (H.put q.mm (oE (kj (i+1)))) b->b=q.mm:=λb hb hab=>by
    rcases hb with h|h
    ·have:=hab.1;rw[cW]at this;omega
    ·exact J4 h
   rw[one b hb hab,one c hc hac]
def ldC (u:Nat):ff :=
 let pre:=[(21,aG RS 130 0),(23,oE (KH u true))]
 ⟨187,[.pointer (some ⟨21,0,none⟩),iI (8*adr u:Nat),gB],pre,30,vU [vl (sy 4000),nV 0],[],30,eE pre,0⟩
noncomputable def ldB (u:Nat):Bool:=@vL (zk nv) Ol fR (ldC u) []
theorem ldR:Nat.beq (Bc (J9 ldB YO) 1 0) 1=true:=by kernel_rfl
theorem agZ {zs:Nat->Int} {hk:er->List Value->Option Value} {hok:gO (PW (One zs)) hk} (h4 : -32768<zs 4/\zs 4<32768) (h6:0<=zs 6/\zs 6<=9999) (h8:zs 8=zs 7+1) (h7:0<=zs 7/\zs 7<=1000) {u:Nat} (hu:u<12):Cl zs hk hok (ldC u):=by
 have hks:ki (PW (One zs)) nv:=ki.or (uu h6) (ki.or (Mw h8 h7) (ki.or (De _) (wE _)))
 letI:=jj (PW (One zs)) nv (ki.ok hks)
 have:=jz (sp:=Ol) (Kx h4) (tab:=fR) fK.none (mN (az ldR) u (rQ hu))
 exact⟨kD.hk this.1,this.2⟩
def acN (M:Nat) (args:List Value) (H:Hp):kE:=match args with
 | [.pointer (some ⟨sb,0,none⟩),.int .i64 (.ofNat at_),ty]=>(match cellAt H sb 6,cellAt H sb 7,cellAt H sb 0 with
  |some mm,some ab,some pb=>(match H.blk mm with
   |.cells t _ _ _ _ _=>(match t.get (Nat.div at_ 8)with
    |.chan (some n)=>Bc (nu 15 ty&&(Nat.ble (((n / 1000)-100) / 12) M&&(Nat.blt (((n / 1000)-100) / 12) 81&&(Nat.beq at_ (8*adr (((n / 1000)-100) % 12))&&(Fu (((n / 1000)-100) / 12) (H.blk mm) &&
     yY (vo 0) Xr (pmM ⟨sb,sb,sb,mm,ab,pb⟩ 0) (aG RS 130 0) (H.blk sb))))))
     (some (vU [vl (sy (1000*kj (((n / 1000)-100) / 12) (((n / 1000)-100) % 12))),nV 0],H,bit sb ||| bit mm,0)) none
    |_=>none)
   |_=>none)
  |_,_,_=>none)
 |_=>none
def zsL (zs:Nat->Int) (i u:Nat):Nat->Int:=zsM zs ⟨u,true,0,λ_=>0⟩ 0 i
theorem Ys {zs:Nat->Int} {ob:Ae} {M:Nat} {asg:Nat->iH} (PA:zq zs asg M) {args:List Value} {H H':Hp} {v:Value} {r w:Nat} (hw:H.wf) (h:acN M args H=some (v,H',r,w)) :
 @aI (SX zs ob) Tryz.prog NG (.call 187 args) H (.k (eO v H' r w)):=by
 unfold acN at h
 split at h
 case h_2=>cases h
 rename_i sb at_ ty
 split at h
 case h_2=>cases h
 rename_i mm ab pb e6 e7 e0
 split at h
 case h_2=>cases h
 rename_i t n2 ty2 op lo hi hbm
 split at h
 case h_2=>cases h
 rename_i n hn
 replace h:=aq h
 obtain⟨c,h⟩:=h
 simp only[Bool.and_eq_true,aE,an,beq_iff]at c
 generalize hi:((n / 1000)-100) / 12=i at c h
 generalize hu:((n / 1000)-100) % 12=u at c h
 have ag7:u<12:=by omega
 obtain⟨k1,k2,k3,k4,k5,k6⟩:=c
 subst k4
 have ht:=su k1
 subst ht
 cases h
 obtain⟨zz,zx⟩:∃ zz,zz=zsL zs i u:=⟨_,rfl⟩
 have bd:=PA.bd i k2 u ag7
 have z4:zz 4=zs (kj i u):=by rw[zx];rfl
 have z6:zz 6=(0:Nat):=by rw[zx];rfl
 have z7:zz 7=i:=by rw[zx];rfl
 have z8:zz 8=zz 7+1:=by rw[zx];rfl
 have b4 : -32768<zz 4/\zz 4<32768:=by rw[z4];exact bd
 have b6:0<=zz 6/\zz 6<=9999:=by rw[z6];omega
 have b7:0<=zz 7/\zz 7<=1000:=by rw[z7];omega
 have hk:gO (PW (One zz)) nv:=ki.ok (ki.or (uu b6) (ki.or (Mw z8 b7) (ki.or (De _) (wE _))))
 have eG:=agZ (zs:=zz) (hk:=nv) (hok:=hk) b4 b6 z8 b7 ag7
 have F:=eG.2
 have hal:∀ {b B},H.blk b=B->B≠.no->alive H b:=λe hB=>@dh (SX zs ob) H _ (by rw[e];exact hB)
 have alm:alive H mm:=hal hbm (λh=>by cases h)
 have als:alive H sb:=hal rfl (λe2=>by
  rw[e2]at k6
  unfold yY at k6
  split at k6<;>cases k6)
 obtain⟨q,hq⟩:∃ q:QT,q=⟨sb,sb,sb,mm,ab,pb⟩:=⟨_,rfl⟩
 rw[<-hq]at k6
 have q21:q.get 21=sb:=by rw[hq];rfl
 have q23:q.get 23=mm:=by rw[hq];rfl
 refine wh (O:=SX zs ob) (I:=jj (PW (One zz)) nv hk) (cargs:=(ldC u).args) (h0:=(ldC u).h0) (h1:=(ldC u).h1) (u:=(ldC u).v) (r:=(ldC u).r) (w:=0)
  (Go.Ev.Can.refl hw) eG.1 λβ W args' hg p hl=>?_
 obtain⟨zB,sm,C',tb⟩:=id hg
 have C':sm=gT zs ob:=C'
 subst C'
 have hsz:0<W.heap.size:=by
  obtain⟨m,e,h1,_⟩:=zB 0 (by decide)
  have:=p.dom 0 m e
  omega
 refine⟨og β zz 0 q.get,s7 rfl hg ⟨_,rfl,b4.1,b4.2,rfl⟩,?_,?_,λe W' hE=>?_⟩
 ·refine⟨λb _ hab=>?_,λb d _ _ hb=>?_,λb h1 h2=>?_,wQ p.dom hsz⟩
  ·letI:=jj (PW (One zz)) nv hk
   obtain⟨B,hB,e,_⟩:=lA F hab
   rw[e]
   have hB:(b,B)∈[(21,aG RS 130 0),(23,oE (KH u true))]:=hB
   simp only[List.mem_cons,List.mem_nil_iff,or_false]at hB
   rcases hB with hB|hB
   ·cases hB
    obtain⟨m,em,hbk⟩:=p.rel sb (.inl (nh (bg _))) als
    exact⟨m,by rw[gd (by omega) (by omega),q21];exact em,DE (mapM z6) k6 hbk⟩
   ·cases hB
    obtain⟨m,em,hbk⟩:=p.rel mm (.inl (ei (bg _))) alm
    exact⟨m,by rw[gd (by omega) (by omega),q23];exact em,xX tb gY k5 k3 hbk (λx hx=>by rw[zx];exact aa7 (a:=⟨u,true,0,λ_=>0⟩) hx) (λ_=>PA.z0)⟩
  ·simp at hb
  ·have h1:30<=b:=h1
   have h2:b<30:=h2
   omega
 ·letI:=jj (PW (One zz)) nv hk
  obtain⟨a1,l1,e1,tB,hl⟩:=hl.cons_inv
  obtain⟨a2,l2,e2,vD,hl⟩:=hl.cons_inv
  obtain⟨a3,l3,e3,ha3,hl⟩:=hl.cons_inv
  have:=hl.aL;subst this
  rw[e1,e2,e3]
  refine ak.cons ?_ (ak.cons ?_ (ak.cons ?_ (ak.nil _)))
  ·cases tB with|ptr _ _ m em =>
   refine .ptr 21 0 m ?_
   rw[gd (by omega) (by omega),q21];exact em
  ·cases vD;exact .int _ _
  ·have:=b8 10 _ _ (rfl:aW 10 gB=true) ha3
   subst this
   exact ai.flat _ 10 _ rfl
 ·letI:=jj (PW (One zz)) nv hk
  obtain⟨β2,v',he,hv,qq⟩:=hE
  have tb2:uM (aJ zz) β2:=λk=>qq.le _ _ (gY k)
  have hv:ai β2 (vU [vl (sy 4000),nV 0]) v':=hv
  obtain⟨l',rfl,hl'⟩:=acm hv
  obtain⟨a1,l1,e1,tB,hl'⟩:=hl'.cons_inv
  obtain⟨a2,l2,e2,vD,hl'⟩:=hl'.cons_inv
  have:=hl'.aL;subst this
  subst e2;subst e1
  obtain⟨x,rfl,hx⟩:=aa9 tB
  have hx:x=gT zs ob (1000*kj i u):=by
   rw[(bY (cy _) tb2 (v:=sy 4000) rfl).1 hx,v8 (by unfold kj;omega),J6]
   show aJ zz 4000=_
   rw[show aJ zz 4000=.int .i64 (zz 4)from J6 zz 4,z4]
  refine⟨β,_,he,tV (ak.cons (Ti rfl ((qt tb (by unfold kj;omega)).2 hx)) (ak.cons ?_ (ak.nil _))),tT qq p.dom⟩
  have:=b8 10 _ _ (rfl:aW 10 (nV 0)=true) vD
  subst this
  exact ai.flat _ 10 _ rfl
theorem jn {O:dj} {zz:Nat->Int} {hk:er->List Value->Option Value} {hok:gO (PW (One zz)) hk} {c:ff} {args:List Value} {H:Hp} {v:Value} {r:Nat} {at_:Nat->Nat} (hw:H.wf) (eG:Cl zz hk hok c) (hpw:PW (One zz) (aJ zz))
 (hw0:c.w=0) (hn:c.n0=c.n1)
 (hp:∀ (β:Mp) (W:World),@cX O NG β->Pre β H H r 0 W->∀ b B,(b,B)∈c.pre->∃ m,og β zz 0 at_ b=some m/\fM (og β zz 0 at_) W B m)
 (ha:∀ (β:Mp) l',ak β args l'->ak (og β zz 0 at_) c.args l') (hv:∀ (β β':Mp) v',uM (aJ zz) β'->ai β' c.v v'->ai β v v') (hu:dL c.v=none) (hu2:dL v=none) :
 @aI O Tryz.prog NG (.call c.f args) H (.k (.ret v H r 0)):=by
 have F:=eG.2
 have e1:eO v H r 0=.ret v H r 0:=by unfold eO;rw[hu2]
 rw[<-e1]
 refine wh (O:=O) (I:=jj (PW (One zz)) hk hok) (cargs:=c.args) (h0:=c.h0) (h1:=c.h1) (u:=c.v) (r:=c.r) (w:=0) (Go.Ev.Can.refl hw) (by have:=eG.1;unfold kD at this;rw[hw0]at this;exact this) λβ W args' hg p hl=>?_
 obtain⟨zB,_⟩:=id hg
 have hsz:0<W.heap.size:=by
  obtain⟨m,e,h1,_⟩:=zB 0 (by decide)
  have:=p.dom 0 m e
  omega
 refine⟨og β zz 0 at_,s7 rfl hg hpw,⟨λb _ hab=>?_,λb d _ _ hb=>?_,λb h1 h2=>?_,wQ p.dom hsz⟩,ha _ _ hl,λe W' hE=>?_⟩
 ·letI:=jj (PW (One zz)) hk hok
  obtain⟨B,hB,e,_⟩:=lA F hab
  rw[e]
  exact hp β W hg p b B hB
 ·simp at hb
 ·have h1:c.n0<=b:=h1
  have h2:b<c.n1:=h2
  omega
 ·letI:=jj (PW (One zz)) hk hok
  obtain⟨β2,v',he,Uu,qq⟩:=hE
  have tb2:uM (aJ zz) β2:=λk=>qq.le _ _ (gY k)
  have he:Kh v e v':=by unfold Kh at he ⊢;rw[hu]at he;rw[hu2];exact he
  exact⟨β,v',he,hv β β2 v' tb2 Uu,tT qq p.dom⟩
def vQ (x:Int):Nat->Int:=λk=>if k=4 then x else 0
theorem pw4 {x:Int} (h : -32768<x/\x<32768):PW (One (vQ x)) (aJ (vQ x)):=⟨_,rfl,h.1,h.2,rfl⟩
section
variable {O:dj}
theorem UD {x:Int} {sh:Sh} (h : -32768<x/\x<32768) (o:th sh x):gO (PW (One (vQ x))) (hkN sh) :=
 ki.ok (ki.or (Dd (zn.or (Uo λz e=>by rw[e];exact o) (by
  rintro s ⟨z,rfl,h1,h2,e0⟩ k kd a b e
  unfold iv4 at e
  obtain⟨c,e⟩:=aq e
  rw[beq_iff]at c;subst c
  cases e
  exact⟨by omega,z 4,J6 z 4,by omega,by omega⟩))) (ki.or (aeh λz e=>by rw[e];exact o) (UF λz e=>by rw[e];exact o)))
theorem Ri {x:Int} {β β':Mp} {l':List Value} (tb:uM (aJ (vQ x)) β') (h:ak β [.agg ⟨ir x⟩,.agg ⟨kG⟩] l'):ak β' [vl (sy 4000),gB] l':=by
 obtain⟨a1,l1,e1,h1,hl⟩:=h.cons_inv
 obtain⟨a2,l2,e2,h2,hl⟩:=hl.cons_inv
 have:=hl.aL;subst this
 rw[e1,e2]
 have e3:=b8 10 _ _ (rfl:aW 10 (.agg ⟨kG⟩)=true) h2
 have e4:=b8 10 _ _ (rfl:aW 10 (.agg ⟨ir x⟩)=true) h1
 rw[e3,e4]
 refine ak.cons ?_ (ak.cons (ai.flat _ 10 gB rfl) (ak.nil _))
 exact Ti rfl ((bY (cy _) tb (v:=sy 4000) rfl).2 (show iI x=aJ (vQ x) 4000 from (J6 (vQ x) 4).symm))
theorem ab3 {x:Int} {Q:Prop} (h : -32768<x/\x<32768) {f:Nat->Bool->Bool} (f0:f 0 false=true) (f1:uL (λL=>f L false) [1,2,3,4,5]=true) (f2:uL (λL=>f L true) [1,2,3,4,5]=true)
 (k:∀ L ng,th (KJ L ng) x->f L ng=true->(L=0->x=0)->Q):Q:=by
 have five':∀ {b:Bool},uL (λL=>f L b) [1,2,3,4,5]=true->∀ L,1<=L->L<=5->f L b=true:=λ{b} h L h1 h5=>by
  have h:Bc (f 1 b) (Bc (f 2 b) (Bc (f 3 b) (Bc (f 4 b) (Bc (f 5 b) true false) false) false) false) false=true:=h
  obtain⟨q1,h⟩:=cB h
  obtain⟨q2,h⟩:=cB h
  obtain⟨q3,h⟩:=cB h
  obtain⟨q4,h⟩:=cB h
  obtain⟨q5,_⟩:=cB h
  rcases(by omega:L=1\/L=2\/L=3\/L=4\/L=5)with rfl|rfl|rfl|rfl|rfl<;>assumption
 obtain⟨L,ng,o,hP⟩:=WE (z:=x) (P:=λL ng=>f L ng=true/\(L=0->x=0)) (by omega) (λh=>⟨f0,λ_=>h⟩) (λL h1 h5 _ _=>⟨five' f1 L h1 h5,λh=>by omega⟩) (λL h1 h5 _ _=>⟨five' f2 L h1 h5,λh=>by omega⟩)
 exact k L ng o hP.1 hP.2
theorem Dq:fxB 0 false=true/\uL (λL=>fxB L false) [1,2,3,4,5]=true/\uL (λL=>fxB L true) [1,2,3,4,5]=true:=by
 have h:=az pR1
 obtain⟨q1,h⟩:=cB h
 exact⟨q1,cB h⟩
theorem BP:txB 0 false=true/\uL (λL=>txB L false) [1,2,3,4,5]=true/\uL (λL=>txB L true) [1,2,3,4,5]=true:=by
 have h:=az pR2
 obtain⟨q1,h⟩:=cB h
 exact⟨q1,cB h⟩
theorem Cf:vq pC9=true/\vq pC8=true/\vq pCc=true:=by
 have h:=az pR0
 obtain⟨q1,h⟩:=cB h
 exact⟨q1,cB h⟩
theorem KZ {c:ff} (h:vq c=true):∃ hok:gO (PW (One (vQ 0))) qg,Cl (vQ 0) qg hok c:=by
 have hok:gO (PW (One (vQ 0))) qg:=ki.ok λs _ h l v e=>by cases e
 refine⟨hok,?_⟩
 letI:=jj (PW (One (vQ 0))) qg hok
 exact jz (sp:=acL) (BV (λs _ f l v e=>by cases e) (cl4 (by decide))) (tab:=fR) fK.none h
theorem abR {β β':Mp} {v:Value} {l':List Value} (hf:aW 10 v=true) (h:ak β [v] l'):ak β' [v] l':=by
 obtain⟨a1,l1,e1,h1,hl⟩:=h.cons_inv
 have:=hl.aL;subst this
 rw[e1,b8 10 _ _ hf h1]
 exact ak.cons (ai.flat _ 10 _ hf) (ak.nil _)
theorem amt {H:Hp} (hw:H.wf):@aI O Tryz.prog NG (.call 409 [.slice none 0 0]) H (.k (.ret (iI 0) H 0 0)):=by
 obtain⟨hok,eG⟩:=KZ Cf.1
 exact jn (c:=pC9) (at_:=λb=>b) hw eG (pw4 (by decide)) rfl rfl (λβ W _ _ b B h=>by cases h) (λβ l' h=>abR rfl h) (λβ β' v' _ h=>by cases h;exact .int _ _) rfl rfl
theorem ams {H:Hp} (hw:H.wf):@aI O Tryz.prog NG (.call 458 [.slice none 0 0]) H (.k (.ret (.bool true) H 0 0)):=by
 obtain⟨hok,eG⟩:=KZ Cf.2.1
 exact jn (c:=pC8) (at_:=λb=>b) hw eG (pw4 (by decide)) rfl rfl (λβ W _ _ b B h=>by cases h) (λβ l' h=>abR rfl h) (λβ β' v' _ h=>by cases h;exact .bool _) rfl rfl
theorem KO {β:Mp} {W:World} {H:Hp} {b ty:Nat} {L:List Value} {m:Bm} (h:Row H b ty 0 L) (hb:fM β W (H.blk b) m):fM β W (aG L ty 0) m:=by
 obtain⟨t,e,ht⟩:=h
 obtain⟨t2,e2,Ux⟩:=bW L ty 0
 rw[e]at hb
 rw[e2]
 obtain⟨o,ho,cs,fr,g1,g2,g3,g4,g5,g6,g7⟩:=hb
 refine⟨o,ho,cs,fr,g1,g2,g3,g4,g5,λi hi=>?_,g7⟩
 have hv:L[i]?=some L[i]:=List.getElem?_eq_getElem hi
 have:=g6 i hi
 rw[ht i _ hv]at this
 rw[Ux i _ hv]
 exact this
theorem j0 {β β':Mp} {W:World} {L:List Value} {ty:Nat} {m:Bm} (hf:L.all (aW 10)=true) (h:fM β W (aG L ty 0) m):fM β' W (aG L ty 0) m:=by
 obtain⟨t,e,ht⟩:=bW L ty 0
 rw[e]at h ⊢
 obtain⟨o,ho,cs,fr,g1,g2,g3,g4,g5,g6,g7⟩:=h
 refine⟨o,ho,cs,fr,g1,g2,g3,g4,g5,λi hi=>?_,g7⟩
 have hv:L[i]?=some L[i]:=List.getElem?_eq_getElem hi
 obtain⟨q1,v',q2,q3⟩:=g6 i hi
 refine⟨q1,v',q2,?_⟩
 rw[ht i _ hv]at q3 ⊢
 have hfl:=List.all_eq_true.1 hf _ (List.getElem_mem hi)
 rw[b8 10 _ _ hfl q3]
 exact ai.flat _ 10 _ hfl
theorem amr {x:Int} (hx : -32768<x/\x<32768) {H:Hp} (hw:H.wf):@aI O Tryz.prog NG (.call 459 [.agg ⟨ir x⟩,.agg ⟨kG⟩]) H (.k (.ret (iI 0) H 0 0)):=by
 refine ab3 hx Dq.1 Dq.2.1 Dq.2.2 λL ng o h _=>?_
 have hok:=UD hx o
 letI:=jj (PW (One (vQ x))) (hkN (KJ L ng)) hok
 have eG:=jz (sp:=spL (ltD 4 (KJ L ng)) [zZ 4000 gB,Ab 4000 gB]) (BV (Iy λz e=>by rw[e];exact o) (cl4 hx)) (tab:=fR) fK.none h
 exact jn (c:=pCf) (at_:=λb=>b) hw eG (pw4 hx) rfl rfl (λβ W _ _ b B h=>by cases h) (λβ l' h=>Ri gY h) (λβ β' v' _ h=>by cases h;exact .int _ _) rfl rfl
theorem amq {o:Nat} {H:Hp} (hw:H.wf) (ho:Row H o 222 0 [vS [],.int .i64 0]):@aI O Tryz.prog NG (.call 460 [.pointer (some ⟨o,0,none⟩)]) H (.k (.ret (iI 1) H (bit o) 0)):=by
 obtain⟨hok,eG⟩:=KZ Cf.2.2
 refine jn (c:=pCc) (at_:=λ_=>o) hw eG (pw4 (by decide)) rfl rfl (λβ W _ p b B h=>?_) (λβ l' h=>?_) (λβ β' v' _ h=>by cases h;exact .int _ _) rfl rfl
 ·have h:(b,B)=(20,aG [s0,iI 0] 222 0):=by simpa [pCc] using h
  cases h
  obtain⟨m,e,hb⟩:=p.rel o (.inl (bg _)) (@Row.alive O _ _ _ _ _ ho)
  refine⟨m,by rw[gd (by omega) (by omega)];exact e,?_⟩
  exact j0 rfl (KO ho hb)
 ·obtain⟨a1,l1,e1,h1,hl⟩:=h.cons_inv
  have:=hl.aL;subst this
  rw[e1]
  cases h1 with|ptr _ _ m em =>
  refine ak.cons (.ptr 20 0 m ?_) (ak.nil _)
  rw[gd (by omega) (by omega)];exact em
theorem amo {x:Int} (hx : -32768<x/\x<32768) {H:Hp} (hw:H.wf) (h2:Row H 2 214 0 KT):@aI O Tryz.prog NG (.call 463 [.agg ⟨ir x⟩,.agg ⟨kG⟩]) H (.k (.ret (vS (stx x)) H (bit 2) 0)):=by
 refine ab3 hx BP.1 BP.2.1 BP.2.2 λL ng o h hL=>?_
 have hok:=UD hx o
 letI:=jj (PW (One (vQ x))) (hkN (KJ L ng)) hok
 have eG:=jz (sp:=spL (ltD 4 (KJ L ng)) [zZ 4000 gB,Ab 4000 gB]) (BV (Iy λz e=>by rw[e];exact o) (cl4 hx)) (tab:=fR) fK.none h
 have hu:dL (pCt (Bc (Nat.beq L 0) (sI [48]) (sy 4004))).v=none:=by
  show dL (Bc (Nat.beq L 0) (sI [48]) (sy 4004))=none
  cases Nat.beq L 0<;>rfl
 refine jn (c:=pCt (Bc (Nat.beq L 0) (sI [48]) (sy 4004))) (at_:=λb=>b) hw eG (pw4 hx) rfl rfl (λβ W _ p b B h=>?_) (λβ l' h=>Ri gY h) (λβ β' v' tb h=>?_) hu rfl
 ·have h:(b,B)=(2,zH):=by simpa [pCt] using h
  cases h
  obtain⟨m,e,hb⟩:=p.rel 2 (.inl (bg _)) (@Row.alive O _ _ _ _ _ h2)
  refine⟨m,by rw[uI (by omega)];exact e,?_⟩
  exact j0 rfl (KO h2 hb)
 ·have h:ai β' (Bc (Nat.beq L 0) (sI [48]) (sy 4004)) v':=h
  cases e:Nat.beq L 0 with
  |true =>
   rw[e,aj]at h
   have hx0:=hL ((beq_iff _ _).1 e)
   subst hx0
   cases h;exact .string _
  |false =>
   rw[e,au]at h
   rw[(bY (cy _) tb (v:=sy 4004) rfl).1 h]
   show ai β (vS (stx x)) (aJ (vQ x) (1000*4+4))
   rw[CN.gz _ _ (by omega)]
   exact .string _
end
def bC9:ff:=eM 9 [] gB
def bC8:ff:=eM 8 [iI 0,iI 64,gB] (.agg ⟨[iI 1,iI 0,iI 0,iI 64,aT,aT]++kY⟩)
def bCn:ff:=eM 12 [sy 4000] (.agg ⟨cK (sy 4000)⟩)
def D6 (v:Nat):ff:=eM 23 [iI v] (.agg ⟨cR v 0 2⟩)
def r8:List Nat:=[0,1,2,3,8,9,10,11]
theorem bR0:Nat.beq (Bc (Bc (vq bC9) (Bc (vq bC8) (Bc (vq bCn) (uL (λv=>vq (D6 v)) r8) false) false) false) 1 0) 1=true:=by kernel_rfl
def adi (m:Nat):List Value:=((List.range 12).map λv=>[Bc (Nat.beq m 0) (iI 0) (sy (1000*kj m v)),s0]).flatten
def eF:List Value:=((List.range 12).map λ_=>kY).flatten
def aau (x y:Value):Bool:=match x,y with
 |.chan (some a),.chan (some b)=>Nat.beq a b
 |.int .i64 a,.int .i64 b=>nQ a b
 |.bool a,.bool b=>(a&&b)||(!a&&!b)
 |.string a,.string b=>p8 a.data.toList b.data.toList
 |_,_=>false
def FJ (L:List Value) (ty:Nat) (B:dB):Bool:=match B with
 |.cells t n ty' _ lo hi=>Nat.beq n L.length&&(Nat.beq ty' ty&&(Nat.beq lo 0&&(Nat.beq hi 0&&o7 aau (rP t n 0) L)))
 |_=>false
def op0 (B:dB):Bool:=match B with|.cells _ _ _ op _ _=>Nat.beq op 0|_=>false
def acK (M:Nat) (args:List Value) (H:Hp):kE:=match args with
 | [.pointer (some ⟨o,0,none⟩),.int .i64 z,.slice none n0 c0,.slice (some ⟨vb,0,none⟩) n1 _,.slice (some ⟨tt,0,none⟩) n2 _] =>
  Bc (nQ z 0&&(Nat.beq n0 0&&(Nat.beq c0 0&&(Nat.beq n1 12&&Nat.beq n2 12)))&&(Nat.ble 15 o&&(Nat.ble 15 vb&&(Nat.ble 15 tt&&(FJ [s0,iI 0] 222 (H.blk o)&&(op0 (H.blk o)&&(FJ (adi M) 32 (H.blk vb)&&(FJ eF 26 (H.blk tt)&&yt H))))))))
   (some (iI 0,H.put o (aG [sy 9000000,sy 0] 222 0),4 ||| (bit vb ||| bit tt),bit o)) none
 |_=>none
def spR (M:Nat) (f:Nat) (args:List Value) (H:Hp):kE :=
 Bc (Nat.beq f 54) (rW (El args H)) (Bc (Nat.beq f 76) (acG M args H) (Bc (Nat.beq f 227) (acM M args H) (Bc (Nat.beq f 187) (acN M args H) (Bc (Nat.beq f 407) (rW (acK M args H)) (Yv (λ_ _=>none) f args H)))))
def ruK (m:Nat):ff:=⟨18,[.agg ⟨[cD 16 1 2,iI 64,aT,cD 17 1 2,aT,aT]⟩,iI 1000],[(2,zH),(3,Ox),(6,OM)]++YS m,512,.tuple ⟨[sy 9000000,.agg ⟨[cD 512 1 3,cD 513 1 3,s0,iI 1,iI 0,iI (m+1:Nat)]⟩,.bool true]⟩,[(512,.no),(513,.no)],514,eE ([(2,zH),(3,Ox),(6,OM)]++YS m),0⟩
def ruS (m:Nat):List Nat:=Bc (Nat.beq m 0) [1450,1452] [1246+4*m,1248+4*m]
noncomputable def eK (m:Nat):Bool:=@vL (zk aei) (spR m) fR (ruK m) (ruS m)
def tj (x:Int):Prop := -32768<x/\x<32768
inductive NU:Nat->List Value->Hp->Value->Nat->Prop
 |a (H:Hp):NU 409 [.slice none 0 0] H (iI 0) 0
 |b (H:Hp):NU 458 [.slice none 0 0] H (.bool true) 0
 |c (x:Int) (H:Hp) (h:tj x):NU 459 [.agg ⟨ir x⟩,.agg ⟨kG⟩] H (iI 0) 0
 |d (o:Nat) (H:Hp) (h:Row H o 222 0 [vS [],.int .i64 0]):NU 460 [.pointer (some ⟨o,0,none⟩)] H (iI 1) (bit o)
 |t (x:Int) (H:Hp) (h:tj x) (h2:Row H 2 214 0 KT):NU 463 [.agg ⟨ir x⟩,.agg ⟨kG⟩] H (vS (stx x)) (bit 2)
 |n (x:Value) (H:Hp) (h:dL x=none):NU 367 [x] H x 0
theorem NU.one {f:Nat} {args:List Value} {H:Hp} {v v':Value} {r r':Nat} (h:NU f args H v r) (h':NU f args H v' r'):v'=v/\r'=r:=by
 cases h<;>cases h'<;>exact⟨rfl,rfl⟩
open Classical in
noncomputable def Xs (f:Nat) (args:List Value) (H:Hp):kE:=if h:∃ q:Value×Nat,NU f args H q.1 q.2 then some (h.choose.1,H,h.choose.2,0)else none
theorem tI {f:Nat} {args:List Value} {H:Hp} {v:Value} {r:Nat} (h:NU f args H v r):Xs f args H=some (v,H,r,0):=by
 have hx:∃ q:Value×Nat,NU f args H q.1 q.2:=⟨(v,r),h⟩
 unfold Xs
 rw[dif_pos hx]
 have:=h.one hx.choose_spec
 rw[this.1,this.2]
theorem acJ {f:Nat} {args:List Value} {H:Hp} (h:∀ v r,¬ NU f args H v r):Xs f args H=none:=by
 unfold Xs
 rw[dif_neg λ⟨q,hh⟩=>h q.1 q.2 hh]
theorem Yf {f:Nat} {args:List Value} {H H':Hp} {v:Value} {r w:Nat} (h:Xs f args H=some (v,H',r,w)):H'=H/\w=0/\NU f args H v r:=by
 unfold Xs at h
 split at h
 ·rename_i hx
  cases h
  exact⟨rfl,rfl,hx.choose_spec⟩
 ·cases h
abbrev SN:dj where
 hk:=λ_ _=>none
 A8:=λ_ _ _ _ h=>by cases h
 Q:=λ_=>True
 mono:=λ_ h=>h
 loc:=λ_ h=>h
theorem acI:@oa SN Tryz.prog NG Xs:=by
 letI:=SN
 intro f args H v H' r w hw h
 obtain⟨rfl,rfl,q⟩:=Yf h
 cases q with
 |a=>exact amt hw
 |b=>exact ams hw
 |c x _ hx=>exact amr hx hw
 |d o _ ho=>exact amq hw ho
 |t x _ hx h2=>exact amo hx hw h2
 |n x _ hx =>
  have:eO v H' 0 0=.ret v H' 0 0:=by unfold eO;rw[hx]
  rw[this]
  exact ou hw rfl
theorem Ek:SpP Xs stx tj where
 no:=λf hf args H=>acJ λv r q=>by cases q<;>simp at hf
 esc:=λx H h=>tI (.n x H h)
 ag5:=λH=>tI (.a H)
 ag4:=λH=>tI (.b H)
 ag3:=λx H h=>tI (.c x H h)
 ag2:=λo H h=>tI (.d o H h)
 ag1:=λx H h h2=>tI (.t x H h h2)
 tx1:=λx h=>by
  have:(stx x).length=nd x.natAbs+sg (decide (x<0)):=vX x _ (by by_cases hx:x<0<;>simp[hx];omega)
  have:=lu x.natAbs
  omega
 tx6:=λx h=>by
  obtain⟨h1,h2⟩:=h
  refine⟨?_,λu hu e=>?_⟩
  ·have:(stx x).length=nd x.natAbs+sg (decide (x<0)):=vX x _ (by by_cases hx:x<0<;>simp[hx];omega)
   have:=Ik (m:=x.natAbs) (by omega)
   have:=KK (decide (x<0))
   omega
  ·subst e
   have key:∀ m,(10:UInt8) ∉ bE m:=λm hm=>by
    obtain⟨i,hi⟩:=vR hm
    have:=congrArg UInt8.toNat hi
    rw[qO]at this
    have:10=48+jr m i:=this
    omega
   by_cases hx:x<0
   ·rw[mT hx]at hu
    rcases List.mem_cons.1 hu with h|h
    ·exact absurd h (by decide)
    ·exact key _ h
   ·rw[jH (by omega)]at hu
    exact key _ hu
end Go.Proofs.CA
end
noncomputable section
namespace Go.Proofs
open Go.Shelf
def Tryz.FG:Go.Shelf.Ren:=⟨λ| 157=>25|229=>34|199=>35|261=>53|311=>107|312=>108|n=>n,λ| 9=>9|31=>52|3=>3|5=>5|4=>4|119=>100|0=>0|40=>102|152=>138|21=>21|154=>140|51=>141|141=>143|196=>203|193=>200|198=>206|49=>204|194=>201|201=>209|226=>264|46=>216|227=>265|n=>n,λ| 0=>0|6=>1|n=>n⟩
theorem Tryz.ZR:Go.Proofs.Lays.n157 Tryz.prog Tryz.FG:={
 mixed:=by kernel_rfl
 f157:=Tryz.func25.trans (congrArg some (by kernel_rfl))
 f199:=Tryz.func35.trans (congrArg some (by kernel_rfl))
 f229:=Tryz.func34.trans (congrArg some (by kernel_rfl))
 f261:=Tryz.func53.trans (congrArg some (by kernel_rfl))
 f311:=Tryz.func107.trans (congrArg some (by kernel_rfl))
 f312:=Tryz.func108.trans (congrArg some (by kernel_rfl))
 t0:=Tryz.underlying0
 a0:=Tryz.isAgg0
 z0:=Tryz.sizeOf0
 v0:=Tryz.zeroValue0
 t3:=Tryz.underlying3
 a3:=Tryz.isAgg3
 z3:=Tryz.sizeOf3
 v3:=Tryz.zeroValue3
 t4:=Tryz.underlying4
 a4:=Tryz.isAgg4
 z4:=Tryz.sizeOf4
 v4:=Tryz.zeroValue4
 t5:=Tryz.underlying5
 a5:=Tryz.isAgg5
 z5:=Tryz.sizeOf5
 v5:=Tryz.zeroValue5
 t9:=Tryz.underlying9
 a9:=Tryz.isAgg9
 z9:=Tryz.sizeOf9
 v9:=Tryz.zeroValue9
 t21:=Tryz.underlying21
 a21:=Tryz.isAgg21
 z21:=Tryz.sizeOf21
 v21:=Tryz.zeroValue21
 t31:=Tryz.underlying52
 a31:=Tryz.isAgg52
 z31:=Tryz.sizeOf52
 v31:=Tryz.zeroValue52
 t40:=Tryz.underlying102
 a40:=Tryz.isAgg102
 z40:=Tryz.sizeOf102
 v40:=Tryz.zeroValue102
 t46:=Tryz.underlying216
 a46:=Tryz.isAgg216
 z46:=Tryz.sizeOf216
 v46:=Tryz.zeroValue216
 t49:=Tryz.underlying204
 a49:=Tryz.isAgg204
 z49:=Tryz.sizeOf204
 v49:=Tryz.zeroValue204
 t51:=Tryz.underlying141
 a51:=Tryz.isAgg141
 z51:=Tryz.sizeOf141
 v51:=Tryz.zeroValue141
 t119:=Tryz.underlying100
 a119:=Tryz.isAgg100
 z119:=Tryz.sizeOf100
 t141:=Tryz.underlying143
 a141:=Tryz.isAgg143
 z141:=Tryz.sizeOf143
 v141:=Tryz.zeroValue143
 t152:=Tryz.underlying138
 a152:=Tryz.isAgg138
 z152:=Tryz.sizeOf138
 v152:=Tryz.zeroValue138
 t154:=Tryz.underlying140
 a154:=Tryz.isAgg140
 z154:=Tryz.sizeOf140
 v154:=Tryz.zeroValue140
 t193:=Tryz.underlying200
 a193:=Tryz.isAgg200
 z193:=Tryz.sizeOf200
 v193:=Tryz.zeroValue200
 t194:=Tryz.underlying201
 a194:=Tryz.isAgg201
 z194:=Tryz.sizeOf201
 v194:=Tryz.zeroValue201
 t196:=Tryz.underlying203
 a196:=Tryz.isAgg203
 z196:=Tryz.sizeOf203
 v196:=Tryz.zeroValue203
 t198:=Tryz.underlying206
 a198:=Tryz.isAgg206
 z198:=Tryz.sizeOf206
 v198:=Tryz.zeroValue206
 t201:=Tryz.underlying209
 a201:=Tryz.isAgg209
 z201:=Tryz.sizeOf209
 v201:=Tryz.zeroValue209
 t226:=Tryz.underlying264
 a226:=Tryz.isAgg264
 z226:=Tryz.sizeOf264
 v226:=Tryz.zeroValue264
 t227:=Tryz.underlying265
 a227:=Tryz.isAgg265
 z227:=Tryz.sizeOf265
 v227:=Tryz.zeroValue265
 g0:=by kernel_rfl
 g6:=by kernel_rfl }
open Go.RowKit Go.Lib in
theorem Tryz.strings_Fields (s : ByteArray) (w : World) (hs : s.size < 4294967281) (hascii : ∀ (j : Nat) b, s.data.toList[j]? = some b → b.toNat < 128) (htab : Lib.TabIs Tryz.prog w "strings.asciiSpace" .u8 Lib.asciiSpaceTab) :
 Calls Tryz.prog 25 #[.string s] w λe w' =>
  e=.returned (.slice (some ⟨w.heap.size,0,none⟩) (Lib.fields s.data.toList).length (Lib.fields s.data.toList).length)/\w'=w.alloc (.cells ((Lib.fields s.data.toList).map λl=>Value.string ⟨l.toArray⟩).toArray 9):=Any.strings_Fields Tryz.ZR (by kernel_rfl) (by kernel_rfl) s w hs hascii htab
def Tryz.FD:Go.Shelf.Ren:=⟨λ| 193=>24|n=>n,λ| 31=>52|9=>9|4=>4|3=>3|0=>0|n=>n,λ| n=>n⟩
theorem Tryz.ZN:Go.Proofs.Lays.n193 Tryz.prog Tryz.FD:={
 mixed:=by kernel_rfl
 f193:=Tryz.func24.trans (congrArg some (by kernel_rfl))
 t0:=Tryz.underlying0
 a0:=Tryz.isAgg0
 z0:=Tryz.sizeOf0
 v0:=Tryz.zeroValue0
 t3:=Tryz.underlying3
 a3:=Tryz.isAgg3
 z3:=Tryz.sizeOf3
 v3:=Tryz.zeroValue3
 t4:=Tryz.underlying4
 a4:=Tryz.isAgg4
 z4:=Tryz.sizeOf4
 v4:=Tryz.zeroValue4
 t9:=Tryz.underlying9
 a9:=Tryz.isAgg9
 z9:=Tryz.sizeOf9
 v9:=Tryz.zeroValue9
 t31:=Tryz.underlying52
 a31:=Tryz.isAgg52
 z31:=Tryz.sizeOf52
 v31:=Tryz.zeroValue52 }
open Go.RowKit Go.Lib in
theorem Tryz.slices_Equal_string (b1 o1 n c b2 o2 m d:Nat) (xs ys:List ByteArray) (w:World) (hx:n<=xs.length) (hy:m<=ys.length) (hbig:n<=9223372036854775807) (hbig2:m<=9223372036854775807) (hc1:∀ j,j<xs.length->w.cell? ⟨b1,o1+j,none⟩=some (.string (xs.getD j ByteArray.empty))) (hc2:∀ j,j<ys.length->w.cell? ⟨b2,o2+j,none⟩=some (.string (ys.getD j ByteArray.empty))) :
 Calls Tryz.prog 24 #[.slice (some ⟨b1,o1,none⟩) n c,.slice (some ⟨b2,o2,none⟩) m d] w λe w'=>e=.returned (.bool (decide (xs.take n=ys.take m)))/\∃ q,w'=w.drewN q:=Any.slices_Equal_string Tryz.ZN b1 o1 n c b2 o2 m d xs ys w hx hy hbig hbig2 hc1 hc2
end Go.Proofs
end
noncomputable section
namespace Go.Proofs.CA
open Go Go.Ev Go.Proofs Go.Ev.SM Go.Proofs.MN Go.Proofs.CN
theorem OF {s:CN.Sem} {v:Value} (h:aW 10 v=true):real s v=v:=by
 cases v with
 |chan r=>cases r with
  |none=>rfl
  |some k=>cases h
 |_=>rfl
theorem AT {s:CN.Sem} (hs:∀ k,uo (s k)=true) {β:Mp} (tb:uM s β):∀ {l l':List Value},(∀ v∈l,wq v=true\/aW 10 v=true)->ak β l l'->l'=l.map (real s)
 | [],l',_,h=>h.aL
 |v::l,l',hk,h=>by
  obtain⟨v',l2,rfl,h1,h2⟩:=h.cons_inv
  have ih:=AT hs tb (λv hv=>hk v (List.mem_cons_of_mem _ hv)) h2
  rw[ih]
  rcases hk v List.mem_cons_self with h|h
  ·rw[(bY hs tb h).1 h1];rfl
  ·rw[b8 10 _ _ h h1]
   rw[List.map_cons,OF h]
theorem W_ {s:CN.Sem} (hs:∀ k,uo (s k)=true) {β:Mp} (tb:uM s β) {l:List Value} {v':Value} (hk:∀ v∈l,wq v=true\/aW 10 v=true) (h:ai β (.agg ⟨l⟩) v'):v'=.agg ⟨l.map (real s)⟩:=by
 cases h with|agg xs xs' e0 e1 e2 =>
 have:=AT hs tb hk (show ak β l xs' from ⟨e1,e2⟩)
 rw[this]
theorem mj {β:Mp}:∀ {l l':List Value},l.all (aW 10)=true->ak β l l'->l'=l
 | [],l',_,h=>h.aL
 |v::l,l',hk,h=>by
  rw[List.all_cons,Bool.and_eq_true]at hk
  obtain⟨v',l2,rfl,h1,h2⟩:=h.cons_inv
  rw[mj hk.2 h2,b8 10 _ _ hk.1 h1]
theorem agK {x:Int} (hx:tj x) {c:ff} (h:vq c=true):∃ hok:gO (PW (One (vQ x))) qg,Cl (vQ x) qg hok c:=by
 have hok:gO (PW (One (vQ x))) qg:=ki.ok λs _ h l v e=>by cases e
 refine⟨hok,?_⟩
 letI:=jj (PW (One (vQ x))) qg hok
 exact jz (sp:=acL) (BV (λs _ f l v e=>by cases e) (cl4 (show -32768<vQ x 4/\vQ x 4<32768 from hx))) (tab:=fR) fK.none h
section
variable {O:dj}
theorem DR:vq bC9=true/\vq bC8=true/\vq bCn=true/\uL (λv=>vq (D6 v)) r8=true:=by
 have h:=az bR0
 obtain⟨q1,h⟩:=cB h
 obtain⟨q2,h⟩:=cB h
 obtain⟨q3,h⟩:=cB h
 exact⟨q1,q2,q3,h⟩
theorem fD {c:ff} {H:Hp} (h:vq c=true) (hw:H.wf) (hpre:c.pre=[]) (hw0:c.w=0) (hn:c.n0=c.n1) (ha:c.args.all (aW 10)=true) (hv:aW 10 c.v=true) (hu:dL c.v=none):@aI O Tryz.prog NG (.call c.f c.args) H (.k (.ret c.v H 0 0)):=by
 obtain⟨hok,eG⟩:=KZ h
 refine jn (c:=c) (at_:=λb=>b) hw eG (pw4 (by decide)) hw0 hn (λβ W _ _ b B h=>by rw[hpre]at h;cases h) (λβ l' h=>?_) (λβ β' v' _ h=>?_) hu hu
 ·have:=mj ha h
  rw[this];exact fE _ ha
 ·rw[b8 10 _ _ hv h];exact ai.flat _ 10 _ hv
theorem q9 {H:Hp} (hw:H.wf):@aI O Tryz.prog NG (.call 9 []) H (.k (.ret gB H 0 0)):=fD (c:=bC9) DR.1 hw rfl rfl rfl rfl rfl rfl
theorem q8 {H:Hp} (hw:H.wf):@aI O Tryz.prog NG (.call 8 [iI 0,iI 64,gB]) H (.k (.ret (.agg ⟨[iI 1,iI 0,iI 0,iI 64,aT,aT]++kY⟩) H 0 0)):=fD (c:=bC8) DR.2.1 hw rfl rfl rfl rfl rfl rfl
theorem q23 {v:Nat} (hv:v<4\/(8<=v/\v<12)) {H:Hp} (hw:H.wf):@aI O Tryz.prog NG (.call 23 [iI v]) H (.k (.ret (.agg ⟨cR v 0 2⟩) H 0 0)):=by
 have h:=DR.2.2.2
 have h:Bc (vq (D6 0)) (Bc (vq (D6 1)) (Bc (vq (D6 2)) (Bc (vq (D6 3)) (Bc (vq (D6 8)) (Bc (vq (D6 9)) (Bc (vq (D6 10)) (Bc (vq (D6 11)) true false) false) false) false) false) false) false) false=true:=h
 obtain⟨q0,h⟩:=cB h
 obtain⟨q1,h⟩:=cB h
 obtain⟨q2,h⟩:=cB h
 obtain⟨q3,h⟩:=cB h
 obtain⟨q8,h⟩:=cB h
 obtain⟨q9,h⟩:=cB h
 obtain⟨q10,h⟩:=cB h
 obtain⟨q11,h⟩:=cB h
 rcases(by omega:v=0\/v=1\/v=2\/v=3\/v=8\/v=9\/v=10\/v=11)with rfl|rfl|rfl|rfl|rfl|rfl|rfl|rfl
 ·exact fD (c:=D6 0) q0 hw rfl rfl rfl rfl rfl rfl
 ·exact fD (c:=D6 1) q1 hw rfl rfl rfl rfl rfl rfl
 ·exact fD (c:=D6 2) q2 hw rfl rfl rfl rfl rfl rfl
 ·exact fD (c:=D6 3) q3 hw rfl rfl rfl rfl rfl rfl
 ·exact fD (c:=D6 8) q8 hw rfl rfl rfl rfl rfl rfl
 ·exact fD (c:=D6 9) q9 hw rfl rfl rfl rfl rfl rfl
 ·exact fD (c:=D6 10) q10 hw rfl rfl rfl rfl rfl rfl
 ·exact fD (c:=D6 11) q11 hw rfl rfl rfl rfl rfl rfl
theorem q12 {x:Int} (hx:tj x) {H:Hp} (hw:H.wf):@aI O Tryz.prog NG (.call 12 [.int .i64 x]) H (.k (.ret (.agg ⟨cK (.int .i64 x)⟩) H 0 0)):=by
 obtain⟨hok,eG⟩:=agK hx DR.2.2.1
 have e4:aJ (vQ x) 4000=iI x:=J6 (vQ x) 4
 refine jn (c:=bCn) (at_:=λb=>b) hw eG (pw4 hx) rfl rfl (λβ W _ _ b B h=>by cases h) (λβ l' h=>?_) (λβ β' v' tb h=>?_) rfl rfl
 ·obtain⟨a1,l1,e1,h1,hl⟩:=h.cons_inv
  have:=hl.aL;subst this
  rw[e1]
  cases h1
  exact ak.cons ((bY (cy _) gY (v:=sy 4000) rfl).2 e4.symm) (ak.nil _)
 ·have:=W_ (cy _) tb (l:=cK (sy 4000)) (by
   intro v hv
   simp only[cK,kY,List.mem_append,List.mem_cons,List.mem_nil_iff,or_false]at hv
   rcases hv with(rfl|rfl|rfl|rfl|rfl|rfl)|rfl|rfl|rfl|rfl|rfl<;>first|exact .inl rfl|exact .inr rfl) h
  rw[this]
  have:(cK (sy 4000)).map (real (aJ (vQ x)))=cK (.int .i64 x):=by
   show cK (aJ (vQ x) 4000)=_
   rw[e4];rfl
  rw[this]
  exact ai.flat _ 10 _ rfl
end
def HD:dB:=aG ((List.range 256).map λi=>.int .u8 (Bc (Nat.beq i 32||(Nat.ble 9 i&&Nat.ble i 13)) 1 0)) 100 0
structure zp (H:Hp):Prop where
 b0:H.blk 0=HD
 b2:H.blk 2=zH
 b3:H.blk 3=Ox
 b6:H.blk 6=OM
theorem nG [dj] {H:Hp} {b ty op:Nat} {L:List Value} (h:H.blk b=aG L ty op):alive H b:=by
 refine dh ?_
 obtain⟨t,e,_⟩:=bW L ty op
 rw[h,e];exact λh=>by cases h
section
variable {O:dj}
theorem q7 {H:Hp} (hw:H.wf) (g:zp H):@aI O Tryz.prog NG (.call 7 []) H (.k (.ret (.bool true) H 76 0)):=by
 have hok:gO (PW (One (vQ 0))) qg:=ki.ok λs _ h l v e=>by cases e
 refine jn (c:=fH) (at_:=λb=>b) hw (aaB (hok:=hok)) (pw4 (by decide)) rfl rfl (λβ W _ p b B h=>?_) (λβ l' h=>by rw[h.aL];exact ak.nil _) (λβ β' v' _ h=>by cases h;exact .bool _) rfl rfl
 have key:(b=2/\B=zH\/b=3/\B=Ox\/b=6/\B=OM):=by
  have h:(b,B)∈sM:=h
  simp only[sM,List.mem_cons,Prod.mk.injEq,List.mem_nil_iff,or_false]at h
  exact h
 have hbl:H.blk b=B:=by
  rcases key with⟨rfl,rfl⟩|⟨rfl,rfl⟩|⟨rfl,rfl⟩
  ·exact g.b2
  ·exact g.b3
  ·exact g.b6
 have hal:@alive H b:=by
  rcases key with⟨rfl,rfl⟩|⟨rfl,rfl⟩|⟨rfl,rfl⟩<;>exact @nG O _ _ _ _ _ hbl
 have anD:b<15:=by rcases key with⟨rfl,_⟩|⟨rfl,_⟩|⟨rfl,_⟩<;>omega
 have h76:(76:Nat).testBit b=true:=by rcases key with⟨rfl,_⟩|⟨rfl,_⟩|⟨rfl,_⟩<;>decide
 obtain⟨m,e,hb⟩:=p.rel b (.inl h76) hal
 refine⟨m,by rw[uI anD];exact e,?_⟩
 rw[hbl]at hb
 rcases key with⟨rfl,rfl⟩|⟨rfl,rfl⟩|⟨rfl,rfl⟩
 ·exact j0 (L:=KT) (by decide) hb
 ·exact j0 (by decide) hb
 ·exact j0 (by decide) hb
theorem q13 {x:Int} (hx:tj x) {H:Hp} (hw:H.wf) (g:zp H):@aI O Tryz.prog NG (.call 13 [.int .i64 x]) H (.k (.ret (vS (stx x)) H (bit 2) 0)):=by
 refine⟨Can.refl hw,λβ W hg p args' hl=>?_⟩
 obtain⟨h1,h2⟩:=hx
 have hr:=mj (l:=[.int .i64 x]) rfl hl
 have q:jP 13 [.int .i64 x] (vS (stx x)):=by
  have:=jP.itoa x (by omega) (by omega)
  rw[xd (by omega)]at this
  exact this
 obtain⟨m,em,Da,hm2⟩:=hg.1 2 (by decide)
 obtain⟨m',em',hb⟩:=p.rel 2 (.inl (bg _)) (@nG O _ _ _ _ _ g.b2)
 rw[em]at em';cases em'
 rw[g.b2]at hb
 refine .inl ⟨q.ent _ _,callsIn_wide.2 ((q.calls W (λ_=>SD hb Da hm2) args' hr).mono λe W' hR=>?_)⟩
 obtain⟨rfl,k,os,rfl⟩:=hR
 exact⟨β,_,rfl,.string _,(Post.refl p.dom).grow (os:=os) rfl ⟨rfl,rfl,rfl⟩⟩
theorem ake (args:Array Value) (W:World):(callFunc 24 args).run Tryz.prog W=.ok (.enter 24 args) W:=by kernel_rfl
theorem akd (args:Array Value) (W:World):(callFunc 25 args).run Tryz.prog W=.ok (.enter 25 args) W:=by kernel_rfl
theorem Ao {β:Mp} {W:World} {H:Hp} {b op:Nat} {L:List (List UInt8)} {m:Bm} (h:Row H b 9 op (L.map vS)) (hb:fM β W (H.blk b) m) (j:Nat) (hj:j<L.length):W.cell? ⟨m.rb,m.sh+j,none⟩=some (vS (L.getD j [])):=by
 obtain⟨t,e,ht⟩:=h
 rw[e]at hb
 obtain⟨o,ho,cs,fr,rfl,g2,g3,g4,g5,g6,g7⟩:=hb
 obtain⟨_,v',q2,q3⟩:=g6 j (by rw[List.length_map];exact hj)
 have hv:(L.map vS)[j]?=some (vS (L.getD j [])):=by
  rw[List.getElem?_map,List.getElem?_eq_getElem hj,List.getD_eq_getElem?_getD,List.getElem?_eq_getElem hj];rfl
 rw[ht j _ hv]at q3
 rw[b8 10 _ _ (show aW 10 (vS _)=true from rfl) q3]at q2
 unfold World.cell?
 rw[ho]
 exact q2
theorem q24 {b1 b2 c1 c2 op1 op2:Nat} {L:List (List UInt8)} (h12:L.length=12) {H:Hp} (hw:H.wf) (h1:Row H b1 9 op1 (L.map vS)) (h2:Row H b2 9 op2 (L.map vS)):@aI O Tryz.prog NG (.call 24 [.slice (some ⟨b1,0,none⟩) 12 c1,.slice (some ⟨b2,0,none⟩) 12 c2]) H (.k (.ret (.bool true) H (bit b1 ||| bit b2) 0)):=by
 refine⟨Can.refl hw,λβ W hg p args' hl=>?_⟩
 obtain⟨m1,e1,k1⟩:=p.rel b1 (.inl (nh (bg _))) (@Row.alive O _ _ _ _ _ h1)
 obtain⟨m2,e2,k2⟩:=p.rel b2 (.inl (ei (bg _))) (@Row.alive O _ _ _ _ _ h2)
 obtain⟨a1,l1,ea1,r1,hl⟩:=hl.cons_inv
 obtain⟨a2,l2,ea2,r2,hl⟩:=hl.cons_inv
 have:=hl.aL;subst this
 have ha:args' = #[a1,a2]:=by rw[ea2]at ea1;exact Array.toList_inj.1 ea1
 cases r1 with|sl _ _ _ _ d1 m e hc1 =>
 rw[e1]at e;cases e
 cases r2 with|sl _ _ _ _ d2 m e hc2 =>
 rw[e2]at e;cases e
 have q1:=Ao h1 k1
 have q2:=Ao h2 k2
 obtain⟨xs,hxs⟩:∃ xs:List ByteArray,xs=L.map λl=>⟨⟨l⟩⟩:=⟨_,rfl⟩
 have hlen:xs.length=12:=by rw[hxs,List.length_map,h12]
 have Z_:∀ j,j<xs.length->Value.string (xs.getD j ByteArray.empty)=vS (L.getD j []):=λj hj=>by
  have hj':j<L.length:=by omega
  rw[hxs,List.getD_eq_getElem?_getD,List.getElem?_map,List.getElem?_eq_getElem hj',List.getD_eq_getElem?_getD,List.getElem?_eq_getElem hj'];rfl
 rw[ha]
 refine .inl ⟨ake _ _,callsIn_wide.2 ((Tryz.slices_Equal_string m1.rb (0+m1.sh) 12 d1 m2.rb (0+m2.sh) 12 d2 xs xs W (by omega) (by omega) (by decide) (by decide) (λj hj=>by rw[Z_ j hj,Nat.zero_add];exact q1 j (by omega)) (λj hj=>by rw[Z_ j hj,Nat.zero_add];exact q2 j (by omega))).mono λe W' hR=>?_)⟩
 obtain⟨rfl,q,rfl⟩:=hR
 refine⟨β,_,rfl,?_,(Post.refl p.dom).grow (os:=#[]) (by simp[World.drewN]) ⟨rfl,rfl,rfl⟩⟩
 rw[decide_eq_true rfl]
 exact .bool _
end
theorem acA:∀ i,i<256->(Bc (Nat.beq i 32||(Nat.ble 9 i&&Nat.ble i 13)) 1 0:Int)=Lib.asciiSpaceTab.getD i 0:=by
 have key:((List.range 256).all λi=>decide ((Bc (Nat.beq i 32||(Nat.ble 9 i&&Nat.ble i 13)) 1 0:Int)=Lib.asciiSpaceTab.getD i 0))=true:=by kernel_rfl
 intro i hi
 exact of_decide_eq_true (List.all_eq_true.1 key i (List.mem_range.2 hi))
theorem Yb {β : Mp} {W : World} {m : Bm} (h : fM β W HD m) (h2 : m.rb = 0) (h3 : m.sh = 0) : Lib.TabIs Tryz.prog W "strings.asciiSpace" .u8 Lib.asciiSpaceTab := by
 obtain⟨t,ht,hc⟩:=bW ((List.range 256).map λi=>Value.int .u8 (Bc (Nat.beq i 32||(Nat.ble 9 i&&Nat.ble i 13)) 1 0)) 100 0
 unfold HD at h
 rw[ht]at h
 obtain⟨o,ho,cs,fr,rfl,h4,h5,h6,h7,h8,h9⟩:=h
 rw[h2]at ho
 unfold Lib.TabIs World.var?
 rw [show Tryz.prog.globalNamed "strings.asciiSpace" = some 0 from by kernel_rfl]
 show(match W.heap[0]? with|some (.cells cs _ _)=>some cs|_=>none)=_
 rw[ho]
 show some cs=some _
 congr 1
 have hl:((List.range 256).map λi=>Value.int .u8 (Bc (Nat.beq i 32||(Nat.ble 9 i&&Nat.ble i 13)) 1 0)).length=256:=by simp
 have hn:cs.size=256:=by rw[h4,(h6 rfl).2,hl]
 have htl:=Lib.asciiSpaceTab_length
 apply Array.ext
 ·rw[hn];simp[htl]
 ·intro i h1 h2'
  have hi:i<256:=by omega
  obtain⟨q1,v',q2,q3⟩:=h8 i (by rw[hl];exact hi)
  rw[h3,Nat.zero_add,Array.getElem?_eq_getElem h1]at q2
  have hv:=hc i (.int .u8 (Bc (Nat.beq i 32||(Nat.ble 9 i&&Nat.ble i 13)) 1 0)) (by rw[List.getElem?_map,List.getElem?_range hi];rfl)
  rw[hv]at q3
  cases q3
  rw[Option.some.inj q2,acA i hi]
  have:((Lib.asciiSpaceTab.map λz=>Value.int .u8 z).toArray)[i]?=some (Value.int .u8 (Lib.asciiSpaceTab.getD i 0)):=by
   rw[List.getElem?_toArray,List.getElem?_map,List.getD_eq_getElem?_getD,List.getElem?_eq_getElem (by omega:i<Lib.asciiSpaceTab.length)];rfl
  rw[Array.getElem?_eq_getElem h2']at this
  exact(Option.some.inj this).symm
theorem q25 {O:dj} {bE:List UInt8} (hs:bE.length<100000) (ha:∀ b∈bE,b.toNat<128) {H:Hp} (hf:H.bG=true) (g:zp H) :
 @aI O Tryz.prog NG (.call 25 [vS bE]) H (.k (.ret (.slice (some ⟨H.nx,0,none⟩) (Lib.fields bE).length (2*(Lib.fields bE).length)) (H.push (aG ((Lib.fields bE).map vS) 9 0)) (bit 0) 0)):=by
 have hr:=aO hf
 refine⟨fB hr,λβ W hg p args' hl=>?_⟩
 have hl:=mj (l:=[vS bE]) rfl hl
 have hargs:args' = #[.string ⟨⟨bE⟩⟩]:=Array.toList_inj.1 hl
 obtain⟨m,em,Da,hm2⟩:=hg.1 0 (by decide)
 obtain⟨m',em',hb⟩:=p.rel 0 (.inl (bg _)) (@nG O _ _ _ _ _ g.b0)
 rw[em]at em';cases em'
 rw[g.b0]at hb
 have f0:β H.nx=none:=p.fresh H.nx (Nat.le_refl _) (by rw[aZ];omega)
 rw[hargs]
 have hsz:(ByteArray.mk ⟨bE⟩).size=bE.length:=rfl
 refine .inl ⟨akd _ _,callsIn_wide.2 ((Tryz.strings_Fields ⟨⟨bE⟩⟩ W (by omega) (λj b h=>ha b (List.mem_of_getElem? h)) (Yb hb Da hm2)).mono λe W' hR=>?_)⟩
 obtain⟨rfl,rfl⟩:=hR
 obtain⟨k,hk⟩:∃ k,k=(Lib.fields bE).length:=⟨_,rfl⟩
 obtain⟨mm,hmm⟩:∃ mm:Bm,mm=⟨W.heap.size,0,k,1⟩:=⟨_,rfl⟩
 obtain⟨t,et,ht⟩:=bW ((Lib.fields bE).map vS) 9 0
 have q:=iU (β:=β) (H:=H) (W:=W) (aG ((Lib.fields bE).map vS) 9 0) (.cells ((Lib.fields bE).map λl=>Value.string ⟨l.toArray⟩).toArray 9) mm hr (by rw[hmm]) f0 (by
  rw[et,hmm]
  refine⟨_,(0,0),rfl,?_,?_,λ_=>⟨rfl,?_⟩,(λk h=>by cases h),λi hi=>?_,.inl ⟨Nat.le_refl _,.inl rfl⟩⟩
  ·show _=k
   rw[List.size_toArray,List.length_map,hk]
  ·show 0+_<=k
   rw[List.length_map,hk];omega
  ·show k=_
   rw[List.length_map,hk]
  ·have hi':i<(Lib.fields bE).length:=by rwa [List.length_map]at hi
   have hv:((Lib.fields bE).map vS)[i]?=some (vS (Lib.fields bE)[i]):=by rw[List.getElem?_map,List.getElem?_eq_getElem hi'];rfl
   rw[ht i _ hv]
   refine⟨rfl,_,?_,.string _⟩
   show _=_
   rw[Nat.zero_add,List.getElem?_toArray,List.getElem?_map,List.getElem?_eq_getElem hi'];rfl) p.dom
 refine⟨β.put H.nx mm,_,rfl,?_,q.congr rfl ⟨rfl,rfl,rfl⟩⟩
 have:=ai.sl (β:=β.put H.nx mm) H.nx 0 (Lib.fields bE).length (2*(Lib.fields bE).length) (Lib.fields bE).length mm (Mp.dJ _ _ _) ⟨λ_=>by omega,λh=>by omega⟩
 rw[hmm]at this ⊢
 exact this
theorem V4 {x y:Value} (h:aau x y=true):x=y:=by
 unfold aau at h
 split at h
 ·rw[beq_iff]at h;subst h;rfl
 ·rw[dY,beq_iff_eq]at h;subst h;rfl
 ·rename_i a b
  cases a<;>cases b<;>first|rfl|(simp at h)
 ·rename_i a b
  rw[gv,beq_iff_eq]at h
  have:a=b:=by cases a;cases b;congr 1;exact Array.toList_inj.1 h
  rw[this]
 ·cases h
theorem NN:∀ {L M:List Value},o7 aau L M=true->L=M
 | [],[],_=>rfl
 | [],_::_,h=>by cases h
 |_::_,[],h=>by cases h
 |x::L,y::M,h=>by
  simp only[o7,Bool.and_eq_true]at h
  rw[V4 h.1,NN h.2]
theorem uq {L:List Value} {ty:Nat} {B:dB} (h:FJ L ty B=true):∃ t op,B=.cells t L.length ty op 0 0/\∀ (i:Nat) v,L[i]?=some v->t.get i=v:=by
 unfold FJ at h
 split at h
 ·rename_i t n ty' op lo hi
  simp only[Bool.and_eq_true,beq_iff]at h
  obtain⟨rfl,rfl,rfl,rfl,h⟩:=h
  refine⟨t,op,rfl,λi v hv=>?_⟩
  have e:=NN h
  have hi:i<L.length:=by
   rcases Nat.lt_or_ge i L.length with h|h
   ·exact h
   ·rw[List.getElem?_eq_none h]at hv;cases hv
  have g:=rO t L.length 0 i hi
  rw[e,hv,Nat.zero_add]at g
  exact(Option.some.inj g).symm
 ·cases h
theorem mL {β β':Mp} {W:World} {t:T Value} {n ty op:Nat} {R:List Value} {m:Bm} (hn:R.length=n) (h:fM β W (.cells t n ty op 0 0) m) (hr:∀ i v,R[i]?=some v->bQ v=true/\∀ v',ai β (t.get i) v'->ai β' v v'):fM β' W (aG R ty op) m:=by
 subst hn
 obtain⟨t2,e,ht⟩:=bW R ty op
 rw[e]
 obtain⟨o,ho,cs,fr,g1,g2,g3,g4,g5,g6,g7⟩:=h
 refine⟨o,ho,cs,fr,g1,g2,g3,g4,g5,λi hi=>?_,g7⟩
 have hv:R[i]?=some R[i]:=List.getElem?_eq_getElem hi
 obtain⟨q1,v',q2,q3⟩:=g6 i hi
 obtain⟨r1,r2⟩:=hr i _ hv
 rw[ht i _ hv]
 exact⟨r1,v',q2,r2 v' q3⟩
noncomputable def hpQ (nx o vb tt opv opt:Nat) (xs:Nat->Int):Hp:=.fn (λc=>Bc (Nat.beq c 2) (aG KT 214 0) (Bc (Nat.beq c o) (aG [vS [],.int .i64 0] 222 0) (Bc (Nat.beq c vb) (aG (kV xs) 32 opv) (Bc (Nat.beq c tt) (aG kX 26 opt) .no)))) nx
section
variable {nx o vb tt opv opt:Nat} {xs:Nat->Int}
theorem sK {c:Nat} (h:c<nx):(hpQ nx o vb tt opv opt xs).blk c=Bc (Nat.beq c 2) (aG KT 214 0) (Bc (Nat.beq c o) (aG [vS [],.int .i64 0] 222 0) (Bc (Nat.beq c vb) (aG (kV xs) 32 opv) (Bc (Nat.beq c tt) (aG kX 26 opt) .no))):=by
 unfold hpQ
 show Bc (Nat.blt c nx) _ _=_
 rw[(an _ _).2 h];rfl
theorem ahg (h:2<nx):(hpQ nx o vb tt opv opt xs).blk 2=aG KT 214 0:=by rw[sK h];rfl
theorem zN {a b:Nat} (h:a≠b):Nat.beq a b=false:=by rw[<-Bool.not_eq_true,beq_iff];exact h
theorem ab7 (a:Nat):Nat.beq a a=true:=(beq_iff _ _).2 rfl
theorem ahf (h:o<nx) (h2:o≠2):(hpQ nx o vb tt opv opt xs).blk o=aG [vS [],.int .i64 0] 222 0:=by rw[sK h,zN h2,ab7];rfl
theorem ahd (h:vb<nx) (h2:vb≠2) (h3:vb≠o):(hpQ nx o vb tt opv opt xs).blk vb=aG (kV xs) 32 opv:=by rw[sK h,zN h2,zN h3,ab7];rfl
theorem ahe (h:tt<nx) (h2:tt≠2) (h3:tt≠o) (h4:tt≠vb):(hpQ nx o vb tt opv opt xs).blk tt=aG kX 26 opt:=by rw[sK h,zN h2,zN h3,zN h4,ab7];rfl
theorem ad' {c:Nat} (h:@alive (hpQ nx o vb tt opv opt xs) c):c<nx/\(c=2\/c=o\/c=vb\/c=tt):=by
 have hc:c<nx:=h.1
 refine⟨hc,?_⟩
 have h2:=h.2
 rw[sK hc]at h2
 by_cases e1:c=2
 ·exact .inl e1
 by_cases e2:c=o
 ·exact .inr (.inl e2)
 by_cases e3:c=vb
 ·exact .inr (.inr (.inl e3))
 by_cases e4:c=tt
 ·exact .inr (.inr (.inr e4))
 rw[zN e1,zN e2,zN e3,zN e4]at h2
 exact absurd rfl h2
end
theorem s9 {H:Hp} {b ty op:Nat} {L:List Value} (h:H.blk b=aG L ty op):Row H b ty op L:=by
 obtain⟨t,e,ht⟩:=bW L ty op
 exact⟨t,h.trans e,ht⟩
end Go.Proofs.CA
end
