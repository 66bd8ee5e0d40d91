/-
 A part of the reckoner for the statements of a Go program: what it answers,the model answers. Holds for every program whose tables are as given.
-/
import Derived.Below
import Derived.CheckFast
import Derived.Laws.Externs
import Derived.Lib.MakeNoZero
import Derived.Test.YtdmcanlbncbemaaGreatDoorG00
import Derived.Test.YtdmcanlbncbemaaGreatDoorG06
set_option linter.unusedSimpArgs false
set_option linter.unusedVariables false
set_option linter.unusedSectionVars false
set_option maxRecDepth 100000
set_option maxHeartbeats 8000000
noncomputable section
namespace Go.Ev
variable [dj]
section
theorem jX {need bytes:Nat} (h1:(2*need+768)*bytes<=140737488355328) (h2:need<=140737488355328):gq need bytes=true:=by
 unfold gq
 rw[(aE _ _).2 h1,(aE _ _).2 h2];rfl
theorem kL {H:Hp} {b ty op:Nat} {L:List Value} (h:Row H b ty op L):qU H b 0 L.length=some L:=by
 rw[rM h (by omega)];simp
theorem jf {H:Hp} {b ty op o n sz c:Nat} {L:List Value} (h:Row H b ty op L) (hle:o+n*sz<=L.length):eI H sz n (.slice (some ⟨b,o,none⟩) n c)=some ((L.drop o).take (n*sz),bit b):=by
 unfold eI
 simp only[rM h hle]
theorem pL {H:Hp} (hr:H.room=true) {ty sz by_ n r:Nat} {x:Value} {new:List Value} (hl:CM x=some n) (hn:0<n) (hc:eI H sz n x=some (new,r)) (hb:gq n by_=true) :
 iQ ty sz by_ (.slice none 0 0) x H=.val (.slice (some ⟨H.nx,0,none⟩) n (2*n+1)) (H.push (aG new ty (sz+1))) r 0:=by
 unfold iQ
 simp only[hl,hc,qR,Nat.zero_add]
 have h1:Nat.ble n 0=false:=by rw[BD];exact hn
 rw[h1,au,hb,aj]
 show Bc (Nat.beq 0 0) _ _=_
 rw[show Nat.beq 0 0=true from rfl,aj,e_ hr]
 rfl
theorem JB {H:Hp} (hr:H.room=true) {ty sz by_ n m r b:Nat} {L:List Value} {x:Value} {new:List Value} (h:Row H b ty 0 L) (hL:L.length=m*sz) (hl:CM x=some n) (hn:0<n) (hc:eI H sz n x=some (new,r)) (hb:gq (m+n) by_=true) :
 iQ ty sz by_ (.slice (some ⟨b,0,none⟩) m (2*m)) x H=.val (.slice (some ⟨H.nx,0,none⟩) (m+n) (2*(m+n)+1)) (H.push (aG (L++new) ty (sz+1))) (Nat.lor r (bit b)) 0:=by
 unfold iQ
 simp only[hl,hc,BF]
 have h1:Nat.ble (m+n) m=false:=by rw[BD];omega
 rw[h1,au,hb,aj,<-hL,kL h]
 simp only[]
 rw[au,e_ hr]
 rfl
theorem uP (o k:Nat):iu o k 0 0=true:=by
 unfold iu
 rw[show Nat.ble 0 0=true from rfl];rfl
theorem qJ {H:Hp} (hr:H.room=true) {ty sz by_ n m r b:Nat} {L:List Value} {x:Value} {new:List Value} (h:Row H b ty (sz+1) L) (hL:L.length=m*sz) (hl:CM x=some n) (hn:0<n) (hc:eI H sz n x=some (new,r)) (hb:gq (m+n) by_=true) :
 iQ ty sz by_ (.slice (some ⟨b,0,none⟩) m (2*m+1)) x H=.val (.slice (some ⟨H.nx,0,none⟩) (m+n) (2*(m+n)+1)) ((H.put b .no).push (aG (L++new) ty (sz+1))) r (bit b):=by
 obtain⟨t,h1,h2⟩:=h
 have hrow:Row H b ty (sz+1) L:=⟨t,h1,h2⟩
 unfold iQ
 simp only[hl,hc,BG]
 have h3:Nat.ble (m+n) m=false:=by rw[BD];omega
 rw[h3,au,hb,aj,<-hL,kL hrow]
 simp only[h1]
 rw[aj]
 have u6:(Nat.beq (sz+1) (Nat.succ sz)&&Nat.beq (0+L.length) L.length&&Nat.beq ty ty&&(Nat.ble 0 0||Nat.ble 0 0)&&iu (0+L.length) (n*sz) 0 0)=true:=by
  rw[uP,(beq_iff (sz+1) (Nat.succ sz)).2 rfl,(beq_iff (0+L.length) L.length).2 (by omega),(beq_iff ty ty).2 rfl];rfl
 rw[u6,aj,e_ (by rw[fS];exact hr),cW]
 have hfr:frB (Nat.blt 0 0) (0-0) (0-0) (aG (L++new) ty (Nat.succ sz))=aG (L++new) ty (sz+1):=by
  obtain⟨t2,e2,_⟩:=bW (L++new) ty (sz+1)
  show frB (Nat.blt 0 0) (0-0) (0-0) (aG (L++new) ty (sz+1))=_
  rw[e2];rfl
 rw[hfr]
 rfl
end
end Go.Ev
end
noncomputable section
namespace Go.Ev
variable [dj]
section
variable (tb:Tb) (sp:Nat->List Value->Hp->Option (Value×Hp×Nat×Nat)) (e:Env)
def QO (d:Nat) (H:Hp) (K:T Value->Prop):List CO->T Value->Prop
 | [],t=>K t
 |o::cos,t=>(match dn t o.guard with
  |true=>(match run o.op t H with
   |.val v H' r w=>H'=H/\w=0/\e.ok r 0 H/\QO d H K cos (eF d t o.dst v)
   |_=>False)
  |false=>QO d H K cos (eF d t o.dst U))
mutual
def aR (d:Nat) (K:T Value->Hp->Prop):List CO->T Value->Hp->Prop
 | [],t,H=>K t H
 |o::cos,t,H=>(match dn t o.guard with
  |true=>(match run o.op t H with
   |.val v H1 r w=>e.ok r w H1/\H.nx<=H1.nx/\aR d K cos (eF d t o.dst v) H1
   |.call f args=>EC tb sp e f args H (fC d K cos t o.dst)
   |_=>False)
  |false=>aR d K cos (eF d t o.dst U) H)
def fC (d:Nat) (K:T Value->Hp->Prop) (cos:List CO) (t:T Value) (dst:Option Tmp):Value->Hp->Prop:=λv H1=>aR d K cos (eF d t dst v) H1
end
end
section
variable {tb:Tb} {sp:Nat->List Value->Hp->Option (Value×Hp×Nat×Nat)} {e:Env}
theorem WO.adv {cx:Cx} {K:T Value->Hp->Prop} {ds:List Deferred}:∀ {cos:List CO} {t:T Value} {H:Hp},aR tb sp e cx.d K cos t H->WO tb sp e cx cos t ds H (λt' ds' H'=>ds'=ds/\K t' H'):=by
 intro cos
 induction cos with
 |nil=>intro t H h;rw[aR]at h;exact WO.nil ⟨rfl,h⟩
 |cons o cos ih =>
  intro t H h
  rw[aR]at h
  cases hg:dn t o.guard with
  |true =>
   rw[hg]at h
   refine WO.cons hg ?_
   revert h
   cases run o.op t H with
   |val v H1 r w=>exact λh=>⟨h.1,h.2.1,ih h.2.2⟩
   |call f args=>exact λh=>EC.mono h λv H1 _ hk=>ih (by rw[fC]at hk;exact hk)
   |_=>exact λh=>h.elim
  |false =>
   rw[hg]at h
   exact WO.skip hg (ih h)
theorem XO {d:Nat} {H:Hp} {K:T Value->Prop}:∀ {cos:List CO} {t:T Value},QO e d H K cos t ->
 ∃ t' r,(∀ (rec:Rec) (cx:Cx) i ds acc r0 w0,cx.d=d->(∀ x∈acc,x.2.2=0)->∃ acc',(∀ x∈acc',x.2.2=0)/\aY rec cx cos i t ds H acc r0 w0=.mk .normal t' ds H acc' (Nat.lor r0 r) (Nat.lor w0 0))/\e.ok r 0 H/\K t':=by
 intro cos
 induction cos with
 |nil=>intro t h;exact⟨t,0,λrec cx i ds acc r0 w0 _ ha=>⟨acc,ha,by rw[aF,aF];rfl⟩,.zero e H,h⟩
 |cons o cos ih =>
  intro t h
  rw[QO]at h
  cases hg:dn t o.guard with
  |true =>
   rw[hg]at h
   simp only[]at h
   cases hr:run o.op t H with
   |val v H1 r w =>
    rw[hr]at h
    obtain⟨rfl,rfl,h1,h2⟩:=h
    obtain⟨t',r2,h3,h4,h5⟩:=ih h2
    refine⟨t',Nat.lor r r2,λrec cx i ds acc r0 w0 hd ha=>?_,by have:=h1.lor h4 (Nat.le_refl _);rwa [aF]at this,h5⟩
    obtain⟨acc',h6,h7⟩:=h3 rec cx (Nat.succ i) ds ((i,r,Nat.lor 0 (lP H1 H1))::acc) (Nat.lor r0 r) (Nat.lor w0 0) hd (λx hx=>by
     rcases List.mem_cons.1 hx with rfl|hx
     ·show Nat.lor 0 (lP H1 H1)=0
      rw[EE rfl];rfl
     ·exact ha x hx)
    refine⟨acc',h6,?_⟩
    subst hd
    simp only[aY,hg,aj,hr,cY]
    rw[h7,aU,aU,aF 0]
   |_=>rw[hr]at h;exact h.elim
  |false =>
   rw[hg]at h
   obtain⟨t',r2,h3,h4,h5⟩:=ih h
   refine⟨t',r2,λrec cx i ds acc r0 w0 hd ha=>?_,h4,h5⟩
   obtain⟨acc',h6,h7⟩:=h3 rec cx (Nat.succ i) ds acc r0 w0 hd ha
   refine⟨acc',h6,?_⟩
   subst hd
   simp only[aY,hg,au]
   exact h7
variable {cx:Cx} {t:T Value} {ds:List Deferred} {H:Hp} {K:Ex->T Value->List Deferred->Hp->Prop}
theorem WK.agq {cos:List CO} (h:QO e cx.d H (λt'=>K .normal t' ds H) cos t):WK tb sp e cx (.bp cos) t ds H K:=by
 obtain⟨t',r,h1,h2,h3⟩:=XO h
 intro c hc
 obtain⟨id,ops,rfl,UM⟩:=A4 hc
 obtain⟨acc',_,h5⟩:=h1 (ev tb sp 0) cx 0 ds [] 0 0 rfl (λx hx=>by cases hx)
 refine⟨0,.normal,t',ds,H,r,0,?_,h2,Nat.le_refl _,h3⟩
 simp only[cj,UM,h5,Tl,aK]
theorem WK.av {cos:List CO} (h:aR tb sp e cx.d (λt' H'=>K .normal t' ds H') cos t H):WK tb sp e cx (.bp cos) t ds H K :=
 WK.bp ((WO.adv h).mono λt' ds' H' _ hk=>by obtain⟨rfl,hk⟩:=hk;exact hk)
theorem dD:e.ok 0 0 H↔True:=by simp[Env.ok.zero]
theorem bf (t:T Value):dn t none=true:=rfl
def tE (v:Value) (w:Bool):Bool:=match zC v with|some b=>Bc b w (!w)|none=>false
theorem bu (t:T Value) (i:Nat) (w:Bool):dn t (some (i,w))=tE (t.get i) w:=rfl
theorem ck (w:Bool):tE U w=false:=rfl
theorem bI:tE (.bool true) true=true:=rfl
theorem bJ:tE (.bool true) false=false:=rfl
theorem bK:tE (.bool false) true=false:=rfl
theorem bL:tE (.bool false) false=true:=rfl
theorem cF (x y:Value) (H:Hp):qH (.bool true) x y H=.val x H 0 0:=rfl
theorem cG (x y:Value) (H:Hp):qH (.bool false) x y H=.val y H 0 0:=rfl
end
end Go.Ev
end
noncomputable section
namespace Go.Ev.F
variable [tf]
inductive RF where
 |pv (v:Value)
 |r (x:R)
structure MS where
 acc:Acc
 r:Nat
 w:Nat
abbrev RK:=Task->Hp->Nat->Nat->(TR->TR)->TR
structure OX where
 re:RK
 cx:Cx
 K:OR->TR
abbrev kA:=OX->Nat->T Value->List Deferred->Hp->MS->TR
abbrev SK:=CO->kA->kA
abbrev CK:=Tb->RK->Cx->T Value->List Deferred->Hp->Nat->Nat->(CR->TR)->TR
def gu:Operand->T Value->Value:=@Operand.rec (λ_=>T Value->Value) (λi t=>T.get t i) (λv _=>v) (λg _=>.pointer (some ⟨g,0,none⟩)) (λf _=>.func (.func f) #[] #[])
def evL (l:List Operand) (t:T Value):List Value:=@List.rec Operand (λ_=>List Value) [] (λx _ ih=>gu x t::ih) l
def pvO:Option Value->RF:=@Option.rec Value (λ_=>RF) (.r .fail) (λv=>.pv v)
def ami (x:Operand) (t:T Value) (H:Hp):RF:=.pv (gu x t)
def agJ (b:Bool) (x y:Value):RF:=@Bool.rec (λ_=>Value->Value->RF) (λ_ y=>.pv y) (λx _=>.pv x) b x y
def SS:Value->Value->Value->RF:=@Value.rec (λ_=>Value->Value->RF) (λ_=>PUnit) (λ_=>PUnit) agJ (λ_ _=>λ_ _=>.r .fail) (λ_ _=>λ_ _=>.r .fail) (λ_ _ _=>λ_ _=>.r .fail) (λ_=>λ_ _=>.r .fail) (λ_=>λ_ _=>.r .fail) (λ_ _ _=>λ_ _=>.r .fail) (λ_=>λ_ _=>.r .fail) (λ_=>λ_ _=>.r .fail) (λ_ _ _ _ _=>λ_ _=>.r .fail) (λ_ _=>.r .fail) (λ_ _ _=>λ_ _=>.r .fail) (λ_ _=>.r .fail) (λ_ _=>λ_ _=>.r .fail) (λ_ _=>λ_ _=>.r .fail) (λ_ _=>⟨⟩) ⟨⟩ (λ_ _ _ _=>⟨⟩)
def ada (c a b:Operand) (t:T Value) (H:Hp):RF:=SS (gu c t) (gu a t) (gu b t)
def YL (z:List Value) (ps:List (Nat×Nat×Operand)) (t:T Value) (H:Hp):RF:=@Option.rec (List Value) (λ_=>RF) (.r .fail) (λl=>.pv (.agg ⟨l⟩)) (bH t z ps)
def agG (op:BinOp) (x y:Operand) (t:T Value) (H:Hp):RF:=pvO (dK op (gu x t) (gu y t))
def amk (neg:Bool) (p:Ah) (x y:Operand) (t:T Value) (H:Hp):RF:=@Option.rec Bool (λ_=>Bool->RF) (λ_=>.r .fail) (λb neg=>.pv (.bool (Bc neg (!b) b))) (orE (V2 p (gu x t) (gu y t)) p (gu x t) (gu y t)) neg
def ame (op:UnOp) (x:Operand) (t:T Value) (H:Hp):RF:=.r (Jy op (gu x t) H)
def akk (n:Int) (k:IntKind):RF:=.pv (.int k (aN k n))
def WA:Value->IntKind->RF:=@Value.rec (λ_=>IntKind->RF) (λ_=>PUnit) (λ_=>PUnit) (λ_=>λ_=>.r .fail) (λ_ n k=>akk n k) (λ_ _=>λ_=>.r .fail) (λ_ _ _=>λ_=>.r .fail) (λ_=>λ_=>.r .fail) (λ_=>λ_=>.r .fail) (λ_ _ _=>λ_=>.r .fail) (λ_=>λ_=>.r .fail) (λc k=>pvO (tf.hk (.jM k) [.chan c])) (λ_ _ _ _ _=>λ_=>.r .fail) (λ_=>.r .fail) (λ_ _ _=>λ_=>.r .fail) (λ_=>.r .fail) (λ_ _=>λ_=>.r .fail) (λ_ _=>λ_=>.r .fail) (λ_ _=>⟨⟩) ⟨⟩ (λ_ _ _ _=>⟨⟩)
def adg (k:IntKind) (x:Operand) (t:T Value) (H:Hp):RF:=WA (gu x t) k
def faA:Option Addr->Nat->RF:=@Option.rec Addr (λ_=>Nat->RF) (λ_=>.r .fail) (λa off=>@Option.rec Nat (λ_=>Nat->Nat->Nat->RF) (λb o off=>.pv (.pointer (some ⟨b,Nat.add o off,none⟩))) (λ_ _ _ _=>.r .fail) a.spot a.block a.off off)
def faV:Value->Nat->RF:=@Value.rec (λ_=>Nat->RF) (λ_=>PUnit) (λ_=>PUnit) (λ_=>λ_=>.r .fail) (λ_ _=>λ_=>.r .fail) (λ_ _=>λ_=>.r .fail) (λ_ _ _=>λ_=>.r .fail) (λ_=>λ_=>.r .fail) faA (λ_ _ _=>λ_=>.r .fail) (λ_=>λ_=>.r .fail) (λ_=>λ_=>.r .fail) (λ_ _ _ _ _=>λ_=>.r .fail) (λ_=>.r .fail) (λ_ _ _=>λ_=>.r .fail) (λ_=>.r .fail) (λ_ _=>λ_=>.r .fail) (λ_ _=>λ_=>.r .fail) (λ_ _=>⟨⟩) ⟨⟩ (λ_ _ _ _=>⟨⟩)
def amj (off:Nat) (x:Operand) (t:T Value) (H:Hp):RF:=faV (gu x t) off
def agD (agg:Bool) (sz off:Nat) (x:Operand) (t:T Value) (H:Hp):RF:=.r (nO agg sz off (gu x t) H)
def agC (n sz:Nat) (x i:Operand) (t:T Value) (H:Hp):RF:=.r (nM n sz (gu x t) (gu i t) H)
def agB (sz:Nat) (x i:Operand) (t:T Value) (H:Hp):RF:=.r (eT sz (gu x t) (gu i t) H)
def agA (agg:Bool) (n sz:Nat) (x i:Operand) (t:T Value) (H:Hp):RF:=.r (Bp agg n sz (gu x t) (gu i t) H)
def agz (x i:Operand) (t:T Value) (H:Hp):RF:=.r (kS (gu x t) (gu i t) H)
def agE (x:Operand) (i:Nat) (t:T Value) (H:Hp):RF:=.r (qi (gu x t) i H)
def agv (ty:Nat) (x:Operand) (t:T Value) (H:Hp):RF:=.pv (.iface ty (gu x t))
def ldB:dB->Nat->Nat->Hp->RF:=@dB.rec (λ_=>Nat->Nat->Hp->RF) (λ_ _ _=>.r .fail) (λt n _ _ _ _ b o H=>Bc (Nat.blt o n) (.r (.val (T.get t o) H (bit b) 0)) (.r .fail)) (λ_ _ _ _=>.r .fail) (λ_ _ _ _ _ _ _ _ _ _ _=>.r .fail)
def ldA:Option Addr->Hp->RF:=@Option.rec Addr (λ_=>Hp->RF) (λ_=>.r .fail) (λa H=>@Option.rec Nat (λ_=>Nat->Nat->Hp->RF) (λb o H=>ldB (H.blk b) b o H) (λ_ _ _ _=>.r .fail) a.spot a.block a.off H)
def ldV:Value->Hp->RF:=@Value.rec (λ_=>Hp->RF) (λ_=>PUnit) (λ_=>PUnit) (λ_=>λ_=>.r .fail) (λ_ _=>λ_=>.r .fail) (λ_ _=>λ_=>.r .fail) (λ_ _ _=>λ_=>.r .fail) (λ_=>λ_=>.r .fail) ldA (λ_ _ _=>λ_=>.r .fail) (λ_=>λ_=>.r .fail) (λ_=>λ_=>.r .fail) (λ_ _ _ _ _=>λ_=>.r .fail) (λ_=>.r .fail) (λ_ _ _=>λ_=>.r .fail) (λ_=>.r .fail) (λ_ _=>λ_=>.r .fail) (λ_ _=>λ_=>.r .fail) (λ_ _=>⟨⟩) ⟨⟩ (λ_ _ _ _=>⟨⟩)
def agy (a:Operand) (t:T Value) (H:Hp):RF:=ldV (gu a t) H
def agx (n:Nat) (a:Operand) (t:T Value) (H:Hp):RF:=.r (ia n (gu a t) H)
def amf (n:Nat) (a x:Operand) (t:T Value) (H:Hp):RF:=.r (i_ n (gu a t) (gu x t) H)
def YM (z:dB) (t:T Value) (H:Hp):RF:=.r (aS z H ptrTo 0 0)
def agF (ty:Nat) (x:Operand) (t:T Value) (H:Hp):RF:=.r (bD (gX (gu x t)) λl=>aS (aG l ty 0) H ptrTo 0 0)
def adf (f:Operand) (args:List Operand) (t:T Value) (H:Hp):RF:=.r (oX (gu f t) (evL args t))
def agw (k:Nat) (x:Operand) (t:T Value) (H:Hp):RF:=.r (fY k (gu x t) H)
def adb (x:Operand) (t:T Value) (H:Hp):RF:=.r (mF (gu x t) H)
def bU (o:Xl) (t:T Value) (H:Hp):RF:=.r (Go.Ev.run o t H)
def YD:Xl->T Value->Hp->RF :=
 @Xl.rec (λ_=>T Value->Hp->RF)
  (bU .bad) ami ada YM agF YL (λa b c d=>bU (.eX a b c d)) agy agx amf adb agG amk ame adg
  (λx=>bU (.aaJ x)) (λa b=>bU (.aaG a b)) (λa=>bU (.Qn a)) (λa=>bU (.cSS a)) (λa=>bU (.Rx a)) (λa b=>bU (.frU a b)) (λa=>bU (.usd a)) (λa b c=>bU (.Rl a b c)) agv (λa b c=>bU (.mkF a b c)) (bU .Fk) (λa b c d e=>bU (.O1 a b c d e))
  (λa b c=>bU (.slS a b c)) (λa b c d e=>bU (.slL a b c d e)) (λa b c d e f=>bU (.Ov a b c d e f))
  amj agD agC agB agA agz (λa b c d e=>bU (.lkp a b c d e)) (λa b c d=>bU (.mup a b c d)) (λa=>bU (.YF a)) (λa=>bU (.YH a)) (λa=>bU (.Zf a)) (λa=>bU (.Zh a)) (λa b c d=>bU (.tas a b c d)) agE agw
  (λa=>bU (.ZL a)) (λa=>bU (.cap a)) (λa b c d e=>bU (.app a b c d e)) (λa b c=>bU (.copy a b c)) (λa b=>bU (.clear a b)) (λa b=>bU (.min a b)) (λa b=>bU (.max a b)) (λa b c=>bU (.Zy a b c)) (λa b c=>bU (.ZC a b c)) (λa b c=>bU (.del a b c))
  adf (λa b c=>bU (.inv a b c)) (λa b=>bU (.defer a b)) (bU .recover) (λa=>bU (.panic a))
def Cc:Option Tmp->Nat->T Value->Value->T Value:=@Option.rec Tmp (λ_=>Nat->T Value->Value->T Value) (λ_ t _=>t) (λi d t v=>T.set d t i v)
def anM (v:Value) (o:CO) (ih:kA):kA:=λe i t ds H m=>ih e (Nat.succ i) (Cc o.dst e.cx.d t v) ds H m
def goM (m:MS) (r w:Nat) (ih:MS->TR):TR:=Fz r (Fz w (ih m))
def onVal (v:Value) (H':Hp) (r' w':Nat) (o:CO) (ih:kA):kA:=λe i t ds H m =>
 goM ⟨(i,r',Nat.lor w' (lP H H'))::m.acc,Nat.lor m.r r',Nat.lor m.w w'⟩ (Nat.lor m.r r') (Nat.lor m.w w') (ih e (Nat.succ i) (Cc o.dst e.cx.d t v) ds H')
def fX:kA:=λe _ _ _ _ _=>e.K .fail
def AI (H':Hp) (v:Value) (r' w':Nat):kA:=λe i t ds H m=>e.K (.mk (.panic v) t ds H' ((i,0,0)::m.acc) (Nat.lor m.r r') (Nat.lor m.w w'))
def aks:KR->SK:=@KR.rec (λ_=>SK) (λ_ _ _=>fX) onVal (λv H' r' w' _ _=>AI H' v r' w') (λ_ _ _ _ _ _=>fX) (λ_ _ _ _ _ _=>fX)
def td:TR->SK:=@TR.rec (λ_=>SK) aks (λ_ _ _=>fX)
def afQ:KR->SK:=@KR.rec (λ_=>SK) (λ_ _ _=>fX) onVal (λv H' r' w' _ _=>fX) (λ_ _ _ _ _ _=>fX) (λ_ _ _ _ _ _=>fX)
def nK:TR->SK:=@TR.rec (λ_=>SK) afQ (λ_ _ _=>fX)
def afn (d:Deferred) (o:CO) (ih:kA):kA:=λe i t ds H m =>
 match e.cx.eL,e.cx.drw with
 |none,false=>ih e (Nat.succ i) (Cc o.dst e.cx.d t U) (d::ds) H m
 |_,_=>e.K .fail
def Y8:R->SK:=@R.rec (λ_=>SK)
 (λ_ _=>fX)
 onVal
 (λf args o ih e i t ds H m=>e.re (.call f args) H 0 0 λx=>td x o ih e i t ds H m)
 (λl args o ih e i t ds H m=>e.re (.round l args) H 0 0 λx=>nK x o ih e i t ds H m)
 (λv _ _ e i t ds H m=>AI H v 0 0 e i t ds H m)
 afn
 (λ_ _=>fX)
def Y7:RF->SK:=@RF.rec (λ_=>SK) anM Y8
def aa8:Value->Bool->Bool:=@Value.rec (λ_=>Bool->Bool) (λ_=>PUnit) (λ_=>PUnit) (λb w=>@Bool.rec (λ_=>Bool->Bool) (λw=>!w) (λw=>w) b w) (λ_ _=>λ_=>false) (λ_ _=>λ_=>false) (λ_ _ _=>λ_=>false) (λ_=>λ_=>false) (λ_=>λ_=>false) (λ_ _ _=>λ_=>false) (λ_=>λ_=>false) (λ_=>λ_=>false) (λ_ _ _ _ _=>λ_=>false) (λ_=>false) (λ_ _ _=>λ_=>false) (λ_=>false) (λ_ _=>λ_=>false) (λ_ _=>λ_=>false) (λ_ _=>⟨⟩) ⟨⟩ (λ_ _ _ _=>⟨⟩)
def Rg (p:Tmp×Bool) (t:T Value):Bool:=aa8 (T.get t p.1) p.2
def HL (o:CO) (ih:kA):kA:=λe i t ds H m=>ih e (Nat.succ i) (Cc o.dst e.cx.d t U) ds H m
def V_ (o:CO) (ih:kA):kA:=λe i t ds H m=>Y7 (YD o.op t H) o ih e i t ds H m
def abb:Bool->SK:=@Bool.rec (λ_=>SK) HL V_
def agM:kA:=λe _ t ds H m=>e.K (.mk .normal t ds H m.acc m.r m.w)
def opG (g:Option (Tmp×Bool)):SK:=@Option.rec (Tmp×Bool) (λ_=>SK) V_ (λp o ih e i t ds H m=>abb (Rg p t) o ih e i t ds H m) g
def adp (o:CO) (_:List CO) (ih:kA):kA:=opG o.guard o ih
def rU:List CO->kA:=@List.rec CO (λ_=>kA) agM adp
def pN (tb:Tb) (nt:Nat) (ops:Array Oper) (l:List Oper):List CO:=@List.rec Oper (λ_=>List CO) [] (λo _ ih=>mK tb nt ops o::ih) l
def Np:OR->(CR->TR)->TR:=@OR.rec (λ_=>(CR->TR)->TR) (λK=>K .fail) (λx t ds H _ r w K=>K (.mk x t ds H r w))
def xU (b rj wj:Nat) (l:Acc):Bool:=@List.rec (Nat×Nat×Nat) (λ_=>Bool) true (λx _ ih=>Bc (Nat.testBit b x.1) ih (Bc (Nat.beq (Nat.land x.2.2 (Nat.lor rj wj)) 0) (Bc (Nat.beq (Nat.land wj x.2.1) 0) ih false) false)) l
def bT (l:List Nat):T Nat:=@List.rec Nat (λ_=>Nat->T Nat->T Nat) (λ_ t=>t) (λb _ ih i t=>ih (Nat.succ i) (T.set 3 t i b)) l 0 (T.e 0)
def Ck (B:T Nat) (l:Acc):Bool:=@List.rec (Nat×Nat×Nat) (λ_=>Bool) true (λx l ih=>Bc (xU (Bc (Nat.blt x.1 512) (T.get B x.1) 0) x.2.1 x.2.2 l) ih false) l
def iP (l:Acc):Acc:=@List.rec (Nat×Nat×Nat) (λ_=>Acc) [] (λx _ ih=>Bc (Nat.beq (Nat.lor x.2.1 x.2.2) 0) ih (x::ih)) l
def HZ (B:T Nat) (l:Acc) (x:CR):CR:=Bc (Ck B (iP l)) x .fail
def DB (tb:Tb) (nt d:Nat) (ops:Array Oper):OR->CR:=@OR.rec (λ_=>CR) .fail (λx t ds H acc r w=>match x with
 |.normal=>Bc (Nat.ble (Go.CheckFast.beforeF ops).toList.length 512) (HZ (bT (Go.CheckFast.beforeF ops).toList) acc (.mk .normal t ds H r w)) (nL tb nt d ops (Go.CheckFast.beforeF ops) (.mk .normal t ds H acc r w))
 |x=>nL tb nt d ops (Go.CheckFast.beforeF ops) (.mk x t ds H acc r w))
def afz:Bool->Array Oper->CK:=@Bool.rec (λ_=>Array Oper->CK)
 (λops tb rec cx t ds H r w K=>rU (pN tb cx.nt ops ops.toList) ⟨rec,cx,λx=>Np x K⟩ 0 t ds H ⟨[],r,w⟩)
 (λops tb rec cx t ds H r w K=>rU (pN tb cx.nt ops ops.toList) ⟨rec,⟨cx.d,cx.nt,cx.eL,true⟩,λx=>K (CR.join r w (DB tb cx.nt cx.d ops x))⟩ 0 t ds H ⟨[],0,0⟩)
def Wx (id:Nat) (ops:Array Oper) (draw:Bool):CK:=afz draw ops
def aol:Ex->CK->CK:=@Ex.rec (λ_=>CK->CK) (λk=>k)
 (λ_ tb rec cx t ds H r w K=>K (.mk .ret t ds H r w))
 (λid _ tb rec cx t ds H r w K=>K (.mk (.exit id) t ds H r w))
 (λid _ tb rec cx t ds H r w K=>K (.mk (.goto id) t ds H r w))
 (λv _ tb rec cx t ds H r w K=>K (.mk (.panic v) t ds H r w))
def DD:CR->CK->Tb->RK->Cx->(CR->TR)->TR:=@CR.rec (λ_=>CK->Tb->RK->Cx->(CR->TR)->TR) (λ_ _ _ _ K=>K .fail) (λx t ds H r w k tb rec cx K=>aol x k tb rec cx t ds H r w K)
def akj (a b:Code) (iha ihb:CK):CK:=λtb rec cx t ds H r w K=>iha tb rec cx t ds H r w λx=>DD x ihb tb rec cx K
def gH:CK:=λtb rec cx t ds H r w K=>K .fail
def Wm:Bool->CK->CK->CK:=@Bool.rec (λ_=>CK->CK->CK) (λ_ b=>b) (λa _=>a)
def abX:Value->CK->CK->CK:=@Value.rec (λ_=>CK->CK->CK) (λ_=>PUnit) (λ_=>PUnit) Wm (λ_ _=>λ_ _=>gH) (λ_ _=>λ_ _=>gH) (λ_ _ _=>λ_ _=>gH) (λ_=>λ_ _=>gH) (λ_=>λ_ _=>gH) (λ_ _ _=>λ_ _=>gH) (λ_=>λ_ _=>gH) (λ_=>λ_ _=>gH) (λ_ _ _ _ _=>λ_ _=>gH) (λ_ _=>gH) (λ_ _ _=>λ_ _=>gH) (λ_ _=>gH) (λ_ _=>λ_ _=>gH) (λ_ _=>λ_ _=>gH) (λ_ _=>⟨⟩) ⟨⟩ (λ_ _ _ _=>⟨⟩)
def afA (c:Operand) (a b:Code) (iha ihb:CK):CK:=λtb rec cx t ds H r w K=>Bc (qw tb cx.nt c) (abX (gu c t) iha ihb tb rec cx t ds H r w K) (K .fail)
def agL:Ex->Nat->T Value->List Deferred->Hp->Nat->Nat->(CR->TR)->TR:=@Ex.rec (λ_=>Nat->T Value->List Deferred->Hp->Nat->Nat->(CR->TR)->TR)
 (λ_ t ds H r w K=>K (.mk .normal t ds H r w)) (λ_ t ds H r w K=>K (.mk .ret t ds H r w))
 (λj id t ds H r w K=>Bc (Nat.beq j id) (K (.mk .normal t ds H r w)) (K (.mk (.exit j) t ds H r w)))
 (λj _ t ds H r w K=>K (.mk (.goto j) t ds H r w)) (λv _ t ds H r w K=>K (.mk (.panic v) t ds H r w))
def YX:CR->Nat->(CR->TR)->TR:=@CR.rec (λ_=>Nat->(CR->TR)->TR) (λ_ K=>K .fail) (λx t ds H r w id K=>agL x id t ds H r w K)
def aaD (id:Nat) (b:Code) (ih:CK):CK:=λtb rec cx t ds H r w K=>ih tb rec cx t ds H r w λx=>YX x id K
def E_:TR->(CR->TR)->TR:=@TR.rec (λ_=>(CR->TR)->TR) (λ_ K=>K .fail) (λy K=>K y)
def J' (b:Code):CK:=λtb rec cx t ds H r w K=>rec (.loop b cx t ds) H r w λx=>E_ x K
def agf (b:Code):CK:=λtb rec cx t ds H r w K=>K (CR.join r w (Au tb b t ds H))
def abk (b:Code) (ih:CK):CK:=λtb rec cx t ds H r w K=>ih tb rec cx t ds H r w λx=>DD x (J' b) tb rec cx K
def y8 (b:Code) (ih:CK):CK:=λtb rec cx=>Wm (tb.hk cx.nt b) (agf b) (abk b ih) tb rec cx
def DI (f:Operand) (ps:Array Tmp) (a b:Code):CK:=λtb rec cx t ds H r w K =>
 match cx.eL with
 |some _=>K .fail
 |none => Bc (qw tb cx.nt f&&ps.toList.all (λp=>Nat.blt p cx.nt))
  (match aS (.obj (.deferred (some []))) H (λi=>.int .i64 (.ofNat i)) 0 0 with
   |.val (.int _ (.ofNat db)) H1 _ _=>(match aS (.loop true none cx.nt t ps.toList a b db) H1 (λi=>.int .i64 (.ofNat i)) 0 0 with
    |.val (.int _ (.ofNat l)) H2 _ _=>(match oX (aA t f) [.func (.yield l) #[] #[]]with
     |.call g args=>Bc (kQ tb g) (rec (.call g args) H2 0 0 λx=>K (CR.join r w (gZ l t ({ target:=.collected db,args:=#[] }::ds) x))) (K .fail)
     |_=>K .fail)
    |_=>K .fail)
   |_=>K .fail) (K .fail)
def Wy:CK:=λtb rec cx t ds H r w K=>K (.mk .normal t ds H r w)
def js:Code->CK:=@Code.rec (λ_=>CK) Wy Wx akj afA aaD y8 (λf ps a b _ _=>DI f ps a b)
 (λid tb rec cx t ds H r w K=>K (.mk (.exit id) t ds H r w)) (λ_ _=>gH) (λ_=>Wy)
 (λid tb rec cx t ds H r w K=>K (.mk (.goto id) t ds H r w)) (λtb rec cx t ds H r w K=>K (.mk .ret t ds H r w)) (λ_=>gH)
def jq:Code->Bool:=@Code.rec (λ_=>Bool) true (λ_ ops d=>@Bool.rec (λ_=>Bool) true (ew ops (Region.before ops)) d) (λ_ _ a b=>Bc a b false) (λ_ _ _ a b=>Bc a b false) (λ_ _ a=>a) (λ_ a=>a) (λ_ _ _ _ a b=>Bc a b false) (λ_=>true) (λ_ _=>true) (λ_=>true) (λ_=>true) true (λ_=>true)
abbrev UK:=Func->Tb->RK->T Value->List Deferred->Hp->Nat->Nat->(TR->TR)->TR
def acf (m:FrameMode):UK:=λfn tb rec t ds H r w K=>rec (.unwind fn.ntmps fn.results.toList t ds m) H r w K
def afY:UK:=λfn tb rec t ds H r w K=>K (.k (.fail 2))
def afF:Ex->UK:=@Ex.rec (λ_=>UK) (acf .returning) (acf .returning) (λ_=>afY) (λ_=>afY) (λv=>acf (.panicking [{ v,recovered:=false }]))
def WX:CR->Func->Tb->RK->(TR->TR)->TR:=@CR.rec (λ_=>Func->Tb->RK->(TR->TR)->TR) (λ_ _ _ K=>K (.k (.fail 1))) (λx t ds H r w fn tb rec K=>afF x fn tb rec t ds H r w K)
abbrev FK:=Tb->RK->List Value->Hp->Nat->Nat->(TR->TR)->TR
def Ww (c:Code) (fn:Func):FK:=λtb rec args H r w K =>
 Bc (Nat.ble args.length fn.ntmps) (js c tb rec ⟨dep fn.ntmps,fn.ntmps,none,false⟩ (gW fn args) [] H r w λx=>WX x fn tb rec K) (K (.k (.fail 14)))
def abZ:Option Code->Func->FK:=@Option.rec Code (λ_=>Func->FK) (λ_ _ _ _ _ _ _ K=>K (.k (.fail 4))) Ww
def abY:Option Func->FK:=@Option.rec Func (λ_=>FK) (λ_ _ _ _ _ _ K=>K (.k (.fail 3))) (λfn=>abZ fn.body fn)
def Rm (l:List Value) (H:Hp) (r w:Nat) (K:TR->TR):TR:=Fz r (K (.k (.ret (B6 l) H r w)))
def Rn (m:FrameMode) (x:Option (List Value×Nat)) (H:Hp) (r w:Nat) (K:TR->TR):TR:=match m with
 |.returning=>(match x with
  |some (l,r')=>Rm l H (Nat.lor r r') w K
  |none=>K (.k (.fail 6)))
 |.panicking [{ v,recovered:=false,goexit:=false }]=>K (.k (.panic v H r w))
 |_=>K (.k (.fail 7))
def DV (nt:Nat) (res:List ResultVar) (t:T Value) (ds:List Deferred) (rec:RK) (K:TR->TR) (x:TR):TR:=match x with
 |.k (.drop m H r w)=>(match mW m with
  |.run=>K (.k (.fail 21))
  |m'=>rec (.unwind nt res t ds m') H r w K)
 |.k (.n_ v H r w)=>rec (.unwind nt res t ds (.panicking [{ v,recovered:=false }])) H r w K
 |_=>K (.k (.fail 5))
def BN (nt:Nat) (res:List ResultVar) (t:T Value) (ds:List Deferred) (m:FrameMode) (tb:Tb) (rec:RK) (H:Hp) (r w:Nat) (K:TR->TR):TR:=match ds with
 | []=>Rn m (eg tb nt t H res) H r w K
 |d::ds=>(match d.target with
  |.collected b=>(match H.blk b with
   |.obj (.deferred (some []))=>rec (.unwind nt res t ds m) (H.put b .no) r (Nat.lor w (bit b)) K
   |_=>K (.k (.fail 17)))
  |.fn (.func f) cap=>rec (.mI f (d.args.toList++cap.toList) m) H r w (DV nt res t ds rec K)
  |_=>K (.k (.fail 8)))
abbrev Sp:=Nat->List Value->Hp->Option (Value×Hp×Nat×Nat)
abbrev TK:=Tb->Sp->RK->Hp->Nat->Nat->(TR->TR)->TR
abbrev SPK:=FuncId->FK
def spS (x:Value×Hp×Nat×Nat):SPK:=λ_ _ _ _ _ r w K=>Fz (Nat.lor r x.2.2.1) (Fz (Nat.lor w x.2.2.2) (K (.k (eO x.1 x.2.1 (Nat.lor r x.2.2.1) (Nat.lor w x.2.2.2)))))
def spN:SPK:=λf tb rec args H r w K=>abY (tb.fn f) tb rec args H r w K
def spK:Option (Value×Hp×Nat×Nat)->SPK:=@Option.rec _ (λ_=>SPK) spN spS
def X5 (f:FuncId) (args:List Value) (um:FrameMode):TK:=λtb sp rec H r w K=>K (match sW tb f args um H with
 |.k (.drop m H' r' w')=>.k (.drop m H' (Nat.lor r r') (Nat.lor w w'))
 |.k (.n_ v H' r' w')=>.k (.n_ v H' (Nat.lor r r') (Nat.lor w w'))
 |_=>.k (.fail 22))
def ac3 (l nt:Nat) (b:Code) (tb:Tb) (rec:RK) (K:TR->TR) (x:CR):TR:=match x with
 |.mk .normal t [] H1 r w=>(match H1.blk l with
  |.loop true none nt2 lt2 ps2 a2 b2 db2=>js b tb rec ⟨dep nt,nt,some l,false⟩ t [] (H1.put l (.loop false none nt2 lt2 ps2 a2 b2 db2)) r w λx=>K (endRound l (bit l) (bit l) x)
  |_=>K (.k (.fail 15)))
 |_=>K (.k (.fail 12))
def BS (l:Nat) (args:List Value):TK:=λtb sp rec H r w K=>match H.blk l with
 |.loop true none nt lt ps a b db=>(match rI (dep nt) nt ps args lt with
  |none=>K (.k (.fail 11))
  |some t=>Bc (jq a&&jq b) (js a tb rec ⟨dep nt,nt,some l,false⟩ t [] H r w (ac3 l nt b tb rec K)) (K (.k (.fail 24))))
 |_=>K (.k (.fail 13))
def af':Task->TK:=@Task.rec (λ_=>TK)
 (λf args tb sp rec H r w K=>spK (sp f args H) f tb rec args H r w K)
 X5 BS
 (λb cx t ds tb sp rec H r w K=>y8 b (js b) tb rec cx t ds H r w λx=>K (.c x))
 (λnt res t ds m tb sp rec H r w K=>BN nt res t ds m tb rec H r w K)
def aa_ (tb:Tb) (sp:Sp) (ih:RK):RK:=λtk H r w K=>af' tk tb sp ih H r w K
def evK (tb:Tb) (sp:Sp) (n:Nat):RK :=
 @Nat.rec (λ_=>RK) (λ_ _ _ _ K=>K (.k (.fail 0))) (λ_ ih=>aa_ tb sp ih) n
end Go.Ev.F
end
noncomputable section
namespace Go.Ev.F
variable [dj]
theorem cr (x:Operand) (t:T Value):gu x t=aA t x:=by cases x<;>rfl
theorem VZ (t:T Value):∀ l,evL l t=de t l
 | []=>rfl
 |x::l=>by
  show gu x t::evL l t=aA t x::de t l
  rw[cr,VZ t l]
def eu (H:Hp) (f:RF) (x:R):Prop:=match f with
 |.pv v=>x=.val v H 0 0
 |.r y=>y=.fail\/y=x
theorem KU (H:Hp) (x:Option Value):eu H (pvO x) (R.o x H):=by
 cases x with
 |none=>exact .inl rfl
 |some v=>rfl
theorem ae_ (H:Hp) (off:Nat) (v:Value):eu H (faV v off) (P4 off v H):=by
 cases v with
 |pointer a =>
  cases a with
  |none=>exact .inl rfl
  |some a =>
   obtain⟨b,o,s⟩:=a
   cases s with
   |none=>rfl
   |some s=>exact .inl rfl
 |_=>exact .inl rfl
theorem adR (H:Hp) (v:Value):eu H (ldV v H) (dA v H):=by
 cases v with
 |pointer a =>
  cases a with
  |none=>exact .inl rfl
  |some a =>
   obtain⟨b,o,s⟩:=a
   cases s with
   |some s=>exact .inl rfl
   |none =>
    show eu H (ldB (H.blk b) b o H) (match OG H b o with|some x=>.val x H (bit b) 0|none=>.fail)
    unfold OG
    cases H.blk b with
    |cells t n ty op lo hi =>
     show eu H (Bc (Nat.blt o n) (.r (.val (T.get t o) H (bit b) 0)) (.r .fail)) _
     simp only
     cases Nat.blt o n with
     |true=>exact .inr rfl
     |false=>exact .inl rfl
    |_=>exact .inl rfl
 |_=>exact .inl rfl
theorem SR (H:Hp) (c a b:Value):eu H (SS c a b) (qH c a b H):=by
 cases c with
 |bool x=>cases x<;>rfl
 |_=>exact .inl rfl
theorem Wz (H:Hp) (k:IntKind) (v:Value):eu H (WA v k) (uF k v H):=by
 cases v with
 |int k' n=>rfl
 |chan c=>exact KU H (tf.hk (.jM k) [.chan c])
 |_=>exact .inl rfl
theorem YC (op:Xl) (t:T Value) (H:Hp):eu H (YD op t H) (run op t H):=by
 cases op with
 |mv x=>show eu H (.pv (gu x t)) _;rw[cr];rfl
 |pick c a b=>show eu H (SS (gu c t) (gu a t) (gu b t)) _;rw[cr,cr,cr];exact SR _ _ _ _
 |build z ps =>
  show eu H (@Option.rec (List Value) (λ_=>RF) (.r .fail) (λl=>.pv (.agg ⟨l⟩)) (bH t z ps)) (bD (bH t z ps) λl=>R.v (.agg ⟨l⟩) H)
  cases bH t z ps with
  |none=>exact .inl rfl
  |some l=>rfl
 |bin op x y=>show eu H (pvO (dK op (gu x t) (gu y t))) _;rw[cr,cr];exact KU _ _
 |eq neg p x y =>
  show eu H (@Option.rec Bool (λ_=>Bool->RF) (λ_=>.r .fail) (λb neg=>.pv (.bool (Bc neg (!b) b))) (orE (V2 p (gu x t) (gu y t)) p (gu x t) (gu y t)) neg) (jo neg p (aA t x) (aA t y) H)
  rw[cr,cr]
  unfold jo
  cases orE (V2 p (aA t x) (aA t y)) p (aA t x) (aA t y)with
  |none=>exact .inl rfl
  |some b=>rfl
 |jM k x=>show eu H (WA (gu x t) k) _;rw[cr];exact Wz _ _ _
 |fa off x=>show eu H (faV (gu x t) off) _;rw[cr];exact ae_ _ _ _
 |mkI ty x=>show eu H (.pv (.iface ty (gu x t))) _;rw[cr];rfl
 |jd a=>show eu H (ldV (gu a t) H) _;rw[cr];exact adR _ _
 |un op x=>show eu H (.r (Jy op (gu x t) H)) _;rw[cr];exact .inr rfl
 |fld agg sz off x=>show eu H (.r (nO agg sz off (gu x t) H)) _;rw[cr];exact .inr rfl
 |Z1 n sz x i=>show eu H (.r (nM n sz (gu x t) (gu i t) H)) _;rw[cr,cr];exact .inr rfl
 |sJ sz x i=>show eu H (.r (eT sz (gu x t) (gu i t) H)) _;rw[cr,cr];exact .inr rfl
 |ixA agg n sz x i=>show eu H (.r (Bp agg n sz (gu x t) (gu i t) H)) _;rw[cr,cr];exact .inr rfl
 |A5 x i=>show eu H (.r (kS (gu x t) (gu i t) H)) _;rw[cr,cr];exact .inr rfl
 |ext x i=>show eu H (.r (qi (gu x t) i H)) _;rw[cr];exact .inr rfl
 |uh n a=>show eu H (.r (ia n (gu a t) H)) _;rw[cr];exact .inr rfl
 |st n a x=>show eu H (.r (i_ n (gu a t) (gu x t) H)) _;rw[cr,cr];exact .inr rfl
 |alloc z=>exact .inr rfl
 |box ty x=>show eu H (.r (bD (gX (gu x t)) λl=>aS (aG l ty 0) H ptrTo 0 0)) _;rw[cr];exact .inr rfl
 |call f args=>show eu H (.r (oX (gu f t) (evL args t))) _;rw[cr,VZ];exact .inr rfl
 |len k x=>show eu H (.r (fY k (gu x t) H)) _;rw[cr];exact .inr rfl
 |dU x=>show eu H (.r (mF (gu x t) H)) _;rw[cr];exact .inr rfl
 |_=>exact .inr rfl
theorem YR (o:Option Tmp) (d:Nat) (t:T Value) (v:Value):Cc o d t v=eF d t o v:=by cases o<;>rfl
theorem Rf (p:Tmp×Bool) (t:T Value):Rg p t=dn t (some p):=by
 obtain⟨d,w⟩:=p
 show aa8 (T.get t d) w=(match zC (t.get d)with|some b=>Bc b w (!w)|none=>false)
 cases T.get t d with
 |bool b=>cases b<;>rfl
 |_=>rfl
theorem qN (tb:Tb) (nt:Nat) (ops:Array Oper):∀ l,pN tb nt ops l=bV tb nt ops l
 | []=>rfl
 |x::l=>by
  show mK tb nt ops x::pN tb nt ops l=_
  rw[qN tb nt ops l];rfl
theorem AJ (b rj wj:Nat):∀ l,xU b rj wj l=jF b rj wj l
 | []=>rfl
 |(i,ri,wi)::l=>by
  show Bc (Nat.testBit b i) (xU b rj wj l) (Bc (Nat.beq (Nat.land wi (Nat.lor rj wj)) 0) (Bc (Nat.beq (Nat.land wj ri) 0) (xU b rj wj l) false) false)=_
  rw[AJ b rj wj l];rfl
def bTg (l:List Nat):Nat->T Nat->T Nat:=@List.rec Nat (λ_=>Nat->T Nat->T Nat) (λ_ t=>t) (λb _ ih i t=>ih (Nat.succ i) (T.set 3 t i b)) l
theorem NI:∀ (l:List Nat) (i:Nat) (t:T Nat) (j:Nat),i+l.length<=512->j<512->(bTg l i t).get j=if i<=j/\j<i+l.length then l.getD (j-i) 0 else t.get j
 | [],i,t,j,_,_=>by show t.get j=_;rw[if_neg (by simp only[List.length_nil];omega)]
 |b::l,i,t,j,h,hj=>by
  simp only[List.length_cons]at h ⊢
  show(bTg l (i+1) (T.set 3 t i b)).get j=_
  rw[NI l (i+1) _ j (by omega) hj,T.ef 3 t i j b (by omega) (by omega)]
  by_cases h1:i+1<=j/\j<i+1+l.length
  ·rw[if_pos h1,if_pos (by omega),show j-i=(j-(i+1))+1 from by omega,List.getD_cons_succ]
  ·rw[if_neg h1]
   by_cases h2:j=i
   ·subst h2;rw[if_pos rfl,if_pos (by omega)];simp
   ·rw[if_neg h2,if_neg (by omega)]
theorem afK (B:Array Nat) (h:B.toList.length<=512) (j:Nat):Bc (Nat.blt j 512) (T.get (bT B.toList) j) 0=B.getD j 0:=by
 have hl:B.toList.length=B.size:=by simp
 cases e:Nat.blt j 512 with
 |true =>
  rw[aj]
  have:=NI B.toList 0 (T.e 0) j (by omega) ((an _ _).1 e)
  show(bTg B.toList 0 (T.e 0)).get j=_
  rw[this]
  by_cases hj:j<B.size
  ·rw[if_pos (by omega)];simp[Array.getD,hj]
  ·rw[if_neg (by omega)];simp[Array.getD,hj];rfl
 |false =>
  rw[au]
  have hj:¬ j<B.size:=λh'=>by
   have:Nat.blt j 512=true:=(an _ _).2 (by omega)
   rw[e]at this;cases this
  simp[Array.getD,hj]
theorem xQ (B:Array Nat) (h:B.toList.length<=512):∀ l,Ck (bT B.toList) l=eP B l
 | []=>rfl
 |(j,rj,wj)::l=>by
  show Bc (xU (Bc (Nat.blt j 512) (T.get (bT B.toList) j) 0) rj wj l) (Ck (bT B.toList) l) false=(jF (B.getD j 0) rj wj l&&eP B l)
  rw[afK B h,AJ,xQ B h l]
  cases jF (B.getD j 0) rj wj l<;>rfl
theorem j3 (i r w:Nat) (l:Acc):iP ((i,r,w)::l)=Bc (Nat.beq (Nat.lor r w) 0) (iP l) ((i,r,w)::iP l):=rfl
theorem abj {r w:Nat} (h:Nat.lor r w=0):r=0/\w=0:=by
 have h':r ||| w=0:=h
 exact Nat.or_eq_zero_iff.1 h'
theorem Jv (i:Nat) (l:Acc):iP ((i,0,0)::l)=iP l:=by
 rw[j3]
 have:Nat.beq (Nat.lor 0 0) 0=true:=by decide
 rw[this,aj]
theorem qv (b rj wj:Nat):∀ l,jF b rj wj (iP l)=jF b rj wj l
 | []=>rfl
 |(i,ri,wi)::l=>by
  rw[j3]
  cases h:Nat.beq (Nat.lor ri wi) 0 with
  |false =>
   rw[au]
   simp only[jF]
   rw[qv b rj wj l]
  |true =>
   rw[aj,qv b rj wj l]
   obtain⟨rfl,rfl⟩:=abj ((beq_iff _ _).1 h)
   simp only[jF]
   have e1:Nat.land 0 (Nat.lor rj wj)=0:=Nat.zero_and _
   have e2:Nat.land wj 0=0:=Nat.and_zero _
   rw[e1,e2]
   cases Nat.testBit b i<;>rfl
theorem xR (b:Nat):∀ l,jF b 0 0 l=true
 | []=>rfl
 |(i,ri,wi)::l=>by
  simp only[jF]
  have e1:Nat.land wi (Nat.lor 0 0)=0:=Nat.and_zero _
  have e2:Nat.land 0 ri=0:=Nat.zero_and _
  rw[e1,e2,xR b l]
  cases Nat.testBit b i<;>rfl
theorem fU (B:Array Nat):∀ l,eP B (iP l)=eP B l
 | []=>rfl
 |(j,rj,wj)::l=>by
  rw[j3]
  cases h:Nat.beq (Nat.lor rj wj) 0 with
  |false =>
   rw[au]
   simp only[eP]
   rw[qv,fU B l]
  |true =>
   rw[aj,fU B l]
   obtain⟨rfl,rfl⟩:=abj ((beq_iff _ _).1 h)
   simp only[eP]
   rw[xR,Bool.true_and]
def dz (r w:Nat):TR->TR
 |.k (.ret v H r' w')=>.k (.ret v H (Nat.lor r r') (Nat.lor w w'))
 |.k (.panic v H r' w')=>.k (.panic v H (Nat.lor r r') (Nat.lor w w'))
 |.k (.drop m H r' w')=>.k (.drop m H (Nat.lor r r') (Nat.lor w w'))
 |.k (.n_ v H r' w')=>.k (.n_ v H (Nat.lor r r') (Nat.lor w w'))
 |.k (.fail n)=>.k (.fail n)
 |.c x=>.c (CR.join r w x)
def ZV:TR->Prop
 |.k (.fail _)=>True
 |.c .fail=>True
 |_=>False
def Xc:Task->Prop
 |.loop b _ _ _=>jq b=true
 |_=>True
def afS (rec:RK) (rec':Rec):Prop:=∀ tk H r w K,Xc tk->∃ y,rec tk H r w K=K y/\(ZV y\/y=dz r w (rec' tk H))
def Xm:Ex->Acc->Acc->Prop
 |.panic _,a,b=>∃ j rest rest',a=(j,0,0)::rest/\b=(j,0,0)::rest'/\iP rest=iP rest'
 |_,a,b=>iP a=iP b
def uO (rec':Rec) (cx:Cx) (l:List CO) (i:Nat) (t:T Value) (ds:List Deferred) (H:Hp) (acc:Acc) (r w r0 w0:Nat) (z:OR):Prop :=
 z=.fail\/∃ x t' ds' H' a a' r' w',z=.mk x t' ds' H' a (Nat.lor r0 r') (Nat.lor w0 w')/\aY rec' cx l i t ds H acc r w=.mk x t' ds' H' a' r' w'/\Xm x a a'
theorem OL (o:CO) (l:List CO) (e:OX) (i:Nat) (t:T Value) (ds:List Deferred) (H:Hp) (m:MS):rU (o::l) e i t ds H m=opG o.guard o (rU l) e i t ds H m:=rfl
theorem Tc (rec:RK) (cx:Cx) (K:OR->TR) (i:Nat) (t:T Value) (ds:List Deferred) (H:Hp) (m:MS):rU [] ⟨rec,cx,K⟩ i t ds H m=K (.mk .normal t ds H m.acc m.r m.w):=rfl
theorem aeu (m:MS) (r w:Nat) (ih:MS->TR):goM m r w ih=ih m:=by unfold goM;rw[tu,tu]
theorem dP (rec:RK) (cx:Cx) (K:OR->TR) (i:Nat) (t:T Value) (ds:List Deferred) (H:Hp) (m:MS):fX ⟨rec,cx,K⟩ i t ds H m=K .fail:=rfl
theorem Tf (v:Value) (H1:Hp) (r1 w1:Nat) (o:CO) (ih:kA) (rec:RK) (cx:Cx) (K:OR->TR) (i:Nat) (t:T Value) (ds:List Deferred) (H:Hp) (m:MS) :
 onVal v H1 r1 w1 o ih ⟨rec,cx,K⟩ i t ds H m=ih ⟨rec,cx,K⟩ (Nat.succ i) (Cc o.dst cx.d t v) ds H1 ⟨(i,r1,Nat.lor w1 (lP H H1))::m.acc,Nat.lor m.r r1,Nat.lor m.w w1⟩:=by
 unfold onVal;rw[aeu]
theorem Th (H1:Hp) (v:Value) (r1 w1:Nat) (rec:RK) (cx:Cx) (K:OR->TR) (i:Nat) (t:T Value) (ds:List Deferred) (H:Hp) (m:MS) :
 AI H1 v r1 w1 ⟨rec,cx,K⟩ i t ds H m=K (.mk (.panic v) t ds H1 ((i,0,0)::m.acc) (Nat.lor m.r r1) (Nat.lor m.w w1)):=rfl
theorem QD (v:Value) (H1:Hp) (r1 w1:Nat) (o:CO) (ih:kA):td (.k (.ret v H1 r1 w1)) o ih=onVal v H1 r1 w1 o ih:=rfl
theorem QE (v:Value) (H1:Hp) (r1 w1:Nat) (o:CO) (ih:kA):td (.k (.panic v H1 r1 w1)) o ih=AI H1 v r1 w1:=rfl
theorem zi (n:Nat) (o:CO) (ih:kA):td (.k (.fail n)) o ih=fX:=rfl
theorem J_ (m:FrameMode) (H1:Hp) (r1 w1:Nat) (o:CO) (ih:kA):td (.k (.drop m H1 r1 w1)) o ih=fX:=rfl
theorem Ka (v:Value) (H1:Hp) (r1 w1:Nat) (o:CO) (ih:kA):td (.k (.n_ v H1 r1 w1)) o ih=fX:=rfl
theorem NO (x:CR) (o:CO) (ih:kA):td (.c x) o ih=fX:=rfl
theorem Kb (v:Value) (H1:Hp) (r1 w1:Nat) (o:CO) (ih:kA):nK (.k (.ret v H1 r1 w1)) o ih=onVal v H1 r1 w1 o ih:=rfl
theorem Kc (v:Value) (H1:Hp) (r1 w1:Nat) (o:CO) (ih:kA):nK (.k (.panic v H1 r1 w1)) o ih=fX:=rfl
theorem vm (n:Nat) (o:CO) (ih:kA):nK (.k (.fail n)) o ih=fX:=rfl
theorem GQ (m:FrameMode) (H1:Hp) (r1 w1:Nat) (o:CO) (ih:kA):nK (.k (.drop m H1 r1 w1)) o ih=fX:=rfl
theorem GR (v:Value) (H1:Hp) (r1 w1:Nat) (o:CO) (ih:kA):nK (.k (.n_ v H1 r1 w1)) o ih=fX:=rfl
theorem GS (x:CR) (o:CO) (ih:kA):nK (.c x) o ih=fX:=rfl
theorem E8 (o:CO) (ih:kA):Y8 .fail o ih=fX:=rfl
theorem Y3 (o:CO) (ih:kA):Y8 .recover o ih=fX:=rfl
theorem Y2 (v:Value) (H1:Hp) (r1 w1:Nat) (o:CO) (ih:kA):Y8 (.val v H1 r1 w1) o ih=onVal v H1 r1 w1 o ih:=rfl
theorem Y4 (v:Value) (o:CO) (ih:kA) (e:OX) (i:Nat) (t:T Value) (ds:List Deferred) (H:Hp) (m:MS):Y8 (.panic v) o ih e i t ds H m=AI H v 0 0 e i t ds H m:=rfl
theorem Tg (f:FuncId) (args:List Value) (o:CO) (ih:kA) (rec:RK) (cx:Cx) (K:OR->TR) (i:Nat) (t:T Value) (ds:List Deferred) (H:Hp) (m:MS) :
 Y8 (.call f args) o ih ⟨rec,cx,K⟩ i t ds H m=rec (.call f args) H 0 0 λx=>td x o ih ⟨rec,cx,K⟩ i t ds H m:=rfl
theorem OO (f:Nat) (args:List Value) (o:CO) (ih:kA) (rec:RK) (cx:Cx) (K:OR->TR) (i:Nat) (t:T Value) (ds:List Deferred) (H:Hp) (m:MS) :
 Y8 (.round f args) o ih ⟨rec,cx,K⟩ i t ds H m=rec (.round f args) H 0 0 λx=>nK x o ih ⟨rec,cx,K⟩ i t ds H m:=rfl
theorem Y5 (d:Deferred) (o:CO) (ih:kA):Y8 (.defer d) o ih=afn d o ih:=rfl
theorem Y6 (v:Value) (o:CO) (ih:kA) (rec:RK) (cx:Cx) (K:OR->TR) (i:Nat) (t:T Value) (ds:List Deferred) (H:Hp) (m:MS):Y7 (.pv v) o ih ⟨rec,cx,K⟩ i t ds H m=ih ⟨rec,cx,K⟩ (Nat.succ i) (Cc o.dst cx.d t v) ds H m:=rfl
theorem adq (x:R) (o:CO) (ih:kA):Y7 (.r x) o ih=Y8 x o ih:=rfl
theorem aaw (o:CO) (ih:kA) (e:OX) (i:Nat) (t:T Value) (ds:List Deferred) (H:Hp) (m:MS):V_ o ih e i t ds H m=Y7 (YD o.op t H) o ih e i t ds H m:=rfl
theorem Ow (o:CO) (ih:kA) (rec:RK) (cx:Cx) (K:OR->TR) (i:Nat) (t:T Value) (ds:List Deferred) (H:Hp) (m:MS):HL o ih ⟨rec,cx,K⟩ i t ds H m=ih ⟨rec,cx,K⟩ (Nat.succ i) (Cc o.dst cx.d t U) ds H m:=rfl
theorem Te (o:CO) (ih:kA):opG none o ih=V_ o ih:=rfl
theorem Td (p:Tmp×Bool) (o:CO) (ih:kA) (e:OX) (i:Nat) (t:T Value) (ds:List Deferred) (H:Hp) (m:MS):opG (some p) o ih e i t ds H m=abb (Rg p t) o ih e i t ds H m:=rfl
theorem sA {y:TR} (h:ZV y):(∃ n,y=.k (.fail n))\/y=.c .fail:=by
 cases y with
 |k x=>cases x with
  |fail n=>exact .inl ⟨n,rfl⟩
  |_=>exact h.elim
 |c x=>cases x with
  |fail=>exact .inr rfl
  |mk=>exact h.elim
section
variable {rec:RK} {rec':Rec} (bX:afS rec rec') {cx:Cx}
include bX
theorem Lc:∀ (l:List CO) (K:OR->TR) (i:Nat) (t:T Value) (ds:List Deferred) (H:Hp) (m:MS) (acc:Acc) (r w r0 w0:Nat),iP m.acc=iP acc->m.r=Nat.lor r0 r->m.w=Nat.lor w0 w ->
 ∃ z,rU l ⟨rec,cx,K⟩ i t ds H m=K z/\uO rec' cx l i t ds H acc r w r0 w0 z:=by
 intro l
 induction l with
 |nil =>
  intro K i t ds H m acc r w r0 w0 h1 h2 h3
  exact⟨.mk .normal t ds H m.acc m.r m.w,Tc _ _ _ _ _ _ _ _,.inr ⟨.normal,t,ds,H,m.acc,acc,r,w,by rw[h2,h3],rfl,h1⟩⟩
 |cons o l ih =>
  intro K i t ds H m acc r w r0 w0 h1 h2 h3
  have failing:∀ {x:TR},x=K .fail->∃ z,x=K z/\uO rec' cx (o::l) i t ds H acc r w r0 w0 z:=λh=>⟨.fail,h,.inl rfl⟩
  have val:∀ (v:Value) (H1:Hp) (r1 w1:Nat) (ds1:List Deferred) (mm:MS) (acc1:Acc),iP mm.acc=iP acc1->mm.r=Nat.lor r0 (Nat.lor r r1)->mm.w=Nat.lor w0 (Nat.lor w w1) ->
   aY rec' cx (o::l) i t ds H acc r w=aY rec' cx l (Nat.succ i) (eF cx.d t o.dst v) ds1 H1 acc1 (Nat.lor r r1) (Nat.lor w w1) ->
   ∃ z,rU l ⟨rec,cx,K⟩ (Nat.succ i) (Cc o.dst cx.d t v) ds1 H1 mm=K z/\uO rec' cx (o::l) i t ds H acc r w r0 w0 z:=by
   intro v H1 r1 w1 ds1 mm acc1 g1 g2 g3 ju
   rw[YR]
   obtain⟨z,e,hz⟩:=ih K (Nat.succ i) (eF cx.d t o.dst v) ds1 H1 mm acc1 (Nat.lor r r1) (Nat.lor w w1) r0 w0 g1 g2 g3
   refine⟨z,e,?_⟩
   rcases hz with hz|⟨x,t',ds',H',a,a',r',w',e1,e2,e3⟩
   ·exact .inl hz
   ·exact .inr ⟨x,t',ds',H',a,a',r',w',e1,by rw[ju];exact e2,e3⟩
  have onV:∀ (v:Value) (H1:Hp) (r1 w1:Nat),aY rec' cx (o::l) i t ds H acc r w=aY rec' cx l (Nat.succ i) (eF cx.d t o.dst v) ds H1 ((i,r1,Nat.lor w1 (lP H H1))::acc) (Nat.lor r r1) (Nat.lor w w1) ->
   ∃ z,onVal v H1 r1 w1 o (rU l) ⟨rec,cx,K⟩ i t ds H m=K z/\uO rec' cx (o::l) i t ds H acc r w r0 w0 z:=by
   intro v H1 r1 w1 ju
   rw[Tf]
   exact val v H1 r1 w1 ds _ _ (by rw[j3,j3,h1]) (by show Nat.lor m.r r1=_;rw[h2,aU]) (by show Nat.lor m.w w1=_;rw[h3,aU]) ju
  have onP:∀ (v:Value) (H1:Hp) (r1 w1:Nat),aY rec' cx (o::l) i t ds H acc r w=.mk (.panic v) t ds H1 ((i,0,0)::acc) (Nat.lor r r1) (Nat.lor w w1) ->
   ∃ z,AI H1 v r1 w1 ⟨rec,cx,K⟩ i t ds H m=K z/\uO rec' cx (o::l) i t ds H acc r w r0 w0 z:=by
   intro v H1 r1 w1 ju
   rw[Th]
   exact⟨_,rfl,.inr ⟨.panic v,t,ds,H1,(i,0,0)::m.acc,(i,0,0)::acc,Nat.lor r r1,Nat.lor w w1,by rw[h2,h3,aU,aU],ju,i,m.acc,acc,rfl,rfl,h1⟩⟩
  have main:dn t o.guard=true->∃ z,V_ o (rU l) ⟨rec,cx,K⟩ i t ds H m=K z/\uO rec' cx (o::l) i t ds H acc r w r0 w0 z:=by
   intro gR
   have hr:=YC o.op t H
   rw[aaw]
   generalize YD o.op t H=fx at hr
   cases fx with
   |pv v =>
    have hr:run o.op t H=.val v H 0 0:=hr
    rw[Y6]
    have e:lP H H=0:=Nat.sub_self _
    have e2:Nat.lor 0 (lP H H)=0:=by rw[e];decide
    refine val v H 0 0 ds m ((i,0,Nat.lor 0 (lP H H))::acc) (by rw[e2,Jv,h1]) (by rw[h2,aF]) (by rw[h3,aF]) ?_
    simp only[aY,gR,aj,hr,cY]
   |r x =>
    rw[adq]
    rcases hr with rfl|hr
    ·rw[E8];exact failing (dP _ _ _ _ _ _ _ _)
    ·cases hx:run o.op t H with
     |fail=>rw[hr,hx,E8];exact failing (dP _ _ _ _ _ _ _ _)
     |recover=>rw[hr,hx,Y3];exact failing (dP _ _ _ _ _ _ _ _)
     |val v H1 r1 w1 =>
      rw[hr,hx,Y2]
      exact onV v H1 r1 w1 (by simp only[aY,gR,aj,hx,cY])
     |panic v =>
      rw[hr,hx,Y4]
      exact onP v H 0 0 (by simp only[aY,gR,aj,hx,cY])
     |call f args =>
      rw[hr,hx,Tg]
      obtain⟨y,e,hy⟩:=bX (.call f args) H 0 0 (λx=>td x o (rU l) ⟨rec,cx,K⟩ i t ds H m) trivial
      rw[e]
      clear e
      rcases hy with hy|hy
      ·rcases sA hy with⟨n,rfl⟩|rfl
       ·rw[zi];exact failing (dP _ _ _ _ _ _ _ _)
       ·rw[NO];exact failing (dP _ _ _ _ _ _ _ _)
      ·subst hy
       cases hrr:rec' (.call f args) H with
       |c x=>simp only[dz,NO];exact failing (dP _ _ _ _ _ _ _ _)
       |k x =>
        cases x with
        |fail n=>simp only[dz,zi];exact failing (dP _ _ _ _ _ _ _ _)
        |drop m' H' r' w'=>simp only[dz,J_];exact failing (dP _ _ _ _ _ _ _ _)
        |n_ v H' r' w'=>simp only[dz,Ka];exact failing (dP _ _ _ _ _ _ _ _)
        |ret v H1 r1 w1 =>
         simp only[dz,QD,aK]
         exact onV v H1 r1 w1 (by simp only[aY,gR,aj,hx,cY,bt,hrr])
        |panic v H1 r1 w1 =>
         simp only[dz,QE,aK]
         exact onP v H1 r1 w1 (by simp only[aY,gR,aj,hx,cY,bt,hrr])
     |round f args =>
      rw[hr,hx,OO]
      obtain⟨y,e,hy⟩:=bX (.round f args) H 0 0 (λx=>nK x o (rU l) ⟨rec,cx,K⟩ i t ds H m) trivial
      rw[e]
      clear e
      rcases hy with hy|hy
      ·rcases sA hy with⟨n,rfl⟩|rfl
       ·rw[vm];exact failing (dP _ _ _ _ _ _ _ _)
       ·rw[GS];exact failing (dP _ _ _ _ _ _ _ _)
      ·subst hy
       cases hrr:rec' (.round f args) H with
       |c x=>simp only[dz,GS];exact failing (dP _ _ _ _ _ _ _ _)
       |k x =>
        cases x with
        |fail n=>simp only[dz,vm];exact failing (dP _ _ _ _ _ _ _ _)
        |drop m' H' r' w'=>simp only[dz,GQ];exact failing (dP _ _ _ _ _ _ _ _)
        |n_ v H' r' w'=>simp only[dz,GR];exact failing (dP _ _ _ _ _ _ _ _)
        |panic v H1 r1 w1=>simp only[dz,Kc];exact failing (dP _ _ _ _ _ _ _ _)
        |ret v H1 r1 w1 =>
         simp only[dz,Kb,aK]
         exact onV v H1 r1 w1 (by simp only[aY,gR,aj,hx,cY,bt,hrr])
     |defer d =>
      rw[hr,hx,Y5]
      unfold afn
      cases hc1:cx.eL with
      |some l=>simp only[hc1];exact failing rfl
      |none =>
       cases hc2:cx.drw with
       |true=>simp only[hc1,hc2];exact failing rfl
       |false =>
        simp only[hc1,hc2]
        exact val U H 0 0 (d::ds) m acc h1 (by rw[h2,aF]) (by rw[h3,aF]) (by simp only[aY,gR,aj,hx,cY,hc1,hc2,aF])
  rw[OL]
  cases hg:o.guard with
  |none =>
   rw[Te]
   exact main (by rw[hg];rfl)
  |some p =>
   rw[Td,Rf,<-hg]
   cases gR:dn t o.guard with
   |true=>exact main gR
   |false =>
    show ∃ z,HL o (rU l) ⟨rec,cx,K⟩ i t ds H m=K z/\_
    rw[Ow]
    exact val U H 0 0 ds m acc h1 (by rw[h2,aF]) (by rw[h3,aF]) (by simp only[aY,gR,au,aF])
end
end Go.Ev.F
end
noncomputable section
namespace Go.Ev.F
variable [dj]
theorem join_join (r w r1 w1:Nat) (x:CR):CR.join (Nat.lor r r1) (Nat.lor w w1) x=CR.join r w (CR.join r1 w1 x):=by
 cases x with
 |fail=>rfl
 |mk x t ds H r' w'=>simp only[CR.join,aU]
theorem V6 (x:Ex) (t:T Value) (ds:List Deferred) (H:Hp) (a:Acc) (r w:Nat) (K:CR->TR):Np (.mk x t ds H a r w) K=K (.mk x t ds H r w):=rfl
theorem Bt (k:CK) (tb:Tb) (rec:RK) (cx:Cx) (K:CR->TR):DD .fail k tb rec cx K=K .fail:=rfl
theorem Bs (t:T Value) (ds:List Deferred) (H:Hp) (r w:Nat) (k:CK) (tb:Tb) (rec:RK) (cx:Cx) (K:CR->TR):DD (.mk .normal t ds H r w) k tb rec cx K=k tb rec cx t ds H r w K:=rfl
theorem Gw {x:Ex} (hx:x≠.normal) (t:T Value) (ds:List Deferred) (H:Hp) (r w:Nat) (k:CK) (tb:Tb) (rec:RK) (cx:Cx) (K:CR->TR):DD (.mk x t ds H r w) k tb rec cx K=K (.mk x t ds H r w):=by
 cases x with
 |normal=>exact absurd rfl hx
 |_=>rfl
theorem YW (x:CR) (id:Nat) (K:CR->TR):YX x id K=K (outBlock id x):=by
 cases x with
 |fail=>rfl
 |mk x t ds H r w =>
  cases x with
  |exit j =>
   show Bc (Nat.beq j id) (K (.mk .normal t ds H r w)) (K (.mk (.exit j) t ds H r w))=K (Bc (Nat.beq j id) (.mk .normal t ds H r w) (.mk (.exit j) t ds H r w))
   cases Nat.beq j id<;>rfl
  |_=>rfl
theorem zK (id r w:Nat) (x:CR):outBlock id (CR.join r w x)=CR.join r w (outBlock id x):=by
 cases x with
 |fail=>rfl
 |mk x t ds H r' w' =>
  cases x with
  |exit j =>
   show Bc (Nat.beq j id) _ _=CR.join r w (Bc (Nat.beq j id) _ _)
   cases Nat.beq j id<;>rfl
  |_=>rfl
theorem Lg (x:CR) (K:CR->TR):E_ (.c x) K=K x:=rfl
theorem Zc (x:KR) (K:CR->TR):E_ (.k x) K=K .fail:=rfl
def afU (z y:CR):Prop:=z=.fail\/z=y
theorem Qb (tb:Tb) (nt d:Nat) (ops:Array Oper) {x:Ex} {t:T Value} {ds:List Deferred} {H:Hp} {a a':Acc} {r w:Nat} (h:Xm x a a') :
 DB tb nt d ops (.mk x t ds H a r w)=nL tb nt d ops (Region.before ops) (.mk x t ds H a' r w):=by
 cases x with
 |normal =>
  show Bc (Nat.ble (Go.CheckFast.beforeF ops).toList.length 512) (HZ (bT (Go.CheckFast.beforeF ops).toList) a (.mk .normal t ds H r w)) (Bc (eP (Go.CheckFast.beforeF ops) a) (.mk .normal t ds H r w) .fail)=Bc (eP (Region.before ops) a') (.mk .normal t ds H r w) .fail
  have h:iP a=iP a':=h
  cases e:Nat.ble (Go.CheckFast.beforeF ops).toList.length 512 with
  |true =>
   rw[aj]
   unfold HZ
   rw[xQ _ ((aE _ _).1 e),h,fU,Go.CheckFast.beforeF_eq]
  |false=>rw[au,<-fU _ a,h,fU,Go.CheckFast.beforeF_eq]
 |panic v =>
  obtain⟨j,rest,rest',rfl,rfl,h⟩:=h
  show nL tb nt d ops (Go.CheckFast.beforeF ops) (.mk (.panic v) t ds H ((j,0,0)::rest) r w)=_
  rw[Go.CheckFast.beforeF_eq]
  simp only[nL]
  rw[<-fU _ rest,h,fU]
 |_=>rfl
theorem Br {a b:Code} (h:jq (.seq a b)=true):jq a=true/\jq b=true:=by
 have h:Bc (jq a) (jq b) false=true:=h
 cases ha:jq a with
 |true=>rw[ha]at h;exact⟨rfl,h⟩
 |false=>rw[ha]at h;cases h
section
variable {tb:Tb} {rec:RK} {rec':Rec} (bX:afS rec rec')
include bX
theorem LW {cx:Cx} {b:Code} (hb:jq b=true) (ih:∀ (t:T Value) (ds:List Deferred) (H:Hp) (r w:Nat) (K:CR->TR),∃ z,js b tb rec cx t ds H r w K=K z/\afU z (CR.join r w (cj tb rec' cx b t ds H))) (t:T Value) (ds:List Deferred) (H:Hp) (r w:Nat) (K:CR->TR) :
 ∃ z,y8 b (js b) tb rec cx t ds H r w K=K z/\afU z (CR.join r w (Bc (tb.hk cx.nt b) (Au tb b t ds H) (CR.andThen (cj tb rec' cx b t ds H) λt ds H=>CR.tW (rec' (.loop b cx t ds) H)))):=by
 show ∃ z,Wm (tb.hk cx.nt b) (agf b) (abk b (js b)) tb rec cx t ds H r w K=K z/\_
 cases tb.hk cx.nt b with
 |true=>exact⟨_,rfl,.inr rfl⟩
 |false =>
  rw[au]
  show ∃ z,js b tb rec cx t ds H r w (λx=>DD x (J' b) tb rec cx K)=K z/\_
  obtain⟨z,e,hz⟩:=ih t ds H r w (λx=>DD x (J' b) tb rec cx K)
  rw[e]
  clear e
  rcases hz with rfl|rfl
  ·rw[Bt];exact⟨_,rfl,.inl rfl⟩
  ·cases ju:cj tb rec' cx b t ds H with
   |fail=>exact⟨_,rfl,.inl rfl⟩
   |mk x t1 ds1 H1 r1 w1 =>
    simp only[CR.join]
    by_cases hx:x=.normal
    ·subst hx
     rw[Bs]
     show ∃ z,rec (.loop b cx t1 ds1) H1 (Nat.lor r r1) (Nat.lor w w1) (λx=>E_ x K)=K z/\_
     obtain⟨y,e,hy⟩:=bX (.loop b cx t1 ds1) H1 (Nat.lor r r1) (Nat.lor w w1) (λx=>E_ x K) hb
     rw[e]
     clear e
     rcases hy with hy|hy
     ·rcases sA hy with⟨n,rfl⟩|rfl
      ·rw[Zc];exact⟨_,rfl,.inl rfl⟩
      ·rw[Lg];exact⟨_,rfl,.inl rfl⟩
     ·subst hy
      cases hr:rec' (.loop b cx t1 ds1) H1 with
      |c x =>
       simp only[dz,Lg]
       refine⟨_,rfl,.inr ?_⟩
       simp only[CR.andThen,hr,CR.tW]
       exact join_join _ _ _ _ _
      |k x =>
       cases x<;>exact⟨_,rfl,.inl rfl⟩
    ·rw[Gw hx]
     refine⟨_,rfl,.inr ?_⟩
     cases x<;>first|exact absurd rfl hx|rfl
theorem sZ:∀ (c:Code),jq c=true->∀ (cx:Cx) (t:T Value) (ds:List Deferred) (H:Hp) (r w:Nat) (K:CR->TR),∃ z,js c tb rec cx t ds H r w K=K z/\afU z (CR.join r w (cj tb rec' cx c t ds H)):=by
 intro c
 induction c with
 |skip=>intro _ cx t ds H r w K;exact⟨.mk .normal t ds H r w,rfl,.inr (by simp only[cj,CR.join,aF])⟩
 |label l=>intro _ cx t ds H r w K;exact⟨.mk .normal t ds H r w,rfl,.inr (by simp only[cj,CR.join,aF])⟩
 |ret=>intro _ cx t ds H r w K;exact⟨.mk .ret t ds H r w,rfl,.inr (by simp only[cj,CR.join,aF])⟩
 |exit id=>intro _ cx t ds H r w K;exact⟨.mk (.exit id) t ds H r w,rfl,.inr (by simp only[cj,CR.join,aF])⟩
 |goto l=>intro _ cx t ds H r w K;exact⟨.mk (.goto l) t ds H r w,rfl,.inr (by simp only[cj,CR.join,aF])⟩
 |refuse y=>intro _ cx t ds H r w K;exact⟨.fail,rfl,.inl rfl⟩
 |scope b ih=>intro _ cx t ds H r w K;exact⟨.fail,rfl,.inl rfl⟩
 |region id ops draw =>
  intro hd cx t ds H r w K
  cases draw with
  |false =>
   show ∃ z,rU (pN tb cx.nt ops ops.toList) ⟨rec,cx,λx=>Np x K⟩ 0 t ds H ⟨[],r,w⟩=K z/\_
   rw[qN]
   obtain⟨z,e,hz⟩:=Lc bX (cx:=cx) (bV tb cx.nt ops ops.toList) (λx=>Np x K) 0 t ds H ⟨[],r,w⟩ [] 0 0 r w rfl (aF _).symm (aF _).symm
   rw[e]
   rcases hz with rfl|⟨x,t',ds',H',a,a',r',w',rfl,e2,e3⟩
   ·exact⟨.fail,rfl,.inl rfl⟩
   ·rw[V6]
    exact⟨_,rfl,.inr (by simp only[cj,e2,Tl,CR.join])⟩
  |true =>
   have hd:ew ops (Region.before ops)=true:=hd
   show ∃ z,rU (pN tb cx.nt ops ops.toList) ⟨rec,⟨cx.d,cx.nt,cx.eL,true⟩,λx=>K (CR.join r w (DB tb cx.nt cx.d ops x))⟩ 0 t ds H ⟨[],0,0⟩=K z/\_
   rw[qN]
   obtain⟨z,e,hz⟩:=Lc bX (cx:=⟨cx.d,cx.nt,cx.eL,true⟩) (bV tb cx.nt ops ops.toList) (λx=>K (CR.join r w (DB tb cx.nt cx.d ops x))) 0 t ds H ⟨[],0,0⟩ [] 0 0 0 0 rfl rfl rfl
   rw[e]
   rcases hz with rfl|⟨x,t',ds',H',a,a',r',w',rfl,e2,e3⟩
   ·exact⟨.fail,rfl,.inl rfl⟩
   ·refine⟨_,rfl,.inr ?_⟩
    rw[aK,aK,Qb tb cx.nt cx.d ops e3]
    simp only[cj,hd,aj,e2]
 |seq a b iha ihb =>
  intro hd cx t ds H r w K
  obtain⟨ha,hb⟩:=Br hd
  show ∃ z,js a tb rec cx t ds H r w (λx=>DD x (js b) tb rec cx K)=K z/\_
  obtain⟨z,e,hz⟩:=iha ha cx t ds H r w (λx=>DD x (js b) tb rec cx K)
  rw[e]
  clear e
  simp only[cj]
  rcases hz with rfl|rfl
  ·rw[Bt];exact⟨_,rfl,.inl rfl⟩
  ·cases ju:cj tb rec' cx a t ds H with
   |fail=>exact⟨_,rfl,.inl rfl⟩
   |mk x t1 ds1 H1 r1 w1 =>
    simp only[CR.join]
    by_cases hx:x=.normal
    ·subst hx
     rw[Bs]
     obtain⟨z2,e2,hz2⟩:=ihb hb cx t1 ds1 H1 (Nat.lor r r1) (Nat.lor w w1) K
     rw[e2]
     refine⟨z2,rfl,hz2.imp id λh=>h.trans ?_⟩
     simp only[CR.andThen]
     exact join_join _ _ _ _ _
    ·rw[Gw hx]
     refine⟨_,rfl,.inr ?_⟩
     cases x<;>first|exact absurd rfl hx|rfl
 |cond c a b iha ihb =>
  intro hd cx t ds H r w K
  obtain⟨ha,hb⟩:=Br (a:=a) (b:=b) hd
  show ∃ z,Bc (qw tb cx.nt c) (abX (gu c t) (js a) (js b) tb rec cx t ds H r w K) (K .fail)=K z/\_
  simp only[cj]
  cases qw tb cx.nt c with
  |false=>exact⟨.fail,rfl,.inl rfl⟩
  |true =>
   rw[aj,aj,cr]
   cases aA t c with
   |bool x =>
    cases x with
    |true=>exact iha ha cx t ds H r w K
    |false=>exact ihb hb cx t ds H r w K
   |_=>exact⟨.fail,rfl,.inl rfl⟩
 |block id b ih =>
  intro hd cx t ds H r w K
  show ∃ z,js b tb rec cx t ds H r w (λx=>YX x id K)=K z/\_
  obtain⟨z,e,hz⟩:=ih hd cx t ds H r w (λx=>YX x id K)
  rw[e,YW]
  simp only[cj]
  refine⟨_,rfl,?_⟩
  rcases hz with rfl|rfl
  ·exact .inl rfl
  ·exact .inr (zK _ _ _ _)
 |loop b ih =>
  intro hd cx t ds H r w K
  simp only[cj]
  show ∃ z,y8 b (js b) tb rec cx t ds H r w K=K z/\_
  exact LW (tb:=tb) (cx:=cx) (b:=b) bX hd (λt ds H r w K=>ih hd cx t ds H r w K) t ds H r w K
 |rangeFunc f ps a b _ _ =>
  intro hd cx t ds H r w K
  show ∃ z,DI f ps a b tb rec cx t ds H r w K=K z/\_
  unfold DI
  simp only[cj,kU]
  cases cx.eL with
  |some l=>exact⟨.fail,rfl,.inl rfl⟩
  |none =>
   simp only
   cases qw tb cx.nt f&&ps.toList.all (λp=>Nat.blt p cx.nt)with
   |false=>exact⟨.fail,rfl,.inl rfl⟩
   |true =>
    rw[aj,aj]
    split
    ·rename_i k1 db H1 r1 w1 h1
     simp only[h1]
     split
     ·rename_i k2 l H2 r2 w2 h2
      simp only[h2]
      split
      ·rename_i g args h3
       simp only[h3]
       cases kQ tb g with
       |false=>exact⟨.fail,rfl,.inl rfl⟩
       |true =>
        rw[aj,aj]
        obtain⟨y,e,hy⟩:=bX (.call g args) H2 0 0 (λx=>K (CR.join r w (gZ l t ({ target:=.collected db,args:=#[] }::ds) x))) trivial
        rw[e]
        refine⟨_,rfl,?_⟩
        rcases hy with hy|hy
        ·rcases sA hy with⟨n,rfl⟩|rfl<;>exact .inl rfl
        ·right
         rw[hy]
         cases rec' (.call g args) H2 with
         |c x=>rfl
         |k x =>
          cases x with
          |ret v H' r' w'=>simp only[dz,aK]
          |panic v H' r' w'=>simp only[dz,aK]
          |_=>rfl
      ·exact⟨.fail,rfl,.inl rfl⟩
     ·exact⟨.fail,rfl,.inl rfl⟩
    ·exact⟨.fail,rfl,.inl rfl⟩
end
end Go.Ev.F
end
noncomputable section
namespace Go.Ev.F
variable [dj]
def Xj (tb:Tb):Prop:=∀ f fn c,tb.fn f=some fn->fn.body=some c->jq c=true
def Kd:TR->Prop
 |.k (.ret _ _ _ _)=>True
 |.k (.panic _ _ _ _)=>True
 |_=>False
def Shp:Task->TR->Prop
 |.loop _ _ _ _,_=>True
 |.mI _ _ _,_=>True
 |_,y=>Kd y
def Xg (rec:RK) (rec':Rec):Prop:=∀ tk H r w K,Xc tk->∃ y,rec tk H r w K=K y/\(ZV y\/(y=dz r w (rec' tk H)/\Shp tk y))
theorem Xg.f {rec:RK} {rec':Rec} (h:Xg rec rec'):afS rec rec':=λtk H r w K hd=>let ⟨y,e,hy⟩:=h tk H r w K hd;⟨y,e,hy.imp id (·.1)⟩
theorem IP (r w r1 w1:Nat) (x:TR):dz (Nat.lor r r1) (Nat.lor w w1) x=dz r w (dz r1 w1 x):=by
 cases x with
 |c x=>simp only[dz,join_join]
 |k x=>cases x<;>simp only[dz,aU]
theorem Um {r w r1 w1:Nat} {x:TR} (h:Kd (dz r w x)):dz r1 w1 x=KR.join r1 w1 x:=by
 cases x with
 |c x=>exact h.elim
 |k x =>
  cases x with
  |ret v H r' w'=>simp only[dz,KR.join,tu]
  |panic v H r' w'=>rfl
  |fail n=>exact h.elim
  |drop m H r' w'=>exact h.elim
  |n_ v H r' w'=>exact h.elim
theorem ZH (a r r1 r2:Nat):Nat.lor a (Nat.lor (Nat.lor r r1) r2)=Nat.lor r (Nat.lor (Nat.lor a r1) r2):=by
 show a ||| (r ||| r1 ||| r2)=r ||| (a ||| r1 ||| r2)
 ac_rfl
theorem ZG (a w w1 w2:Nat):Nat.lor a (Nat.lor (Nat.lor (Nat.lor w w1) w2) a)=Nat.lor w (Nat.lor (Nat.lor w1 a) (Nat.lor w2 a)):=by
 show a ||| (w ||| w1 ||| w2 ||| a)=w ||| (w1 ||| a ||| (w2 ||| a))
 ac_rfl
theorem Gq (l r w r1 w1:Nat) (x:CR):ZV (endRound l (bit l) (bit l) (CR.join (Nat.lor r r1) (Nat.lor w w1) x))\/(endRound l (bit l) (bit l) (CR.join (Nat.lor r r1) (Nat.lor w w1) x)=dz r w (endRound l (Nat.lor (bit l) r1) (Nat.lor w1 (bit l)) x)/\Kd (endRound l (bit l) (bit l) (CR.join (Nat.lor r r1) (Nat.lor w w1) x))):=by
 cases x with
 |fail=>exact .inl trivial
 |mk x t ds H r2 w2 =>
  simp only[CR.join,endRound]
  split
  ·cases x with
   |panic v=>exact .inl trivial
   |_=>exact .inr ⟨by simp only[dz];rw[ZH,ZG],trivial⟩
  ·exact .inl trivial
section
variable {tb:Tb} {sp:Sp} {rec:RK} {rec':Rec} (bX:Xg rec rec') (Mz:Xj tb)
include bX
theorem qm (nt:Nat) (res:List ResultVar) (m:FrameMode) (t:T Value) (ds:List Deferred) (H:Hp) (r w r1 w1:Nat) (K:TR->TR) :
 ∃ y,rec (.unwind nt res t ds m) H (Nat.lor r r1) (Nat.lor w w1) K=K y/\(ZV y\/(y=dz r w (KR.join r1 w1 (rec' (.unwind nt res t ds m) H))/\Kd y)):=by
 obtain⟨y,e,hy⟩:=bX (.unwind nt res t ds m) H (Nat.lor r r1) (Nat.lor w w1) K trivial
 refine⟨y,e,hy.imp id λ⟨h1,h2⟩=>⟨?_,h2⟩⟩
 have h2:Kd y:=h2
 rw[h1]at h2 ⊢
 rw[IP,Um h2]
theorem aaM (fn:Func) (x:CR) (r w:Nat) (K:TR->TR):∃ y,WX (CR.join r w x) fn tb rec K=K y/\(ZV y\/(y=dz r w (ij rec' fn x)/\Kd y)):=by
 cases x with
 |fail=>exact⟨_,rfl,.inl trivial⟩
 |mk x t ds H r1 w1 =>
  cases x with
  |normal=>exact qm bX fn.ntmps fn.results.toList .returning t ds H r w r1 w1 K
  |ret=>exact qm bX fn.ntmps fn.results.toList .returning t ds H r w r1 w1 K
  |exit id=>exact⟨.k (.fail 2),rfl,.inl trivial⟩
  |goto l=>exact⟨.k (.fail 2),rfl,.inl trivial⟩
  |panic v=>exact qm bX fn.ntmps fn.results.toList (.panicking [{ v,recovered:=false }]) t ds H r w r1 w1 K
include Mz
theorem DH (f:FuncId) (args:List Value) (H:Hp) (r w:Nat) (K:TR->TR):∃ y,abY (tb.fn f) tb rec args H r w K=K y/\(ZV y\/(y=dz r w (lF tb rec' f args H)/\Kd y)):=by
 unfold lF
 cases hf:tb.fn f with
 |none=>exact⟨.k (.fail 3),rfl,.inl trivial⟩
 |some fn =>
  show ∃ y,abZ fn.body fn tb rec args H r w K=K y/\_
  simp only
  cases hb:fn.body with
  |none=>exact⟨.k (.fail 4),rfl,.inl trivial⟩
  |some c =>
   show ∃ y,Ww c fn tb rec args H r w K=K y/\_
   unfold Ww
   simp only
   cases Nat.ble args.length fn.ntmps with
   |false=>exact⟨.k (.fail 14),rfl,.inl trivial⟩
   |true =>
    rw[aj,aj]
    obtain⟨z,e,hz⟩:=sZ (tb:=tb) bX.f c (Mz f fn c hf hb) ⟨dep fn.ntmps,fn.ntmps,none,false⟩ (gW fn args) [] H r w (λx=>WX x fn tb rec K)
    rw[e]
    rcases hz with rfl|rfl
    ·exact⟨_,rfl,.inl trivial⟩
    ·exact aaM bX fn _ r w K
omit Mz
theorem tG (nt:Nat) (res:List ResultVar) (t:T Value) (ds:List Deferred) (m:FrameMode) (H:Hp) (r w:Nat) (K:TR->TR) :
 ∃ y,BN nt res t ds m tb rec H r w K=K y/\(ZV y\/(y=dz r w (fZ tb rec' nt res t ds m H)/\Kd y)):=by
 unfold BN fZ
 cases ds with
 |nil =>
  simp only
  unfold Rn
  split
  ·split
   ·rename_i l r' h
    refine⟨.k (.ret (B6 l) H (Nat.lor r r') w),by unfold Rm;rw[tu],.inr ⟨?_,trivial⟩⟩
    simp only[dz,aF,h]
   ·exact⟨_,rfl,.inl trivial⟩
  ·rename_i v
   refine⟨_,rfl,.inr ⟨?_,trivial⟩⟩
   simp only[dz,aF]
  ·exact⟨_,rfl,.inl trivial⟩
 |cons d ds =>
  simp only
  generalize hd:d.target=tg
  split
  ·rename_i b
   simp only
   generalize H.blk b=bk
   split
   ·have:=qm bX nt res m t ds (H.put b .no) r w 0 (bit b) K
    rw[aF]at this
    exact this
   ·exact⟨_,rfl,.inl trivial⟩
  ·rename_i f cap
   simp only
   obtain⟨y,e,hy⟩:=bX (.mI f (d.args.toList++cap.toList) m) H r w (DV nt res t ds rec K) trivial
   rw[e]
   clear e
   unfold nJ
   rcases hy with hy|⟨hy,_⟩
   ·rcases sA hy with⟨n,rfl⟩|rfl
    ·exact⟨_,rfl,.inl trivial⟩
    ·exact⟨_,rfl,.inl trivial⟩
   ·subst hy
    cases rec' (.mI f (d.args.toList++cap.toList) m) H with
    |c x=>exact⟨.k (.fail 5),rfl,.inl trivial⟩
    |k x =>
     cases x with
     |ret v H' r' w'=>exact⟨.k (.fail 5),rfl,.inl trivial⟩
     |panic v H' r' w'=>exact⟨.k (.fail 5),rfl,.inl trivial⟩
     |fail n=>exact⟨.k (.fail 5),rfl,.inl trivial⟩
     |n_ v H' r' w'=>exact qm bX nt res (.panicking [{ v,recovered:=false }]) t ds H' r w r' w' K
     |drop m' H' r' w' =>
      simp only[dz,DV]
      cases hs:mW m' with
      |run=>exact⟨_,rfl,.inl trivial⟩
      |returning=>exact qm bX nt res .returning t ds H' r w r' w' K
      |panicking l=>exact qm bX nt res (.panicking l) t ds H' r w r' w' K
  ·exact⟨_,rfl,.inl trivial⟩
theorem xy (l:Nat) (args:List Value) (H:Hp) (r w:Nat) (K:TR->TR):∃ y,BS l args tb sp rec H r w K=K y/\(ZV y\/(y=dz r w (je tb rec' l args H)/\Kd y)):=by
 unfold BS
 split
 ·rename_i nt lt ps a b db hbk
  split
  ·exact⟨_,rfl,.inl trivial⟩
  ·rename_i t hset
   cases hd:jq a&&jq b with
   |false=>exact⟨.k (.fail 24),rfl,.inl trivial⟩
   |true =>
    rw[aj]
    rw[Bool.and_eq_true]at hd
    obtain⟨z,e,hz⟩:=sZ (tb:=tb) bX.f a hd.1 ⟨dep nt,nt,some l,false⟩ t [] H r w (ac3 l nt b tb rec K)
    rw[e]
    clear e
    rcases hz with rfl|rfl
    ·exact⟨_,rfl,.inl trivial⟩
    ·cases ju:cj tb rec' ⟨dep nt,nt,some l,false⟩ a t [] H with
     |fail=>exact⟨.k (.fail 12),rfl,.inl trivial⟩
     |mk x t1 ds1 H1 r1 w1 =>
      cases x with
      |normal =>
       cases ds1 with
       |cons d ds=>exact⟨.k (.fail 12),rfl,.inl trivial⟩
       |nil =>
        simp only[CR.join,ac3]
        split
        ·rename_i nt2 lt2 ps2 a2 b2 db2 wH
         obtain⟨z,e,hz⟩:=sZ (tb:=tb) bX.f b hd.2 ⟨dep nt,nt,some l,false⟩ t1 [] (H1.put l (.loop false none nt2 lt2 ps2 a2 b2 db2)) (Nat.lor r r1) (Nat.lor w w1) (λx=>K (endRound l (bit l) (bit l) x))
         rw[e]
         rcases hz with rfl|rfl
         ·exact⟨_,rfl,.inl trivial⟩
         ·have anv:je tb rec' l args H=endRound l (Nat.lor (bit l) r1) (Nat.lor w1 (bit l)) (cj tb rec' ⟨dep nt,nt,some l,false⟩ b t1 [] (H1.put l (.loop false none nt2 lt2 ps2 a2 b2 db2))):=by
           unfold je;simp only[hbk,hset,ju,wH]
          rw[anv]
          exact⟨_,rfl,Gq l r w r1 w1 _⟩
        ·exact⟨_,rfl,.inl trivial⟩
      |_=>exact⟨.k (.fail 12),rfl,.inl trivial⟩
 ·exact⟨_,rfl,.inl trivial⟩
include Mz
theorem RR:Xg (aa_ tb sp rec) (f_ tb sp rec'):=by
 intro tk H r w K hd
 cases tk with
 |call f args =>
  show ∃ y,spK (sp f args H) f tb rec args H r w K=K y/\_
  simp only[f_]
  cases hs:sp f args H with
  |some q =>
   obtain⟨v,H',r',w'⟩:=q
   refine⟨.k (eO v H' (Nat.lor r r') (Nat.lor w w')),?_,.inr ?_⟩
   ·show Fz _ (Fz _ _)=_
    rw[tu,tu]
   ·show TR.k (eO v H' (Nat.lor r r') (Nat.lor w w'))=dz r w (.k (eO v H' r' w'))/\_
    unfold eO
    cases dL v<;>exact⟨rfl,trivial⟩
  |none=>exact DH bX Mz f args H r w K
 |mI f args um =>
  refine⟨_,rfl,?_⟩
  simp only[f_]
  cases sW tb f args um H with
  |c x=>exact .inl trivial
  |k x =>
   cases x with
   |drop m H' r' w'=>exact .inr ⟨rfl,trivial⟩
   |n_ v H' r' w'=>exact .inr ⟨rfl,trivial⟩
   |_=>exact .inl trivial
 |round l args=>exact xy (sp:=sp) bX l args H r w K
 |loop b cx t ds =>
  show ∃ y,y8 b (js b) tb rec cx t ds H r w (λx=>K (.c x))=K y/\_
  obtain⟨z,e,hz⟩:=LW (tb:=tb) (cx:=cx) (b:=b) bX.f hd (λt ds H r w K=>sZ bX.f b hd cx t ds H r w K) t ds H r w (λx=>K (.c x))
  refine⟨.c z,e,?_⟩
  rcases hz with rfl|rfl
  ·exact .inl trivial
  ·exact .inr ⟨rfl,trivial⟩
 |unwind nt res t ds m=>exact tG bX nt res t ds m H r w K
end
theorem JF {tb:Tb} (Mz:Xj tb) (sp:Sp):∀ n,Xg (evK tb sp n) (ev tb sp n)
 |0=>λtk H r w K _=>⟨.k (.fail 0),rfl,.inl trivial⟩
 |n+1=>RR (JF Mz sp n) Mz
theorem aaq {tb:Tb} (Mz:Xj tb) {sp:Sp} {n:Nat} {f:FuncId} {args:List Value} {H:Hp} {v:Value} {H':Hp} {r w:Nat} (h:evK tb sp n (.call f args) H 0 0 (λx=>x)=.k (.ret v H' r w)) :
 ev tb sp n (.call f args) H=.k (.ret v H' r w):=by
 obtain⟨y,e,hy⟩:=JF Mz sp n (.call f args) H 0 0 (λx=>x) trivial
 have e:evK tb sp n (.call f args) H 0 0 (λx=>x)=y:=e
 rw[h]at e
 subst e
 rcases hy with hy|⟨hy,_⟩
 ·exact hy.elim
 ·cases hr:ev tb sp n (.call f args) H with
  |c x=>rw[hr]at hy;cases hy
  |k x =>
   rw[hr]at hy
   cases x with
   |ret v1 H1 r1 w1=>simp only[dz,aK]at hy;exact hy.symm
   |_=>cases hy
theorem P_ {tb:Tb} (Mz:Xj tb) {sp:Sp} {n:Nat} {f:FuncId} {args:List Value} {H:Hp} {v:Value} {H':Hp} {r w:Nat} (h:evK tb sp n (.call f args) H 0 0 (λx=>x)=.k (.panic v H' r w)) :
 ev tb sp n (.call f args) H=.k (.panic v H' r w):=by
 obtain⟨y,e,hy⟩:=JF Mz sp n (.call f args) H 0 0 (λx=>x) trivial
 have e:evK tb sp n (.call f args) H 0 0 (λx=>x)=y:=e
 rw[h]at e
 subst e
 rcases hy with hy|⟨hy,_⟩
 ·exact hy.elim
 ·cases hr:ev tb sp n (.call f args) H with
  |c x=>rw[hr]at hy;cases hy
  |k x =>
   rw[hr]at hy
   cases x with
   |panic v1 H1 r1 w1=>simp only[dz,aK]at hy;exact hy.symm
   |_=>cases hy
end Go.Ev.F
end
noncomputable section
namespace Go.Ev
def Ig (v:Value):Bool:=match v with|.bool _=>false|_=>true
def o7 (f:Value->Value->Bool):List Value->List Value->Bool
 | [],[]=>true
 |x::xs,y::ys=>f x y&&o7 f xs ys
 |_,_=>false
def iL (tab:Nat->Option Value) (pm:Nat->Nat->Bool):Nat->Value->Value->Bool
 |0,_,_=>false
 |d+1,c,v=>match c with
  |.bool a=>(match v with|.bool b=>(a&&b)||(!a&&!b)|_=>false)
  |.int k x=>(match v with|.int j y=>tD k j&&nQ x y|.chan (some j)=>(match tab j with|some (.int i y)=>tD k i&&nQ x y|_=>false)|_=>false)
  |.string s=>(match v with|.string s'=>p8 s.data.toList s'.data.toList|_=>false)
  |.pointer a=>(match a,v with
   |none,.pointer none=>true
   |some ⟨b,o,none⟩,.pointer (some ⟨b',o',none⟩)=>pm b b'&&Nat.beq o o'
   |_,_=>false)
  |.slice a l k=>(match a,v with
   |none,.slice none l' k'=>Nat.beq l l'&&Nat.beq k k'
   |some ⟨b,o,none⟩,.slice (some ⟨b',o',none⟩) l' k'=>pm b b'&&Nat.beq o o'&&Nat.beq l l'&&(Nat.beq k k'||(Nat.beq (k % 2) 1&&Nat.beq (k' % 2) 1&&Nat.ble k k'))
   |_,_=>false)
  |.map a=>(match a,v with
   |none,.map none=>true
   |some b,.map (some b')=>pm b b'
   |_,_=>false)
  |.chan none=>Ig v
  |.chan (some k)=>(match v with
   |.chan (some j)=>Nat.beq k j||Nat.beq k 0
   |.int i x=>Nat.beq k 0||(match tab k with|some (.int j y)=>tD j i&&nQ y x|_=>false)
   |v=>Nat.beq k 0&&bQ v&&Ig v)
  |.func (.func f) as cs=>(match v with|.func (.func f') as' cs'=>Nat.beq f f'&&o7 (iL tab pm d) as.toList as'.toList&&o7 (iL tab pm d) cs.toList cs'.toList|_=>false)
  |.nilFunc=>(match v with|.nilFunc=>true|_=>false)
  |.iface t x=>(match v with|.iface t' y=>Nat.beq t t'&&iL tab pm d x y|_=>false)
  |.nilIface=>(match v with|.nilIface=>true|_=>false)
  |.agg a=>(match v with|.agg b=>a.toList.all bQ&&o7 (iL tab pm d) a.toList b.toList|_=>false)
  |.tuple a=>(match v with|.tuple b=>o7 (iL tab pm d) a.toList b.toList|_=>false)
  |_=>false
def Cd (n0 b b':Nat):Bool:=Nat.beq b b'&&Nat.blt b n0
def Bu (f:Value->Value->Bool) (c v:Value):Bool:=f c v&&(bQ c||!bQ v)
def p9 (f:Value->Value->Bool):(d:Nat)->Oc Value d->Oc Value d->Bool
 |0,x,y=>f x y
 |d+1,x,y=>match (x:N8 (Oc Value d)),(y:N8 (Oc Value d))with
  |⟨a,b,c,e,g,h,i,j⟩,⟨a',b',c',e',g',h',i',j'⟩=>p9 f d a a'&&(p9 f d b b'&&(p9 f d c c'&&(p9 f d e e'&&(p9 f d g g'&&(p9 f d h h'&&(p9 f d i i'&&p9 f d j j'))))))
def Wk (f:Value->Value->Bool) (s t:T Value):Bool:=match s,t with
 |.t0 x,.t0 y=>f x y
 |.t1 x,.t1 y=>p9 f 1 x y
 |.t2 x,.t2 y=>p9 f 2 x y
 |.t3 x,.t3 y=>p9 f 3 x y
 |.t4 x,.t4 y=>p9 f 4 x y
 |.t5 x,.t5 y=>p9 f 5 x y
 |.t6 x,.t6 y=>p9 f 6 x y
 |_,_=>false
def Wl (f:Value->Value->Bool) (s t:T Value):Nat->Bool
 |0=>true
 |n+1=>f (s.get n) (t.get n)&&Wl f s t n
def qM (f:Value->Value->Bool) (x y:dB):Bool:=match x with
 |.no=>true
 |.cells t n ty op lo hi=>(match y with
  |.cells t2 n2 ty2 op2 lo2 hi2=>Nat.beq ty ty2&&(Nat.beq op op2&&(Nat.beq lo lo2&&(Nat.beq hi hi2&&((Nat.beq n n2&&(Nat.beq n 0||Wk (Bu f) t t2))||(Nat.blt 0 op&&(Nat.ble n n2&&Wl (Bu f) t t2 n))))))
  |_=>false)
 |.obj o=>(match o with
  |.cells _ k _=>(match y with|.obj o2=>(match o2 with|.cells _ k2 _=>Nat.beq k k2|_=>false)|_=>false)
  |_=>false)
 |_=>false
def jE:List (Nat×dB)->T dB->T dB
 | [],t=>t
 |(i,B)::l,t=>jE l (T.set 5 t i B)
def ug:List (Nat×dB)->Nat->Option dB
 | [],_=>none
 |(i,B)::l,b=>match ug l b with
  |some x=>some x
  |none=>if b=i then some B else none
structure ff where
 f:FuncId
 args:List Value
 pre:List (Nat×dB)
 n0:Nat
 v:Value
 post:List (Nat×dB)
 n1:Nat
 r:Nat
 w:Nat
def ff.fits (ng:Nat) (c:ff):Bool:=Nat.ble ng c.n0&&(Nat.ble c.n0 c.n1&&(Nat.ble c.n1 32768&&(Nat.blt c.r (Nat.pow 2 c.n0)&&(Nat.blt c.w (Nat.pow 2 c.n0)&&(c.pre.all (λx=>Nat.blt x.1 c.n0) &&
 (c.post.all (λx=>Nat.blt x.1 c.n1&&(Nat.ble c.n0 x.1||Nat.testBit c.w x.1))&&(c.pre.all (λx=>!Nat.testBit c.w x.1||c.post.any (λy=>Nat.beq y.1 x.1)) &&
  (List.range (c.n1-c.n0)).all (λi=>c.post.any (λy=>Nat.beq y.1 (c.n0+i))))))))))
def spC (tab:Nat->Option Value) (c:ff) (f:Nat) (args:List Value) (H:Hp):Option (Value×Hp×Nat×Nat):=match H with
 |.mk t nx=>Bc (Nat.beq f c.f&&(o7 (iL tab (Cd c.n0) 12) c.args args&&((Nat.beq nx c.n0||(Nat.beq c.n1 c.n0&&Nat.ble c.n0 nx))&&c.pre.all (λx=>qM (iL tab (Cd c.n0) 12) x.2 (t.get x.1)))))
  (some (c.v,.mk (jE c.post t) (Bc (Nat.beq c.n1 c.n0) nx c.n1),c.r,c.w)) none
 |_=>none
def ff.h0 (c:ff):Hp:=.mk (jE c.pre (.e .no)) c.n0
def ff.h1 (c:ff):Hp:=.mk (jE c.post (jE c.pre (.e .no))) c.n1
def dG (n0:Nat) (src:List Nat) (b:Nat):Nat:=Bc (Nat.blt b n0) b (src.getD (b-n0) 0)
def pmS (n0 n1:Nat) (src:List Nat) (b b':Nat):Bool:=Nat.blt b n1&&Nat.beq (dG n0 src b) b'&&(Nat.blt b n0||true)
def eE:List (Nat×dB)->Nat
 | []=>0
 |(i,B)::l=>match B with|.no=>eE l|_=>Nat.lor (bit i) (eE l)
def nodupB:List Nat->Bool
 | []=>true
 |x::l=>!(l.any λy=>Nat.beq x y)&&nodupB l
def ZW (B:dB):Bool:=match B with|.cells ..=>true|.obj _=>true|_=>false
def JG (tab:Nat->Option Value) (c:ff) (src:List Nat) (v':Value) (H':Hp) (r' w':Nat):Bool :=
 Nat.beq (Nat.lor (Nat.land r' (2 ^ c.n0-1)) c.r) c.r&&(Nat.beq (Nat.lor (Nat.land w' (2 ^ c.n0-1)) c.w) c.w&&(Nat.beq (Nat.lor c.w (eE c.pre)) (eE c.pre)&&(c.pre.all (λx=>ZW x.2) &&
 (iL tab (pmS c.n0 c.n1 src) 12 c.v v'&&(c.post.all (λx=>qM (iL tab (pmS c.n0 c.n1 src) 12) x.2 (H'.blk (dG c.n0 src x.1)))&&(Nat.ble H'.nx 32768&&(c.pre.all (λx=>qM (iL tab (Cd c.n0) 12) x.2 x.2)&&(o7 (iL tab (Cd c.n0) 12) c.args c.args&&(src.all (λs=>Nat.blt s 32768)&&(Nat.beq src.length (c.n1-c.n0)&&(nodupB src &&
 src.all (λs=>Nat.ble c.n0 s||(Nat.testBit c.w s&&(c.post.all (λy=>!Nat.beq y.1 s||(match y.2 with|.no=>true|_=>false))))))))))))))))
end Go.Ev
end
noncomputable section
namespace Go.Ev
variable [dj]
def Kw (args:List Value) (H:Hp):Option (Value×Hp×Nat×Nat):=match args with
 | [x]=>some (x,H,0,0)
 |_=>none
def RX (u8:TypeId) (args:List Value) (H:Hp):Option (Value×Hp×Nat×Nat):=match args with
 | [.int .i64 (.ofNat n)]=>Bc (Nat.ble n 1099511627776) (match aS (.cells (.e U) 0 u8 2 0 0) H (λi=>.slice (some ⟨i,0,none⟩) n 1) 0 0 with
  |.val v H' r w=>some (v,H',r,w)
  |_=>none) none
 |_=>none
theorem NK {args:Array Value} {x:Value} (h:args.toList=[x]):args = #[x]:=by
 obtain⟨l⟩:=args
 simp at h;subst h;rfl
theorem HE {P:Program} {ng:Nat} {f:FuncId} (hf:∀ (x:Value) (W:World),(callFunc f #[x]).run P W=.ok (.value x) W) {args:List Value} {H:Hp} {v:Value} {H':Hp} {r w:Nat} (hw:H.wf) (h:Kw args H=some (v,H',r,w)) :
 aI P ng (.call f args) H (.k (.ret v H' r w)):=by
 unfold Kw at h
 split at h
 ·rename_i x
  simp only[Option.some.injEq,Prod.mk.injEq]at h
  obtain⟨rfl,rfl,rfl,rfl⟩:=h
  refine⟨Can.refl hw,λβ W hg p=>?_⟩
  intro args' hl
  obtain⟨x',l,e,hx,hl'⟩:=hl.cons_inv
  have:=hl'.aL;subst this
  rw[NK e]
  exact .inr ⟨x',W,hf x' W,β,x',rfl,hx,Post.refl p.dom⟩
 ·cases h
theorem Om {P : Program} {ng : Nat} {f : FuncId} {fn : Func} {ps : Array TypeId} {t u8 : TypeId} (ht : P.underlying t = some (.slice u8)) (hf : P.funcs[f]? = some fn) (hname : (fn.name == "runtime.NumGoroutine") = false) (hb : fn.body.isNone = true)
 (hn:Extern.findNext fn=none) (he:Extern.find fn=some (Extern.BytealgMakeNoZero.makeNoZero ps #[t])) {args:List Value} {H:Hp} {v:Value} {H':Hp} {r w:Nat} (h:RX u8 args H=some (v,H',r,w)) :
 aI P ng (.call f args) H (.k (.ret v H' r w)):=by
 unfold RX at h
 split at h
 ·rename_i n
  cases hle:Nat.ble n 1099511627776 with
  |false=>rw[hle,au]at h;cases h
  |true =>
   rw[hle,aj,fG]at h
   have hle':=(aE _ _).1 hle
   by_cases hr:H.room=true
   case neg=>rw[if_neg hr]at h;cases h
   rw[if_pos hr]at h
   simp only[Option.some.injEq,Prod.mk.injEq]at h
   obtain⟨rfl,rfl,rfl,rfl⟩:=h
   refine⟨fB hr,λβ W hg p=>?_⟩
   intro args' hl
   obtain⟨x',l,e,hx,hl'⟩:=hl.cons_inv
   have:=hl'.aL;subst this
   rw[NK e]
   cases hx
   obtain⟨cs,hrun,hge,_⟩:=Lib.run_makeNoZero (P:=P) W ps t u8 ht n (by omega)
   have yq:=run_callFunc_extern hf hname hb hn he #[.int .i64 n] W
   rw[hrun]at yq
   simp only[Result.andThen_ok]at yq
   have f0:β H.nx=none:=p.fresh H.nx (Nat.le_refl _) (by rw[aZ];omega)
   let m:Bm:=⟨W.heap.size,0,cs.size,1⟩
   have q:=iU (β:=β) (H:=H) (W:=W) (.cells (.e U) 0 u8 2 0 0) (.cells cs u8) m hr rfl f0
    ⟨cs,(0,0),rfl,rfl,by show 0+0<=cs.size;omega,(λh=>by cases h),(λk h=>by show 1=k;omega),(λi hi=>by omega),.inl ⟨Nat.le_refl _,.inl rfl⟩⟩ p.dom
   have hv:ai (β.put H.nx m) (.slice (some ⟨H.nx,0,none⟩) n 1) (.slice (some ⟨W.heap.size,0,none⟩) n cs.size) :=
    .sl H.nx 0 n 1 cs.size m (Mp.dJ _ _ _) ⟨λh=>absurd h (by decide),λ_=>⟨by omega,by show 0+0+cs.size*1=cs.size;omega⟩⟩
   refine .inr ⟨_,_,yq,β.put H.nx m,_,rfl,hv,?_⟩
   exact q.congr rfl ⟨rfl,rfl,rfl⟩
 ·cases h
end Go.Ev
end
