/-
 A part of the reckoner for the statements of a Go program: what it answers,the model answers. Holds for every program whose tables are as given.
-/
import Derived.OrdersIn
import Derived.RangeFuncRecord
import Derived.RecoverIn
import GoSem.Dispatch
import Derived.Test.YtdmcanlbncbemaaGreatDoorG03
set_option linter.unusedSimpArgs false
set_option linter.unusedVariables false
set_option linter.unusedSectionVars false
set_option maxRecDepth 100000
set_option maxHeartbeats 8000000
noncomputable section
namespace Go.Ev
variable [lN]
theorem mq {β:Mp} {t:T Value} {ρ:Operand->Value}:∀ {xs:List Operand},(∀ x∈xs,ai β (aA t x) (ρ x))->ak β (de t xs) (xs.map ρ):=by
 intro xs
 induction xs with
 |nil=>intro _;exact ak.nil β
 |cons x xs ih=>intro h;exact ak.cons (h x (by simp)) (ih λy hy=>h y (by simp[hy]))
theorem xK {β:Mp} {t:T Value} {ρ:Operand->Value} {x:Option Operand} (h:∀ y∈x,ai β (aA t y) (ρ y)):GX β (dR t x) (x.map ρ):=by
 cases x with
 |none=>trivial
 |some y=>exact h y rfl
section
variable {P:Program} {tb:Tb} (ok:dI P tb) {β:Mp} {H:Hp} {W:World} (hw:H.wf) {ρ:Operand->Value} {t:T Value}
include ok hw
theorem abS {neg:Bool} {ty:TypeId} {x y:Operand} (hq:lN.Q β) (hx:ai β (aA t x) (ρ x)) (hy:ai β (aA t y) (ρ y)) :
 gl P β H W (do eqGuard (if neg then .neq else .eql) ty x y (ρ x) (ρ y);binOp (if neg then .neq else .eql) ty (ρ x) (ρ y)) (run (y7 tb neg ty x y) t H):=by
 obtain⟨c,hc⟩:∃ c,y7 tb neg ty x y=c:=⟨_,rfl⟩
 rw[hc]
 unfold y7 at hc
 split at hc
 ·rename_i ms e
  split at hc
  ·rename_i lz
   subst hc
   simp only[Bool.or_eq_true]at lz
   refine AW ok hw hq (d:=.interface ms) rfl (ok.eN _ _ e) hx hy λ_=>?_
   rcases lz with(h|h)|h
   ·exact .inl h
   ·exact .inr (.inl h)
   ·right;right
    rw[ok.eN _ _ e]
    have:ms = #[]:=Array.isEmpty_iff.1 h
    rw[this]
  ·subst hc;trivial
 ·rename_i hni
  split at hc
  ·rename_i p e
   subst hc
   unfold V5 at e
   split at e
   ·rename_i fs e1
    split at e
    ·rename_i l n e2 e3
     cases e
     exact Pa ok hw e2 e3 ⟨fs,e1⟩ hx hy
    ·cases e
   ·cases e
   ·rename_i d G1 hd2 e1
    split at e
    ·rename_i l e2
     cases e
     refine AW ok hw hq e2 (ok.eN _ _ e1) hx hy λhl=>?_
     subst hl
     exfalso
     unfold qA at e2
     split at e2<;>try (cases e2;done)
     ·split at e2<;>cases e2
     ·exact hni _ e1
    ·cases e
   ·cases e
  ·subst hc;trivial
omit hw in
theorem ji {at_:Array TypeId} {d:TypeDesc} (h:at0 tb at_=some d):∃ ty,at_[0]?=some ty/\P.underlying ty=some d:=by
 unfold at0 at h
 split at h
 ·rename_i ty r e
  exact⟨ty,by rw[<-Array.getElem?_toList,e];rfl,ok.eN _ _ h⟩
 ·cases h
omit hw in
theorem aaW {at_:Array TypeId} {d:TypeDesc} (h:at1 tb at_=some d):∃ ty,at_[1]?=some ty/\P.underlying ty=some d:=by
 unfold at1 at h
 split at h
 ·rename_i ty1 ty r e
  exact⟨ty,by rw[<-Array.getElem?_toList,e];rfl,ok.eN _ _ h⟩
 ·cases h
omit ok hw in
theorem Dw {b:Builtin} {args:Array Operand} {at_:Array TypeId} {dst:Option Tmp} {type:TypeId} {pos:String} {after:Array Edge} {guard:Option (Nat×Bool)} :
 (execOp ρ ⟨dst,.call ⟨.builtin b,args,at_⟩,type,pos,after,guard⟩).run P W=(builtin b at_ type (args.map λ| .const _=>true|_=>false) (args.map ρ)).run P W:=rfl
theorem JV {b:Builtin} {args:Array Operand} {at_:Array TypeId} {dst:Option Tmp} {type:TypeId} {pos:String} {after:Array Edge} {guard:Option (Nat×Bool)} (hq:lN.Q β) (hv:∀ x∈args.toList,ai β (aA t x) (ρ x)) :
 QG P β H W (execOp ρ ⟨dst,.call ⟨.builtin b,args,at_⟩,type,pos,after,guard⟩) (run (GA tb b at_ args.toList) t H):=by
 refine AH Dw ?_
 obtain⟨args⟩:=args
 simp only at hv
 obtain⟨c,hc⟩:∃ c,GA tb b at_ args=c:=⟨_,rfl⟩
 show QG P β H W _ (run (GA tb b at_ args) t H)
 have hm:(⟨args⟩:Array Operand).map ρ=⟨args.map ρ⟩:=Array.ext' (by simp)
 rw[hc,hm]
 unfold GA at hc
 split at hc
 ·rename_i s x
  have hs:=hv s (by simp)
  have hx:=hv x (by simp)
  split at hc
  ·subst hc;trivial
  ·rename_i elem dx IY e1 e2
   split at hc
   ·rename_i i e3
    split at hc
    ·rename_i z e4
     split at hc
     ·rename_i e5
      subst hc
      obtain⟨t0,g0,g1⟩:=ji ok e1
      obtain⟨t1,g2,g3⟩:=aaW ok e2
      have:=afM (P:=P) (W:=W) (ty:=type) hw g0 g2 g1 g3 (λk h=>IY k h) (ok.info _ _ e3) e4 ((beq_iff _ _).1 e5) hs hx
      exact bA this
     ·subst hc;trivial
    ·subst hc;trivial
   ·subst hc;trivial
  ·subst hc;trivial
 ·rename_i x
  have hx:=hv x (by simp)
  split at hc
  ·rename_i n elem e1
   subst hc
   obtain⟨t0,g0,g1⟩:=ji ok e1
   exact bA (ZK hw g0 g1)
  ·rename_i e1
   subst hc
   obtain⟨t0,g0,g1⟩:=ji ok e1
   exact bA (IE hw hq g0 g1 (.inl ⟨rfl,rfl⟩) hx)
  ·rename_i e e1
   subst hc
   obtain⟨t0,g0,g1⟩:=ji ok e1
   exact bA (IE hw hq g0 g1 (.inr (.inl ⟨rfl,e,rfl⟩)) hx)
  ·rename_i a b e1
   subst hc
   obtain⟨t0,g0,g1⟩:=ji ok e1
   exact bA (IE hw hq g0 g1 (.inr (.inr ⟨rfl,a,b,rfl⟩)) hx)
  ·subst hc;trivial
 ·rename_i x
  have hx:=hv x (by simp)
  split at hc
  ·rename_i e e1
   subst hc
   obtain⟨t0,g0,g1⟩:=ji ok e1
   exact bA (afy hw g0 g1 hx)
  ·subst hc;trivial
 ·rename_i d x
  have hd:=hv d (by simp)
  have hx:=hv x (by simp)
  split at hc
  ·rename_i elem e1
   split at hc
   ·rename_i sz e2
    subst hc
    obtain⟨i,hi',rfl⟩:=cC ok e2
    obtain⟨t0,g0,g1⟩:=ji ok e1
    exact bA (aaA ok hw g0 g1 hi' hd hx)
   ·subst hc;trivial
  ·subst hc;trivial
 ·rename_i x
  have hx:=hv x (by simp)
  split at hc
  ·rename_i elem e1
   split at hc
   ·rename_i z e2
    subst hc
    obtain⟨t0,g0,g1⟩:=ji ok e1
    exact bA (Ws ok hw g0 g1 e2 hx)
   ·subst hc;trivial
  ·subst hc;trivial
 ·rename_i x y
  subst hc
  exact bA (adF hw hq (hv x (by simp)) (hv y (by simp)))
 ·rename_i x y
  subst hc
  exact bA (adH hw hq (hv x (by simp)) (hv y (by simp)))
 ·rename_i x y z
  subst hc
  exact bA (Zx hw (hv x (by simp)) (hv y (by simp)) (hv z (by simp)))
 ·rename_i x y z
  subst hc
  exact bA (ZB hw (hv x (by simp)) (hv y (by simp)) (hv z (by simp)))
 ·subst hc;rfl
 ·rename_i x
  subst hc
  exact bA (ace hw (hv x (by simp)))
 ·rename_i p n
  split at hc
  ·rename_i e e1
   split at hc
   ·rename_i e2 e3
    subst hc
    obtain⟨t0,g0,g1⟩:=ji ok e1
    obtain⟨i,hi',hsz⟩:=cC ok e3
    exact bA (XR hw hq g0 g1 (by simp[Program.cellsOf,hi',hsz]) (hv p (by simp)) (hv n (by simp)))
   ·subst hc;trivial
  ·subst hc;trivial
 ·rename_i m k
  split at hc
  ·rename_i key elem e1
   split at hc
   ·rename_i p e2
    subst hc
    obtain⟨t0,g0,g1⟩:=ji ok e1
    exact bA (afm ok hw g0 g1 e2 (hv m (by simp)) (hv k (by simp)))
   ·subst hc;trivial
  ·subst hc;trivial
 ·subst hc;trivial
theorem DS {o:Oper} {elem:TypeId} (he:o.op=.alloc elem):QG P β H W (execOp ρ o) (run (cw tb o) t H):=by
 obtain⟨dst,op,type,pos,after,guard⟩:=o
 simp only at he;subst he
 simp only[cw]
 split
 ·rename_i n v hu;exact bA (BH ok hu)
 ·split
  ·rename_i z hz;exact bA (zc ok hz)
  ·trivial
theorem B4 {o:Oper} (hq:lN.Q β) (hv:∀ x∈o.op.operands.toList,ai β (aA t x) (ρ x)):QG P β H W (execOp ρ o) (run (cw tb o) t H):=by
 obtain⟨dst,op,type,pos,after,guard⟩:=o
 cases op with
 |move x=>exact bA (aD hw (s:=pure (ρ x)) rfl (hv x (by simp[Op.operands])))
 |assign x=>exact bA (aD hw (s:=pure (ρ x)) rfl (hv x (by simp[Op.operands])))
 |pick c a b =>
  have:=YT (P:=P) (W:=W) hw (hv c (by simp[Op.operands])) (hv a (by simp[Op.operands])) (hv b (by simp[Op.operands]))
  exact AH (by simp[execOp]) (bA this)
 |alloc elem =>
  simp only[cw]
  split
  ·rename_i n v hu;exact bA (BH ok hu)
  ·split
   ·rename_i z hz;exact bA (zc ok hz)
   ·trivial
 |box elem x=>exact bA (afE (hv x (by simp[Op.operands])))
 |build ty parts =>
  have hp:∀ p∈parts.toList,ai β (aA t p.2) (ρ p.2):=λp hp=>hv p.2 (by simp only[Op.operands];simp;exact⟨p.1,by simpa using hp⟩)
  have hm:(parts.map λ(i,x)=>(i,ρ x))=(parts.toList.map λ(i,x)=>(i,ρ x)).toArray:=by
   apply Array.ext';simp
  simp only[cw]
  split
  ·rename_i fields z e1 e2
   split
   ·rename_i l e3 e4
    have:=Qp (W:=W) ok hw (ok.eN _ _ e1) e2 e3 e4 hp
    rw[<-hm]at this
    exact bA this
   ·trivial
  ·rename_i n elem z e1 e2
   split
   ·rename_i s e3
    have:=Qq (W:=W) ok hw (ok.eN _ _ e1) e2 e3 hp
    rw[<-hm]at this
    exact bA this
   ·trivial
  ·trivial
 |buildSlice ty len parts =>
  have hp:∀ p∈parts.toList,ai β (aA t p.2) (ρ p.2):=λp hp=>hv p.2 (by simp only[Op.operands];simp;exact⟨p.1,by simpa using hp⟩)
  have hm:(parts.map λ(i,x)=>(i,ρ x))=(parts.toList.map λ(i,x)=>(i,ρ x)).toArray:=by
   apply Array.ext';simp
  simp only[cw]
  split
  ·rename_i elem e1
   split
   ·rename_i s z e2 e3
    cases e4:(Nat.beq z.length s&&Nat.ble (len*s) 16777216)with
    |false=>rw[au];trivial
    |true =>
     rw[aj]
     simp only[Bool.and_eq_true,beq_iff,aE]at e4
     have:=Qt (H:=H) (W:=W) ok (ok.eN _ _ e1) e3 e2 e4.1 e4.2 hp
     rw[<-hm]at this
     exact bA this
   ·trivial
  ·trivial
 |load ty a =>
  have ha:=hv a (by simp[Op.operands])
  simp only[cw]
  split
  ·rename_i e1
   split
   ·rename_i n e2;exact bA (adS ok hw e1 e2 ha)
   ·trivial
  ·rename_i e1;exact bA (adT ok hw e1 ha)
  ·trivial
 |store ty a x =>
  simp only[cw]
  split
  ·rename_i n e1;exact Ta (RT ok hw e1 (hv a (by simp[Op.operands])) (hv x (by simp[Op.operands])))
  ·trivial
 |nilCheck x =>
  have hx:=hv x (by simp[Op.operands])
  show QG P β H W _ (mF (aA t x) H)
  generalize hr:ρ x=v' at hx
  generalize aA t x=v at hx
  have keep:=hx
  cases hx<;>first
   |trivial
   |exact⟨Can.refl hw,λp=>⟨β,W,_,.inl (by simp[execOp,hr]),keep,Post.refl p.dom⟩⟩
 |binOp op ty x y k =>
  have hx:=hv x (by simp[Op.operands])
  have hy:=hv y (by simp[Op.operands])
  cases op with
  |eql=>exact bA (abS ok hw (neg:=false) hq hx hy)
  |neq=>exact bA (abS ok hw (neg:=true) hq hx hy)
  |_=>exact bA (afI hw hq hx hy)
 |unOp op k x=>exact bA (af0 hw hq (hv x (by simp[Op.operands])))
 |convert src dst x =>
  have hx:=hv x (by simp[Op.operands])
  simp only[cw]
  split
  ·rename_i k1 k e1 e2;exact bA (aaH hw hq (ok.eN _ _ e1) (ok.eN _ _ e2) hx)
  ·rename_i k1 e1 e2;exact bA (aaI hw (ok.eN _ _ e1) (ok.eN _ _ e2) hq hx)
  ·rename_i e1 e2;exact bA (afB hw (ok.eN _ _ e1) (ok.eN _ _ e2) hx)
  ·rename_i e e1 e2
   split
   ·rename_i k e3;exact bA (Rw hw (ok.eN _ _ e1) (ok.eN _ _ e2) (cC ok e3) hx)
   ·trivial
  ·rename_i u e1 e2
   split
   ·rename_i k e3;exact bA (ae8 ok hw (ok.eN _ _ e1) (ok.eN _ _ e2) (cC ok e3) hx)
   ·trivial
  ·rename_i e e1 e2
   split
   ·rename_i e3;exact bA (aaF (ok.eN _ _ e1) (ok.eN _ _ e2) (ok.eN _ _ e3) hx)
   ·trivial
  ·rename_i e e1 e2
   split
   ·rename_i e3;exact bA (aaE hw hq (ok.eN _ _ e1) (ok.eN _ _ e3) (ok.eN _ _ e2) hx)
   ·trivial
  ·trivial
 |makeInterface ty x =>
  simp only[cw]
  split
  ·trivial
  ·rename_i d hd e1;exact bA (adC hw (ok.eN _ _ e1) (λms h=>hd ms h) (hv x (by simp[Op.operands])))
  ·trivial
 |makeFunc fn first captured =>
  simp only[cw]
  split
  ·rename_i f
   have h1:ak β (de t first.toList) (first.map ρ).toList:=by rw[Array.toList_map];exact mq λx hx=>hv x (by simp only[Op.operands];simp;left;simpa using hx)
   have h2:ak β (de t captured.toList) (captured.map ρ).toList:=by rw[Array.toList_map];exact mq λx hx=>hv x (by simp only[Op.operands];simp;right;simpa using hx)
   exact bA (adD hw h1 h2)
  ·trivial
 |makeMap ty r =>
  cases r with
  |none=>exact bA (TF (.inl rfl))
  |some x =>
   cases x with
   |const v =>
    cases v<;>try trivial
    rename_i k n
    simp only[cw]
    split
    ·rename_i a b e1
     have hx:=hv (.const (.int k n)) (by simp[Op.operands])
     refine bA (TF (r:=some (ρ (.const (.int k n)))) (.inr ?_))
     generalize ρ (.const (.int k n))=v' at hx
     simp only[aA]at hx
     cases hx
     exact⟨_,_,_,_,rfl,ok.eN _ _ e1⟩
    ·trivial
   |_=>trivial
 |makeSlice ty l c =>
  simp only[cw]
  split
  ·rename_i elem e1
   split
   ·rename_i z ti e2 e3
    cases e4:Nat.beq z.length ti.size with
    |false=>rw[au];trivial
    |true =>
     rw[aj]
     exact bA (Zv ok hw (ok.eN _ _ e1) e2 e3 ((beq_iff _ _).1 e4) (hv l (by simp[Op.operands])) (hv c (by simp[Op.operands])))
   ·trivial
  ·trivial
 |slice ty x lo hi mx =>
  have hx:=hv x (by simp[Op.operands])
  have r1:GX β (dR t lo) (lo.map ρ):=xK λy hy=>hv y (by simp only[Op.operands];simp;right;left;simpa using hy)
  have r2:GX β (dR t hi) (hi.map ρ):=xK λy hy=>hv y (by simp only[Op.operands];simp;right;right;left;simpa using hy)
  have r3:GX β (dR t mx) (mx.map ρ):=xK λy hy=>hv y (by simp only[Op.operands];simp;right;right;right;simpa using hy)
  simp only[cw]
  split
  ·rename_i e1
   split
   ·exact bA (acR hw (ok.eN _ _ e1) hx r1 r2)
   ·trivial
  ·rename_i elem e1
   split
   ·rename_i sz e2
    obtain⟨i,hi',rfl⟩:=cC ok e2
    exact bA (acS hw (ok.eN _ _ e1) hi' hx r1 r2 r3)
   ·trivial
  ·rename_i n elem e1
   split
   ·rename_i sz e2
    obtain⟨i,hi',rfl⟩:=cC ok e2
    exact bA (acT hw (ok.eN _ _ e1) hi' hx r1 r2 r3)
   ·trivial
  ·trivial
 |fieldAddr s x f =>
  have hx:=hv x (by simp[Op.operands])
  simp only[cw]
  split
  ·rename_i fields e1
   split
   ·rename_i fd e2
    split
    ·rename_i n e3
     obtain⟨i,hi',hn⟩:=cC ok e3
     exact bA (aj_ hw (ok.eN _ _ e1) e2 hi' hn hx)
    ·trivial
   ·trivial
  ·trivial
 |field s x f =>
  have hx:=hv x (by simp[Op.operands])
  simp only[cw]
  split
  ·rename_i fields e1
   split
   ·rename_i fd e2
    split
    ·rename_i n ag e3 e4
     obtain⟨i,hi',rfl⟩:=cC ok e3
     exact bA (ae9 ok hw (ok.eN _ _ e1) e2 hi' e4 hx)
    ·trivial
   ·trivial
  ·trivial
 |indexAddr ty x ix =>
  have hx:=hv x (by simp[Op.operands])
  have hi:=hv ix (by simp[Op.operands])
  simp only[cw]
  split
  ·rename_i n elem e1
   split
   ·rename_i sz e2
    obtain⟨i,hi',rfl⟩:=cC ok e2
    exact bA (ad4 hw (ok.eN _ _ e1) hi' hx hi)
   ·trivial
  ·rename_i elem e1
   split
   ·rename_i sz e2
    obtain⟨i,hi',rfl⟩:=cC ok e2
    exact bA (ad3 hw (ok.eN _ _ e1) hi' hx hi)
   ·trivial
  ·trivial
 |index ty x ix =>
  have hx:=hv x (by simp[Op.operands])
  have hi:=hv ix (by simp[Op.operands])
  simp only[cw]
  split
  ·rename_i n elem e1
   split
   ·rename_i sz ag e2 e3
    obtain⟨i,hi',rfl⟩:=cC ok e2
    exact bA (adY ok hw (ok.eN _ _ e1) hi' e3 hx hi)
   ·trivial
  ·rename_i e1;exact bA (adX hw hq (ok.eN _ _ e1) hx hi)
  ·trivial
 |lookup ty m k okb =>
  simp only[cw]
  split
  ·rename_i key elem e1
   split
   ·rename_i z p e2 e3
    exact bA (adQ ok hw (ok.eN _ _ e1) e2 e3 (hv m (by simp[Op.operands])) (hv k (by simp[Op.operands])))
   ·trivial
  ·trivial
 |mapUpdate ty m k x =>
  simp only[cw,wP]
  split
  ·rename_i key elem e1
   split
   ·rename_i p e2
    exact Ta (Ty ok hw (ok.eN _ _ e1) e2 (hv m (by simp[Op.operands])) (hv k (by simp[Op.operands])) (hv x (by simp[Op.operands])))
   ·trivial
  ·trivial
 |insert ty m k x =>
  simp only[cw,wP]
  split
  ·rename_i key elem e1
   split
   ·rename_i p e2
    exact Ta (Ty ok hw (ok.eN _ _ e1) e2 (hv m (by simp[Op.operands])) (hv k (by simp[Op.operands])) (hv x (by simp[Op.operands])))
   ·trivial
  ·trivial
 |range ty x =>
  have hx:=hv x (by simp[Op.operands])
  simp only[cw]
  split
  ·rename_i e1;exact bA (YE (ok.eN _ _ e1) hx)
  ·rename_i a b e1;exact bA (YG (ok.eN _ _ e1) hx)
  ·trivial
 |next it b =>
  have hx:=hv it (by simp[Op.operands])
  cases b with
  |true=>exact bA (Ze hw hx)
  |false=>exact bA (Zg hw hx)
 |typeAssert x xt ty okb =>
  have hx:=hv x (by simp[Op.operands])
  simp only[cw]
  split
  ·trivial
  ·rename_i d hd e1
   split
   ·rename_i z e2
    obtain⟨i,hi',hz,hf⟩:=Ai ok e2
    exact bA (acq hw (ok.eN _ _ e1) (λms h=>hd ms h) hi' hz hf hx)
   ·trivial
  ·trivial
 |extract x i=>exact bA (afa hw (hv x (by simp[Op.operands])))
 |call c =>
  obtain⟨callee,args,at_⟩:=c
  have hargs:∀ x∈args.toList,ai β (aA t x) (ρ x):=λx hx=>hv x (by simp only[Op.operands,Call.operands];simp;right;simpa using hx)
  cases callee with
  |builtin b=>exact JV ok hw hq hargs
  |value f =>
   have hf:=hv f (by simp[Op.operands,Call.operands])
   have hl:ak β (de t args.toList) (args.map ρ).toList:=by rw[Array.toList_map];exact mq hargs
   show QG P β H W _ (oX (aA t f) (de t args.toList))
   generalize hr:ρ f=f' at hf
   generalize aA t f=fv at hf
   unfold oX
   cases hf<;>try trivial
   ·rename_i f as as' cs cs' h1 h2 h3 h4
    refine⟨((⟨as'⟩:Array Value)++args.map ρ)++(⟨cs'⟩:Array Value),?_,?_⟩
    ·simp[execOp,resolve,Deferred.ofValue,hr,invoke]
    ·have:=ak.append (a:=as) (a':=as') ⟨h1,h2⟩ (ak.append hl (b:=cs) (b':=cs') ⟨h3,h4⟩)
     simpa using this
   ·rename_i l m e
    refine⟨m,args.map ρ,e,?_,?_⟩
    ·simp[execOp,resolve,Deferred.ofValue,hr,invoke]
    ·simpa using hl
  |invoke r n =>
   have hf:=hv r (by simp[Op.operands,Call.operands])
   have hl:ak β (de t args.toList) (args.map ρ).toList:=by rw[Array.toList_map];exact mq hargs
   show QG P β H W _ (ZX (tb.Cw n) (aA t r) (de t args.toList))
   generalize hr:ρ r=r' at hf
   generalize aA t r=rv at hf
   unfold ZX
   cases hf<;>try trivial
   rename_i ty v v' Uu
   cases hlk:lkM ty (tb.Cw n)with
   |none=>simp only[hlk];trivial
   |some f =>
    simp only[hlk]
    refine⟨#[v']++args.map ρ,?_,?_⟩
    ·have e0:(#[Value.iface ty v']++args.map ρ)[0]?=some (.iface ty v'):=by rw[Array.getElem?_append_left (by simp)];rfl
     have e1:(#[Value.iface ty v']++args.map ρ).extract 1 (#[Value.iface ty v']++args.map ρ).size=args.map ρ:=by
      apply Array.toList_inj.1;simp;exact List.take_of_length_le (by simp)
     have hi:(invoke (.fn (.method n) #[]) (#[Value.iface ty v']++args.map ρ)).run P W=(callFunc f (#[v']++args.map ρ)).run P W:=by
      unfold invoke
      simp only[e0,e1,callMethod]
      simp[ok.Cw n ty f hlk W v']
     have hx:(execOp ρ ⟨dst,.call ⟨.invoke r n,args,at_⟩,type,pos,after,guard⟩).run P W=(invoke (.fn (.method n) #[]) (#[ρ r]++args.map ρ)).run P W:=by
      simp[execOp,resolve]
     rw[hx,hr]
     exact hi
    ·have:=ak.cons Uu hl
     simpa using this
 |defer c =>
  obtain⟨callee,args,at_⟩:=c
  have hargs:∀ x∈args.toList,ai β (aA t x) (ρ x):=λx hx=>hv x (by simp only[Op.operands,Call.operands];simp;right;simpa using hx)
  cases callee with
  |value f =>
   have hf:=hv f (by simp[Op.operands,Call.operands])
   have hl:ak β (de t args.toList) (args.map ρ).toList:=by rw[Array.toList_map];exact mq hargs
   show QG P β H W _ (lH (aA t f) (de t args.toList))
   generalize hr:ρ f=f' at hf
   generalize aA t f=fv at hf
   unfold lH
   cases hf<;>try trivial
   ·rename_i f as as' cs cs' h1 h2 h3 h4
    refine⟨{ target:=.fn (.func f) ⟨cs'⟩,args:=(⟨as'⟩:Array Value)++args.map ρ },?_,⟨rfl,⟨h3,h4⟩⟩,?_⟩
    ·simp[execOp,resolve,Deferred.ofValue,hr]
    ·have:=ak.append (a:=as) (a':=as') ⟨h1,h2⟩ hl
     simpa using this
   ·rename_i l m e
    refine⟨{ target:=.fn (.yield m.rb) #[],args:=#[]++args.map ρ },?_,⟨m,e,rfl⟩,?_⟩
    ·simp[execOp,resolve,Deferred.ofValue,hr]
    ·simpa using hl
  |_=>trivial
 |panic x =>
  have hx:=hv x (by simp[Op.operands])
  show QG P β H W _ (wK (aA t x))
  unfold wK
  split
  ·rename_i e
   rw[e]at hx
   generalize hr:ρ x=v' at hx
   cases hx with|iface _ _ v2 h2 =>
   exact⟨.iface _ v2,by simp[execOp,Instr.panic,hr],.iface _ _ _ h2⟩
  ·trivial
 |_=>trivial
end
end Go.Ev
end
noncomputable section
namespace Go.Ev
abbrev FW:Fence:=Fence.wide
def lO (P:Program) (f:FuncId) (args:Array Value) (W:World) (R:Ending->World->Prop):Prop :=
 ((callFunc f args).run P W=.ok (.enter f args) W/\CallsIn FW 0 P f args W R)\/∃ v W',(callFunc f args).run P W=.ok (.value v) W'/\R (.returned v) W'
def NR (P:Program) (l:Nat) (args:Array Value) (W:World) (R:Ending->World->Prop):Prop :=
 ∃ fn tmps assign body,(Instr.yield l args).run P W=.ok (.round l fn tmps assign body) W/\RoundIn FW 0 P l fn tmps assign body W R
def uN (β:Mp) (H H':Hp) (w:Nat) (W:World) (v:Value):Ending->World->Prop:=λe W'=>∃ β' v',e=.returned v'/\ai β' v v'/\Post β β' H H' w W W'
def Af (l:List PanicEntry):Prop:=∀ x,x∈l->x.goexit=false
theorem Af.nil:Af []:=λ_ h=>by cases h
def Kf (β:Mp) (H H':Hp) (w:Nat) (W:World) (v:Value):Ending->World->Prop:=λe W'=>∃ β' v' old,e=.panicked ({ v:=v',recovered:=false }::old)/\Af old/\ai β' v v'/\Post β β' H H' w W W'
class dj extends lN where
 mono:∀ {β β':Mp},Mp.le β β'->Q β->Q β'
 loc:∀ {β β':Mp},(∀ k,SY<=k->β' k=β k)->Q β->Q β'
class jb [dj]:Prop where
 unk:∀ {β:Mp},lN.Q β->∃ m,β SY=some m/\m.Dz=4
variable [dj]
def cX (ng:Nat) (β:Mp):Prop:=(∀ g,g<ng->∃ m,β g=some m/\m.rb=g/\m.sh=0)/\lN.Q β
theorem cX.mono {ng:Nat} {β β':Mp} (h:Mp.le β β') (hg:cX ng β):cX ng β':=⟨λg hlt=>let ⟨m,e,x⟩:=hg.1 g hlt;⟨m,h _ _ e,x⟩,dj.mono h hg.2⟩
def KOk (ng:Nat) (H:Hp) (x:TR) (C:Mp->World->(Ending->World->Prop)->Prop):Prop:=match x with
 |.k (.ret v H' r w)=>Can H H' w/\∀ β W,cX ng β->Pre β H H' r w W->C β W (uN β H H' w W v)
 |.k (.panic v H' r w)=>Can H H' w/\∀ β W,cX ng β->Pre β H H' r w W->C β W (Kf β H H' w W v)
 |_=>True
def o9 (β:Mp) (eL:Option Nat) (F:Fence):Prop:=match eL with
 |none=>F=FW
 |some l=>∃ m,β l=some m/\F=FW.inRound m.rb
theorem o9.mono {β β':Mp} {eL:Option Nat} {F:Fence} (h:Mp.le β β') (hf:o9 β eL F):o9 β' eL F:=by
 cases eL with
 |none=>exact hf
 |some l=>obtain⟨m,e,hF⟩:=hf;exact⟨m,h _ _ e,hF⟩
def gj (β:Mp) (ds ds':List Deferred):Prop:=ds.length=ds'.length/\∀ (i:Nat) (d d':Deferred),ds[i]?=some d->ds'[i]?=some d'->Ki β d d'
theorem Ki.mono {β β':Mp} (h:Mp.le β β') {d d':Deferred} (hd:Ki β d d'):Ki β' d d':=by
 obtain⟨t,a⟩:=d
 obtain⟨t',a'⟩:=d'
 refine⟨?_,hd.2.mono h⟩
 have h1:=hd.1
 simp only at h1 ⊢
 split at h1
 ·exact⟨h1.1,h1.2.mono h⟩
 ·obtain⟨m,e,h2⟩:=h1;exact⟨m,h _ _ e,h2⟩
 ·obtain⟨m,e,h2⟩:=h1;exact⟨m,h _ _ e,h2⟩
 ·exact h1.elim
theorem gj.mono {β β':Mp} (h:Mp.le β β') {ds ds':List Deferred} (hd:gj β ds ds'):gj β' ds ds':=⟨hd.1,λi d d' a b=>(hd.2 i d d' a b).mono h⟩
theorem gj.nil (β:Mp):gj β [] []:=⟨rfl,λi v v' h=>by simp at h⟩
theorem gj.cons {β:Mp} {d d':Deferred} {ds ds':List Deferred} (h:Ki β d d') (hl:gj β ds ds'):gj β (d::ds) (d'::ds'):=by
 refine⟨by simp[hl.1],λi a b ha hb=>?_⟩
 cases i with
 |zero=>simp at ha hb;subst ha hb;exact h
 |succ i=>simp at ha hb;exact hl.2 i a b ha hb
theorem gj.cons_inv {β:Mp} {d:Deferred} {l ys:List Deferred} (h:gj β (d::l) ys):∃ d' l',ys=d'::l'/\Ki β d d'/\gj β l l':=by
 cases ys with
 |nil=>have:=h.1;simp at this
 |cons v' l' =>
  refine⟨v',l',rfl,h.2 0 d v' rfl rfl,?_,λi a b ha hb=>h.2 (i+1) a b (by simpa using ha) (by simpa using hb)⟩
  have:=h.1;simpa using this
theorem gj.aL {β:Mp} {ys:List Deferred} (h:gj β [] ys):ys=[]:=by
 have:=h.1;cases ys with
 |nil=>rfl
 |cons=>simp at this
def pe (β:Mp) (nt:Nat) (t:T Value) (ds:List Deferred) (a:Act):Prop:=jc β nt t a.tmps/\gj β ds a.defers
theorem pe.mono {β β':Mp} (h:Mp.le β β') {nt:Nat} {t:T Value} {ds:List Deferred} {a:Act} (ha:pe β nt t ds a):pe β' nt t ds a:=⟨ha.1.mono h,ha.2.mono h⟩
def GU (β:Mp):Ex->Exit->Prop
 |.normal,.normal=>True
 |.ret,.ret=>True
 |.exit i,.exit j=>i=j
 |.goto i,.goto j=>i=j
 |.panic v,.panic ch=>∃ v' old,ch = { v:=v',recovered:=false }::old/\Af old/\ai β v v'
 |_,_=>False
def jG (β:Mp) (nt:Nat) (H H':Hp) (w:Nat) (W:World) (x:Ex) (t':T Value) (ds':List Deferred):Exit->Act->World->Prop :=
 λe a' W'=>∃ β',GU β' x e/\pe β' nt t' ds' a'/\Post β β' H H' w W W'
def uf (F:Fence) (n:Nat) (P:Program) (c:Code) (Q:Exit->Act->World->Prop) (a:Act) (w:World):Prop :=
 ∀ (b:Frame) (k:List Item) (cs:List Frame),b.roundOf=F.round->F.fn b.fn->F.room (cs.length+1+n) ->
  ∃ e a' w',Q e a' w'/\ArrivesIn (Machine.fenced P F) P (lone (b.atR a (.code c::.inLoop c::k)) cs w) b k cs e a' w'
def gE (β:Mp):FrameMode->FrameMode->Prop
 |.run,.run=>True
 |.returning,.returning=>True
 |.panicking c,.panicking c'=>∃ x y old,c=[x]/\c'=y::old/\Af old/\ai β x.v y.v/\x.recovered=y.recovered/\x.goexit=false/\y.goexit=false
 |_,_=>False
def aI (P:Program) (ng:Nat) (tk:Task) (H:Hp) (x:TR):Prop:=match tk with
 |.call f args=>KOk ng H x λβ W R=>∀ args':Array Value,ak β args args'.toList->lO P f args' W R
 |.round l args=>KOk ng H x λβ W R=>∀ (m:Bm) (args':Array Value),β l=some m->ak β args args'.toList->NR P m.rb args' W R
 |.loop b cx t ds=>match x with
  |.c (.mk e t' ds' H' r w)=>cx.nt<8 ^ cx.d->Can H H' w/\∀ β W a F,cX ng β->o9 β cx.eL F->pe β cx.nt t ds a->Pre β H H' r w W->uf F 0 P b (jG β cx.nt H H' w W e t' ds') a W
  |_=>True
 |.unwind nt res t ds m=>KOk ng H x λβ W R=>∀ (fn:Func) (tmps:Array Value) (ds':List Deferred) (m':FrameMode),fn.results.toList=res->jc β nt t tmps->gj β ds ds'->gE β m m'->m'≠.run->LeavesInM FW 0 P fn tmps R ds' m' W
 |.mI f args um=>match x with
  |.k (.drop um' H' r w)=>Can H H' w/\∀ β W (args':Array Value) mm,cX ng β->ak β args args'.toList->gE β um mm->Pre β H H' r w W ->
   (callFunc f args').run P W=.ok (.enter f args') W/\CallsDIn FW 0 P f args' mm W λe u' W'=>∃ β' v,e=.returned v/\gE β' um' u'/\Post β β' H H' w W W'
  |.k (.n_ v H' r w)=>Can H H' w/\∀ β W (args':Array Value) mm,cX ng β->ak β args args'.toList->gE β um mm->Pre β H H' r w W ->
   (callFunc f args').run P W=.ok (.enter f args') W/\CallsDIn FW 0 P f args' mm W λe u' W'=>∃ β' v' old m,e=.panicked ({ v:=v',recovered:=false }::old)/\Af old/\ai β' v v'/\gE β' m u'/\Post β β' H H' w W W'
  |_=>True
def kf (P:Program) (ng:Nat) (rec:Rec):Prop:=∀ tk H,H.wf->aI P ng tk H (rec tk H)
end Go.Ev
end
noncomputable section
namespace Go.Ev
variable [dj]
section
variable {P:Program} {tb:Tb} (ok:dI P tb) {β:Mp} {H:Hp} {W:World}
theorem jR {nt:Nat} {t:T Value} {tmps:Array Value} (h:jc β nt t tmps) {i:Nat} (hi:i<nt):ai β (t.get i) (tmps.getD i undef):=by
 have hs:i<tmps.size:=by rw[h.1];exact hi
 have hv:tmps[i]?=some tmps[i]:=by simp[hs]
 have:=h.2 i _ hv
 simpa [Array.getD,hs] using this
theorem jW {nt:Nat} {t:T Value} {a:Act} (hg:cX tb.ng β) (h:jc β nt t a.tmps) {x:Operand} (hx:qw tb nt x=true):ai β (aA t x) (a.eval x):=by
 cases x with
 |tmp i=>exact jR h ((an _ _).1 hx)
 |const v=>exact ai.flat β 10 v hx
 |global g =>
  obtain⟨m,e,h1,h2⟩:=hg.1 g ((an _ _).1 hx)
  have:=ai.ptr g 0 m e
  rw[h1,h2]at this;exact this
 |func f=>exact .func f [] [] [] [] rfl (λi v v' h=>by simp at h) rfl (λi v v' h=>by simp at h)
theorem wZ {d nt:Nat} {t:T Value} {a:Act} {dst:Option Tmp} {v v':Value} (hd:nt<8 ^ d) (h:jc β nt t a.tmps) (jv:∀ i:Nat,dst=some i->i<nt) (hv:ai β v v'):jc β nt (eF d t dst v) (a.put dst v').tmps:=by
 cases dst with
 |none=>exact h
 |some i =>
  have hi:=jv i rfl
  refine⟨by simp[Act.put,h.1],λj x hx=>?_⟩
  have hj:j<nt:=by
   have hs:(a.put (some i) v').tmps.size=nt:=by simp[Act.put,h.1]
   rcases Nat.lt_or_ge j nt with h'|h'
   ·exact h'
   ·rw[Array.getElem?_eq_none (by omega)]at hx;cases hx
  show ai β ((T.set d t i v).get j) x
  rw[T.ef d t i j v (by omega) (by omega)]
  simp only[Act.put,Array.getElem?_setIfInBounds]at hx
  by_cases hij:i=j
  ·subst hij
   have hlt:i<a.tmps.size:=by rw[h.1];exact hi
   simp only[if_true,hlt,Option.some.injEq]at hx
   subst hx;simpa using hv
  ·rw[if_neg hij]at hx
   rw[if_neg (λh=>hij h.symm)]
   exact h.2 j x hx
theorem o5 {d nt:Nat} {t:T Value} {ds:List Deferred} {a:Act} {dst:Option Tmp} {v v':Value} (hd:nt<8 ^ d) (h:pe β nt t ds a) (jv:∀ i:Nat,dst=some i->i<nt) (hv:ai β v v'):pe β nt (eF d t dst v) ds (a.put dst v'):=by
 refine⟨wZ hd h.1 jv hv,?_⟩
 cases dst<;>exact h.2
structure Xk (tb:Tb) (nt:Nat) (ops:Array Oper) (o:Oper) (c:CO):Prop where
 op:c.op=cw tb o
 dst:c.dst=o.dst
 qe:∀ x∈o.op.operands.toList,qw tb nt x=true
 JI:∀ i:Nat,o.dst=some i->i<nt
 guard:(o.guard=none/\c.guard=none)\/∃ (j:Nat) (w:Bool) (d:Nat),o.guard=some (j,w)/\c.guard=some (d,w)/\(ops[j]?).bind (·.dst)=some d/\d<nt
theorem mJ {nt:Nat} {ops:Array Oper} {o:Oper}:Xk tb nt ops o (mK tb nt ops o)\/mK tb nt ops o=⟨none,none,.bad⟩:=by
 unfold mK
 cases hg:JR ops o.guard with
 |none=>exact .inr rfl
 |some g =>
  simp only[]
  cases hk:HY tb nt o g with
  |false=>exact .inr rfl
  |true =>
   left
   simp only[HY,Bool.and_eq_true,List.all_eq_true]at hk
   obtain⟨⟨h1,h2⟩,h3⟩:=hk
   refine⟨rfl,rfl,h1,λi hi=>?_,?_⟩
   ·rw[hi]at h2;exact(an _ _).1 h2
   ·unfold JR at hg
    cases hog:o.guard with
    |none=>rw[hog]at hg;cases hg;exact .inl ⟨rfl,rfl⟩
    |some jw =>
     obtain⟨j,w⟩:=jw
     rw[hog]at hg
     simp only at hg
     cases hd:(ops[j]?).bind (·.dst)with
     |none=>simp only[hd]at hg;cases hg
     |some d =>
      simp only[hd]at hg
      cases hg
      exact .inr ⟨j,w,d,rfl,rfl,hd,(an _ _).1 h3⟩
theorem om {nt:Nat} {ops:Array Oper} {o:Oper} {c:CO} {t:T Value} {a:Act} (hc:Xk tb nt ops o c) (h:∀ (j:Nat) (w:Bool) (d:Nat),o.guard=some (j,w)->(ops[j]?).bind (·.dst)=some d->d<nt->ai β (t.get d) (a.tmps.getD d undef)/\a.tmps.size=nt) :
 Region.wanted o (yielded ops a.tmps)=dn t c.guard:=by
 rcases hc.guard with⟨h1,h2⟩|⟨j,w,d,h1,h2,h3,h4⟩
 ·rw[h2];unfold Region.wanted;rw[h1];rfl
 ·obtain⟨hv,hsz⟩:=h j w d h1 h3 h4
  rw[h2]
  unfold Region.wanted yielded
  rw[h1]
  simp only[h3,Option.bind_some]
  have hlt:d<a.tmps.size:=by rw[hsz];exact h4
  have Z_:a.tmps[d]?=some a.tmps[d]:=by simp[hlt]
  have hgd:a.tmps.getD d undef=a.tmps[d]:=by simp[Array.getD,hlt]
  rw[hgd]at hv
  rw[Z_]
  show _=(match zC (t.get d)with|some b=>Bc b w (!w)|none=>false)
  generalize t.get d=v at hv
  generalize a.tmps[d]=v' at hv
  cases hv<;>first|(cases w<;>rfl)|(rename_i k m e hs;have hnb:=(lU hs).1;cases v'<;>first|exact absurd rfl (hnb _)|(cases w<;>rfl))|skip
  ·rename_i b
   cases b<;>cases w<;>rfl
  ·rename_i hnb
   cases v'<;>first|exact absurd rfl (hnb _)|(cases w<;>rfl)
end
end Go.Ev
end
noncomputable section
namespace Go.Ev
variable [dj]
def jO (H:Hp) (x:R):Prop:=match x with
 |.val _ H' _ w=>Can H H' w
 |_=>True
section
variable {H:Hp} (hw:H.wf)
theorem bZ {c:Bool} {x y:R} (h1:jO H x) (h2:jO H y):jO H (Bc c x y):=by cases c<;>assumption
theorem dX (x:dB) (f:Nat->Value) (r:Nat):jO H (aS x H f r 0):=by
 rw[fG];split
 ·rename_i h;exact fB h
 ·trivial
theorem tQ {z:Option (List Value)} {k:List Value->R} (h:∀ l,jO H (k l)):jO H (bD z k):=by
 cases z with
 |none=>trivial
 |some l=>exact h l
include hw
theorem iw (v:Value) (r:Nat):jO H (.val v H r 0):=Can.refl hw
theorem bn (v:Value):jO H (R.v v H):=Can.refl hw
theorem k8 (x:Option Value):jO H (R.o x H):=by cases x<;>first|trivial|exact Can.refl hw
theorem pF {v:Value} {r b:Nat} (ha:H.blk b≠.no):jO H (.val v H r (bit b)):=GG hw ((aH H b).2 ha)
theorem lZ {v:Value} {r b:Nat} {x:dB} (ha:H.blk b≠.no):jO H (.val v (H.put b x) r (bit b)):=eJ hw x ((aH H b).2 ha)
theorem B_ {v:Value} {r b o:Nat} {vs:List Value} {H':Hp} (h:N3 H b o vs=some H'):jO H (.val v H' r (bit b)):=(JQ hw h).1
theorem SA {v:Value} {r b o:Nat} {vs:List Value} {H':Hp} (h:G8 H b o vs=some H'):jO H (.val v H' r (bit b)):=(Nw hw h).1
theorem OH (n:Nat) (a x:Value):jO H (i_ n a x H):=by
 unfold i_
 split
 ·split
  ·refine bZ ?_ trivial
   split
   ·rename_i h;exact B_ hw h
   ·trivial
  ·trivial
 ·trivial
theorem HR (ty sz by_:Nat) (s x:Value):jO H (iQ ty sz by_ s x H):=by
 unfold iQ
 split
 ·split
  ·trivial
  ·refine bZ ?_ (bZ ?_ trivial)
   ·split
    ·exact iw hw _ _
    ·split
     ·rename_i h;exact B_ hw h
     ·trivial
   ·split
    ·exact bZ (dX _ _ _) trivial
    ·split
     ·trivial
     ·refine bZ ?_ (dX _ _ _)
      split
      ·rename_i e
       refine bZ ?_ trivial
       rw[fG,cW,fS]
       split
       ·rename_i hn;exact GH hw ((aH H _).2 (by rw[e];simp)) hn
       ·trivial
      ·trivial
 ·trivial
theorem EK (sz:Nat) (d x:Value):jO H (yV sz d x H):=by
 unfold yV
 split
 ·split
  ·trivial
  ·split
   ·exact iw hw _ _
   ·split
    ·rename_i h;exact SA hw h
    ·trivial
 ·trivial
theorem Ca (z:List Value) (x:Value):jO H (sU z x H):=by
 unfold sU
 split
 ·exact bn hw _
 ·split
  ·rename_i h;exact B_ hw h
  ·trivial
 ·trivial
theorem HP (p:Ah) (m k x:Value):jO H (Gj p m k x H):=by
 unfold Gj
 split
 ·split
  ·trivial
  ·rename_i e
   have ha:=mh e
   split
   ·exact lZ hw (by rw[ha];simp)
   ·exact lZ hw (by rw[ha];simp)
   ·trivial
 ·trivial
theorem HQ (p:Ah) (m k:Value):jO H (Gl p m k H):=by
 unfold Gl
 split
 ·trivial
 ·exact bn hw _
 ·split
  ·trivial
  ·rename_i e
   have ha:=mh e
   split
   ·exact lZ hw (by rw[ha];simp)
   ·exact pF hw (by rw[ha];simp)
   ·trivial
theorem EI (x:Value):jO H (yT x H):=by
 unfold yT
 split
 ·split
  ·rename_i e
   exact bZ (lZ hw (by rw[e];simp)) (pF hw (by rw[e];simp))
  ·trivial
 ·trivial
theorem EJ (x:Value):jO H (yU x H):=by
 unfold yU
 split
 ·split
  ·rename_i e
   exact pF hw (by rw[e];simp)
  ·rename_i e
   split
   ·trivial
   ·split
    ·trivial
    ·simp only[]
     split
     ·trivial
     ·split
      ·exact pF hw (by rw[e];simp)
      ·exact lZ hw (by rw[e];simp)
      ·trivial
  ·trivial
 ·trivial
theorem HO (sz:Nat) (a:Option (Nat×Nat)) (l h m:Nat):jO H (Ni sz a l h m H):=by
 unfold Ni
 split
 ·trivial
 ·split
  ·exact bZ (iw hw _ _) trivial
  ·trivial
theorem xG (agg:Bool) (sz off:Nat) (x:Value):jO H (nO agg sz off x H):=by
 unfold nO
 split
 ·trivial
 ·exact bZ (bZ (bn hw _) trivial) (k8 hw _)
theorem DG (op:Xl) (t:T Value):jO H (run op t H):=by
 cases op with
 |bad=>trivial
 |mv x=>exact bn hw _
 |pick c a b=>simp only[run,qH];split<;>first|trivial|exact bn hw _
 |alloc z=>exact dX _ _ _
 |box ty x=>exact tQ λl=>dX _ _ _
 |build z ps=>exact tQ λl=>bn hw _
 |eX len ty z ps=>exact tQ λl=>dX _ _ _
 |jd a =>
  simp only[run,dA]
  split
  ·split<;>first|trivial|exact iw hw _ _
  ·trivial
 |uh n a =>
  simp only[run,ia]
  split
  ·split<;>first|trivial|exact iw hw _ _
  ·trivial
 |st n a x=>exact OH hw _ _ _
 |dU x=>simp only[run,mF];split<;>first|trivial|exact bn hw _
 |bin op x y=>exact k8 hw _
 |eq neg p x y=>simp only[run,jo];split<;>first|trivial|exact bn hw _
 |un op x =>
  simp only[run,Jy]
  split
  ·exact k8 hw _
  ·split<;>first|trivial|exact bn hw _
  ·split<;>first|trivial|exact bn hw _
  ·trivial
 |jM k x=>simp only[run,uF];split<;>first|exact k8 hw _|exact bn hw _
 |aaJ x=>simp only[run,Nl];split<;>first|exact k8 hw _|exact bn hw _
 |aaG ty x=>simp only[run,Nf];split<;>first|trivial|exact dX _ _ _
 |Qn x =>
  simp only[run,vf]
  split
  ·exact bn hw _
  ·split
   ·split<;>first|trivial|exact iw hw _ _
   ·trivial
  ·trivial
 |cSS x=>simp only[run,aap];split<;>first|trivial|exact bn hw _
 |Rx x =>
  simp only[run,Gh]
  split
  ·split
   ·exact bZ (iw hw _ _) trivial
   ·trivial
  ·trivial
 |frU l x =>
  simp only[run,Gk]
  split
  ·split
   ·exact bZ (iw hw _ _) trivial
   ·trivial
  ·trivial
 |usd x =>
  simp only[run,ve]
  split
  ·exact bn hw _
  ·exact bZ trivial (iw hw _ _)
  ·trivial
 |Rl e p n =>
  simp only[run,yR]
  split
  ·split
   ·split<;>first|trivial|exact bn hw _
   ·split
    ·split
     ·rename_i hb
      refine bZ ?_ trivial
      split
      ·exact lZ hw (by rw[hb];simp)
      ·trivial
     ·trivial
    ·trivial
   ·trivial
  ·trivial
 |mkI t x=>exact bn hw _
 |mkF fn first captured=>exact bn hw _
 |Fk=>exact dX (.obj (.map #[] 0)) (λi=>.map (some i)) 0
 |O1 ty by_ z l c =>
  simp only[run,qI]
  split
  ·split
   ·exact bZ (dX _ _ _) trivial
   ·trivial
  ·trivial
 |slS x lo hi =>
  simp only[run,Nh]
  split
  ·trivial
  ·split<;>first|trivial|exact bn hw _
 |slL sz x lo hi mx =>
  simp only[run,Nj]
  split
  ·trivial
  ·split
   ·trivial
   ·exact bZ (bZ (bn hw _) (bZ trivial (HO hw _ _ _ _ _))) (bZ (bn hw _) (bn hw _))
 |Ov n sz x lo hi mx =>
  simp only[run,yS]
  split
  ·trivial
  ·split
   ·trivial
   ·exact bZ (bn hw _) (bn hw _)
 |fa off x=>simp only[run,P4];split<;>first|trivial|exact iw hw _ _
 |fld agg sz off x=>exact xG hw _ _ _ _
 |Z1 n sz x i =>
  simp only[run,nM]
  split
  ·split<;>first|trivial|exact iw hw _ _
  ·trivial
 |sJ sz x i =>
  simp only[run,eT]
  split
  ·split<;>first|trivial|exact iw hw _ _
  ·trivial
 |ixA agg n sz x i =>
  simp only[run,Bp]
  split
  ·exact xG hw _ _ _ _
  ·trivial
 |A5 x i =>
  simp only[run,kS]
  split
  ·split
   ·split<;>first|trivial|exact bn hw _
   ·trivial
  ·exact k8 hw _
 |lkp z ok p m k =>
  simp only[run,Nk]
  split
  ·trivial
  ·exact bn hw _
  ·split
   ·trivial
   ·split<;>first|trivial|exact iw hw _ _
 |mup p m k x=>exact HP hw _ _ _ _
 |YF x=>simp only[run,Dx];split<;>first|trivial|exact dX _ _ _
 |YH x =>
  simp only[run,Dy]
  split
  ·trivial
  ·exact dX _ _ _
  ·split<;>first|trivial|exact dX _ _ _
 |Zf it=>exact EI hw _
 |Zh it=>exact EJ hw _
 |tas t z ok x =>
  simp only[run,Ng]
  split
  ·exact bZ (bn hw _) trivial
  ·exact bZ (bn hw _) (bZ (bn hw _) trivial)
  ·trivial
 |ext x i=>simp only[run,qi];split<;>first|trivial|exact k8 hw _
 |len k x =>
  simp only[run,fY]
  split
  ·exact bZ (bn hw _) trivial
  ·exact bZ (bn hw _) trivial
  ·exact bZ (bn hw _) trivial
  ·refine bZ ?_ trivial
   split<;>first|trivial|exact iw hw _ _
  ·exact bZ (k8 hw _) trivial
  ·trivial
 |ZL n=>exact bn hw _
 |cap x=>simp only[run,Nn];split<;>first|trivial|exact bn hw _
 |app ty sz by_ s x=>exact HR hw _ _ _ _ _
 |copy sz d x=>exact EK hw _ _ _
 |clear z x=>exact Ca hw _ _
 |min x y=>simp only[run,vg];split<;>first|exact k8 hw _|exact bn hw _
 |max x y=>simp only[run,vg];split<;>first|exact k8 hw _|exact bn hw _
 |Zy x y z=>simp only[run,oV];split<;>first|trivial|exact bn hw _
 |ZC x y z=>simp only[run,oV];split<;>first|trivial|exact bn hw _
 |del p m k=>exact HQ hw _ _ _
 |call f args=>simp only[run,oX];split<;>trivial
 |inv ms r args =>
  simp only[run,ZX]
  split
  ·split<;>trivial
  ·trivial
 |defer f args=>simp only[run,lH];split<;>trivial
 |recover=>trivial
 |panic x=>simp only[run,wK];split<;>trivial
end
end Go.Ev
end
noncomputable section
namespace Go.Ev
variable [dj]
theorem qo {o:Oper} {P:Program} {F:Fence} {n:Nat} {a:Act} {next:Act->World->Prop} {Q:Exit->Act->World->Prop} {W':World} {v':Value} {x:Result Next}
 (h:x=.ok (.value v') W'\/(x=.ok .skip W'/\v'=undef)) (hn:next (a.put o.dst v') W'):o.uponIn F n P a next Q x:=by
 rcases h with rfl|⟨rfl,rfl⟩<;>exact hn
section
variable {P:Program} {tb:Tb} (ok:dI P tb) {β:Mp} {H:Hp} {W:World}
theorem pg {F:Fence} {eL:Option Nat} {o:Oper} {a:Act} {next:Act->World->Prop} {Q:Exit->Act->World->Prop} {f:FuncId} {args:Array Value} {R:Ending->World->Prop} (hF:o9 β eL F)
 (h:lO P f args W R) (h1:∀ v W',R (.returned v) W'->next (a.put o.dst v) W') (h2:∀ c W',R (.panicked c) W'->Q (.panic c) a W') (h3:∀ W',¬ R .outgrown W') :
 o.uponIn F 0 P a next Q ((callFunc f args).run P W):=by
 have hd:F.depth.isSome=true->1<=0:=by
  intro h
  cases eL with
  |none=>rw[hF]at h;cases h
  |some l=>obtain⟨m,_,rfl⟩:=hF;cases h
 rcases h with⟨h,hc⟩|⟨v,W',h,hR⟩
 ·rw[h]
  refine⟨hd,?_⟩
  have hc':CallsIn F (0-1) P f args W R:=by
   cases eL with
   |none=>rw[hF];exact hc
   |some l=>obtain⟨m,_,rfl⟩:=hF;exact hc
  refine CallsIn.mono hc' λe W' hR=>?_
  cases e with
  |returned v=>exact h1 v W' hR
  |panicked c=>exact h2 c W' hR
  |outgrown=>exact absurd hR (h3 W')
 ·rw[h];exact h1 v W' hR
theorem wY {F:Fence} {eL:Option Nat} {o:Oper} {a:Act} {next:Act->World->Prop} {Q:Exit->Act->World->Prop} {l:Nat} {args:Array Value} {R:Ending->World->Prop} (hF:o9 β eL F)
 (h:NR P l args W R) (h1:∀ v W',R (.returned v) W'->next (a.put o.dst v) W') (h2:∀ c W',¬ R (.panicked c) W') (h3:∀ W',¬ R .outgrown W') :
 o.uponIn F 0 P a next Q ((Instr.yield l args).run P W):=by
 have hd:F.depth.isSome=true->1<=0:=by
  intro h
  cases eL with
  |none=>rw[hF]at h;cases h
  |some l=>obtain⟨m,_,rfl⟩:=hF;cases h
 obtain⟨fn,tmps,assign,body,h,hc⟩:=h
 rw[h]
 refine⟨hd,?_⟩
 have hc':RoundIn F (0-1) P l fn tmps assign body W R:=by
  cases eL with
  |none=>rw[hF];exact hc
  |some l=>obtain⟨m,_,rfl⟩:=hF;exact hc
 refine RoundIn.mono hc' λe W' hR=>?_
 cases e with
 |returned v=>exact h1 v W' hR
 |panicked c=>exact absurd hR (h2 c W')
 |outgrown=>exact absurd hR (h3 W')
theorem fJ {eL:Option Nat} {F:Fence} (hF:o9 β eL F) (f:FuncId):F.fn f:=by
 cases eL with
 |none=>rw[hF];trivial
 |some l=>obtain⟨m,_,rfl⟩:=hF;trivial
theorem PN {F:Fence} (hF:o9 β none F):F.round=none:=by rw[hF];rfl
theorem jG.comp {β1:Mp} {nt w1 w2 r1 r2:Nat} {H1 H2:Hp} {W1:World} {x:Ex} {t':T Value} {ds':List Deferred} {e:Exit} {a':Act} {W':World} (c1:Can H H1 w1) (c2:Can H1 H2 w2)
 (p:Pre β H H2 (Nat.lor r1 r2) (Nat.lor w1 w2) W) (q:Post β β1 H H1 w1 W W1) (h:jG β1 nt H1 H2 w2 W1 x t' ds' e a' W'):jG β nt H H2 (Nat.lor w1 w2) W x t' ds' e a' W':=by
 obtain⟨β',h1,h2,h3⟩:=h
 exact⟨β',h1,h2,Post.comp c1 c2 p q h3⟩
theorem aU (a b c:Nat):Nat.lor (Nat.lor a b) c=Nat.lor a (Nat.lor b c):=Nat.or_assoc a b c
theorem aF (a:Nat):Nat.lor a 0=a:=Nat.or_zero a
theorem aK (a:Nat):Nat.lor 0 a=a:=Nat.zero_or a
include ok
theorem sV {rec:Rec} (bX:kf P tb.ng rec) {cx:Cx} (hd:cx.nt<8 ^ cx.d) (ops:Array Oper):∀ (l:List Oper) (i:Nat),(∀ k o,l[k]?=some o->ops[i+k]?=some o)->∀ (t:T Value) (ds:List Deferred) (H:Hp) (acc:Acc) (r w:Nat) (x:Ex)
 (t':T Value) (ds':List Deferred) (H':Hp) (acc':Acc) (r' w':Nat),aY rec cx (bV tb cx.nt ops l) i t ds H acc r w=.mk x t' ds' H' acc' r' w'->H.wf ->
 ∃ r2 w2,r'=Nat.lor r r2/\w'=Nat.lor w w2/\Can H H' w2/\∀ β W a F,cX tb.ng β->o9 β cx.eL F->pe β cx.nt t ds a->Pre β H H' r2 w2 W->∀ Q:Exit->Act->World->Prop,
  (∀ e a' W',jG β cx.nt H H' w2 W x t' ds' e a' W'->Q e a' W')->wpOpsIn F 0 P ops Q (List.range' i l.length) a W:=by
 intro l
 induction l with
 |nil =>
  intro i _ t ds H acc r w x t' ds' H' acc' r' w' h hw
  simp only[bV,aY,cY]at h
  cases h
  refine⟨0,0,(aF _).symm,(aF _).symm,Can.refl hw,λβ W a F _ _ ha p Q hQ=>?_⟩
  exact hQ .normal a W ⟨β,trivial,ha,Post.refl p.dom⟩
 |cons o l ih =>
  intro i hl t ds H acc r w x t' ds' H' acc' r' w' h hw
  have ho:ops[i]?=some o:=by simpa using hl 0 o rfl
  have hl':∀ k o',l[k]?=some o'->ops[i+1+k]?=some o':=λk o' h=>by
   have:=hl (k+1) o' (by simpa using h);rw[<-this];congr 1;omega
  have IV:List.range' i (o::l).length=i::List.range' (i+1) l.length:=by simp[List.range'_succ]
  rw[IV]
  simp only[bV,aY,cY]at h
  rcases mJ (tb:=tb) (nt:=cx.nt) (ops:=ops) (o:=o)with hc|hc
  case inr =>
   rw[hc]at h
   have gR:dn t (none:Option (Tmp×Bool))=true:=rfl
   rw[gR,aj]at h
   simp only[run]at h
   cases h
  generalize mK tb cx.nt ops o=c at h hc
  have dc:∀ {β a},pe β cx.nt t ds a->Region.wanted o (yielded ops a.tmps)=dn t c.guard:=λha=>om hc λj w d h1 h2 h3=>⟨jR ha.1 h3,ha.1.1⟩
  cases gR:dn t c.guard with
  |false =>
   rw[gR,au]at h
   obtain⟨r2,w2,e1,e2,hcan,gC⟩:=ih (i+1) hl' _ _ _ _ _ _ _ _ _ _ _ _ _ h hw
   refine⟨r2,w2,e1,e2,hcan,λβ W a F hg hF ha p Q hQ=>?_⟩
   simp only[wpOpsIn,ho,dc ha,gR]
   refine⟨λf _=>fJ hF f,?_⟩
   have ha':=o5 hd ha hc.JI (oo β)
   rw[hc.dst]at gC
   exact gC β W _ F hg hF ha' p Q hQ
  |true =>
   rw[gR,aj]at h
   have hrun:=λ{β:Mp} {W:World} {a:Act} (hg:cX tb.ng β) (ha:pe β cx.nt t ds a)=>B4 (P:=P) (W:=W) (o:=o) (ρ:=a.eval) (t:=t) ok hw hg.2 (λy hy=>jW hg ha.1 (hc.qe y hy))
   rw[<-hc.op]at hrun
   cases hr:run c.op t H with
   |fail=>rw[hr]at h;cases h
   |recover=>rw[hr]at h;cases h
   |val v H1 r1 w1 =>
    rw[hr]at h hrun
    simp only at h
    have pX:Can H H1 w1:=by have:=DG hw c.op t;rw[hr]at this;exact this
    obtain⟨r2,w2,e1,e2,hcan,gC⟩:=ih (i+1) hl' _ _ _ _ _ _ _ _ _ _ _ _ _ h pX.wf
    refine⟨Nat.lor r1 r2,Nat.lor w1 w2,by rw[e1,aU],by rw[e2,aU],Can.comp pX hcan,λβ W a F hg hF ha p Q hQ=>?_⟩
    simp only[wpOpsIn,ho,dc ha,gR,if_true]
    obtain⟨_,hx⟩:=hrun (W:=W) hg ha
    obtain⟨β1,W1,v',hres,hv,hpost⟩:=hx (p.first hcan)
    have hle:=hpost.le
    have hne:∀ cc,o.op≠.defer cc:=by
     intro cc lz
     have:=hc.op;unfold cw at this;rw[lz]at this
     simp only at this
     split at this
     ·rw[this]at hr;simp only[run,lH]at hr;split at hr<;>cases hr
     ·rw[this]at hr;simp only[run]at hr;cases hr
    refine⟨λf _=>fJ hF f,?_⟩
    rw[Oper.semAt_eq _ _ _ hne]
    refine qo hres ?_
    have ha':=o5 hd (ha.mono hle) hc.JI hv
    rw[hc.dst]at gC
    exact gC β1 W1 _ F (hg.mono hle) (hF.mono hle) ha' (Pre.second pX hcan p hpost) Q λe a' W' hh=>hQ e a' W' (jG.comp pX hcan p hpost hh)
   |call f args =>
    rw[hr]at h hrun
    simp only[bt]at h
    have hk:=bX (.call f args) H hw
    have hne:∀ cc,o.op≠.defer cc:=by
     intro cc lz
     have:=hc.op;unfold cw at this;rw[lz]at this
     simp only at this
     split at this
     ·rw[this]at hr;simp only[run,lH]at hr;split at hr<;>cases hr
     ·rw[this]at hr;simp only[run]at hr;cases hr
    split at h
    ·rename_i v H1 r1 w1 hx
     rw[hx]at hk
     obtain⟨pX,hk⟩:=hk
     obtain⟨r2,w2,e1,e2,hcan,gC⟩:=ih (i+1) hl' _ _ _ _ _ _ _ _ _ _ _ _ _ h pX.wf
     refine⟨Nat.lor r1 r2,Nat.lor w1 w2,by rw[e1,aU],by rw[e2,aU],Can.comp pX hcan,λβ W a F hg hF ha p Q hQ=>?_⟩
     simp only[wpOpsIn,ho,dc ha,gR,if_true]
     obtain⟨args',hs,hl⟩:=hrun (W:=W) hg ha
     refine⟨λf _=>fJ hF f,?_⟩
     rw[Oper.semAt_eq _ _ _ hne,hs]
     refine pg hF (hk β W hg (p.first hcan) args' hl) (λv' W1 hR=>?_) (λch W1 hR=>?_) (λW1 hR=>?_)
     ·obtain⟨β1,v'',he,hv,hpost⟩:=hR
      cases he
      have hle:=hpost.le
      have ha':=o5 hd (ha.mono hle) hc.JI hv
      rw[hc.dst]at gC
      exact gC β1 W1 _ F (hg.mono hle) (hF.mono hle) ha' (Pre.second pX hcan p hpost) Q λe a' W' hh=>hQ e a' W' (jG.comp pX hcan p hpost hh)
     ·obtain⟨_,_,he,_⟩:=hR;cases he
     ·obtain⟨_,_,he,_⟩:=hR;cases he
    ·rename_i v H1 r1 w1 hx
     rw[hx]at hk
     obtain⟨pX,hk⟩:=hk
     cases h
     refine⟨r1,w1,rfl,rfl,pX,λβ W a F hg hF ha p Q hQ=>?_⟩
     simp only[wpOpsIn,ho,dc ha,gR,if_true]
     obtain⟨args',hs,hl⟩:=hrun (W:=W) hg ha
     refine⟨λf _=>fJ hF f,?_⟩
     rw[Oper.semAt_eq _ _ _ hne,hs]
     refine pg hF (hk β W hg p args' hl) (λv' W1 hR=>?_) (λch W1 hR=>?_) (λW1 hR=>?_)
     ·obtain⟨_,_,_,he,_⟩:=hR;cases he
     ·obtain⟨β1,v'',old,he,hno,hv,hpost⟩:=hR
      cases he
      exact hQ _ _ _ ⟨β1,⟨v'',old,rfl,hno,hv⟩,ha.mono hpost.le,hpost⟩
     ·obtain⟨_,_,_,he,_⟩:=hR;cases he
    ·cases h
   |round m args =>
    rw[hr]at h hrun
    simp only[bt]at h
    have hk:=bX (.round m args) H hw
    have hne:∀ cc,o.op≠.defer cc:=by
     intro cc lz
     have:=hc.op;unfold cw at this;rw[lz]at this
     simp only at this
     split at this
     ·rw[this]at hr;simp only[run,lH]at hr;split at hr<;>cases hr
     ·rw[this]at hr;simp only[run]at hr;cases hr
    split at h
    ·rename_i v H1 r1 w1 hx
     rw[hx]at hk
     obtain⟨pX,hk⟩:=hk
     obtain⟨r2,w2,e1,e2,hcan,gC⟩:=ih (i+1) hl' _ _ _ _ _ _ _ _ _ _ _ _ _ h pX.wf
     refine⟨Nat.lor r1 r2,Nat.lor w1 w2,by rw[e1,aU],by rw[e2,aU],Can.comp pX hcan,λβ W a F hg hF ha p Q hQ=>?_⟩
     simp only[wpOpsIn,ho,dc ha,gR,if_true]
     obtain⟨m',args',em,hs,hl⟩:=hrun (W:=W) hg ha
     refine⟨λf _=>fJ hF f,?_⟩
     rw[Oper.semAt_eq _ _ _ hne,hs]
     refine wY hF (hk β W hg (p.first hcan) m' args' em hl) (λv' W1 hR=>?_) (λch W1 hR=>?_) (λW1 hR=>?_)
     ·obtain⟨β1,v'',he,hv,hpost⟩:=hR
      cases he
      have hle:=hpost.le
      have ha':=o5 hd (ha.mono hle) hc.JI hv
      rw[hc.dst]at gC
      exact gC β1 W1 _ F (hg.mono hle) (hF.mono hle) ha' (Pre.second pX hcan p hpost) Q λe a' W' hh=>hQ e a' W' (jG.comp pX hcan p hpost hh)
     ·obtain⟨_,_,he,_⟩:=hR;cases he
     ·obtain⟨_,_,he,_⟩:=hR;cases he
    ·cases h
    ·cases h
   |panic v =>
    rw[hr]at h hrun
    simp only at h
    cases h
    refine⟨0,0,rfl,rfl,Can.refl hw,λβ W a F hg hF ha p Q hQ=>?_⟩
    simp only[wpOpsIn,ho,dc ha,gR,if_true]
    obtain⟨v',hs,hv⟩:=hrun (W:=W) hg ha
    have hne:∀ cc,o.op≠.defer cc:=by
     intro cc lz
     have:=hc.op;unfold cw at this;rw[lz]at this
     simp only at this
     split at this
     ·rw[this]at hr;simp only[run,lH]at hr;split at hr<;>cases hr
     ·rw[this]at hr;simp only[run]at hr;cases hr
    refine⟨λf _=>fJ hF f,?_⟩
    rw[Oper.semAt_eq _ _ _ hne,hs]
    exact hQ _ _ _ ⟨β,⟨v',[],rfl,.nil,hv⟩,ha,Post.refl p.dom⟩
   |defer d =>
    rw[hr]at h hrun
    simp only at h
    cases hrnd:cx.eL with
    |some l=>rw[hrnd]at h;cases h
    |none =>
     cases aab:cx.drw with
     |true=>rw[hrnd,aab]at h;cases h
     |false =>
     rw[hrnd,aab]at h
     simp only at h
     obtain⟨r2,w2,e1,e2,hcan,gC⟩:=ih (i+1) hl' _ _ _ _ _ _ _ _ _ _ _ _ _ h hw
     refine⟨r2,w2,e1,e2,hcan,λβ W a F hg hF ha p Q hQ=>?_⟩
     simp only[wpOpsIn,ho,dc ha,gR,if_true]
     obtain⟨d',hs,Mz⟩:=hrun (W:=W) hg ha
     refine⟨λf _=>fJ hF f,?_⟩
     rw[PN hF,Oper.semAt_none,hs]
     have vD:pe β cx.nt t (d::ds) { a with defers:=d'::a.defers }:=⟨ha.1,gj.cons Mz ha.2⟩
     have ha':=o5 hd vD hc.JI (oo β)
     rw[hc.dst]at gC
     rw[hrnd]at gC
     exact gC β W _ F hg hF ha' p Q hQ
end
end Go.Ev
end
noncomputable section
namespace Go.Ev
variable [dj]
section
variable (P:Program) (tb:Tb) (nt:Nat) (eL:Option Nat) (ops:Array Oper)
structure NQ (i:Nat) (o:Oper) (t:T Value) (H:Hp) (v:Value) (H':Hp) (r w:Nat):Prop where
 can:Can H H' w
 qe:∀ x∈o.op.operands.toList,qw tb nt x=true
 JI:∀ i:Nat,o.dst=some i->i<nt
 run:∀ (β:Mp) (W:World) (a:Act) (F:Fence) (K:Act->World->Prop) (Q:Exit->Act->World->Prop),cX tb.ng β->o9 β eL F->(∀ x∈o.op.operands.toList,ai β (aA t x) (a.eval x)) ->
  (∀ (j:Nat) (w:Bool) (d:Nat),o.guard=some (j,w)->(ops[j]?).bind (·.dst)=some d->d<nt->ai β (t.get d) (a.tmps.getD d undef)/\a.tmps.size=nt)->Pre β H H' r w W ->
  (∀ β' v' W',ai β' v v'->Post β β' H H' w W W'->K (a.put o.dst v') W')->wpOpIn F 0 P ops Q i K a W
end
structure Ent where
 t:T Value
 H:Hp
 v:Value
 H':Hp
 r:Nat
 w:Nat
def DW (e:Ent):Prop:=e.r=0/\e.w=0/\e.H'=e.H
def sub (x y:Nat):Prop:=∀ b,x.testBit b=true->y.testBit b=true
theorem jl (x:Nat):sub x x:=λ_ h=>h
def Y_ (B:Array Nat) (x y:Nat×Nat×Nat):Prop:=(B.getD x.1 0).testBit y.1=true\/(Nat.land y.2.2 (Nat.lor x.2.1 x.2.2)=0/\Nat.land x.2.2 y.2.1=0)
theorem OP (b rj wj:Nat) (l:Acc) (h:jF b rj wj l=true):∀ y∈l,b.testBit y.1=true\/(Nat.land y.2.2 (Nat.lor rj wj)=0/\Nat.land wj y.2.1=0):=by
 induction l with
 |nil=>intro y hy;cases hy
 |cons z l ih =>
  obtain⟨i,ri,wi⟩:=z
  simp only[jF]at h
  intro y hy
  cases hb:Nat.testBit b i with
  |true =>
   rw[hb,aj]at h
   rcases List.mem_cons.1 hy with rfl|hy
   ·exact .inl hb
   ·exact ih h y hy
  |false =>
   rw[hb,au]at h
   cases h1:Nat.beq (Nat.land wi (Nat.lor rj wj)) 0 with
   |false=>rw[h1,au]at h;cases h
   |true =>
    rw[h1,aj]at h
    cases h2:Nat.beq (Nat.land wj ri) 0 with
    |false=>rw[h2,au]at h;cases h
    |true =>
     rw[h2,aj]at h
     rcases List.mem_cons.1 hy with rfl|hy
     ·exact .inr ⟨(beq_iff _ _).1 h1,(beq_iff _ _).1 h2⟩
     ·exact ih h y hy
theorem xP (B:Array Nat):∀ (l:Acc),eP B l=true->l.Pairwise (Y_ B):=by
 intro l
 induction l with
 |nil=>intro _;exact List.Pairwise.nil
 |cons x l ih =>
  obtain⟨j,rj,wj⟩:=x
  intro h
  simp only[eP,Bool.and_eq_true]at h
  exact List.Pairwise.cons (λy hy=>OP _ _ _ _ h.1 y hy) (ih h.2)
section
variable {P:Program} {tb:Tb} (ok:dI P tb)
def BL (P:Program) (tb:Tb) (d nt:Nat) (eL:Option Nat) (ops:Array Oper):Nat->List Oper->T Value->Hp->List Ent->T Value->Hp->Prop
 |_,[],t,H,es,t',H'=>es=[]/\t'=t/\H'=H
 |i,o::l,t,H,es,t',H'=>∃ e es',es=e::es'/\e.t=t/\e.H=H/\NQ P tb nt eL ops i o t H e.v e.H' e.r e.w/\BL P tb d nt eL ops (i+1) l (eF d t o.dst e.v) e.H' es' t' H'
theorem P8 {rec:Rec} {cx:Cx}:∀ (l:List CO) (i:Nat) (t:T Value) (ds:List Deferred) (H:Hp) (acc:Acc) (r w:Nat) (v:Value) (t':T Value) (ds':List Deferred) (H':Hp) (acc':Acc) (r' w':Nat),
 aY rec cx l i t ds H acc r w=.mk (.panic v) t' ds' H' acc' r' w' ->
 ∃ (k:Nat) (o:CO) (t1:T Value) (ds1:List Deferred) (H1:Hp) (acc1:Acc) (r1 w1:Nat),l[k]?=some o/\aY rec cx (l.take k) i t ds H acc r w=.mk .normal t1 ds1 H1 acc1 r1 w1 /\
  aY rec cx [o] (i+k) t1 ds1 H1 acc1 r1 w1=.mk (.panic v) t' ds' H' acc' r' w'/\acc'=(i+k,0,0)::acc1:=by
 intro l
 induction l with
 |nil=>intro i t ds H acc r w v t' ds' H' acc' r' w' h;simp only[aY]at h;cases h
 |cons o l ih =>
  intro i t ds H acc r w v t' ds' H' acc' r' w' h
  have step:∀ (t0:T Value) (ds0:List Deferred) (H0:Hp) (acc0:Acc) (r0 w0:Nat),aY rec cx l (Nat.succ i) t0 ds0 H0 acc0 r0 w0=.mk (.panic v) t' ds' H' acc' r' w' ->
   (∀ l2,aY rec cx (o::l2) i t ds H acc r w=aY rec cx l2 (Nat.succ i) t0 ds0 H0 acc0 r0 w0) ->
   ∃ (k:Nat) (o1:CO) (t1:T Value) (ds1:List Deferred) (H1:Hp) (acc1:Acc) (r1 w1:Nat),(o::l)[k]?=some o1/\aY rec cx ((o::l).take k) i t ds H acc r w=.mk .normal t1 ds1 H1 acc1 r1 w1 /\
    aY rec cx [o1] (i+k) t1 ds1 H1 acc1 r1 w1=.mk (.panic v) t' ds' H' acc' r' w'/\acc'=(i+k,0,0)::acc1:=by
   intro t0 ds0 H0 acc0 r0 w0 h0 hl
   obtain⟨k,o1,t1,ds1,H1,acc1,r1,w1,a1,a2,a3,a4⟩:=ih _ _ _ _ _ _ _ _ _ _ _ _ _ _ h0
   have e:Nat.succ i+k=i+(k+1):=by omega
   rw[e]at a3 a4
   exact⟨k+1,o1,t1,ds1,H1,acc1,r1,w1,by simpa using a1,by rw[List.take_succ_cons,hl];exact a2,a3,a4⟩
  simp only[aY]at h
  cases gR:dn t o.guard with
  |false =>
   rw[gR,au]at h
   exact step _ _ _ _ _ _ h λl2=>by simp only[aY,gR,au]
  |true =>
   rw[gR,aj]at h
   cases hr:run o.op t H with
   |fail=>rw[hr]at h;simp only[cY]at h;cases h
   |recover=>rw[hr]at h;simp only[cY]at h;cases h
   |val v1 H1 r1 w1 =>
    rw[hr]at h
    simp only[cY]at h
    exact step _ _ _ _ _ _ h λl2=>by simp only[aY,gR,aj,hr,cY]
   |defer d =>
    rw[hr]at h
    simp only[cY]at h
    cases hc1:cx.eL with
    |some _=>rw[hc1]at h;cases h
    |none =>
     cases hc2:cx.drw with
     |true=>rw[hc1,hc2]at h;cases h
     |false =>
      rw[hc1,hc2]at h
      exact step _ _ _ _ _ _ h λl2=>by simp only[aY,gR,aj,hr,cY,hc1,hc2]
   |panic v1 =>
    rw[hr]at h
    simp only[cY]at h
    cases h
    exact⟨0,o,t,ds,H,acc,r,w,rfl,by simp only[List.take_zero,aY],by simp only[aY,gR,aj,hr,cY,Nat.add_zero],rfl⟩
   |call f args =>
    rw[hr]at h
    simp only[cY]at h
    cases hx:rec (.call f args) H with
    |c y=>rw[hx]at h;simp only[bt]at h;cases h
    |k y =>
     rw[hx]at h
     cases y with
     |ret v1 H1 r1 w1 =>
      simp only[bt]at h
      exact step _ _ _ _ _ _ h λl2=>by simp only[aY,gR,aj,hr,cY,hx,bt]
     |panic v1 H1 r1 w1 =>
      simp only[bt]at h
      cases h
      exact⟨0,o,t,ds,H,acc,r,w,rfl,by simp only[List.take_zero,aY],by simp only[aY,gR,aj,hr,cY,hx,bt,Nat.add_zero],rfl⟩
     |_=>simp only[bt]at h;cases h
   |round m args =>
    rw[hr]at h
    simp only[cY]at h
    cases hx:rec (.round m args) H with
    |c y=>rw[hx]at h;simp only[bt]at h;cases h
    |k y =>
     rw[hx]at h
     cases y with
     |ret v1 H1 r1 w1 =>
      simp only[bt]at h
      exact step _ _ _ _ _ _ h λl2=>by simp only[aY,gR,aj,hr,cY,hx,bt]
     |_=>simp only[bt]at h;cases h
include ok
theorem vh {rec:Rec} (bX:kf P tb.ng rec) {cx:Cx} (aab:cx.drw=true) (ops:Array Oper) (B:Array Nat):∀ (l:List Oper) (i:Nat),(∀ k o,l[k]?=some o->ops[i+k]?=some o)->(∀ o∈l,AL o=true)->∀ (t:T Value) (ds:List Deferred) (H:Hp) (acc:Acc) (r w:Nat)
 (t':T Value) (ds':List Deferred) (H':Hp) (acc':Acc) (r' w':Nat),aY rec cx (bV tb cx.nt ops l) i t ds H acc r w=.mk .normal t' ds' H' acc' r' w'->H.wf->acc'.Pairwise (Y_ B) ->
 ∃ es,BL P tb cx.d cx.nt cx.eL ops i l t H es t' H'/\ds'=ds/\sub r r'/\sub w w'/\(∀ e∈es,sub e.r r'/\sub e.w w')/\acc.Pairwise (Y_ B) /\
  (∀ (k:Nat) e,es[k]?=some e->DW e\/∀ y∈acc,Y_ B (i+k,e.r,Nat.lor e.w (lP e.H e.H')) y) /\
  (∀ (k1 k2:Nat) e1 e2,k1<k2->es[k1]?=some e1->es[k2]?=some e2->DW e1\/DW e2\/Y_ B (i+k2,e2.r,Nat.lor e2.w (lP e2.H e2.H')) (i+k1,e1.r,Nat.lor e1.w (lP e1.H e1.H'))):=by
 intro l
 induction l with
 |nil =>
  intro i _ _ t ds H acc r w t' ds' H' acc' r' w' h hw hp
  simp only[bV,aY,cY]at h
  cases h
  exact⟨[],⟨rfl,rfl,rfl⟩,rfl,jl _,jl _,(λe he=>by cases he),hp,(λk e h=>by simp at h),(λk1 k2 e1 e2 _ h=>by simp at h)⟩
 |cons o l ih =>
  intro i hl hnd t ds H acc r w t' ds' H' acc' r' w' h hw hp
  have ho:ops[i]?=some o:=by simpa using hl 0 o rfl
  have hl':∀ k o',l[k]?=some o'->ops[i+1+k]?=some o':=λk o' h=>by
   have:=hl (k+1) o' (by simpa using h);rw[<-this];congr 1;omega
  have ann:∀ o∈l,AL o=true:=λo ho=>hnd o (by simp[ho])
  have aed:=hnd o (by simp)
  have hne:∀ cc,o.op≠.defer cc:=λcc lz=>by unfold AL at aed;rw[lz]at aed;cases aed
  have join:∀ (e:Ent) (acc1:Acc) (r1 w1:Nat),e.t=t->e.H=H->NQ P tb cx.nt cx.eL ops i o t H e.v e.H' e.r e.w->(acc1=(i,e.r,Nat.lor e.w (lP e.H e.H'))::acc\/(acc1=acc/\DW e)) ->
   sub r r1->sub w w1->sub e.r r1->sub e.w w1->aY rec cx (bV tb cx.nt ops l) (i+1) (eF cx.d t o.dst e.v) ds e.H' acc1 r1 w1=.mk .normal t' ds' H' acc' r' w' ->
   ∃ es,BL P tb cx.d cx.nt cx.eL ops i (o::l) t H es t' H'/\ds'=ds/\sub r r'/\sub w w'/\(∀ e∈es,sub e.r r'/\sub e.w w')/\acc.Pairwise (Y_ B) /\
    (∀ (k:Nat) e,es[k]?=some e->DW e\/∀ y∈acc,Y_ B (i+k,e.r,Nat.lor e.w (lP e.H e.H')) y) /\
    (∀ (k1 k2:Nat) e1 e2,k1<k2->es[k1]?=some e1->es[k2]?=some e2->DW e1\/DW e2\/Y_ B (i+k2,e2.r,Nat.lor e2.w (lP e2.H e2.H')) (i+k1,e1.r,Nat.lor e1.w (lP e1.H e1.H'))):=by
   intro e acc1 r1 w1 he1 he2 hst hacc hr hw' hr1 hw1 ju
   obtain⟨es,c1,c2,c3,c4,c5,c6,c7,c8⟩:=ih (i+1) hl' ann _ _ _ _ _ _ _ _ _ _ _ _ ju hst.can.wf hp
   refine⟨e::es,⟨e,es,rfl,he1,he2,hst,c1⟩,c2,λb hb=>c3 b (hr b hb),λb hb=>c4 b (hw' b hb),?_,?_,?_,?_⟩
   ·intro x hx
    rcases List.mem_cons.1 hx with rfl|hx
    ·exact⟨λb hb=>c3 b (hr1 b hb),λb hb=>c4 b (hw1 b hb)⟩
    ·exact c5 x hx
   ·rcases hacc with rfl|⟨rfl,_⟩
    ·exact(List.pairwise_cons.1 c6).2
    ·exact c6
   ·intro k x hx
    cases k with
    |zero =>
     simp at hx;subst hx
     rcases hacc with rfl|⟨rfl,ht⟩
     ·exact .inr λy hy=>(List.pairwise_cons.1 c6).1 y hy
     ·exact .inl ht
    |succ k =>
     simp at hx
     rcases c7 k x hx with h|h
     ·exact .inl h
     ·refine .inr λy hy=>?_
      rw[show i+(k+1)=i+1+k from by omega]
      refine h y ?_
      rcases hacc with rfl|⟨rfl,_⟩
      ·simp[hy]
      ·exact hy
   ·intro k1 k2 e1 e2 hk h1 h2
    cases k2 with
    |zero=>omega
    |succ k2 =>
     simp at h2
     cases k1 with
     |zero =>
      simp at h1;subst h1
      rcases hacc with rfl|⟨rfl,ht⟩
      ·rcases c7 k2 e2 h2 with h|h
       ·exact .inr (.inl h)
       ·right;right
        rw[show i+(k2+1)=i+1+k2 from by omega]
        exact h _ (by simp)
      ·exact .inl ht
     |succ k1 =>
      simp at h1
      have:=c8 k1 k2 e1 e2 (by omega) h1 h2
      rw[show i+(k2+1)=i+1+k2 from by omega,show i+(k1+1)=i+1+k1 from by omega]
      exact this
  simp only[bV,aY,cY]at h
  rcases mJ (tb:=tb) (nt:=cx.nt) (ops:=ops) (o:=o)with hc|hc
  case inr =>
   rw[hc]at h
   have gR:dn t (none:Option (Tmp×Bool))=true:=rfl
   rw[gR,aj]at h
   simp only[run]at h
   cases h
  generalize mK tb cx.nt ops o=c at h hc
  rw[hc.dst]at h
  have dc:=λ{β:Mp} {a:Act}=>om (β:=β) (t:=t) (a:=a) hc
  cases gR:dn t c.guard with
  |false =>
   rw[gR,au]at h
   refine join ⟨t,H,U,H,0,0⟩ acc r w rfl rfl ⟨Can.refl hw,hc.qe,hc.JI,λβ W a F K Q hg hF hop hgd p hK=>?_⟩ (.inr ⟨rfl,rfl,rfl,rfl⟩) (jl _) (jl _) (λb hb=>by simp at hb) (λb hb=>by simp at hb) h
   simp only[wpOpIn,ho,dc hgd,gR]
   exact⟨λf _=>fJ hF f,hK β undef W (oo β) (Post.refl p.dom)⟩
  |true =>
   rw[gR,aj]at h
   have hrun:=λ{β:Mp} {W:World} {a:Act} (hgr:cX tb.ng β) (hop:∀ x∈o.op.operands.toList,ai β (aA t x) (a.eval x))=>B4 (P:=P) (W:=W) (o:=o) (ρ:=a.eval) (t:=t) ok hw hgr.2 hop
   rw[<-hc.op]at hrun
   cases hr:run c.op t H with
   |fail=>rw[hr]at h;cases h
   |recover=>rw[hr]at h;cases h
   |panic v=>rw[hr]at h;cases h
   |defer d =>
    rw[hr]at h
    simp only[aab]at h
    cases hrnd:cx.eL<;>rw[hrnd]at h<;>cases h
   |val v H1 r1 w1 =>
    rw[hr]at h hrun
    simp only at h
    have pX:Can H H1 w1:=by have:=DG hw c.op t;rw[hr]at this;exact this
    refine join ⟨t,H,v,H1,r1,w1⟩ _ _ _ rfl rfl ⟨pX,hc.qe,hc.JI,λβ W a F K Q hg hF hop hgd p hK=>?_⟩ (.inl rfl) (λb hb=>by rw[aM];simp[hb]) (λb hb=>by rw[aM];simp[hb]) (λb hb=>by rw[aM];simp[hb]) (λb hb=>by rw[aM];simp[hb]) h
    simp only[wpOpIn,ho,dc hgd,gR,if_true]
    obtain⟨_,hx⟩:=hrun (W:=W) hg hop
    obtain⟨β1,W1,v',hres,hv,hpost⟩:=hx p
    refine⟨λf _=>fJ hF f,?_⟩
    rw[Oper.semAt_eq _ _ _ hne]
    exact qo hres (hK β1 v' W1 hv hpost)
   |call f args =>
    rw[hr]at h hrun
    simp only[bt]at h
    have hk:=bX (.call f args) H hw
    split at h
    ·rename_i v H1 r1 w1 hx
     rw[hx]at hk
     obtain⟨pX,hk⟩:=hk
     refine join ⟨t,H,v,H1,r1,w1⟩ _ _ _ rfl rfl ⟨pX,hc.qe,hc.JI,λβ W a F K Q hg hF hop hgd p hK=>?_⟩ (.inl rfl) (λb hb=>by rw[aM];simp[hb]) (λb hb=>by rw[aM];simp[hb]) (λb hb=>by rw[aM];simp[hb]) (λb hb=>by rw[aM];simp[hb]) h
     simp only[wpOpIn,ho,dc hgd,gR,if_true]
     obtain⟨args',hs,hl⟩:=hrun (W:=W) hg hop
     refine⟨λf _=>fJ hF f,?_⟩
     rw[Oper.semAt_eq _ _ _ hne,hs]
     refine pg hF (hk β W hg p args' hl) (λv' W1 hR=>?_) (λch W1 hR=>?_) (λW1 hR=>?_)
     ·obtain⟨β1,v'',he,hv,hpost⟩:=hR
      cases he
      exact hK β1 _ W1 hv hpost
     ·obtain⟨_,_,he,_⟩:=hR;cases he
     ·obtain⟨_,_,he,_⟩:=hR;cases he
    ·cases h
    ·cases h
   |round m args =>
    rw[hr]at h hrun
    simp only[bt]at h
    have hk:=bX (.round m args) H hw
    split at h
    ·rename_i v H1 r1 w1 hx
     rw[hx]at hk
     obtain⟨pX,hk⟩:=hk
     refine join ⟨t,H,v,H1,r1,w1⟩ _ _ _ rfl rfl ⟨pX,hc.qe,hc.JI,λβ W a F K Q hg hF hop hgd p hK=>?_⟩ (.inl rfl) (λb hb=>by rw[aM];simp[hb]) (λb hb=>by rw[aM];simp[hb]) (λb hb=>by rw[aM];simp[hb]) (λb hb=>by rw[aM];simp[hb]) h
     simp only[wpOpIn,ho,dc hgd,gR,if_true]
     obtain⟨m',args',em,hs,hl⟩:=hrun (W:=W) hg hop
     refine⟨λf _=>fJ hF f,?_⟩
     rw[Oper.semAt_eq _ _ _ hne,hs]
     refine wY hF (hk β W hg p m' args' em hl) (λv' W1 hR=>?_) (λch W1 hR=>?_) (λW1 hR=>?_)
     ·obtain⟨β1,v'',he,hv,hpost⟩:=hR
      cases he
      exact hK β1 _ W1 hv hpost
     ·obtain⟨_,_,he,_⟩:=hR;cases he
     ·obtain⟨_,_,he,_⟩:=hR;cases he
    ·cases h
    ·cases h
end
end Go.Ev
end
noncomputable section
namespace Go.Ev
variable [dj]
theorem v_ {H H':Hp} (h:H.nx<=H'.nx) (b:Nat):(lP H H').testBit b=true↔H.nx<=b/\b<H'.nx:=by
 have e:∀ n,bit n=2 ^ n:=λn=>by show(1:Nat) <<< n=_;exact Nat.one_shiftLeft n
 have:lP H H'=2 ^ H.nx*(2 ^ (H'.nx-H.nx)-1):=by
  show bit H'.nx-bit H.nx=_
  rw[e,e,Nat.mul_sub_one,<-Nat.pow_add,show H.nx+(H'.nx-H.nx)=H'.nx from by omega]
 rw[this,Nat.testBit_two_pow_mul,Nat.testBit_two_pow_sub_one]
 simp only[Bool.and_eq_true,decide_eq_true_eq]
 omega
theorem AY {x y b:Nat} (h:Nat.land x y=0) (hx:x.testBit b=true):y.testBit b=false:=by
 have:(x &&& y).testBit b=false:=by
  show(Nat.land x y).testBit b=false
  rw[h];simp
 rw[Nat.testBit_and,hx]at this
 simpa using this
structure Dr (P:Program) (tb:Tb) (d nt:Nat) (eL:Option Nat) (ops:Array Oper) (B:Array Nat) (n:Nat) where
 le:n<=ops.size
 t:Nat->T Value
 H:Nat->Hp
 v:Nat->Value
 r:Nat->Nat
 w:Nat->Nat
 step:∀ i o,i<n->ops[i]?=some o->NQ P tb nt eL ops i o (t i) (H i) (v i) (H (i+1)) (r i) (w i)
 acn:∀ i o,i<n->ops[i]?=some o->t (i+1)=eF d (t i) o.dst (v i)
 ind:∀ i j,i<j->j<n->(B.getD j 0).testBit i=true\/((∀ b,((w i).testBit b=true\/((H i).nx<=b/\b<(H (i+1)).nx))->(r j).testBit b=false/\(w j).testBit b=false/\¬ ((H j).nx<=b/\b<(H (j+1)).nx))/\∀ b,(w j).testBit b=true->(r i).testBit b=false)
theorem Wu {P:Program} {tb:Tb} {d nt:Nat} {eL:Option Nat} {ops:Array Oper}:∀ (l:List Oper) (i0:Nat) (t:T Value) (H:Hp) (es:List Ent) (t':T Value) (H':Hp),BL P tb d nt eL ops i0 l t H es t' H' ->
 es.length=l.length/\((es[0]?).map (·.t)).getD t'=t/\((es[0]?).map (·.H)).getD H'=H /\
 ∀ (i:Nat) o e,l[i]?=some o->es[i]?=some e->NQ P tb nt eL ops (i0+i) o e.t e.H e.v e.H' e.r e.w/\((es[i+1]?).map (·.t)).getD t'=eF d e.t o.dst e.v/\((es[i+1]?).map (·.H)).getD H'=e.H':=by
 intro l
 induction l with
 |nil =>
  intro i0 t H es t' H' h
  obtain⟨rfl,rfl,rfl⟩:=h
  exact⟨rfl,rfl,rfl,λi o e h=>by simp at h⟩
 |cons o l ih =>
  intro i0 t H es t' H' h
  obtain⟨e,es',rfl,rfl,rfl,hs,hc⟩:=h
  obtain⟨h1,h2,h3,h4⟩:=ih _ _ _ _ _ _ hc
  refine⟨by simp[h1],rfl,rfl,λi o1 e1 ho he=>?_⟩
  cases i with
  |zero =>
   simp at ho he;subst ho he
   exact⟨hs,by simpa using h2,by simpa using h3⟩
  |succ i =>
   simp at ho he
   have:=h4 i o1 e1 ho he
   rw[show i0+(i+1)=i0+1+i from by omega]
   simpa using this
theorem abU {P:Program} {tb:Tb} {d nt:Nat} {eL:Option Nat} {ops:Array Oper} {B:Array Nat} {t t':T Value} {H H':Hp} {es:List Ent} {r' w':Nat} {n:Nat} (hn:n<=ops.size) (hc:BL P tb d nt eL ops 0 (ops.toList.take n) t H es t' H')
 (hs:∀ e∈es,sub e.r r'/\sub e.w w')
 (hp:∀ (k1 k2:Nat) e1 e2,k1<k2->es[k1]?=some e1->es[k2]?=some e2->DW e1\/DW e2\/Y_ B (0+k2,e2.r,Nat.lor e2.w (lP e2.H e2.H')) (0+k1,e1.r,Nat.lor e1.w (lP e1.H e1.H'))) :
 ∃ D:Dr P tb d nt eL ops B n,D.t 0=t/\D.H 0=H/\D.t n=t'/\D.H n=H'/\∀ i,i<n->sub (D.r i) r'/\sub (D.w i) w':=by
 obtain⟨hlen,h0,h1,XA⟩:=Wu _ _ _ _ _ _ _ hc
 have hsz:es.length=n:=by rw[hlen];simp;omega
 have htk:∀ (i:Nat) (o:Oper),i<n->ops[i]?=some o->(ops.toList.take n)[i]?=some o:=λi o hi ho=>by rw[List.getElem?_take_of_lt hi];simpa using ho
 have get:∀ i,i<n->∃ e,es[i]?=some e:=λi hi=>⟨es[i]'(by omega),by simp[hsz,hi]⟩
 have hend:es[n]?=none:=by rw[List.getElem?_eq_none];omega
 refine⟨⟨hn,λi=>((es[i]?).map (·.t)).getD t',λi=>((es[i]?).map (·.H)).getD H',λi=>((es[i]?).map (·.v)).getD U,λi=>((es[i]?).map (·.r)).getD 0,λi=>((es[i]?).map (·.w)).getD 0,?_,?_,?_⟩,h0,h1,?_,?_,?_⟩
 ·intro i o hi ho
  obtain⟨e,he⟩:=get i hi
  obtain⟨a,b,c⟩:=XA i o e (htk i o hi ho) he
  rw[Nat.zero_add]at a
  simp only[he,Option.map_some,Option.getD_some,c]
  exact a
 ·intro i o hi ho
  obtain⟨e,he⟩:=get i hi
  obtain⟨a,b,c⟩:=XA i o e (htk i o hi ho) he
  simp only[he,Option.map_some,Option.getD_some,b]
 ·intro i j hij hj
  obtain⟨e1,he1⟩:=get i (by omega)
  obtain⟨e2,he2⟩:=get j hj
  have G0:∃ o,ops[i]?=some o:=⟨ops[i]'(by omega),by simp⟩
  have FQ:∃ o,ops[j]?=some o:=⟨ops[j]'(by omega),by simp⟩
  obtain⟨o1,G0⟩:=G0
  obtain⟨o2,FQ⟩:=FQ
  obtain⟨a1,_,c1⟩:=XA i o1 e1 (htk i o1 (by omega) G0) he1
  obtain⟨a2,_,c2⟩:=XA j o2 e2 (htk j o2 hj FQ) he2
  simp only[he1,he2,Option.map_some,Option.getD_some,c1,c2]
  rcases hp i j e1 e2 hij he1 he2 with ht|ht|ht
  ·obtain⟨hr,hw,hH⟩:=ht
   right
   rw[hw,hr,hH]
   refine⟨λb hb=>?_,λb _=>by simp⟩
   rcases hb with hb|hb
   ·simp at hb
   ·omega
  ·obtain⟨hr,hw,hH⟩:=ht
   right
   rw[hw,hr,hH]
   exact⟨λb hb=>⟨by simp,by simp,by omega⟩,λb hb=>by simp at hb⟩
  ·simp only[Nat.zero_add]at ht
   rcases ht with ht|⟨ht1,Ux⟩
   ·exact .inl ht
   ·right
    refine⟨λb hb=>?_,λb hb=>?_⟩
    ·have hx:(Nat.lor e1.w (lP e1.H e1.H')).testBit b=true:=by
      rw[aM]
      rcases hb with hb|hb
      ·simp[hb]
      ·simp[(v_ a1.can.mono b).2 hb]
     have:=AY ht1 hx
     rw[aM,aM]at this
     simp only[Bool.or_eq_false_iff]at this
     refine⟨this.1,this.2.1,λhh=>?_⟩
     rw[(v_ a2.can.mono b).2 hh]at this
     simp at this
    ·exact AY Ux (by rw[aM];simp[hb])
 ·simp[hend]
 ·simp[hend]
 ·intro i hi
  obtain⟨e,he⟩:=get i hi
  simp only[he,Option.map_some,Option.getD_some]
  exact hs e (List.mem_of_getElem? he)
end Go.Ev
end
noncomputable section
namespace Go.Ev
variable [dj]
section
variable {P:Program} {tb:Tb} {d nt:Nat} {eL:Option Nat} {ops:Array Oper} {B:Array Nat} {n:Nat} (D:Dr P tb d nt eL ops B n)
def Dr.fQ (k b:Nat):Bool:=(D.w k).testBit b||(Nat.ble (D.H k).nx b&&Nat.blt b (D.H (k+1)).nx)
theorem eB {k b:Nat}:D.fQ k b=true↔(D.w k).testBit b=true\/((D.H k).nx<=b/\b<(D.H (k+1)).nx):=by
 simp[Dr.fQ]
def Dr.cont (S:Nat->Bool):Nat->Nat->dB
 |0,b=>(D.H 0).blk b
 |k+1,b=>if S k=true/\D.fQ k b=true then (D.H (k+1)).blk b else Dr.cont S k b
def iC (ops:Array Oper) (k x:Nat):Bool:=((ops[k]?).bind (·.dst))==some x
def Dr.gI (S:Nat->Bool):Nat->Nat->Value
 |0,x=>(D.t 0).get x
 |k+1,x=>if S k=true/\iC ops k x=true then D.v k else Dr.gI S k x
def o_ (B:Array Nat) (S:Nat->Bool):Prop:=∀ k,S k=true->∀ i,i<k->(B.getD k 0).testBit i=true->S i=true
include D in
theorem Dr.op {i:Nat} (hi:i<n):∃ o,ops[i]?=some o:=⟨ops[i]'(Nat.lt_of_lt_of_le hi D.le),by simp⟩
theorem Dr.can {i:Nat} (hi:i<n):Can (D.H i) (D.H (i+1)) (D.w i):=by
 obtain⟨o,ho⟩:=D.op hi
 exact(D.step i o hi ho).can
theorem Dr.mono {i j:Nat} (h:i<=j) (hj:j<=n):(D.H i).nx<=(D.H j).nx:=by
 induction j with
 |zero => have:i=0:=by omega
          subst this;exact Nat.le_refl _
 |succ j ih =>
  by_cases e:i=j+1
  ·subst e;exact Nat.le_refl _
  ·exact Nat.le_trans (ih (by omega) (by omega)) (D.can (by omega)).mono
theorem s8 {H:Hp} {b:Nat} (h:H.nx<=b):H.blk b=.no:=by
 cases H with
 |mk t n=>rw[iD,if_neg (by have:n<=b:=h;omega)]
 |fn f n=>rw[jA,if_neg (by have:n<=b:=h;omega)]
theorem Dr.keep {k b:Nat} (hk:k<n) (h:D.fQ k b=false):(D.H (k+1)).blk b=(D.H k).blk b:=by
 have h':¬ (D.fQ k b=true):=by rw[h];simp
 rw[eB]at h'
 have hw:(D.w k).testBit b=false:=by cases e:(D.w k).testBit b with|false=>rfl|true=>exact absurd (.inl e) h'
 by_cases hb:b<(D.H k).nx
 ·exact(D.can hk).keep b hb hw
 ·rw[s8 (by omega),s8 (by omega)]
theorem Dr.Nt {S:Nat->Bool} (hS:o_ B S) {j:Nat} (hj:j<n) (hn:S j=false) (hb:∀ i,i<j->(B.getD j 0).testBit i=true->S i=true) {b:Nat}
 (hf:(D.r j).testBit b=true\/(D.w j).testBit b=true) (hlt:b<(D.H j).nx):D.cont S n b=(D.H j).blk b:=by
 have h1:∀ k,k<=j->D.cont S k b=(D.H k).blk b:=by
  intro k
  induction k with
  |zero=>intro _;rfl
  |succ k ih =>
   intro hk
   have ihk:=ih (by omega)
   simp only[Dr.cont]
   by_cases ht:D.fQ k b=true
   ·cases hs:S k with
    |true=>simp[ht]
    |false =>
     exfalso
     rcases D.ind k j (by omega) hj with h|⟨h,_⟩
     ·rw[hb k (by omega) h]at hs;cases hs
     ·have:=h b ((eB D).1 ht)
      rcases hf with hf|hf
      ·rw[this.1]at hf;cases hf
      ·rw[this.2.1]at hf;cases hf
   ·have ht':D.fQ k b=false:=by simpa using ht
    rw[if_neg (by simp[ht'])]
    rw[ihk,D.keep (by omega) ht']
 have h2:∀ k,j<=k->k<=n->D.cont S k b=(D.H j).blk b:=by
  intro k
  induction k with
  |zero => intro h _;have:j=0:=by omega
           subst this;exact h1 0 (Nat.le_refl _)
  |succ k ih =>
   intro hjk hk
   by_cases e:j=k+1
   ·subst e;exact h1 _ (Nat.le_refl _)
   ·have ihk:=ih (by omega) (by omega)
    simp only[Dr.cont]
    rw[if_neg,ihk]
    rintro⟨hs,ht⟩
    rw[eB]at ht
    have qC:=D.mono (i:=j) (j:=k) (by omega) (by omega)
    rcases ht with ht|ht
    ·by_cases ejk:j=k
     ·subst ejk;rw[hn]at hs;cases hs
     ·rcases D.ind j k (by omega) (by omega)with h|⟨h,h'⟩
      ·have:=hS k hs j (by omega) h
       rw[hn]at this;cases this
      ·rcases hf with hf|hf
       ·have:=h' b ht;rw[this]at hf;cases hf
       ·have:=(h b (.inl hf)).2.1;rw[this]at ht;cases ht
    ·omega
 exact h2 _ (by omega) (Nat.le_refl _)
def di (S:Nat->Bool) (j:Nat):Nat->Bool:=λk=>S k||k==j
theorem Dr.JL {S:Nat->Bool} {j b:Nat} (hn:S j=false) (h:D.fQ j b=false):∀ k,D.cont (di S j) k b=D.cont S k b:=by
 intro k
 induction k with
 |zero=>rfl
 |succ k ih =>
  simp only[Dr.cont,ih]
  by_cases e:k=j
  ·subst e;simp[h]
  ·have:di S j k=S k:=by simp[di,e]
   rw[this]
theorem Dr.JK {S:Nat->Bool} (hS:o_ B S) {j:Nat} (hj:j<n) (hn:S j=false) {b:Nat} (h:D.fQ j b=true):D.cont (di S j) n b=(D.H (j+1)).blk b:=by
 have h2:∀ k,j<k->k<=n->D.cont (di S j) k b=(D.H (j+1)).blk b:=by
  intro k
  induction k with
  |zero=>intro h;omega
  |succ k ih =>
   intro hjk hk
   simp only[Dr.cont]
   by_cases e:k=j
   ·subst e;rw[if_pos ⟨by simp[di],h⟩]
   ·rw[if_neg,ih (by omega) (by omega)]
    rintro⟨hs,ht⟩
    have hs':S k=true:=by simpa [di,e] using hs
    rcases D.ind j k (by omega) (by omega)with h'|⟨h',_⟩
    ·have:=hS k hs' j (by omega) h'
     rw[hn]at this;cases this
    ·have hx:=h' b ((eB D).1 h)
     rcases(eB D).1 ht with ht|ht
     ·rw[hx.2.1]at ht;cases ht
     ·exact hx.2.2 ht
 exact h2 _ (by omega) (Nat.le_refl _)
theorem Dr.Gz {S:Nat->Bool} (hall:∀ k,k<n->S k=true) (b:Nat):∀ k,k<=n->D.cont S k b=(D.H k).blk b:=by
 intro k
 induction k with
 |zero=>intro _;rfl
 |succ k ih =>
  intro hk
  simp only[Dr.cont]
  by_cases ht:D.fQ k b=true
  ·rw[if_pos ⟨hall k (by omega),ht⟩]
  ·rw[if_neg (by simp[ht]),ih (by omega),D.keep (by omega) (by simpa using ht)]
theorem As {S:Nat->Bool} (hd:nt<8 ^ d) (hall:∀ k,k<n->S k=true) {x:Nat} (hx:x<nt):∀ k,k<=n->D.gI S k x=(D.t k).get x:=by
 intro k
 induction k with
 |zero=>intro _;rfl
 |succ k ih =>
  intro hk
  obtain⟨o,ho⟩:=D.op (i:=k) (by omega)
  simp only[Dr.gI,ih (by omega)]
  rw[D.acn k o (by omega) ho]
  have hdl:=(D.step k o (by omega) ho).JI
  simp only[hall k (by omega),true_and,iC,ho,Option.bind_some]
  cases jv:o.dst with
  |none=>simp[eF]
  |some i =>
   show _=(T.set d (D.t k) i (D.v k)).get x
   rw[T.ef d _ i x _ (by have:=hdl i jv;omega) (by omega)]
   by_cases e:i=x
   ·subst e;simp
   ·have e2:¬ x=i:=λh=>e h.symm
    have e3:(some i==some x)=false:=by
     simp;exact e
    rw[if_neg e2,if_neg (by simp[e3])]
end
end Go.Ev
end
noncomputable section
namespace Go.Ev
variable [dj]
section
variable {P:Program} {tb:Tb} {d nt:Nat} {eL:Option Nat} {ops:Array Oper} {B:Array Nat} {n:Nat} (D:Dr P tb d nt eL ops B n)
def QI (ops:Array Oper) (B:Array Nat):Prop:=∀ i j oi oj,i<j->ops[i]?=some oi->ops[j]?=some oj->(B.getD j 0).testBit i=true\/uK ops oi oj=true
theorem apart_spec {x y:Oper} (h:uK ops x y=true):(∀ d:Nat,x.dst=some d->d ∉ looksAt ops y/\y.dst≠some d)/\∀ d:Nat,y.dst=some d->d ∉ looksAt ops x:=by
 refine⟨λd hd=>?_,λd hd=>?_⟩<;>simp[uK,hd]at h
 ·exact⟨h.1.1,h.1.2⟩
 ·exact h.2
theorem ja {k x:Nat} {o:Oper} (ho:ops[k]?=some o):iC ops k x=true↔o.dst=some x:=by
 simp[iC,ho]
theorem Od (hd:nt<8 ^ d) {k x:Nat} (hk:k<n) (hx:x<nt) (h:iC ops k x=false):(D.t (k+1)).get x=(D.t k).get x:=by
 obtain⟨o,ho⟩:=D.op hk
 rw[D.acn k o hk ho]
 have hdl:=(D.step k o hk ho).JI
 cases jv:o.dst with
 |none=>rfl
 |some i =>
  show(T.set d (D.t k) i (D.v k)).get x=_
  rw[T.ef d _ i x _ (by have:=hdl i jv;omega) (by omega),if_neg]
  rintro rfl
  rw[(ja ho).2 jv]at h;cases h
theorem ru (hd:nt<8 ^ d) (hap:QI ops B) {S:Nat->Bool} (hS:o_ B S) {j:Nat} (hj:j<n) (hn:S j=false) (hb:∀ i,i<j->(B.getD j 0).testBit i=true->S i=true) {x:Nat} (hx:x<nt)
 {oj:Oper} (hoj:ops[j]?=some oj) (hl:x∈looksAt ops oj):D.gI S n x=(D.t j).get x:=by
 have h1:∀ k,k<=j->D.gI S k x=(D.t k).get x:=by
  intro k
  induction k with
  |zero=>intro _;rfl
  |succ k ih =>
   intro hk
   have ihk:=ih (by omega)
   obtain⟨o,ho⟩:=D.op (i:=k) (by omega)
   simp only[Dr.gI]
   cases ht:iC ops k x with
   |true =>
    have jv:=(ja ho).1 ht
    cases hs:S k with
    |true =>
     simp only[true_and,if_true]
     rw[D.acn k o (by omega) ho,jv]
     show _=(T.set d (D.t k) x (D.v k)).get x
     rw[T.ef d _ x x _ (by omega) (by omega),if_pos rfl]
    |false =>
     exfalso
     rcases hap k j o oj (by omega) ho hoj with h|h
     ·rw[hb k (by omega) h]at hs;cases hs
     ·exact((apart_spec h).1 x jv).1 hl
   |false=>rw[if_neg (by simp),ihk,Od D hd (by omega) hx ht]
 have h2:∀ k,j<=k->k<=n->D.gI S k x=(D.t j).get x:=by
  intro k
  induction k with
  |zero => intro h _;have:j=0:=by omega
           subst this;exact h1 0 (Nat.le_refl _)
  |succ k ih =>
   intro hjk hk
   by_cases e:j=k+1
   ·subst e;exact h1 _ (Nat.le_refl _)
   ·have ihk:=ih (by omega) (by omega)
    simp only[Dr.gI]
    rw[if_neg,ihk]
    rintro⟨hs,ht⟩
    obtain⟨o,ho⟩:=D.op (i:=k) (by omega)
    have jv:=(ja ho).1 ht
    by_cases ejk:j=k
    ·subst ejk;rw[hn]at hs;cases hs
    ·rcases hap j k oj o (by omega) hoj ho with h|h
     ·have:=hS k hs j (by omega) h
      rw[hn]at this;cases this
     ·exact(apart_spec h).2 x jv hl
 exact h2 _ (by omega) (Nat.le_refl _)
theorem Oe (hap:QI ops B) {S:Nat->Bool} (hS:o_ B S) {j:Nat} (hj:j<n) (hn:S j=false) (x:Nat) :
 D.gI (di S j) n x=if iC ops j x=true then D.v j else D.gI S n x:=by
 have h1:∀ k,k<=j->D.gI (di S j) k x=D.gI S k x:=by
  intro k
  induction k with
  |zero=>intro _;rfl
  |succ k ih =>
   intro hk
   simp only[Dr.gI,ih (by omega)]
   have:di S j k=S k:=by simp[di];omega
   rw[this]
 have h2:∀ k,j<k->k<=n->D.gI (di S j) k x=if iC ops j x=true then D.v j else D.gI S k x:=by
  intro k
  induction k with
  |zero=>intro h;omega
  |succ k ih =>
   intro hjk hk
   simp only[Dr.gI]
   by_cases e:k=j
   ·subst e
    rw[h1 k (Nat.le_refl _)]
    by_cases ht:iC ops k x=true
    ·rw[if_pos ⟨by simp[di],ht⟩,if_pos ht]
    ·rw[if_neg (λh=>ht h.2),if_neg ht,if_neg (λh=>ht h.2)]
   ·have hsk:di S j k=S k:=by simp[di,e]
    rw[hsk,ih (by omega) (by omega)]
    by_cases hc:S k=true/\iC ops k x=true
    ·rw[if_pos hc,if_pos hc,if_neg]
     intro ht
     obtain⟨oj,hoj⟩:=D.op hj
     obtain⟨o,ho⟩:=D.op (i:=k) (by omega)
     rcases hap j k oj o (by omega) hoj ho with h|h
     ·have:=hS k hc.1 j (by omega) h
      rw[hn]at this;cases this
     ·exact((apart_spec h).1 x ((ja hoj).1 ht)).2 ((ja ho).1 hc.2)
    ·rw[if_neg hc,if_neg hc]
 exact h2 _ hj (Nat.le_refl _)
end
end Go.Ev
end
noncomputable section
namespace Go.Ev
variable [dj]
section
variable {P:Program} {tb:Tb} {d nt:Nat} {eL:Option Nat} {ops:Array Oper} {B:Array Nat} {n:Nat} (D:Dr P tb d nt eL ops B n)
def Dr.rX (S:Nat->Bool) (b:Nat):Prop:=∃ k,k<n/\S k=true/\(D.H k).nx<=b/\b<(D.H (k+1)).nx
def Dr.scope (S:Nat->Bool) (rt wt b:Nat):Prop:=(b<(D.H 0).nx/\oe rt wt b)\/D.rX S b
def Dr.mQ (S:Nat->Bool) (wt b:Nat):Prop:=(b<(D.H 0).nx/\wt.testBit b=true)\/D.rX S b
theorem Dr.mQ.scope {S:Nat->Bool} {rt wt b:Nat} (h:D.mQ S wt b):D.scope S rt wt b:=h.imp (λ⟨a,c⟩=>⟨a,.inr c⟩) id
structure GZ (S:Nat->Bool) (β0:Mp) (W0:World) (rt wt:Nat) (ds:List Deferred) (β:Mp) (W:World) (a:Act):Prop where
 le:Mp.le β0 β
 dom:∀ b m,β b=some m->m.rb<W.heap.size
 only:∀ b m,β b=some m->β0 b=none->D.rX S b
 rel:∀ b,D.scope S rt wt b->D.cont S n b≠.no->∃ m,β b=some m/\fM β W (D.cont S n b) m
 inj:∀ b c mb mc,D.mQ S wt b->D.scope S rt wt c->D.cont S n b≠.no->D.cont S n c≠.no->β b=some mb->β c=some mc->mb.rb=mc.rb->b=c
 frame:∀ rb o,W0.heap[rb]?=some o->(∀ b m,b<(D.H 0).nx->wt.testBit b=true->β0 b=some m->m.rb≠rb)->W.heap[rb]?=some o
 size:W0.heap.size<=W.heap.size
 new:∀ b m,(D.H 0).nx<=b->β0 b=none->β b=some m->W0.heap.size<=m.rb\/∃ c mc,c<(D.H 0).nx/\wt.testBit c=true/\β0 c=some mc/\mc.rb=m.rb/\D.cont S n c=.no
 env:W.os=W0.os/\W.tape=W0.tape/\W.output=W0.output
 Xn:a.tmps.size=nt
 tmp:∀ x,x<nt->ai β (D.gI S n x) (a.tmps.getD x undef)
 aax:gj β ds a.defers
theorem QA {k j b:Nat} (hk:k<n) (hj:j<n) (h1:(D.H k).nx<=b/\b<(D.H (k+1)).nx) (h2:(D.H j).nx<=b/\b<(D.H (j+1)).nx):k=j:=by
 rcases Nat.lt_trichotomy k j with h|h|h
 ·have:=D.mono (i:=k+1) (j:=j) (by omega) (by omega);omega
 ·exact h
 ·have:=D.mono (i:=j+1) (j:=k) (by omega) (by omega);omega
theorem o6 {b:Nat}:∀ n,n<=n->(D.H 0).nx<=b->b<(D.H n).nx->∃ k,k<n/\(D.H k).nx<=b/\b<(D.H (k+1)).nx:=by
 intro n
 induction n with
 |zero=>intro _ h1 h2;omega
 |succ n ih =>
  intro hn h1 h2
  rcases Nat.lt_or_ge b (D.H n).nx with h|h
  ·obtain⟨k,hk,x⟩:=ih (by omega) h1 h;exact⟨k,by omega,x⟩
  ·exact⟨n,by omega,h,h2⟩
theorem zg {j b:Nat} (hb:b<(D.H 0).nx):j<=n->(D.H j).blk b≠.no->(D.H 0).blk b≠.no:=by
 induction j with
 |zero=>intro _ h;exact h
 |succ j ih =>
  intro hj h
  refine ih (by omega) ?_
  have qC:=D.mono (i:=0) (j:=j) (by omega) (by omega)
  exact(aH _ _).1 ((D.can (by omega)).dh (by omega) ((aH _ _).2 h))
end
end Go.Ev
end
