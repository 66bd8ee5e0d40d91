/-
 A part of the reckoner for the statements of a Go program: what it answers,the model answers. Holds for every program whose tables are as given.
-/
import Derived.Below
import Derived.Laws.Externs
import Derived.Lib.MakeNoZero
import Derived.Test.YtgdejggelcpokaaGreatDoorG08
set_option linter.unusedSimpArgs false
set_option linter.unusedVariables false
set_option linter.unusedSectionVars false
noncomputable section
namespace Go.Ev
section
variable {P:Program} {tb:Tb}
def DPost (β:Mp) (c₀:Frame) (cs:List Frame) (nt:Nat) (H H':Hp) (w:Nat) (W:World) (ret:Bool) (t':T Value) (um':FrameMode):Exit→Act→List Frame→World→Prop :=
 fun e a' cs' W'=>(e=if ret then .ret else .normal)∧∃ β' mm',TRel β' nt t' a'.tmps∧a'.defers=[]∧cs' = { c₀ with mode:=mm' }::cs∧VmRel β' um' mm'∧Post β β' H H' w W W'
theorem DPost.comp {β β1:Mp} {c₀:Frame} {cs:List Frame} {nt:Nat} {H H1 H2:Hp} {r1 r2 w1 w2:Nat} {W W1:World} {ret:Bool} {t':T Value} {um':FrameMode} {e:Exit} {a':Act} {cs':List Frame} {W':World}
 (c1:Can H H1 w1) (c2:Can H1 H2 w2) (p:Pre β H H2 (Nat.lor r1 r2) (Nat.lor w1 w2) W) (q:Post β β1 H H1 w1 W W1) (h:DPost β1 c₀ cs nt H1 H2 w2 W1 ret t' um' e a' cs' W'):DPost β c₀ cs nt H H2 (Nat.lor w1 w2) W ret t' um' e a' cs' W':=by
 obtain ⟨he,β',mm',h1,h2,h3,h4,h5⟩:=h
 exact ⟨he,β',mm',h1,h2,h3,h4,Post.comp c1 c2 p q h5⟩
theorem recov_rel {β:Mp} {um mm:FrameMode} (h:VmRel β um mm) (c₀:Frame) (cs:List Frame) :
 (∃ v' mm',recoverD ({ c₀ with mode:=mm }::cs)=some (v',{ c₀ with mode:=mm' }::cs)∧VRel β (recov um).1 v'∧VmRel β (recov um).2 mm') ∨
 (recoverD ({ c₀ with mode:=mm }::cs)=none∧(recov um).1=.nilIface∧(recov um).2=um):=by
 cases um <;> cases mm <;> try exact h.elim
 ·exact .inr ⟨rfl,rfl,rfl⟩
 ·exact .inr ⟨rfl,rfl,rfl⟩
 ·rename_i c c'
  obtain ⟨h1,h2⟩:=h
  cases c with
  | nil=>cases c' with
   | nil=>exact .inr ⟨rfl,rfl,rfl⟩
   | cons=>simp at h1
  | cons x xs =>
   cases c' with
   | nil=>simp at h1
   | cons y ys =>
    have h0:=h2 0 x y rfl rfl
    obtain ⟨xv,xr,xg⟩:=x
    obtain ⟨yv,yr,yg⟩:=y
    simp only at h0
    obtain ⟨hv,rfl,rfl⟩:=h0
    cases xr with
    | true=>exact .inr ⟨rfl,rfl,rfl⟩
    | false =>
     cases xg with
     | true=>exact .inr ⟨rfl,rfl,rfl⟩
     | false =>
      refine .inl ⟨yv,_,rfl,hv,by simpa using h1,fun i e e' a b=>?_⟩
      cases i with
      | zero=>simp at a b;subst a b;exact ⟨hv,rfl,rfl⟩
      | succ i=>exact h2 (i+1) e e' (by simpa using a) (by simpa using b)
theorem evOpsD_ok (ok:TbOk P tb) {d nt:Nat} (hd:nt<2 ^ d) (ops:Array Oper):∀ (l:List Oper) (i:Nat),(∀ k,l[k]?=ops[i+k]?)→∀ (t:T Value) (um:FrameMode) (H:Hp) (r w:Nat) (ret:Bool)
 (t':T Value) (um':FrameMode) (H':Hp) (r' w':Nat),evOpsD d (compOs tb nt ops l) t um H r w=.mk ret t' um' H' r' w'→H.wf →
 ∃ r2 w2,r'=Nat.lor r r2∧w'=Nat.lor w w2∧Can H H' w2∧∀ β W a c₀ cs mm,GRel tb.ng β→TRel β nt t a.tmps→a.defers=[]→VmRel β um mm→Pre β H H' r2 w2 W→∀ Q:Exit→Act→List Frame→World→Prop,
  (∀ e a' cs' W',DPost β c₀ cs nt H H' w2 W ret t' um' e a' cs' W'→Q e a' cs' W')→wpOpsSIn FW 0 P ops Q (List.range' i l.length) a ({ c₀ with mode:=mm }::cs) W:=by
 intro l
 induction l with
 | nil =>
  intro i _ t um H r w ret t' um' H' r' w' h hw
  simp only [compOs,evOpsD] at h
  cases h
  refine ⟨0,0,(lor_zero' _).symm,(lor_zero' _).symm,Can.refl hw,fun β W a c₀ cs mm _ ht hd hm p Q hQ=>?_⟩
  exact hQ .normal a _ W ⟨rfl,β,mm,ht,hd,rfl,hm,Post.refl p.dom⟩
 | cons o l ih =>
  intro i hl t um H r w ret t' um' H' r' w' h hw
  have ho:ops[i]?=some o:=by have:=hl 0;simpa using this.symm
  have hl':∀ k,l[k]?=ops[i+1+k]?:=fun k=>by
   have:=hl (k+1);simp only [List.getElem?_cons_succ] at this;rw [this];congr 1;omega
  have hrange:List.range' i (o::l).length=i::List.range' (i+1) l.length:=by simp [List.range'_succ]
  rw [hrange]
  simp only [compOs,evOpsD] at h
  rcases comp_inv (tb:=tb) (nt:=nt) (ops:=ops) (o:=o) with hc | hc
  case inr =>
   rw [hc] at h
   have hwt:wants t (none:Option (Tmp×Bool))=true:=rfl
   rw [hwt,Bc_t] at h
   simp only [run] at h
   cases h
  generalize compO tb nt ops o=c at h hc
  have hwanted:∀ {β:Mp} {a:Act},TRel β nt t a.tmps→Region.wanted o (yielded ops a.tmps)=wants t c.guard:=fun ha=>wants_ok hc fun j w d h1 h2 h3=>⟨trel_get ha h3,ha.1⟩
  have hput:∀ {β:Mp} {a:Act} {v v':Value},TRel β nt t a.tmps→VRel β v v'→TRel β nt (putT d t c.dst v) (a.put o.dst v').tmps:=fun ha hv=>by
   rw [hc.dst];exact trel_put hd ha hc.dlt hv
  have hdef:∀ {a:Act} {v':Value},a.defers=[]→(a.put o.dst v').defers=[]:=fun {a v'} h=>by cases hdst:o.dst <;> simpa [Act.put,hdst] using h
  cases hwt:wants t c.guard with
  | false =>
   rw [hwt,Bc_f] at h
   obtain ⟨r2,w2,e1,e2,hcan,hrest⟩:=ih (i+1) hl' _ _ _ _ _ _ _ _ _ _ _ h hw
   refine ⟨r2,w2,e1,e2,hcan,fun β W a c₀ cs mm hg ht hdf hm p Q hQ=>?_⟩
   simp only [wpOpsSIn,ho,hwanted ht,hwt]
   exact ⟨fun f _=>trivial,hrest β W _ c₀ cs mm hg (hput ht (vrel_U β)) (hdef hdf) hm p Q hQ⟩
  | true =>
   rw [hwt,Bc_t] at h
   have hrun:=fun {β:Mp} {W:World} {a:Act} (hg:GRel tb.ng β) (ha:TRel β nt t a.tmps)=>run_ok (P:=P) (W:=W) (o:=o) (ρ:=a.eval) (t:=t) ok hw (fun y hy=>operand_ok hg ha (hc.opnds y hy))
   rw [← hc.op] at hrun
   cases hr:run c.op t H with
   | val v H1 r1 w1 =>
    rw [hr] at h hrun
    simp only at h
    have hH1:Can H H1 w1:=by have:=can_run hw c.op t;rw [hr] at this;exact this
    obtain ⟨r2,w2,e1,e2,hcan,hrest⟩:=ih (i+1) hl' _ _ _ _ _ _ _ _ _ _ _ h hH1.wf
    refine ⟨Nat.lor r1 r2,Nat.lor w1 w2,by rw [e1,lor_assoc'],by rw [e2,lor_assoc'],Can.comp hH1 hcan,fun β W a c₀ cs mm hg ht hdf hm p Q hQ=>?_⟩
    obtain ⟨_,hx⟩:=hrun (W:=W) hg ht
    obtain ⟨β1,W1,v',hres,hv,hpost⟩:=hx (p.first hcan)
    have hle:=hpost.le
    have fin:wpOpsSIn FW 0 P ops Q (List.range' (i+1) l.length) (a.put o.dst v') ({ c₀ with mode:=mm }::cs) W1 :=
     hrest β1 W1 _ c₀ cs mm (hg.mono hle) (hput (ht.mono hle) hv) (hdef hdf) (hm.mono hle) (Pre.second hH1 hcan p hpost) Q fun e a' cs' W' hh=>hQ e a' cs' W' (DPost.comp hH1 hcan p hpost hh)
    simp only [wpOpsSIn,ho,hwanted ht,hwt,if_true]
    refine ⟨fun f _=>trivial,?_⟩
    rcases hres with hres | ⟨hres,rfl⟩
    ·rw [hres];exact fin
    ·rw [hres];exact fin
   | recover =>
    rw [hr] at h hrun
    simp only at h
    obtain ⟨r2,w2,e1,e2,hcan,hrest⟩:=ih (i+1) hl' _ _ _ _ _ _ _ _ _ _ _ h hw
    refine ⟨r2,w2,e1,e2,hcan,fun β W a c₀ cs mm hg ht hdf hm p Q hQ=>?_⟩
    have hs:=hrun (W:=W) hg ht
    have hs:(execOp a.eval o).run P W=.ok .recover W:=hs
    simp only [wpOpsSIn,ho,hwanted ht,hwt,if_true]
    refine ⟨fun f _=>trivial,?_⟩
    rw [hs]
    simp only []
    rcases recov_rel hm c₀ cs with ⟨v',mm',e3,hv,hm2⟩ | ⟨e3,e4,e5⟩
    ·rw [e3]
     exact hrest β W _ c₀ cs mm' hg (hput ht hv) (hdef hdf) hm2 p Q hQ
    ·rw [e3]
     refine hrest β W _ c₀ cs mm hg (hput ht ?_) (hdef hdf) (by rw [e5];exact hm) p Q hQ
     rw [e4];exact .nilIface
   | _=>rw [hr] at h;cases h
theorem wpSIn_mono {F:Fence} {n:Nat} {c:Code} {Q Q':Exit→Act→List Frame→World→Prop} {a:Act} {cs:List Frame} {W:World} (h:c.wpSIn F n P Q a cs W) (hq:∀ e a cs W,Q e a cs W→Q' e a cs W):c.wpSIn F n P Q' a cs W :=
 fun b k h1 h2 h3 h4=>let ⟨e,a',cs',w',l,q,r⟩:=h b k h1 h2 h3 h4;⟨e,a',cs',w',l,hq _ _ _ _ q,r⟩
theorem wpSIn_block {F:Fence} {n id:Nat} {c:Code} {Q:Exit→Act→List Frame→World→Prop} {a:Act} {cs:List Frame} {W:World} (h:c.wpSIn F n P Q a cs W) (hq:∀ e a cs W,Q e a cs W→e=.normal∨e=.ret):(Code.block id c).wpSIn F n P Q a cs W:=by
 intro b k hk hro hb hr
 have h0:(lone (b.atR a (.code (.block id c)::k)) cs W).fenced P F:=fenced_calm hb hr rfl
 obtain ⟨e,a₁,cs₁,w₁,hl,hQ,harr⟩:=h b (.inBlock id::k) hk hro hb hr
 rcases hq _ _ _ _ hQ with rfl | rfl
 ·exact ⟨.normal,a₁,cs₁,w₁,hl,hQ,.head h0 stepR_block (StepsIn.trans harr (.one (fenced_calm hb (hl▸hr) rfl) stepR_inBlock))⟩
 ·exact ⟨_,a₁,cs₁,w₁,hl,hQ,.of_steps (.one h0 stepR_block) harr⟩
def DCodeOk (P:Program) (ng nt:Nat) (c:Code) (t:T Value) (um:FrameMode) (H:Hp) (y:CD):Prop:=match y with
 | .fail=>True
 | .mk ret t' um' H' r w=>Can H H' w∧∀ β W a c₀ cs mm,GRel ng β→TRel β nt t a.tmps→a.defers=[]→VmRel β um mm→Pre β H H' r w W →
  c.wpSIn FW 0 P (DPost β c₀ cs nt H H' w W ret t' um') a ({ c₀ with mode:=mm }::cs) W
theorem evCD_ok (ok:TbOk P tb) {d nt:Nat} (hd:nt<2 ^ d):∀ (c:Code) (t:T Value) (um:FrameMode) (H:Hp),H.wf→DCodeOk P tb.ng nt c t um H (evCD tb d nt c t um H):=by
 intro c
 induction c with
 | skip=>exact fun t um H hw=>⟨Can.refl hw,fun β W a c₀ cs mm _ ht hdf hm p=>wpSIn_of_wpIn rfl (wpIn_skip ⟨rfl,β,mm,ht,hdf,rfl,hm,Post.refl p.dom⟩)⟩
 | ret=>exact fun t um H hw=>⟨Can.refl hw,fun β W a c₀ cs mm _ ht hdf hm p=>wpSIn_of_wpIn rfl (wpIn_ret ⟨rfl,β,mm,ht,hdf,rfl,hm,Post.refl p.dom⟩)⟩
 | region id ops draw =>
  intro t um H hw
  cases draw with
  | true=>trivial
  | false =>
   show DCodeOk P tb.ng nt _ t um H (evOpsD d (compOs tb nt ops ops.toList) t um H 0 0)
   cases h:evOpsD d (compOs tb nt ops ops.toList) t um H 0 0 with
   | fail=>trivial
   | mk ret t' um' H' r' w' =>
    have hl:∀ k:Nat,ops.toList[k]?=ops[0+k]?:=fun k=>by simp
    obtain ⟨r2,w2,e1,e2,hcan,hk⟩:=evOpsD_ok ok hd ops ops.toList 0 hl _ _ _ _ _ _ _ _ _ _ _ h hw
    rw [zero_lor'] at e1 e2
    subst e1 e2
    refine ⟨hcan,fun β W a c₀ cs mm hg ht hdf hm p=>wpSIn_region ?_⟩
    have:=hk β W a c₀ cs mm hg ht hdf hm p _ (fun e a' cs' W' h=>h)
    rw [List.range_eq_range']
    simpa using this
 | seq x y ihx ihy =>
  intro t um H hw
  have h1:=ihx t um H hw
  simp only [evCD]
  cases hx:evCD tb d nt x t um H with
  | fail=>trivial
  | mk ret t1 um1 H1 r1 w1 =>
   rw [hx] at h1
   obtain ⟨c1,k1⟩:=h1
   cases ret with
   | true =>
    refine ⟨c1,fun β W a c₀ cs mm hg ht hdf hm p=>wpSIn_seq (wpSIn_mono (k1 β W a c₀ cs mm hg ht hdf hm p) fun e a' cs' W' hq=>?_)⟩
    have hq':=hq
    obtain ⟨rfl,_⟩:=hq
    exact hq'
   | false =>
    simp only []
    have h2:=ihy t1 um1 H1 c1.wf
    cases hy:evCD tb d nt y t1 um1 H1 with
    | fail=>trivial
    | mk ret2 t2 um2 H2 r2 w2 =>
     rw [hy] at h2
     obtain ⟨c2,k2⟩:=h2
     refine ⟨Can.comp c1 c2,fun β W a c₀ cs mm hg ht hdf hm p=>wpSIn_seq (wpSIn_mono (k1 β W a c₀ cs mm hg ht hdf hm (p.first c2)) fun e a' cs' W' hq=>?_)⟩
     obtain ⟨rfl,β1,mm1,ht1,hdf1,rfl,hm1,q1⟩:=hq
     exact wpSIn_mono (k2 β1 W' a' c₀ cs mm1 (hg.mono q1.le) ht1 hdf1 hm1 (Pre.second c1 c2 p q1)) fun e a2 cs2 W2 h=>DPost.comp c1 c2 p q1 h
 | cond c x y ihx ihy =>
  intro t um H hw
  simp only [evCD]
  cases hok:okO tb nt c with
  | false=>trivial
  | true =>
   rw [Bc_t]
   cases hb:asB (evalO t c) with
   | none=>trivial
   | some b =>
    have hcond:∀ {z:CD},DCodeOk P tb.ng nt (if b then x else y) t um H z→DCodeOk P tb.ng nt (.cond c x y) t um H z:=by
     intro z hz
     cases z with
     | fail=>trivial
     | mk ret t' um' H' r w =>
      obtain ⟨c1,k1⟩:=hz
      refine ⟨c1,fun β W a c₀ cs mm hg ht hdf hm p=>?_⟩
      have hv:=operand_ok (a:=a) hg ht hok
      rw [asB_inv hb] at hv
      generalize hr:a.eval c=v' at hv
      cases hv
      exact wpSIn_cond hr (k1 β W a c₀ cs mm hg ht hdf hm p)
    cases b with
    | true=>exact hcond (ihx t um H hw)
    | false=>exact hcond (ihy t um H hw)
 | block id b ih =>
  intro t um H hw
  have h1:=ih t um H hw
  simp only [evCD]
  cases hx:evCD tb d nt b t um H with
  | fail=>trivial
  | mk ret t1 um1 H1 r1 w1 =>
   rw [hx] at h1
   obtain ⟨c1,k1⟩:=h1
   refine ⟨c1,fun β W a c₀ cs mm hg ht hdf hm p=>wpSIn_block (k1 β W a c₀ cs mm hg ht hdf hm p) fun e a' cs' W' hq=>?_⟩
   rw [hq.1]
   cases ret <;> simp
 | _=>exact fun t um H hw=>trivial
theorem dcall_ok (ok:TbOk P tb) {f:FuncId} {args:List Value} {um:FrameMode} {H:Hp} (hw:H.wf):TaskOk P tb.ng (.dcall f args um) H (evDCall tb f args um H):=by
 unfold evDCall
 cases hf:tb.fn f with
 | none=>trivial
 | some fn =>
  simp only []
  cases hb:fn.body with
  | none=>trivial
  | some c =>
   simp only []
   cases hn:Nat.ble args.length fn.ntmps with
   | false=>rw [Bc_f];trivial
   | true =>
    rw [Bc_t]
    have hn':=(ble_iff _ _).1 hn
    have hc:=evCD_ok ok (lt_dep fn.ntmps) c (enterT fn args) um H hw
    cases hev:evCD tb (dep fn.ntmps) fn.ntmps c (enterT fn args) um H with
    | fail=>trivial
    | mk ret t1 um1 H1 r1 w1 =>
     rw [hev] at hc
     obtain ⟨c1,k1⟩:=hc
     simp only [afterBodyD]
     cases hr:resL tb fn.ntmps t1 H1 fn.results.toList with
     | none=>trivial
     | some q =>
      obtain ⟨l,r2⟩:=q
      refine ⟨c1,fun β W args' mm hg hl hm p=>⟨call_enter ok hf hb args' W,callsDIn_of_wpSIn (ok.fn _ _ hf) hb trivial fun c₀ cs hmode=>?_⟩⟩
      have c2:Can H1 H1 0:=Can.refl c1.wf
      have p':Pre β H H1 (Nat.lor r1 r2) (Nat.lor w1 0) W:=by rw [lor_zero'];exact p
      have hT:=enter_rel (fn:=fn) hl hn'
      have e0:({ c₀ with mode:=mm }:Frame)=c₀:=by subst hmode;rfl
      have:=k1 β W { tmps:=args'++Array.replicate (fn.ntmps-args'.size) undef,defers:=[] } c₀ cs mm hg hT rfl hm (p'.first c2)
      rw [e0] at this
      refine wpSIn_mono this fun e a' cs' W' hq=>?_
      obtain ⟨he,β1,mm1,ht1,hdf1,rfl,hm1,q1⟩:=hq
      have p2:=Pre.second c1 c2 p' q1
      obtain ⟨v,h1,h2⟩:=results_ok ok ht1 hr (fun b h=>h) p2
      cases ret with
      | true=>subst he;exact ⟨hdf1,mm1,rfl,v,h1,β1,v,rfl,hm1,q1⟩
      | false=>subst he;exact ⟨hdf1,mm1,rfl,v,h1,β1,v,rfl,hm1,q1⟩
end
section
variable {P:Program} {tb:Tb}
def LpOk (P:Program) (tb:Tb):Prop:=∀ (cx:Cx) (b:Code) (t:T Value) (ds:List Deferred) (H:Hp) (t':T Value) (H':Hp) (r w id:Nat),tb.hk cx.nt b=true→tb.lp b t H=some (t',H',r,w,id)→cx.nt<2 ^ cx.d→H.wf →
 Can H H' w∧∀ β W a F,GRel tb.ng β→FRel β cx.rnd F→ARel β cx.nt t ds a→Pre β H H' r w W→loopIn F 0 P b (CPost β cx.nt H H' w W (.exit id) t' ds) a W
theorem LpOk.none (h:∀ nt b,tb.hk nt b=false):LpOk P tb:=fun cx b t ds H t' H' r w id hh=>by rw [h] at hh;cases hh
theorem evCC_ok (ok:TbOk P tb) (hlp:LpOk P tb) {rec:Rec} (hrec:RecOk P tb.ng rec):∀ (c:Code) (cx:Cx) (t:T Value) (ds:List Deferred) (H:Hp),cx.nt<2 ^ cx.d→H.wf→CodeOk P tb cx c t ds H (evCC tb rec cx c t ds H):=by
 intro c
 induction c with
 | skip=>exact fun cx t ds H _ hw=>code_skip hw
 | label l=>exact fun cx t ds H _ hw=>code_label hw l
 | ret=>exact fun cx t ds H _ hw=>code_ret hw
 | exit id=>exact fun cx t ds H _ hw=>code_exit hw id
 | goto l=>exact fun cx t ds H _ hw=>code_goto hw l
 | region id ops draw =>
  intro cx t ds H hd hw
  cases draw with
  | false=>exact code_region hrec ok hd hw
  | true=>exact code_draw ok hrec hd hw
 | seq a b iha ihb=>exact fun cx t ds H hd hw=>code_seq (iha cx t ds H hd hw) fun t ds H hw=>ihb cx t ds H hd hw
 | cond c a b iha ihb =>
  intro cx t ds H hd hw
  simp only [evCC]
  cases hok:okO tb cx.nt c with
  | false=>trivial
  | true =>
   rw [Bc_t]
   cases hb:asB (evalO t c) with
   | none=>trivial
   | some v =>
    cases v with
    | true=>exact code_cond hok hb (iha cx t ds H hd hw)
    | false=>exact code_cond hok hb (ihb cx t ds H hd hw)
 | block id b ih=>exact fun cx t ds H hd hw=>code_block (ih cx t ds H hd hw)
 | loop b ih =>
  intro cx t ds H hd hw
  have h:=code_loop hrec hd (ih cx t ds H hd hw)
  simp only [evCC]
  cases hh:tb.hk cx.nt b with
  | true =>
   rw [Bc_t]
   unfold sumUp
   cases hl:tb.lp b t H with
   | none=>trivial
   | some q =>
    obtain ⟨t',H',r,w,id⟩:=q
    have g:=hlp cx b t ds H t' H' r w id hh hl hd hw
    exact ⟨g.1,fun β W a F hg hF ha p=>wpIn_of_loopIn (g.2 β W a F hg hF ha p)⟩
  | false =>
  rw [Bc_f]
  cases hy:CR.andThen (evCC tb rec cx b t ds H) (fun t ds H=>CR.ofTR (rec (.loop b cx t ds) H)) with
  | fail=>trivial
  | mk x t' ds' H' r' w' =>
   rw [hy] at h
   exact ⟨h.1,fun β W a F hg hF ha p=>wpIn_of_loopIn (h.2 β W a F hg hF ha p)⟩
 | rangeFunc f ps a b iha ihb=>exact fun cx t ds H _ hw=>code_range ok hrec hw
 | _=>exact fun cx t ds H _ hw=>trivial
def SpOk (P:Program) (ng:Nat) (sp:Nat→List Value→Hp→Option (Value×Hp×Nat×Nat)):Prop :=
 ∀ f args H v H' r w,H.wf→sp f args H=some (v,H',r,w)→TaskOk P ng (.call f args) H (.k (.ret v H' r w))
theorem evTask_ok (ok:TbOk P tb) (hlp:LpOk P tb) {sp:Nat→List Value→Hp→Option (Value×Hp×Nat×Nat)} (hsp:SpOk P tb.ng sp) {rec:Rec} (hrec:RecOk P tb.ng rec):RecOk P tb.ng (evTask tb sp rec):=by
 intro tk H hw
 have hcode:∀ (cx:Cx) c t ds H,cx.nt<2 ^ cx.d→H.wf→CodeOk P tb cx c t ds H (evCC tb rec cx c t ds H):=fun cx c t ds H hd hw=>evCC_ok ok hlp hrec c cx t ds H hd hw
 cases tk with
 | call f args =>
  simp only [evTask]
  cases hs:sp f args H with
  | none=>exact call_ok ok hrec hw hcode
  | some q =>
   obtain ⟨v,H',r,w⟩:=q
   exact hsp f args H v H' r w hw hs
 | dcall f args um=>exact dcall_ok ok hw
 | round l args=>exact round_ok hw hcode
 | unwind nt res t ds m=>exact unwind_ok ok hrec hw
 | loop b cx t ds =>
  simp only [evTask]
  cases hh:tb.hk cx.nt b with
  | true =>
   rw [Bc_t]
   unfold sumUp
   cases hl:tb.lp b t H with
   | none=>trivial
   | some q =>
    obtain ⟨t',H',r,w,id⟩:=q
    exact fun hd=>hlp cx b t ds H t' H' r w id hh hl hd hw
  | false =>
  rw [Bc_f]
  by_cases hd:cx.nt<2 ^ cx.d
  ·have h:=code_loop hrec hd (hcode cx b t ds H hd hw)
   cases hy:CR.andThen (evCC tb rec cx b t ds H) (fun t ds H=>CR.ofTR (rec (.loop b cx t ds) H)) with
   | fail=>trivial
   | mk x t' ds' H' r' w' =>
    rw [hy] at h
    exact fun _=>h
  ·cases hy:CR.andThen (evCC tb rec cx b t ds H) (fun t ds H=>CR.ofTR (rec (.loop b cx t ds) H)) with
   | fail=>trivial
   | mk x t' ds' H' r' w'=>exact fun h=>absurd h hd
theorem ev_ok (ok:TbOk P tb) (hlp:LpOk P tb) {sp:Nat→List Value→Hp→Option (Value×Hp×Nat×Nat)} (hsp:SpOk P tb.ng sp):∀ n,RecOk P tb.ng (ev tb sp n):=by
 intro n
 induction n with
 | zero=>intro tk H hw;cases tk <;> trivial
 | succ n ih=>exact evTask_ok ok hlp hsp ih
theorem ev_callOk (ok:TbOk P tb) (hlp:LpOk P tb) {sp:Nat→List Value→Hp→Option (Value×Hp×Nat×Nat)} (hsp:SpOk P tb.ng sp) {n:Nat} {f:FuncId} {args:List Value} {H H':Hp} {v:Value} {r w:Nat} (hw:H.wf)
 (h:ev tb sp n (.call f args) H=.k (.ret v H' r w)) {β:Mp} {W:World} {args':Array Value} (hg:GRel tb.ng β) (hl:LRel β args args'.toList) (p:Pre β H H' r w W):CallOk P f args' W (RetP β H H' w W v):=by
 have:=ev_ok ok hlp hsp n (.call f args) H hw
 rw [h] at this
 exact this.2 β W hg p args' hl
theorem ev_calls (ok:TbOk P tb) (hlp:LpOk P tb) {sp:Nat→List Value→Hp→Option (Value×Hp×Nat×Nat)} (hsp:SpOk P tb.ng sp) {n:Nat} {f:FuncId} {args:List Value} {H H':Hp} {v:Value} {r w:Nat} (hw:H.wf)
 (h:ev tb sp n (.call f args) H=.k (.ret v H' r w)) (hb:hasBody tb f=true) {β:Mp} {W:World} {args':Array Value} (hg:GRel tb.ng β) (hl:LRel β args args'.toList) (p:Pre β H H' r w W):Calls P f args' W (RetP β H H' w W v):=by
 rcases ev_callOk ok hlp hsp hw h hg hl p with ⟨_,hc⟩ | ⟨v',W',hc,_⟩
 ·exact callsIn_wide.1 hc
 ·rw [hasBody_inv ok hb args' W] at hc;cases hc
end
def spNoEsc (args:List Value) (H:Hp):Option (Value×Hp×Nat×Nat):=match args with
 | [x]=>some (x,H,0,0)
 | _=>none
def spMake (u8:TypeId) (args:List Value) (H:Hp):Option (Value×Hp×Nat×Nat):=match args with
 | [.int .i64 (.ofNat n)]=>Bc (Nat.ble n 1099511627776) (match alloc1 (.cells (.e U) 0 u8 2 0 0) H (fun i=>.slice (some ⟨i,0,none⟩) n 1) 0 0 with
  | .val v H' r w=>some (v,H',r,w)
  | _=>none) none
 | _=>none
theorem arr_one {args:Array Value} {x:Value} (h:args.toList=[x]):args = #[x]:=by
 obtain ⟨l⟩:=args
 simp at h;subst h;rfl
theorem spNoEsc_ok {P:Program} {ng:Nat} {f:FuncId} (hf:∀ (x:Value) (W:World),(callFunc f #[x]).run P W=.ok (.value x) W) {args:List Value} {H:Hp} {v:Value} {H':Hp} {r w:Nat} (hw:H.wf) (h:spNoEsc args H=some (v,H',r,w)) :
 TaskOk P ng (.call f args) H (.k (.ret v H' r w)):=by
 unfold spNoEsc at h
 split at h
 ·rename_i x
  simp only [Option.some.injEq,Prod.mk.injEq] at h
  obtain ⟨rfl,rfl,rfl,rfl⟩:=h
  refine ⟨Can.refl hw,fun β W hg p=>?_⟩
  intro args' hl
  obtain ⟨x',l,e,hx,hl'⟩:=hl.cons_inv
  have:=hl'.nil_inv;subst this
  rw [arr_one e]
  exact .inr ⟨x',W,hf x' W,β,x',rfl,hx,Post.refl p.dom⟩
 ·cases h
theorem spMake_ok {P : Program} {ng : Nat} {f : FuncId} {fn : Func} {ps : Array TypeId} {t u8 : TypeId} (ht : P.underlying t = some (.slice u8)) (hf : P.funcs[f]? = some fn) (hname : (fn.name == "runtime.NumGoroutine") = false) (hb : fn.body.isNone = true)
 (hn:Extern.findNext fn=none) (he:Extern.find fn=some (Extern.BytealgMakeNoZero.makeNoZero ps #[t])) {args:List Value} {H:Hp} {v:Value} {H':Hp} {r w:Nat} (h:spMake u8 args H=some (v,H',r,w)) :
 TaskOk P ng (.call f args) H (.k (.ret v H' r w)):=by
 unfold spMake at h
 split at h
 ·rename_i n
  cases hle:Nat.ble n 1099511627776 with
  | false=>rw [hle,Bc_f] at h;cases h
  | true =>
   rw [hle,Bc_t,alloc1_eq] at h
   have hle':=(ble_iff _ _).1 hle
   by_cases hr:H.room=true
   case neg=>rw [if_neg hr] at h;cases h
   rw [if_pos hr] at h
   simp only [Option.some.injEq,Prod.mk.injEq] at h
   obtain ⟨rfl,rfl,rfl,rfl⟩:=h
   refine ⟨can_push hr,fun β W hg p=>?_⟩
   intro args' hl
   obtain ⟨x',l,e,hx,hl'⟩:=hl.cons_inv
   have:=hl'.nil_inv;subst this
   rw [arr_one e]
   cases hx
   obtain ⟨cs,hrun,hge,_⟩:=Lib.run_makeNoZero (P:=P) W ps t u8 ht n (by omega)
   have hcall:=run_callFunc_extern hf hname hb hn he #[.int .i64 n] W
   rw [hrun] at hcall
   simp only [Result.andThen_ok] at hcall
   have f0:β H.nx=none:=p.fresh H.nx (Nat.le_refl _) (by rw [nx_push];omega)
   let m:Bm:=⟨W.heap.size,0,cs.size,1⟩
   have q:=post_push (β:=β) (H:=H) (W:=W) (.cells (.e U) 0 u8 2 0 0) (.cells cs u8) m hr rfl f0
    ⟨cs,(0,0),rfl,rfl,by show 0+0≤cs.size;omega,(fun h=>by cases h),(fun k h=>by show 1=k;omega),(fun i hi=>by omega),.inl ⟨Nat.le_refl _,.inl rfl⟩⟩ p.dom
   have hv:VRel (β.put H.nx m) (.slice (some ⟨H.nx,0,none⟩) n 1) (.slice (some ⟨W.heap.size,0,none⟩) n cs.size) :=
    .sl H.nx 0 n 1 cs.size m (Mp.put_same _ _ _) ⟨fun h=>absurd h (by decide),fun _=>⟨by omega,by show 0+0+cs.size*1=cs.size;omega⟩⟩
   refine .inr ⟨_,_,hcall,β.put H.nx m,_,rfl,hv,?_⟩
   exact q.congr rfl ⟨rfl,rfl,rfl⟩
 ·cases h
def retTrue (ng:Nat) (x:TR):Bool:=match x with
 | .k (.ret v _ _ w)=>(match v with | .bool b=>b | _=>false) && Nat.beq (Nat.land w (Nat.sub (Nat.pow 2 ng) 1)) 0
 | _=>false
theorem retTrue_inv {ng:Nat} {x:TR} (h:retTrue ng x=true):∃ H' r w,x=.k (.ret (.bool true) H' r w)∧∀ b,b<ng→w.testBit b=false:=by
 unfold retTrue at h
 split at h
 ·rename_i v H' r w
  rw [Bool.and_eq_true] at h
  obtain ⟨h1,h2⟩:=h
  split at h1
  ·rename_i b
   subst h1
   refine ⟨H',r,w,rfl,fun b hb=>?_⟩
   have h3:Nat.land w (2 ^ ng-1)=0:=(beq_iff _ _).1 h2
   cases hw:w.testBit b with
   | false=>rfl
   | true =>
    have h4:(w &&& (2 ^ ng-1)).testBit b=(0:Nat).testBit b:=by
     show (Nat.land w (2 ^ ng-1)).testBit b=_
     rw [h3]
    rw [Nat.testBit_and,Nat.testBit_two_pow_sub_one,hw] at h4
    simp [hb] at h4
  ·cases h1
 ·cases h
end Go.Ev
end
