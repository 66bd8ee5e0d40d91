/-
 A part of the reckoner for the statements of a Go program: what it answers,the model answers. Holds for every program whose tables are as given.
-/
import Derived.OrdersIn
import Derived.RangeFuncRecord
import Derived.RecoverIn
import Derived.Test.YtgdejggelcpokaaGreatDoorG05
set_option linter.unusedSimpArgs false
set_option linter.unusedVariables false
set_option linter.unusedSectionVars false
noncomputable section
namespace Go.Ev
abbrev FW:Fence:=Fence.wide
def CallOk (P:Program) (f:FuncId) (args:Array Value) (W:World) (R:Ending→World→Prop):Prop :=
 ((callFunc f args).run P W=.ok (.enter f args) W∧CallsIn FW 0 P f args W R)∨∃ v W',(callFunc f args).run P W=.ok (.value v) W'∧R (.returned v) W'
def RoundOk (P:Program) (l:Nat) (args:Array Value) (W:World) (R:Ending→World→Prop):Prop :=
 ∃ fn tmps assign body,(Instr.yield l args).run P W=.ok (.round l fn tmps assign body) W∧RoundIn FW 0 P l fn tmps assign body W R
def RetP (β:Mp) (H H':Hp) (w:Nat) (W:World) (v:Value):Ending→World→Prop:=fun e W'=>∃ β' v',e=.returned v'∧VRel β' v v'∧Post β β' H H' w W W'
def PanP (β:Mp) (H H':Hp) (w:Nat) (W:World) (v:Value):Ending→World→Prop:=fun e W'=>∃ β' v',e=.panicked [{ v:=v',recovered:=false }]∧VRel β' v v'∧Post β β' H H' w W W'
def GRel (ng:Nat) (β:Mp):Prop:=∀ g,g<ng→∃ m,β g=some m∧m.rb=g∧m.sh=0
theorem GRel.mono {ng:Nat} {β β':Mp} (h:Mp.le β β') (hg:GRel ng β):GRel ng β':=fun g hlt=>let ⟨m,e,x⟩:=hg g hlt;⟨m,h _ _ e,x⟩
def KOk (ng:Nat) (H:Hp) (x:TR) (C:Mp→World→(Ending→World→Prop)→Prop):Prop:=match x with
 | .k (.ret v H' r w)=>Can H H' w∧∀ β W,GRel ng β→Pre β H H' r w W→C β W (RetP β H H' w W v)
 | .k (.panic v H' r w)=>Can H H' w∧∀ β W,GRel ng β→Pre β H H' r w W→C β W (PanP β H H' w W v)
 | _=>True
def FRel (β:Mp) (rnd:Option Nat) (F:Fence):Prop:=match rnd with
 | none=>F=FW
 | some l=>∃ m,β l=some m∧F=FW.inRound m.rb
theorem FRel.mono {β β':Mp} {rnd:Option Nat} {F:Fence} (h:Mp.le β β') (hf:FRel β rnd F):FRel β' rnd F:=by
 cases rnd with
 | none=>exact hf
 | some l=>obtain ⟨m,e,hF⟩:=hf;exact ⟨m,h _ _ e,hF⟩
def DsRel (β:Mp) (ds ds':List Deferred):Prop:=ds.length=ds'.length∧∀ (i:Nat) (d d':Deferred),ds[i]?=some d→ds'[i]?=some d'→DRel β d d'
theorem DRel.mono {β β':Mp} (h:Mp.le β β') {d d':Deferred} (hd:DRel β d d'):DRel β' d d':=by
 obtain ⟨t,a⟩:=d
 obtain ⟨t',a'⟩:=d'
 refine ⟨?_,hd.2.mono h⟩
 have h1:=hd.1
 simp only at h1 ⊢
 split at h1
 ·exact ⟨h1.1,h1.2.mono h⟩
 ·obtain ⟨m,e,h2⟩:=h1;exact ⟨m,h _ _ e,h2⟩
 ·obtain ⟨m,e,h2⟩:=h1;exact ⟨m,h _ _ e,h2⟩
 ·exact h1.elim
theorem DsRel.mono {β β':Mp} (h:Mp.le β β') {ds ds':List Deferred} (hd:DsRel β ds ds'):DsRel β' ds ds':=⟨hd.1,fun i d d' a b=>(hd.2 i d d' a b).mono h⟩
theorem DsRel.nil (β:Mp):DsRel β [] []:=⟨rfl,fun i v v' h=>by simp at h⟩
theorem DsRel.cons {β:Mp} {d d':Deferred} {ds ds':List Deferred} (h:DRel β d d') (hl:DsRel β ds ds'):DsRel β (d::ds) (d'::ds'):=by
 refine ⟨by simp [hl.1],fun i a b ha hb=>?_⟩
 cases i with
 | zero=>simp at ha hb;subst ha hb;exact h
 | succ i=>simp at ha hb;exact hl.2 i a b ha hb
theorem DsRel.cons_inv {β:Mp} {d:Deferred} {l ys:List Deferred} (h:DsRel β (d::l) ys):∃ d' l',ys=d'::l'∧DRel β d d'∧DsRel β l l':=by
 cases ys with
 | nil=>have:=h.1;simp at this
 | cons v' l' =>
  refine ⟨v',l',rfl,h.2 0 d v' rfl rfl,?_,fun i a b ha hb=>h.2 (i+1) a b (by simpa using ha) (by simpa using hb)⟩
  have:=h.1;simpa using this
theorem DsRel.nil_inv {β:Mp} {ys:List Deferred} (h:DsRel β [] ys):ys=[]:=by
 have:=h.1;cases ys with
 | nil=>rfl
 | cons=>simp at this
def ARel (β:Mp) (nt:Nat) (t:T Value) (ds:List Deferred) (a:Act):Prop:=TRel β nt t a.tmps∧DsRel β ds a.defers
theorem ARel.mono {β β':Mp} (h:Mp.le β β') {nt:Nat} {t:T Value} {ds:List Deferred} {a:Act} (ha:ARel β nt t ds a):ARel β' nt t ds a:=⟨ha.1.mono h,ha.2.mono h⟩
def XRel (β:Mp):Ex→Exit→Prop
 | .normal,.normal=>True
 | .ret,.ret=>True
 | .exit i,.exit j=>i=j
 | .goto i,.goto j=>i=j
 | .panic v,.panic ch=>∃ v',ch=[{ v:=v',recovered:=false }]∧VRel β v v'
 | _,_=>False
def CPost (β:Mp) (nt:Nat) (H H':Hp) (w:Nat) (W:World) (x:Ex) (t':T Value) (ds':List Deferred):Exit→Act→World→Prop :=
 fun e a' W'=>∃ β',XRel β' x e∧ARel β' nt t' ds' a'∧Post β β' H H' w W W'
def loopIn (F:Fence) (n:Nat) (P:Program) (c:Code) (Q:Exit→Act→World→Prop) (a:Act) (w:World):Prop :=
 ∀ (b:Frame) (k:List Item) (cs:List Frame),b.roundOf=F.round→F.fn b.fn→F.room (cs.length+1+n) →
  ∃ e a' w',Q e a' w'∧ArrivesIn (Machine.fenced P F) P (lone (b.atR a (.code c::.inLoop c::k)) cs w) b k cs e a' w'
def VmRel (β:Mp):FrameMode→FrameMode→Prop
 | .run,.run=>True
 | .returning,.returning=>True
 | .panicking c,.panicking c'=>c.length=c'.length∧∀ (i:Nat) (e e':PanicEntry),c[i]?=some e→c'[i]?=some e'→VRel β e.v e'.v∧e.recovered=e'.recovered∧e.goexit=e'.goexit
 | _,_=>False
def TaskOk (P:Program) (ng:Nat) (tk:Task) (H:Hp) (x:TR):Prop:=match tk with
 | .call f args=>KOk ng H x fun β W R=>∀ args':Array Value,LRel β args args'.toList→CallOk P f args' W R
 | .round l args=>KOk ng H x fun β W R=>∀ (m:Bm) (args':Array Value),β l=some m→LRel β args args'.toList→RoundOk P m.rb args' W R
 | .loop b cx t ds=>match x with
  | .c (.mk e t' ds' H' r w)=>cx.nt<2 ^ cx.d→Can H H' w∧∀ β W a F,GRel ng β→FRel β cx.rnd F→ARel β cx.nt t ds a→Pre β H H' r w W→loopIn F 0 P b (CPost β cx.nt H H' w W e t' ds') a W
  | _=>True
 | .unwind nt res t ds m=>KOk ng H x fun β W R=>∀ (fn:Func) (tmps:Array Value) (ds':List Deferred) (m':FrameMode),fn.results.toList=res→TRel β nt t tmps→DsRel β ds ds'→VmRel β m m'→m'≠.run→LeavesInM FW 0 P fn tmps R ds' m' W
 | .dcall f args um=>match x with
  | .k (.drop um' H' r w)=>Can H H' w∧∀ β W (args':Array Value) mm,GRel ng β→LRel β args args'.toList→VmRel β um mm→Pre β H H' r w W →
   (callFunc f args').run P W=.ok (.enter f args') W∧CallsDIn FW 0 P f args' mm W fun e u' W'=>∃ β' v,e=.returned v∧VmRel β' um' u'∧Post β β' H H' w W W'
  | _=>True
def RecOk (P:Program) (ng:Nat) (rec:Rec):Prop:=∀ tk H,H.wf→TaskOk P ng tk H (rec tk H)
section
variable {P:Program} {tb:Tb} (ok:TbOk P tb) {β:Mp} {H:Hp} {W:World}
theorem trel_get {nt:Nat} {t:T Value} {tmps:Array Value} (h:TRel β nt t tmps) {i:Nat} (hi:i<nt):VRel β (t.get i) (tmps.getD i undef):=by
 have hs:i<tmps.size:=by rw [h.1];exact hi
 have hv:tmps[i]?=some tmps[i]:=by simp [hs]
 have:=h.2 i _ hv
 simpa [Array.getD,hs] using this
theorem operand_ok {nt:Nat} {t:T Value} {a:Act} (hg:GRel tb.ng β) (h:TRel β nt t a.tmps) {x:Operand} (hx:okO tb nt x=true):VRel β (evalO t x) (a.eval x):=by
 cases x with
 | tmp i=>exact trel_get h ((blt_iff _ _).1 hx)
 | const v=>exact VRel.flat β 10 v hx
 | global g =>
  obtain ⟨m,e,h1,h2⟩:=hg g ((blt_iff _ _).1 hx)
  have:=VRel.ptr g 0 m e
  rw [h1,h2] at this;exact this
 | func f=>exact .func f [] [] [] [] rfl (fun i v v' h=>by simp at h) rfl (fun i v v' h=>by simp at h)
theorem trel_put {d nt:Nat} {t:T Value} {a:Act} {dst:Option Tmp} {v v':Value} (hd:nt<2 ^ d) (h:TRel β nt t a.tmps) (hdst:∀ i:Nat,dst=some i→i<nt) (hv:VRel β v v'):TRel β nt (putT d t dst v) (a.put dst v').tmps:=by
 cases dst with
 | none=>exact h
 | some i =>
  have hi:=hdst i rfl
  refine ⟨by simp [Act.put,h.1],fun j x hx=>?_⟩
  have hj:j<nt:=by
   have hs:(a.put (some i) v').tmps.size=nt:=by simp [Act.put,h.1]
   rcases Nat.lt_or_ge j nt with h' | h'
   ·exact h'
   ·rw [Array.getElem?_eq_none (by omega)] at hx;cases hx
  show VRel β ((T.set d t i v).get j) x
  rw [T.get_set d t i j v (by omega) (by omega)]
  simp only [Act.put,Array.getElem?_setIfInBounds] at hx
  by_cases hij:i=j
  ·subst hij
   have hlt:i<a.tmps.size:=by rw [h.1];exact hi
   simp only [if_true,hlt,Option.some.injEq] at hx
   subst hx;simpa using hv
  ·rw [if_neg hij] at hx
   rw [if_neg (fun h=>hij h.symm)]
   exact h.2 j x hx
theorem arel_put {d nt:Nat} {t:T Value} {ds:List Deferred} {a:Act} {dst:Option Tmp} {v v':Value} (hd:nt<2 ^ d) (h:ARel β nt t ds a) (hdst:∀ i:Nat,dst=some i→i<nt) (hv:VRel β v v'):ARel β nt (putT d t dst v) ds (a.put dst v'):=by
 refine ⟨trel_put hd h.1 hdst hv,?_⟩
 cases dst <;> exact h.2
structure CompOk (tb:Tb) (nt:Nat) (ops:Array Oper) (o:Oper) (c:CO):Prop where
 op:c.op=compOp tb o
 dst:c.dst=o.dst
 opnds:∀ x∈o.op.operands.toList,okO tb nt x=true
 dlt:∀ i:Nat,o.dst=some i→i<nt
 guard:(o.guard=none∧c.guard=none)∨∃ (j:Nat) (w:Bool) (d:Nat),o.guard=some (j,w)∧c.guard=some (d,w)∧(ops[j]?).bind (·.dst)=some d∧d<nt
theorem comp_inv {nt:Nat} {ops:Array Oper} {o:Oper}:CompOk tb nt ops o (compO tb nt ops o)∨compO tb nt ops o=⟨none,none,.bad⟩:=by
 unfold compO
 cases hg:cGuard ops o.guard with
 | none=>exact .inr rfl
 | some g =>
  simp only []
  cases hk:okOper tb nt o g with
  | false=>exact .inr rfl
  | true =>
   left
   simp only [okOper,Bool.and_eq_true,List.all_eq_true] at hk
   obtain ⟨⟨h1,h2⟩,h3⟩:=hk
   refine ⟨rfl,rfl,h1,fun i hi=>?_,?_⟩
   ·rw [hi] at h2;exact (blt_iff _ _).1 h2
   ·unfold cGuard at hg
    cases hog:o.guard with
    | none=>rw [hog] at hg;cases hg;exact .inl ⟨rfl,rfl⟩
    | some jw =>
     obtain ⟨j,w⟩:=jw
     rw [hog] at hg
     simp only at hg
     cases hd:(ops[j]?).bind (·.dst) with
     | none=>simp only [hd] at hg;cases hg
     | some d =>
      simp only [hd] at hg
      cases hg
      exact .inr ⟨j,w,d,rfl,rfl,hd,(blt_iff _ _).1 h3⟩
theorem wants_ok {nt:Nat} {ops:Array Oper} {o:Oper} {c:CO} {t:T Value} {a:Act} (hc:CompOk tb nt ops o c) (h:∀ (j:Nat) (w:Bool) (d:Nat),o.guard=some (j,w)→(ops[j]?).bind (·.dst)=some d→d<nt→VRel β (t.get d) (a.tmps.getD d undef)∧a.tmps.size=nt) :
 Region.wanted o (yielded ops a.tmps)=wants t c.guard:=by
 rcases hc.guard with ⟨h1,h2⟩ | ⟨j,w,d,h1,h2,h3,h4⟩
 ·rw [h2];unfold Region.wanted;rw [h1];rfl
 ·obtain ⟨hv,hsz⟩:=h j w d h1 h3 h4
  rw [h2]
  unfold Region.wanted yielded
  rw [h1]
  simp only [h3,Option.bind_some]
  have hlt:d<a.tmps.size:=by rw [hsz];exact h4
  have hget:a.tmps[d]?=some a.tmps[d]:=by simp [hlt]
  have hgd:a.tmps.getD d undef=a.tmps[d]:=by simp [Array.getD,hlt]
  rw [hgd] at hv
  rw [hget]
  show _=(match asB (t.get d) with | some b=>Bc b w (!w) | none=>false)
  generalize t.get d=v at hv
  generalize a.tmps[d]=v' at hv
  cases hv <;> first | (cases w <;> rfl) | skip
  rename_i b
  cases b <;> cases w <;> rfl
end
def RCan (H:Hp) (x:R):Prop:=match x with
 | .val _ H' _ w=>Can H H' w
 | _=>True
section
variable {H:Hp} (hw:H.wf)
theorem rcan_bc {c:Bool} {x y:R} (h1:RCan H x) (h2:RCan H y):RCan H (Bc c x y):=by cases c <;> assumption
theorem rcan_alloc (x:Blk) (f:Nat→Value) (r:Nat):RCan H (alloc1 x H f r 0):=by
 rw [alloc1_eq];split
 ·rename_i h;exact can_push h
 ·trivial
theorem rcan_fill {z:Option (List Value)} {k:List Value→R} (h:∀ l,RCan H (k l)):RCan H (exFill z k):=by
 cases z with
 | none=>trivial
 | some l=>exact h l
include hw
theorem rcan_v (v:Value) (r:Nat):RCan H (.val v H r 0):=Can.refl hw
theorem rcan_rv (v:Value):RCan H (R.v v H):=Can.refl hw
theorem rcan_o (x:Option Value):RCan H (R.o x H):=by cases x <;> first | trivial | exact Can.refl hw
theorem rcan_same {v:Value} {r b:Nat} (ha:H.blk b≠.no):RCan H (.val v H r (bit b)):=can_same hw ((alive_iff H b).2 ha)
theorem rcan_put {v:Value} {r b:Nat} {x:Blk} (ha:H.blk b≠.no):RCan H (.val v (H.put b x) r (bit b)):=can_put hw x ((alive_iff H b).2 ha)
theorem rcan_wr {v:Value} {r b o:Nat} {vs:List Value} {H':Hp} (h:wrN H b o vs=some H'):RCan H (.val v H' r (bit b)):=(can_wr hw h).1
theorem rcan_wrs {v:Value} {r b o:Nat} {vs:List Value} {H':Hp} (h:wrNs H b o vs=some H'):RCan H (.val v H' r (bit b)):=(can_wrs hw h).1
theorem rcan_exSt (n:Nat) (a x:Value):RCan H (exSt n a x H):=by
 unfold exSt
 split
 ·split
  ·refine rcan_bc ?_ trivial
   split
   ·rename_i h;exact rcan_wr hw h
   ·trivial
  ·trivial
 ·trivial
theorem rcan_exApp (ty sz by_:Nat) (s x:Value):RCan H (exApp ty sz by_ s x H):=by
 unfold exApp
 split
 ·split
  ·trivial
  ·refine rcan_bc ?_ (rcan_bc ?_ trivial)
   ·split
    ·exact rcan_v hw _ _
    ·split
     ·rename_i h;exact rcan_wr hw h
     ·trivial
   ·split
    ·exact rcan_bc (rcan_alloc _ _ _) trivial
    ·split
     ·trivial
     ·refine rcan_bc ?_ (rcan_alloc _ _ _)
      split
      ·rename_i e
       refine rcan_bc ?_ trivial
       rw [alloc1_eq,nx_put,room_put]
       split
       ·rename_i hn;exact can_fork hw ((alive_iff H _).2 (by rw [e];simp)) hn
       ·trivial
      ·trivial
 ·trivial
theorem rcan_exCopy (sz:Nat) (d x:Value):RCan H (exCopy sz d x H):=by
 unfold exCopy
 split
 ·split
  ·trivial
  ·split
   ·exact rcan_v hw _ _
   ·split
    ·rename_i h;exact rcan_wrs hw h
    ·trivial
 ·trivial
theorem rcan_exClear (z:List Value) (x:Value):RCan H (exClear z x H):=by
 unfold exClear
 split
 ·exact rcan_rv hw _
 ·split
  ·rename_i h;exact rcan_wr hw h
  ·trivial
 ·trivial
theorem rcan_exMup (p:Eqp) (m k x:Value):RCan H (exMup p m k x H):=by
 unfold exMup
 split
 ·split
  ·trivial
  ·rename_i e
   have ha:=mapOf_inv e
   split
   ·exact rcan_put hw (by rw [ha];simp)
   ·exact rcan_put hw (by rw [ha];simp)
   ·trivial
 ·trivial
theorem rcan_exDel (p:Eqp) (m k:Value):RCan H (exDel p m k H):=by
 unfold exDel
 split
 ·trivial
 ·exact rcan_rv hw _
 ·split
  ·trivial
  ·rename_i e
   have ha:=mapOf_inv e
   split
   ·exact rcan_put hw (by rw [ha];simp)
   ·exact rcan_same hw (by rw [ha];simp)
   ·trivial
theorem rcan_exNxtS (x:Value):RCan H (exNxtS x H):=by
 unfold exNxtS
 split
 ·split
  ·rename_i e
   exact rcan_bc (rcan_put hw (by rw [e];simp)) (rcan_same hw (by rw [e];simp))
  ·trivial
 ·trivial
theorem rcan_exNxtM (x:Value):RCan H (exNxtM x H):=by
 unfold exNxtM
 split
 ·split
  ·rename_i e
   exact rcan_same hw (by rw [e];simp)
  ·rename_i e
   split
   ·trivial
   ·split
    ·trivial
    ·simp only []
     split
     ·trivial
     ·split
      ·exact rcan_same hw (by rw [e];simp)
      ·exact rcan_put hw (by rw [e];simp)
      ·trivial
  ·trivial
 ·trivial
theorem rcan_exSlO (sz:Nat) (a:Option (Nat×Nat)) (l h m:Nat):RCan H (exSlO sz a l h m H):=by
 unfold exSlO
 split
 ·trivial
 ·split
  ·exact rcan_bc (rcan_v hw _ _) trivial
  ·trivial
theorem rcan_exFld (agg:Bool) (sz off:Nat) (x:Value):RCan H (exFld agg sz off x H):=by
 unfold exFld
 split
 ·trivial
 ·exact rcan_bc (rcan_bc (rcan_rv hw _) trivial) (rcan_o hw _)
theorem can_run (op:COp) (t:T Value):RCan H (run op t H):=by
 cases op with
 | bad=>trivial
 | mv x=>exact rcan_rv hw _
 | pick c a b=>simp only [run,exPick];split <;> first | trivial | exact rcan_rv hw _
 | alloc z=>exact rcan_alloc _ _ _
 | box ty x=>exact rcan_fill fun l=>rcan_alloc _ _ _
 | build z ps=>exact rcan_fill fun l=>rcan_rv hw _
 | bslice len ty z ps=>exact rcan_fill fun l=>rcan_alloc _ _ _
 | ld1 a =>
  simp only [run,exLd1]
  split
  ·split <;> first | trivial | exact rcan_v hw _ _
  ·trivial
 | ldN n a =>
  simp only [run,exLdN]
  split
  ·split <;> first | trivial | exact rcan_v hw _ _
  ·trivial
 | st n a x=>exact rcan_exSt hw _ _ _
 | nilc x=>simp only [run,exNil];split <;> first | trivial | exact rcan_rv hw _
 | bin op x y=>exact rcan_o hw _
 | eq neg p x y=>simp only [run,exEq];split <;> first | trivial | exact rcan_rv hw _
 | un op x =>
  simp only [run,exUn]
  split
  ·split <;> first | trivial | exact rcan_rv hw _
  ·split <;> first | trivial | exact rcan_rv hw _
  ·split <;> first | trivial | exact rcan_rv hw _
  ·trivial
 | cInt k x=>simp only [run,exCInt];split <;> first | trivial | exact rcan_rv hw _
 | cChr x=>simp only [run,exChr];split <;> first | trivial | exact rcan_rv hw _
 | cToB ty x=>simp only [run,exToB];split <;> first | trivial | exact rcan_alloc _ _ _
 | cToS x =>
  simp only [run,exToS]
  split
  ·exact rcan_rv hw _
  ·split
   ·split <;> first | trivial | exact rcan_v hw _ _
   ·trivial
  ·trivial
 | cSS x=>simp only [run,exSS];split <;> first | trivial | exact rcan_rv hw _
 | toU x =>
  simp only [run,exToU]
  split
  ·split
   ·exact rcan_bc (rcan_v hw _ _) trivial
   ·trivial
  ·trivial
 | frU l x =>
  simp only [run,exFrU]
  split
  ·split
   ·exact rcan_bc (rcan_v hw _ _) trivial
   ·trivial
  ·trivial
 | usd x =>
  simp only [run,exUsd]
  split
  ·exact rcan_rv hw _
  ·exact rcan_bc trivial (rcan_v hw _ _)
  ·trivial
 | ustr e p n =>
  simp only [run,exUstr]
  split
  ·split
   ·split <;> first | trivial | exact rcan_rv hw _
   ·split
    ·split
     ·rename_i hb
      refine rcan_bc ?_ trivial
      split
      ·exact rcan_put hw (by rw [hb];simp)
      ·trivial
     ·trivial
    ·trivial
   ·trivial
  ·trivial
 | mkI t x=>exact rcan_rv hw _
 | mkF fn first captured=>exact rcan_rv hw _
 | mkM=>exact rcan_alloc (.obj (.map #[] 0)) (fun i=>.map (some i)) 0
 | mkSl ty by_ z l c =>
  simp only [run,exMkSl]
  split
  ·split
   ·exact rcan_bc (rcan_alloc _ _ _) trivial
   ·trivial
  ·trivial
 | slS x lo hi =>
  simp only [run,exSlS]
  split
  ·trivial
  ·split <;> first | trivial | exact rcan_rv hw _
 | slL sz x lo hi mx =>
  simp only [run,exSlL]
  split
  ·trivial
  ·split
   ·trivial
   ·exact rcan_bc (rcan_bc (rcan_rv hw _) (rcan_bc trivial (rcan_exSlO hw _ _ _ _ _))) (rcan_bc (rcan_rv hw _) (rcan_rv hw _))
 | slA n sz x lo hi mx =>
  simp only [run,exSlA]
  split
  ·trivial
  ·split
   ·trivial
   ·exact rcan_bc (rcan_rv hw _) (rcan_rv hw _)
 | fa off x=>simp only [run,exFa];split <;> first | trivial | exact rcan_v hw _ _
 | fld agg sz off x=>exact rcan_exFld hw _ _ _ _
 | iaA n sz x i =>
  simp only [run,exIaA]
  split
  ·split <;> first | trivial | exact rcan_v hw _ _
  ·trivial
 | iaS sz x i =>
  simp only [run,exIaS]
  split
  ·split <;> first | trivial | exact rcan_v hw _ _
  ·trivial
 | ixA agg n sz x i =>
  simp only [run,exIxA]
  split
  ·exact rcan_exFld hw _ _ _ _
  ·trivial
 | ixS x i =>
  simp only [run,exIxS]
  split
  ·split
   ·split <;> first | trivial | exact rcan_rv hw _
   ·trivial
  ·trivial
 | lkp z ok p m k =>
  simp only [run,exLkp]
  split
  ·trivial
  ·exact rcan_rv hw _
  ·split
   ·trivial
   ·split <;> first | trivial | exact rcan_v hw _ _
 | mup p m k x=>exact rcan_exMup hw _ _ _ _
 | rngS x=>simp only [run,exRngS];split <;> first | trivial | exact rcan_alloc _ _ _
 | rngM x =>
  simp only [run,exRngM]
  split
  ·trivial
  ·exact rcan_alloc _ _ _
  ·split <;> first | trivial | exact rcan_alloc _ _ _
 | nxtS it=>exact rcan_exNxtS hw _
 | nxtM it=>exact rcan_exNxtM hw _
 | tas t z ok x =>
  simp only [run,exTas]
  split
  ·exact rcan_bc (rcan_rv hw _) trivial
  ·exact rcan_bc (rcan_rv hw _) (rcan_bc (rcan_rv hw _) trivial)
  ·trivial
 | ext x i=>simp only [run,exExt];split <;> first | trivial | exact rcan_o hw _
 | len k x =>
  simp only [run,exLen]
  split
  ·exact rcan_bc (rcan_rv hw _) trivial
  ·exact rcan_bc (rcan_rv hw _) trivial
  ·exact rcan_bc (rcan_rv hw _) trivial
  ·refine rcan_bc ?_ trivial
   split <;> first | trivial | exact rcan_v hw _ _
  ·trivial
 | lenA n=>exact rcan_rv hw _
 | cap x=>simp only [run,exCap];split <;> first | trivial | exact rcan_rv hw _
 | app ty sz by_ s x=>exact rcan_exApp hw _ _ _ _ _
 | copy sz d x=>exact rcan_exCopy hw _ _ _
 | clear z x=>exact rcan_exClear hw _ _
 | min x y=>simp only [run,exMin];split <;> first | trivial | exact rcan_rv hw _
 | max x y=>simp only [run,exMin];split <;> first | trivial | exact rcan_rv hw _
 | min3 x y z=>simp only [run,exMin3];split <;> first | trivial | exact rcan_rv hw _
 | max3 x y z=>simp only [run,exMin3];split <;> first | trivial | exact rcan_rv hw _
 | del p m k=>exact rcan_exDel hw _ _ _
 | call f args=>simp only [run,callV];split <;> trivial
 | defer f args=>simp only [run,deferV];split <;> trivial
 | recover=>trivial
 | panic x=>simp only [run,exPanic];split <;> trivial
end
theorem skip_value {o:Oper} {P:Program} {F:Fence} {n:Nat} {a:Act} {next:Act→World→Prop} {Q:Exit→Act→World→Prop} {W':World} {v':Value} {x:Result Next}
 (h:x=.ok (.value v') W'∨(x=.ok .skip W'∧v'=undef)) (hn:next (a.put o.dst v') W'):o.uponIn F n P a next Q x:=by
 rcases h with rfl | ⟨rfl,rfl⟩ <;> exact hn
section
variable {P:Program} {tb:Tb} (ok:TbOk P tb) {β:Mp} {H:Hp} {W:World}
theorem upon_call {F:Fence} {rnd:Option Nat} {o:Oper} {a:Act} {next:Act→World→Prop} {Q:Exit→Act→World→Prop} {f:FuncId} {args:Array Value} {R:Ending→World→Prop} (hF:FRel β rnd F)
 (h:CallOk P f args W R) (h1:∀ v W',R (.returned v) W'→next (a.put o.dst v) W') (h2:∀ c W',R (.panicked c) W'→Q (.panic c) a W') (h3:∀ W',¬ R .outgrown W') :
 o.uponIn F 0 P a next Q ((callFunc f args).run P W):=by
 have hd:F.depth.isSome=true→1≤0:=by
  intro h
  cases rnd with
  | none=>rw [hF] at h;cases h
  | some l=>obtain ⟨m,_,rfl⟩:=hF;cases h
 rcases h with ⟨h,hc⟩ | ⟨v,W',h,hR⟩
 ·rw [h]
  refine ⟨hd,?_⟩
  have hc':CallsIn F (0-1) P f args W R:=by
   cases rnd with
   | none=>rw [hF];exact hc
   | some l=>obtain ⟨m,_,rfl⟩:=hF;exact hc
  refine CallsIn.mono hc' fun e W' hR=>?_
  cases e with
  | returned v=>exact h1 v W' hR
  | panicked c=>exact h2 c W' hR
  | outgrown=>exact absurd hR (h3 W')
 ·rw [h];exact h1 v W' hR
theorem upon_round {F:Fence} {rnd:Option Nat} {o:Oper} {a:Act} {next:Act→World→Prop} {Q:Exit→Act→World→Prop} {l:Nat} {args:Array Value} {R:Ending→World→Prop} (hF:FRel β rnd F)
 (h:RoundOk P l args W R) (h1:∀ v W',R (.returned v) W'→next (a.put o.dst v) W') (h2:∀ c W',¬ R (.panicked c) W') (h3:∀ W',¬ R .outgrown W') :
 o.uponIn F 0 P a next Q ((Instr.yield l args).run P W):=by
 have hd:F.depth.isSome=true→1≤0:=by
  intro h
  cases rnd with
  | none=>rw [hF] at h;cases h
  | some l=>obtain ⟨m,_,rfl⟩:=hF;cases h
 obtain ⟨fn,tmps,assign,body,h,hc⟩:=h
 rw [h]
 refine ⟨hd,?_⟩
 have hc':RoundIn F (0-1) P l fn tmps assign body W R:=by
  cases rnd with
  | none=>rw [hF];exact hc
  | some l=>obtain ⟨m,_,rfl⟩:=hF;exact hc
 refine RoundIn.mono hc' fun e W' hR=>?_
 cases e with
 | returned v=>exact h1 v W' hR
 | panicked c=>exact absurd hR (h2 c W')
 | outgrown=>exact absurd hR (h3 W')
theorem frel_fn {rnd:Option Nat} {F:Fence} (hF:FRel β rnd F) (f:FuncId):F.fn f:=by
 cases rnd with
 | none=>rw [hF];trivial
 | some l=>obtain ⟨m,_,rfl⟩:=hF;trivial
theorem frel_none {F:Fence} (hF:FRel β none F):F.round=none:=by rw [hF];rfl
theorem CPost.comp {β1:Mp} {nt w1 w2 r1 r2:Nat} {H1 H2:Hp} {W1:World} {x:Ex} {t':T Value} {ds':List Deferred} {e:Exit} {a':Act} {W':World} (c1:Can H H1 w1) (c2:Can H1 H2 w2)
 (p:Pre β H H2 (Nat.lor r1 r2) (Nat.lor w1 w2) W) (q:Post β β1 H H1 w1 W W1) (h:CPost β1 nt H1 H2 w2 W1 x t' ds' e a' W'):CPost β nt H H2 (Nat.lor w1 w2) W x t' ds' e a' W':=by
 obtain ⟨β',h1,h2,h3⟩:=h
 exact ⟨β',h1,h2,Post.comp c1 c2 p q h3⟩
theorem lor_assoc' (a b c:Nat):Nat.lor (Nat.lor a b) c=Nat.lor a (Nat.lor b c):=Nat.or_assoc a b c
theorem lor_zero' (a:Nat):Nat.lor a 0=a:=Nat.or_zero a
theorem zero_lor' (a:Nat):Nat.lor 0 a=a:=Nat.zero_or a
include ok
theorem evOps_ok {rec:Rec} (hrec:RecOk P tb.ng rec) {cx:Cx} (hd:cx.nt<2 ^ cx.d) (ops:Array Oper):∀ (l:List Oper) (i:Nat),(∀ k,l[k]?=ops[i+k]?)→∀ (t:T Value) (ds:List Deferred) (H:Hp) (acc:Acc) (r w:Nat) (x:Ex)
 (t':T Value) (ds':List Deferred) (H':Hp) (acc':Acc) (r' w':Nat),evOps rec cx (compOs tb cx.nt ops l) i t ds H acc r w=.mk x t' ds' H' acc' r' w'→H.wf →
 ∃ r2 w2,r'=Nat.lor r r2∧w'=Nat.lor w w2∧Can H H' w2∧∀ β W a F,GRel tb.ng β→FRel β cx.rnd F→ARel β cx.nt t ds a→Pre β H H' r2 w2 W→∀ Q:Exit→Act→World→Prop,
  (∀ e a' W',CPost β cx.nt H H' w2 W x t' ds' e a' W'→Q e a' W')→wpOpsIn F 0 P ops Q (List.range' i l.length) a W:=by
 intro l
 induction l with
 | nil =>
  intro i _ t ds H acc r w x t' ds' H' acc' r' w' h hw
  simp only [compOs,evOps,stepR] at h
  cases h
  refine ⟨0,0,(lor_zero' _).symm,(lor_zero' _).symm,Can.refl hw,fun β W a F _ _ ha p Q hQ=>?_⟩
  exact hQ .normal a W ⟨β,trivial,ha,Post.refl p.dom⟩
 | cons o l ih =>
  intro i hl t ds H acc r w x t' ds' H' acc' r' w' h hw
  have ho:ops[i]?=some o:=by have:=hl 0;simpa using this.symm
  have hl':∀ k,l[k]?=ops[i+1+k]?:=fun k=>by
   have:=hl (k+1);simp only [List.getElem?_cons_succ] at this;rw [this];congr 1;omega
  have hrange:List.range' i (o::l).length=i::List.range' (i+1) l.length:=by simp [List.range'_succ]
  rw [hrange]
  simp only [compOs,evOps,stepR] at h
  rcases comp_inv (tb:=tb) (nt:=cx.nt) (ops:=ops) (o:=o) with hc | hc
  case inr =>
   rw [hc] at h
   have hwt:wants t (none:Option (Tmp×Bool))=true:=rfl
   rw [hwt,Bc_t] at h
   simp only [run] at h
   cases h
  generalize compO tb cx.nt ops o=c at h hc
  have hwanted:∀ {β a},ARel β cx.nt t ds a→Region.wanted o (yielded ops a.tmps)=wants t c.guard:=fun ha=>wants_ok hc fun j w d h1 h2 h3=>⟨trel_get ha.1 h3,ha.1.1⟩
  cases hwt:wants t c.guard with
  | false =>
   rw [hwt,Bc_f] at h
   obtain ⟨r2,w2,e1,e2,hcan,hrest⟩:=ih (i+1) hl' _ _ _ _ _ _ _ _ _ _ _ _ _ h hw
   refine ⟨r2,w2,e1,e2,hcan,fun β W a F hg hF ha p Q hQ=>?_⟩
   simp only [wpOpsIn,ho,hwanted ha,hwt]
   refine ⟨fun f _=>frel_fn hF f,?_⟩
   have ha':=arel_put hd ha hc.dlt (vrel_U β)
   rw [hc.dst] at hrest
   exact hrest β W _ F hg hF ha' p Q hQ
  | true =>
   rw [hwt,Bc_t] at h
   have hrun:=fun {β:Mp} {W:World} {a:Act} (hg:GRel tb.ng β) (ha:ARel β cx.nt t ds a)=>run_ok (P:=P) (W:=W) (o:=o) (ρ:=a.eval) (t:=t) ok hw (fun y hy=>operand_ok hg ha.1 (hc.opnds y hy))
   rw [← hc.op] at hrun
   cases hr:run c.op t H with
   | fail=>rw [hr] at h;cases h
   | recover=>rw [hr] at h;cases h
   | val v H1 r1 w1 =>
    rw [hr] at h hrun
    simp only at h
    have hH1:Can H H1 w1:=by have:=can_run hw c.op t;rw [hr] at this;exact this
    obtain ⟨r2,w2,e1,e2,hcan,hrest⟩:=ih (i+1) hl' _ _ _ _ _ _ _ _ _ _ _ _ _ h hH1.wf
    refine ⟨Nat.lor r1 r2,Nat.lor w1 w2,by rw [e1,lor_assoc'],by rw [e2,lor_assoc'],Can.comp hH1 hcan,fun β W a F hg hF ha p Q hQ=>?_⟩
    simp only [wpOpsIn,ho,hwanted ha,hwt,if_true]
    obtain ⟨_,hx⟩:=hrun (W:=W) hg ha
    obtain ⟨β1,W1,v',hres,hv,hpost⟩:=hx (p.first hcan)
    have hle:=hpost.le
    have hne:∀ cc,o.op≠.defer cc:=by
     intro cc hcc
     have:=hc.op;unfold compOp at this;rw [hcc] at this
     simp only at this
     split at this
     ·rw [this] at hr;simp only [run,deferV] at hr;split at hr <;> cases hr
     ·rw [this] at hr;simp only [run] at hr;cases hr
    refine ⟨fun f _=>frel_fn hF f,?_⟩
    rw [Oper.semAt_eq _ _ _ hne]
    refine skip_value hres ?_
    have ha':=arel_put hd (ha.mono hle) hc.dlt hv
    rw [hc.dst] at hrest
    exact hrest β1 W1 _ F (hg.mono hle) (hF.mono hle) ha' (Pre.second hH1 hcan p hpost) Q fun e a' W' hh=>hQ e a' W' (CPost.comp hH1 hcan p hpost hh)
   | call f args =>
    rw [hr] at h hrun
    simp only [afterCall] at h
    have hk:=hrec (.call f args) H hw
    have hne:∀ cc,o.op≠.defer cc:=by
     intro cc hcc
     have:=hc.op;unfold compOp at this;rw [hcc] at this
     simp only at this
     split at this
     ·rw [this] at hr;simp only [run,deferV] at hr;split at hr <;> cases hr
     ·rw [this] at hr;simp only [run] at hr;cases hr
    split at h
    ·rename_i v H1 r1 w1 hx
     rw [hx] at hk
     obtain ⟨hH1,hk⟩:=hk
     obtain ⟨r2,w2,e1,e2,hcan,hrest⟩:=ih (i+1) hl' _ _ _ _ _ _ _ _ _ _ _ _ _ h hH1.wf
     refine ⟨Nat.lor r1 r2,Nat.lor w1 w2,by rw [e1,lor_assoc'],by rw [e2,lor_assoc'],Can.comp hH1 hcan,fun β W a F hg hF ha p Q hQ=>?_⟩
     simp only [wpOpsIn,ho,hwanted ha,hwt,if_true]
     obtain ⟨args',hs,hl⟩:=hrun (W:=W) hg ha
     refine ⟨fun f _=>frel_fn hF f,?_⟩
     rw [Oper.semAt_eq _ _ _ hne,hs]
     refine upon_call hF (hk β W hg (p.first hcan) args' hl) (fun v' W1 hR=>?_) (fun ch W1 hR=>?_) (fun W1 hR=>?_)
     ·obtain ⟨β1,v'',he,hv,hpost⟩:=hR
      cases he
      have hle:=hpost.le
      have ha':=arel_put hd (ha.mono hle) hc.dlt hv
      rw [hc.dst] at hrest
      exact hrest β1 W1 _ F (hg.mono hle) (hF.mono hle) ha' (Pre.second hH1 hcan p hpost) Q fun e a' W' hh=>hQ e a' W' (CPost.comp hH1 hcan p hpost hh)
     ·obtain ⟨_,_,he,_⟩:=hR;cases he
     ·obtain ⟨_,_,he,_⟩:=hR;cases he
    ·rename_i v H1 r1 w1 hx
     rw [hx] at hk
     obtain ⟨hH1,hk⟩:=hk
     cases h
     refine ⟨r1,w1,rfl,rfl,hH1,fun β W a F hg hF ha p Q hQ=>?_⟩
     simp only [wpOpsIn,ho,hwanted ha,hwt,if_true]
     obtain ⟨args',hs,hl⟩:=hrun (W:=W) hg ha
     refine ⟨fun f _=>frel_fn hF f,?_⟩
     rw [Oper.semAt_eq _ _ _ hne,hs]
     refine upon_call hF (hk β W hg p args' hl) (fun v' W1 hR=>?_) (fun ch W1 hR=>?_) (fun W1 hR=>?_)
     ·obtain ⟨_,_,he,_⟩:=hR;cases he
     ·obtain ⟨β1,v'',he,hv,hpost⟩:=hR
      cases he
      exact hQ _ _ _ ⟨β1,⟨v'',rfl,hv⟩,ha.mono hpost.le,hpost⟩
     ·obtain ⟨_,_,he,_⟩:=hR;cases he
    ·cases h
   | round m args =>
    rw [hr] at h hrun
    simp only [afterCall] at h
    have hk:=hrec (.round m args) H hw
    have hne:∀ cc,o.op≠.defer cc:=by
     intro cc hcc
     have:=hc.op;unfold compOp at this;rw [hcc] at this
     simp only at this
     split at this
     ·rw [this] at hr;simp only [run,deferV] at hr;split at hr <;> cases hr
     ·rw [this] at hr;simp only [run] at hr;cases hr
    split at h
    ·rename_i v H1 r1 w1 hx
     rw [hx] at hk
     obtain ⟨hH1,hk⟩:=hk
     obtain ⟨r2,w2,e1,e2,hcan,hrest⟩:=ih (i+1) hl' _ _ _ _ _ _ _ _ _ _ _ _ _ h hH1.wf
     refine ⟨Nat.lor r1 r2,Nat.lor w1 w2,by rw [e1,lor_assoc'],by rw [e2,lor_assoc'],Can.comp hH1 hcan,fun β W a F hg hF ha p Q hQ=>?_⟩
     simp only [wpOpsIn,ho,hwanted ha,hwt,if_true]
     obtain ⟨m',args',em,hs,hl⟩:=hrun (W:=W) hg ha
     refine ⟨fun f _=>frel_fn hF f,?_⟩
     rw [Oper.semAt_eq _ _ _ hne,hs]
     refine upon_round hF (hk β W hg (p.first hcan) m' args' em hl) (fun v' W1 hR=>?_) (fun ch W1 hR=>?_) (fun W1 hR=>?_)
     ·obtain ⟨β1,v'',he,hv,hpost⟩:=hR
      cases he
      have hle:=hpost.le
      have ha':=arel_put hd (ha.mono hle) hc.dlt hv
      rw [hc.dst] at hrest
      exact hrest β1 W1 _ F (hg.mono hle) (hF.mono hle) ha' (Pre.second hH1 hcan p hpost) Q fun e a' W' hh=>hQ e a' W' (CPost.comp hH1 hcan p hpost hh)
     ·obtain ⟨_,_,he,_⟩:=hR;cases he
     ·obtain ⟨_,_,he,_⟩:=hR;cases he
    ·cases h
    ·cases h
   | panic v =>
    rw [hr] at h hrun
    simp only at h
    cases h
    refine ⟨0,0,rfl,rfl,Can.refl hw,fun β W a F hg hF ha p Q hQ=>?_⟩
    simp only [wpOpsIn,ho,hwanted ha,hwt,if_true]
    obtain ⟨v',hs,hv⟩:=hrun (W:=W) hg ha
    have hne:∀ cc,o.op≠.defer cc:=by
     intro cc hcc
     have:=hc.op;unfold compOp at this;rw [hcc] at this
     simp only at this
     split at this
     ·rw [this] at hr;simp only [run,deferV] at hr;split at hr <;> cases hr
     ·rw [this] at hr;simp only [run] at hr;cases hr
    refine ⟨fun f _=>frel_fn hF f,?_⟩
    rw [Oper.semAt_eq _ _ _ hne,hs]
    exact hQ _ _ _ ⟨β,⟨v',rfl,hv⟩,ha,Post.refl p.dom⟩
   | defer d =>
    rw [hr] at h hrun
    simp only at h
    cases hrnd:cx.rnd with
    | some l=>rw [hrnd] at h;cases h
    | none =>
     cases hdrw:cx.drw with
     | true=>rw [hrnd,hdrw] at h;cases h
     | false =>
     rw [hrnd,hdrw] at h
     simp only at h
     obtain ⟨r2,w2,e1,e2,hcan,hrest⟩:=ih (i+1) hl' _ _ _ _ _ _ _ _ _ _ _ _ _ h hw
     refine ⟨r2,w2,e1,e2,hcan,fun β W a F hg hF ha p Q hQ=>?_⟩
     simp only [wpOpsIn,ho,hwanted ha,hwt,if_true]
     obtain ⟨d',hs,hdr⟩:=hrun (W:=W) hg ha
     refine ⟨fun f _=>frel_fn hF f,?_⟩
     rw [frel_none hF,Oper.semAt_none,hs]
     have ha2:ARel β cx.nt t (d::ds) { a with defers:=d'::a.defers }:=⟨ha.1,DsRel.cons hdr ha.2⟩
     have ha':=arel_put hd ha2 hc.dlt (vrel_U β)
     rw [hc.dst] at hrest
     rw [hrnd] at hrest
     exact hrest β W _ F hg hF ha' p Q hQ
end
section
variable (P:Program) (tb:Tb) (nt:Nat) (rnd:Option Nat) (ops:Array Oper)
structure StepR (i:Nat) (o:Oper) (t:T Value) (H:Hp) (v:Value) (H':Hp) (r w:Nat):Prop where
 can:Can H H' w
 opnds:∀ x∈o.op.operands.toList,okO tb nt x=true
 dlt:∀ i:Nat,o.dst=some i→i<nt
 run:∀ (β:Mp) (W:World) (a:Act) (F:Fence) (K:Act→World→Prop) (Q:Exit→Act→World→Prop),GRel tb.ng β→FRel β rnd F→(∀ x∈o.op.operands.toList,VRel β (evalO t x) (a.eval x)) →
  (∀ (j:Nat) (w:Bool) (d:Nat),o.guard=some (j,w)→(ops[j]?).bind (·.dst)=some d→d<nt→VRel β (t.get d) (a.tmps.getD d undef)∧a.tmps.size=nt)→Pre β H H' r w W →
  (∀ β' v' W',VRel β' v v'→Post β β' H H' w W W'→K (a.put o.dst v') W')→wpOpIn F 0 P ops Q i K a W
end
structure Ent where
 t:T Value
 H:Hp
 v:Value
 H':Hp
 r:Nat
 w:Nat
def Triv (e:Ent):Prop:=e.r=0∧e.w=0∧e.H'=e.H
def sub (x y:Nat):Prop:=∀ b,x.testBit b=true→y.testBit b=true
theorem sub_refl (x:Nat):sub x x:=fun _ h=>h
def okP (B:Array Nat) (x y:Nat×Nat×Nat):Prop:=(B.getD x.1 0).testBit y.1=true∨(Nat.land y.2.2 (Nat.lor x.2.1 x.2.2)=0∧Nat.land x.2.2 y.2.1=0)
theorem okOne_iff (b rj wj:Nat) (l:Acc) (h:okOne b rj wj l=true):∀ y∈l,b.testBit y.1=true∨(Nat.land y.2.2 (Nat.lor rj wj)=0∧Nat.land wj y.2.1=0):=by
 induction l with
 | nil=>intro y hy;cases hy
 | cons z l ih =>
  obtain ⟨i,ri,wi⟩:=z
  simp only [okOne] at h
  intro y hy
  cases hb:Nat.testBit b i with
  | true =>
   rw [hb,Bc_t] at h
   rcases List.mem_cons.1 hy with rfl | hy
   ·exact .inl hb
   ·exact ih h y hy
  | false =>
   rw [hb,Bc_f] at h
   cases h1:Nat.beq (Nat.land wi (Nat.lor rj wj)) 0 with
   | false=>rw [h1,Bc_f] at h;cases h
   | true =>
    rw [h1,Bc_t] at h
    cases h2:Nat.beq (Nat.land wj ri) 0 with
    | false=>rw [h2,Bc_f] at h;cases h
    | true =>
     rw [h2,Bc_t] at h
     rcases List.mem_cons.1 hy with rfl | hy
     ·exact .inr ⟨(beq_iff _ _).1 h1,(beq_iff _ _).1 h2⟩
     ·exact ih h y hy
theorem okPair_iff (B:Array Nat):∀ (l:Acc),okPair B l=true→l.Pairwise (okP B):=by
 intro l
 induction l with
 | nil=>intro _;exact List.Pairwise.nil
 | cons x l ih =>
  obtain ⟨j,rj,wj⟩:=x
  intro h
  simp only [okPair,Bool.and_eq_true] at h
  exact List.Pairwise.cons (fun y hy=>okOne_iff _ _ _ _ h.1 y hy) (ih h.2)
section
variable {P:Program} {tb:Tb} (ok:TbOk P tb)
def Chain (P:Program) (tb:Tb) (d nt:Nat) (rnd:Option Nat) (ops:Array Oper):Nat→List Oper→T Value→Hp→List Ent→T Value→Hp→Prop
 | _,[],t,H,es,t',H'=>es=[]∧t'=t∧H'=H
 | i,o::l,t,H,es,t',H'=>∃ e es',es=e::es'∧e.t=t∧e.H=H∧StepR P tb nt rnd ops i o t H e.v e.H' e.r e.w∧Chain P tb d nt rnd ops (i+1) l (putT d t o.dst e.v) e.H' es' t' H'
include ok
theorem evOps_chain {rec:Rec} (hrec:RecOk P tb.ng rec) {cx:Cx} (hdrw:cx.drw=true) (ops:Array Oper) (B:Array Nat):∀ (l:List Oper) (i:Nat),(∀ k,l[k]?=ops[i+k]?)→(∀ o∈l,noDef o=true)→∀ (t:T Value) (ds:List Deferred) (H:Hp) (acc:Acc) (r w:Nat)
 (t':T Value) (ds':List Deferred) (H':Hp) (acc':Acc) (r' w':Nat),evOps rec cx (compOs tb cx.nt ops l) i t ds H acc r w=.mk .normal t' ds' H' acc' r' w'→H.wf→acc'.Pairwise (okP B) →
 ∃ es,Chain P tb cx.d cx.nt cx.rnd ops i l t H es t' H'∧ds'=ds∧sub r r'∧sub w w'∧(∀ e∈es,sub e.r r'∧sub e.w w')∧acc.Pairwise (okP B) ∧
  (∀ (k:Nat) e,es[k]?=some e→Triv e∨∀ y∈acc,okP B (i+k,e.r,Nat.lor e.w (rng e.H e.H')) y) ∧
  (∀ (k1 k2:Nat) e1 e2,k1<k2→es[k1]?=some e1→es[k2]?=some e2→Triv e1∨Triv e2∨okP B (i+k2,e2.r,Nat.lor e2.w (rng e2.H e2.H')) (i+k1,e1.r,Nat.lor e1.w (rng e1.H e1.H'))):=by
 intro l
 induction l with
 | nil =>
  intro i _ _ t ds H acc r w t' ds' H' acc' r' w' h hw hp
  simp only [compOs,evOps,stepR] at h
  cases h
  exact ⟨[],⟨rfl,rfl,rfl⟩,rfl,sub_refl _,sub_refl _,(fun e he=>by cases he),hp,(fun k e h=>by simp at h),(fun k1 k2 e1 e2 _ h=>by simp at h)⟩
 | cons o l ih =>
  intro i hl hnd t ds H acc r w t' ds' H' acc' r' w' h hw hp
  have ho:ops[i]?=some o:=by have:=hl 0;simpa using this.symm
  have hl':∀ k,l[k]?=ops[i+1+k]?:=fun k=>by
   have:=hl (k+1);simp only [List.getElem?_cons_succ] at this;rw [this];congr 1;omega
  have hnd':∀ o∈l,noDef o=true:=fun o ho=>hnd o (by simp [ho])
  have hndo:=hnd o (by simp)
  have hne:∀ cc,o.op≠.defer cc:=fun cc hcc=>by unfold noDef at hndo;rw [hcc] at hndo;cases hndo
  have join:∀ (e:Ent) (acc1:Acc) (r1 w1:Nat),e.t=t→e.H=H→StepR P tb cx.nt cx.rnd ops i o t H e.v e.H' e.r e.w→(acc1=(i,e.r,Nat.lor e.w (rng e.H e.H'))::acc∨(acc1=acc∧Triv e)) →
   sub r r1→sub w w1→sub e.r r1→sub e.w w1→evOps rec cx (compOs tb cx.nt ops l) (i+1) (putT cx.d t o.dst e.v) ds e.H' acc1 r1 w1=.mk .normal t' ds' H' acc' r' w' →
   ∃ es,Chain P tb cx.d cx.nt cx.rnd ops i (o::l) t H es t' H'∧ds'=ds∧sub r r'∧sub w w'∧(∀ e∈es,sub e.r r'∧sub e.w w')∧acc.Pairwise (okP B) ∧
    (∀ (k:Nat) e,es[k]?=some e→Triv e∨∀ y∈acc,okP B (i+k,e.r,Nat.lor e.w (rng e.H e.H')) y) ∧
    (∀ (k1 k2:Nat) e1 e2,k1<k2→es[k1]?=some e1→es[k2]?=some e2→Triv e1∨Triv e2∨okP B (i+k2,e2.r,Nat.lor e2.w (rng e2.H e2.H')) (i+k1,e1.r,Nat.lor e1.w (rng e1.H e1.H'))):=by
   intro e acc1 r1 w1 he1 he2 hst hacc hr hw' hr1 hw1 hev
   obtain ⟨es,c1,c2,c3,c4,c5,c6,c7,c8⟩:=ih (i+1) hl' hnd' _ _ _ _ _ _ _ _ _ _ _ _ hev hst.can.wf hp
   refine ⟨e::es,⟨e,es,rfl,he1,he2,hst,c1⟩,c2,fun b hb=>c3 b (hr b hb),fun b hb=>c4 b (hw' b hb),?_,?_,?_,?_⟩
   ·intro x hx
    rcases List.mem_cons.1 hx with rfl | hx
    ·exact ⟨fun b hb=>c3 b (hr1 b hb),fun b hb=>c4 b (hw1 b hb)⟩
    ·exact c5 x hx
   ·rcases hacc with rfl | ⟨rfl,_⟩
    ·exact (List.pairwise_cons.1 c6).2
    ·exact c6
   ·intro k x hx
    cases k with
    | zero =>
     simp at hx;subst hx
     rcases hacc with rfl | ⟨rfl,ht⟩
     ·exact .inr fun y hy=>(List.pairwise_cons.1 c6).1 y hy
     ·exact .inl ht
    | succ k =>
     simp at hx
     rcases c7 k x hx with h | h
     ·exact .inl h
     ·refine .inr fun y hy=>?_
      rw [show i+(k+1)=i+1+k from by omega]
      refine h y ?_
      rcases hacc with rfl | ⟨rfl,_⟩
      ·simp [hy]
      ·exact hy
   ·intro k1 k2 e1 e2 hk h1 h2
    cases k2 with
    | zero=>omega
    | succ k2 =>
     simp at h2
     cases k1 with
     | zero =>
      simp at h1;subst h1
      rcases hacc with rfl | ⟨rfl,ht⟩
      ·rcases c7 k2 e2 h2 with h | h
       ·exact .inr (.inl h)
       ·right;right
        rw [show i+(k2+1)=i+1+k2 from by omega]
        exact h _ (by simp)
      ·exact .inl ht
     | succ k1 =>
      simp at h1
      have:=c8 k1 k2 e1 e2 (by omega) h1 h2
      rw [show i+(k2+1)=i+1+k2 from by omega,show i+(k1+1)=i+1+k1 from by omega]
      exact this
  simp only [compOs,evOps,stepR] at h
  rcases comp_inv (tb:=tb) (nt:=cx.nt) (ops:=ops) (o:=o) with hc | hc
  case inr =>
   rw [hc] at h
   have hwt:wants t (none:Option (Tmp×Bool))=true:=rfl
   rw [hwt,Bc_t] at h
   simp only [run] at h
   cases h
  generalize compO tb cx.nt ops o=c at h hc
  rw [hc.dst] at h
  have hwanted:=fun {β:Mp} {a:Act}=>wants_ok (β:=β) (t:=t) (a:=a) hc
  cases hwt:wants t c.guard with
  | false =>
   rw [hwt,Bc_f] at h
   refine join ⟨t,H,U,H,0,0⟩ acc r w rfl rfl ⟨Can.refl hw,hc.opnds,hc.dlt,fun β W a F K Q hg hF hop hgd p hK=>?_⟩ (.inr ⟨rfl,rfl,rfl,rfl⟩) (sub_refl _) (sub_refl _) (fun b hb=>by simp at hb) (fun b hb=>by simp at hb) h
   simp only [wpOpIn,ho,hwanted hgd,hwt]
   exact ⟨fun f _=>frel_fn hF f,hK β undef W (vrel_U β) (Post.refl p.dom)⟩
  | true =>
   rw [hwt,Bc_t] at h
   have hrun:=fun {β:Mp} {W:World} {a:Act} (hop:∀ x∈o.op.operands.toList,VRel β (evalO t x) (a.eval x))=>run_ok (P:=P) (W:=W) (o:=o) (ρ:=a.eval) (t:=t) ok hw hop
   rw [← hc.op] at hrun
   cases hr:run c.op t H with
   | fail=>rw [hr] at h;cases h
   | recover=>rw [hr] at h;cases h
   | panic v=>rw [hr] at h;cases h
   | defer d =>
    rw [hr] at h
    simp only [hdrw] at h
    cases hrnd:cx.rnd <;> rw [hrnd] at h <;> cases h
   | val v H1 r1 w1 =>
    rw [hr] at h hrun
    simp only at h
    have hH1:Can H H1 w1:=by have:=can_run hw c.op t;rw [hr] at this;exact this
    refine join ⟨t,H,v,H1,r1,w1⟩ _ _ _ rfl rfl ⟨hH1,hc.opnds,hc.dlt,fun β W a F K Q hg hF hop hgd p hK=>?_⟩ (.inl rfl) (fun b hb=>by rw [lor_bit];simp [hb]) (fun b hb=>by rw [lor_bit];simp [hb]) (fun b hb=>by rw [lor_bit];simp [hb]) (fun b hb=>by rw [lor_bit];simp [hb]) h
    simp only [wpOpIn,ho,hwanted hgd,hwt,if_true]
    obtain ⟨_,hx⟩:=hrun (W:=W) hop
    obtain ⟨β1,W1,v',hres,hv,hpost⟩:=hx p
    refine ⟨fun f _=>frel_fn hF f,?_⟩
    rw [Oper.semAt_eq _ _ _ hne]
    exact skip_value hres (hK β1 v' W1 hv hpost)
   | call f args =>
    rw [hr] at h hrun
    simp only [afterCall] at h
    have hk:=hrec (.call f args) H hw
    split at h
    ·rename_i v H1 r1 w1 hx
     rw [hx] at hk
     obtain ⟨hH1,hk⟩:=hk
     refine join ⟨t,H,v,H1,r1,w1⟩ _ _ _ rfl rfl ⟨hH1,hc.opnds,hc.dlt,fun β W a F K Q hg hF hop hgd p hK=>?_⟩ (.inl rfl) (fun b hb=>by rw [lor_bit];simp [hb]) (fun b hb=>by rw [lor_bit];simp [hb]) (fun b hb=>by rw [lor_bit];simp [hb]) (fun b hb=>by rw [lor_bit];simp [hb]) h
     simp only [wpOpIn,ho,hwanted hgd,hwt,if_true]
     obtain ⟨args',hs,hl⟩:=hrun (W:=W) hop
     refine ⟨fun f _=>frel_fn hF f,?_⟩
     rw [Oper.semAt_eq _ _ _ hne,hs]
     refine upon_call hF (hk β W hg p args' hl) (fun v' W1 hR=>?_) (fun ch W1 hR=>?_) (fun W1 hR=>?_)
     ·obtain ⟨β1,v'',he,hv,hpost⟩:=hR
      cases he
      exact hK β1 _ W1 hv hpost
     ·obtain ⟨_,_,he,_⟩:=hR;cases he
     ·obtain ⟨_,_,he,_⟩:=hR;cases he
    ·cases h
    ·cases h
   | round m args =>
    rw [hr] at h hrun
    simp only [afterCall] at h
    have hk:=hrec (.round m args) H hw
    split at h
    ·rename_i v H1 r1 w1 hx
     rw [hx] at hk
     obtain ⟨hH1,hk⟩:=hk
     refine join ⟨t,H,v,H1,r1,w1⟩ _ _ _ rfl rfl ⟨hH1,hc.opnds,hc.dlt,fun β W a F K Q hg hF hop hgd p hK=>?_⟩ (.inl rfl) (fun b hb=>by rw [lor_bit];simp [hb]) (fun b hb=>by rw [lor_bit];simp [hb]) (fun b hb=>by rw [lor_bit];simp [hb]) (fun b hb=>by rw [lor_bit];simp [hb]) h
     simp only [wpOpIn,ho,hwanted hgd,hwt,if_true]
     obtain ⟨m',args',em,hs,hl⟩:=hrun (W:=W) hop
     refine ⟨fun f _=>frel_fn hF f,?_⟩
     rw [Oper.semAt_eq _ _ _ hne,hs]
     refine upon_round hF (hk β W hg p m' args' em hl) (fun v' W1 hR=>?_) (fun ch W1 hR=>?_) (fun W1 hR=>?_)
     ·obtain ⟨β1,v'',he,hv,hpost⟩:=hR
      cases he
      exact hK β1 _ W1 hv hpost
     ·obtain ⟨_,_,he,_⟩:=hR;cases he
     ·obtain ⟨_,_,he,_⟩:=hR;cases he
    ·cases h
    ·cases h
end
theorem rng_bit {H H':Hp} (h:H.nx≤H'.nx) (b:Nat):(rng H H').testBit b=true↔H.nx≤b∧b<H'.nx:=by
 have e:∀ n,bit n=2 ^ n:=fun n=>by show (1:Nat) <<< n=_;exact Nat.one_shiftLeft n
 have:rng H H'=2 ^ H.nx*(2 ^ (H'.nx-H.nx)-1):=by
  show bit H'.nx-bit H.nx=_
  rw [e,e,Nat.mul_sub_one,← Nat.pow_add,show H.nx+(H'.nx-H.nx)=H'.nx from by omega]
 rw [this,Nat.testBit_two_pow_mul,Nat.testBit_two_pow_sub_one]
 simp only [Bool.and_eq_true,decide_eq_true_eq]
 omega
theorem land_zero {x y b:Nat} (h:Nat.land x y=0) (hx:x.testBit b=true):y.testBit b=false:=by
 have:(x &&& y).testBit b=false:=by
  show (Nat.land x y).testBit b=false
  rw [h];simp
 rw [Nat.testBit_and,hx] at this
 simpa using this
structure Dr (P:Program) (tb:Tb) (d nt:Nat) (rnd:Option Nat) (ops:Array Oper) (B:Array Nat) (n:Nat) where
 t:Nat→T Value
 H:Nat→Hp
 v:Nat→Value
 r:Nat→Nat
 w:Nat→Nat
 step:∀ i o,i<n→ops[i]?=some o→StepR P tb nt rnd ops i o (t i) (H i) (v i) (H (i+1)) (r i) (w i)
 tput:∀ i o,i<n→ops[i]?=some o→t (i+1)=putT d (t i) o.dst (v i)
 ind:∀ i j,i<j→j<n→(B.getD j 0).testBit i=true∨((∀ b,((w i).testBit b=true∨((H i).nx≤b∧b<(H (i+1)).nx))→(r j).testBit b=false∧(w j).testBit b=false∧¬ ((H j).nx≤b∧b<(H (j+1)).nx))∧∀ b,(w j).testBit b=true→(r i).testBit b=false)
theorem chain_at {P:Program} {tb:Tb} {d nt:Nat} {rnd:Option Nat} {ops:Array Oper}:∀ (l:List Oper) (i0:Nat) (t:T Value) (H:Hp) (es:List Ent) (t':T Value) (H':Hp),Chain P tb d nt rnd ops i0 l t H es t' H' →
 es.length=l.length∧((es[0]?).map (·.t)).getD t'=t∧((es[0]?).map (·.H)).getD H'=H ∧
 ∀ (i:Nat) o e,l[i]?=some o→es[i]?=some e→StepR P tb nt rnd ops (i0+i) o e.t e.H e.v e.H' e.r e.w∧((es[i+1]?).map (·.t)).getD t'=putT d e.t o.dst e.v∧((es[i+1]?).map (·.H)).getD H'=e.H':=by
 intro l
 induction l with
 | nil =>
  intro i0 t H es t' H' h
  obtain ⟨rfl,rfl,rfl⟩:=h
  exact ⟨rfl,rfl,rfl,fun i o e h=>by simp at h⟩
 | cons o l ih =>
  intro i0 t H es t' H' h
  obtain ⟨e,es',rfl,rfl,rfl,hs,hc⟩:=h
  obtain ⟨h1,h2,h3,h4⟩:=ih _ _ _ _ _ _ hc
  refine ⟨by simp [h1],rfl,rfl,fun i o1 e1 ho he=>?_⟩
  cases i with
  | zero =>
   simp at ho he;subst ho he
   exact ⟨hs,by simpa using h2,by simpa using h3⟩
  | succ i =>
   simp at ho he
   have:=h4 i o1 e1 ho he
   rw [show i0+(i+1)=i0+1+i from by omega]
   simpa using this
theorem dr_of {P:Program} {tb:Tb} {d nt:Nat} {rnd:Option Nat} {ops:Array Oper} {B:Array Nat} {t t':T Value} {H H':Hp} {es:List Ent} {r' w':Nat} (hc:Chain P tb d nt rnd ops 0 ops.toList t H es t' H')
 (hs:∀ e∈es,sub e.r r'∧sub e.w w')
 (hp:∀ (k1 k2:Nat) e1 e2,k1<k2→es[k1]?=some e1→es[k2]?=some e2→Triv e1∨Triv e2∨okP B (0+k2,e2.r,Nat.lor e2.w (rng e2.H e2.H')) (0+k1,e1.r,Nat.lor e1.w (rng e1.H e1.H'))) :
 ∃ D:Dr P tb d nt rnd ops B ops.size,D.t 0=t∧D.H 0=H∧D.t ops.size=t'∧D.H ops.size=H'∧∀ i,i<ops.size→sub (D.r i) r'∧sub (D.w i) w':=by
 obtain ⟨hlen,h0,h1,hat⟩:=chain_at _ _ _ _ _ _ _ hc
 have hsz:es.length=ops.size:=by rw [hlen];exact Array.length_toList
 have get:∀ i,i<ops.size→∃ e,es[i]?=some e:=fun i hi=>⟨es[i]'(by omega),by simp [hsz,hi]⟩
 have hend:es[ops.size]?=none:=by rw [List.getElem?_eq_none];omega
 refine ⟨⟨fun i=>((es[i]?).map (·.t)).getD t',fun i=>((es[i]?).map (·.H)).getD H',fun i=>((es[i]?).map (·.v)).getD U,fun i=>((es[i]?).map (·.r)).getD 0,fun i=>((es[i]?).map (·.w)).getD 0,?_,?_,?_⟩,h0,h1,?_,?_,?_⟩
 ·intro i o hi ho
  obtain ⟨e,he⟩:=get i hi
  obtain ⟨a,b,c⟩:=hat i o e (by simpa using ho) he
  rw [Nat.zero_add] at a
  simp only [he,Option.map_some,Option.getD_some,c]
  exact a
 ·intro i o hi ho
  obtain ⟨e,he⟩:=get i hi
  obtain ⟨a,b,c⟩:=hat i o e (by simpa using ho) he
  simp only [he,Option.map_some,Option.getD_some,b]
 ·intro i j hij hj
  obtain ⟨e1,he1⟩:=get i (by omega)
  obtain ⟨e2,he2⟩:=get j hj
  have ho1:∃ o,ops[i]?=some o:=⟨ops[i]'(by omega),by simp⟩
  have ho2:∃ o,ops[j]?=some o:=⟨ops[j]'hj,by simp [hj]⟩
  obtain ⟨o1,ho1⟩:=ho1
  obtain ⟨o2,ho2⟩:=ho2
  obtain ⟨a1,_,c1⟩:=hat i o1 e1 (by simpa using ho1) he1
  obtain ⟨a2,_,c2⟩:=hat j o2 e2 (by simpa using ho2) he2
  simp only [he1,he2,Option.map_some,Option.getD_some,c1,c2]
  rcases hp i j e1 e2 hij he1 he2 with ht | ht | ht
  ·obtain ⟨hr,hw,hH⟩:=ht
   right
   rw [hw,hr,hH]
   refine ⟨fun b hb=>?_,fun b _=>by simp⟩
   rcases hb with hb | hb
   ·simp at hb
   ·omega
  ·obtain ⟨hr,hw,hH⟩:=ht
   right
   rw [hw,hr,hH]
   exact ⟨fun b hb=>⟨by simp,by simp,by omega⟩,fun b hb=>by simp at hb⟩
  ·simp only [Nat.zero_add] at ht
   rcases ht with ht | ⟨ht1,ht2⟩
   ·exact .inl ht
   ·right
    refine ⟨fun b hb=>?_,fun b hb=>?_⟩
    ·have hx:(Nat.lor e1.w (rng e1.H e1.H')).testBit b=true:=by
      rw [lor_bit]
      rcases hb with hb | hb
      ·simp [hb]
      ·simp [(rng_bit a1.can.mono b).2 hb]
     have:=land_zero ht1 hx
     rw [lor_bit,lor_bit] at this
     simp only [Bool.or_eq_false_iff] at this
     refine ⟨this.1,this.2.1,fun hh=>?_⟩
     rw [(rng_bit a2.can.mono b).2 hh] at this
     simp at this
    ·exact land_zero ht2 (by rw [lor_bit];simp [hb])
 ·simp [hend]
 ·simp [hend]
 ·intro i hi
  obtain ⟨e,he⟩:=get i hi
  simp only [he,Option.map_some,Option.getD_some]
  exact hs e (List.mem_of_getElem? he)
end Go.Ev
end
