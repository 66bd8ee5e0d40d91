/-
 A part of the reckoner for the statements of a Go program: what it answers,the model answers. Holds for every program whose tables are as given.
-/
import GoSem.Step
set_option linter.unusedSimpArgs false
set_option linter.unusedVariables false
set_option linter.unusedSectionVars false
set_option maxRecDepth 100000
set_option maxHeartbeats 8000000
noncomputable section
namespace Go.Ev
structure N8 (α:Type) where
 (a0 a1 a2 a3 a4 a5 a6 a7:α)
inductive D8 where
 |d0|d1|d2|d3|d4|d5|d6|d7
 deriving DecidableEq
def dg (i:Nat):D8:=Nat.rec .d0 (λk _=>Nat.rec .d1 (λk _=>Nat.rec .d2 (λk _=>Nat.rec .d3 (λk _=>Nat.rec .d4 (λk _=>Nat.rec .d5 (λk _=>Nat.rec .d6 (λ_ _=>.d7) k) k) k) k) k) k) (Nat.mod i 8)
def N8.KM (k:D8):(β:Type)->N8 β->β:=@D8.rec (λ_=>(β:Type)->N8 β->β) @N8.a0 @N8.a1 @N8.a2 @N8.a3 @N8.a4 @N8.a5 @N8.a6 @N8.a7 k
def Oc (α:Type) (d:Nat):Type:=@Nat.rec (λ_=>Type) α (λ_ X=>N8 X) d
def nw (α:Type) (d:Nat):Oc α d->Nat->α:=@Nat.rec (λd=>Oc α d->Nat->α) (λx _=>x) (λd ih x i=>ih (@D8.rec (λ_=>(β:Type)->N8 β->β) @N8.a0 @N8.a1 @N8.a2 @N8.a3 @N8.a4 @N8.a5 @N8.a6 @N8.a7 (dg i) (Oc α d) x) (Nat.div i 8)) d
def WI (α β X:Type):Type:=X->Nat->α->(X->β)->β
def WN (α β X:Type) (_:N8 X):Type:=WI α β X->Nat->α->(N8 X->β)->β
def WF:Type 1:=(α β X:Type)->N8 X->WI α β X->Nat->α->(N8 X->β)->β
def v0 (α β X:Type) (a b c d e f g h:X):WN α β X ⟨a,b,c,d,e,f,g,h⟩:=λih i v k=>ih a i v λy=>k ⟨y,b,c,d,e,f,g,h⟩
def v1 (α β X:Type) (a b c d e f g h:X):WN α β X ⟨a,b,c,d,e,f,g,h⟩:=λih i v k=>ih b i v λy=>k ⟨a,y,c,d,e,f,g,h⟩
def v2 (α β X:Type) (a b c d e f g h:X):WN α β X ⟨a,b,c,d,e,f,g,h⟩:=λih i v k=>ih c i v λy=>k ⟨a,b,y,d,e,f,g,h⟩
def v3 (α β X:Type) (a b c d e f g h:X):WN α β X ⟨a,b,c,d,e,f,g,h⟩:=λih i v k=>ih d i v λy=>k ⟨a,b,c,y,e,f,g,h⟩
def v4 (α β X:Type) (a b c d e f g h:X):WN α β X ⟨a,b,c,d,e,f,g,h⟩:=λih i v k=>ih e i v λy=>k ⟨a,b,c,d,y,f,g,h⟩
def v5 (α β X:Type) (a b c d e f g h:X):WN α β X ⟨a,b,c,d,e,f,g,h⟩:=λih i v k=>ih f i v λy=>k ⟨a,b,c,d,e,y,g,h⟩
def v6 (α β X:Type) (a b c d e f g h:X):WN α β X ⟨a,b,c,d,e,f,g,h⟩:=λih i v k=>ih g i v λy=>k ⟨a,b,c,d,e,f,y,h⟩
def v7 (α β X:Type) (a b c d e f g h:X):WN α β X ⟨a,b,c,d,e,f,g,h⟩:=λih i v k=>ih h i v λy=>k ⟨a,b,c,d,e,f,g,y⟩
def w0:WF:=λα β X x ih i v k=>@N8.rec X (WN α β X) (v0 α β X) x ih i v k
def w1:WF:=λα β X x ih i v k=>@N8.rec X (WN α β X) (v1 α β X) x ih i v k
def w2:WF:=λα β X x ih i v k=>@N8.rec X (WN α β X) (v2 α β X) x ih i v k
def w3:WF:=λα β X x ih i v k=>@N8.rec X (WN α β X) (v3 α β X) x ih i v k
def w4:WF:=λα β X x ih i v k=>@N8.rec X (WN α β X) (v4 α β X) x ih i v k
def w5:WF:=λα β X x ih i v k=>@N8.rec X (WN α β X) (v5 α β X) x ih i v k
def w6:WF:=λα β X x ih i v k=>@N8.rec X (WN α β X) (v6 α β X) x ih i v k
def w7:WF:=λα β X x ih i v k=>@N8.rec X (WN α β X) (v7 α β X) x ih i v k
def akY (k:D8):WF:=@D8.rec (λ_=>WF) w0 w1 w2 w3 w4 w5 w6 w7 k
def SO (α β:Type) (d:Nat):Type:=WI α β (Oc α d)
def zE (α β:Type) (d:Nat):SO α β d:=@Nat.rec (SO α β) (λ_ _ v k=>k v) (λd ih x i v k=>@D8.rec (λ_=>WF) w0 w1 w2 w3 w4 w5 w6 w7 (dg i) α β (Oc α d) x ih (Nat.div i 8) v k) d
def oH (α:Type) (d:Nat):Oc α d->Oc α (d+1):=@Nat.rec (λd=>Oc α d->Oc α (d+1)) (λa=>(⟨a,a,a,a,a,a,a,a⟩:N8 α))
 (λd ih x=>@N8.rec (Oc α d) (λ_=>N8 (Oc α (d+1))) (λa b c e f g h i=>⟨ih a,ih b,ih c,ih e,ih f,ih g,ih h,ih i⟩) x) d
def kZ (X:Type) (a:X):N8 X:=⟨a,a,a,a,a,a,a,a⟩
def sc1 (α β:Type):WI α β (N8 α):=λx i v k=>@D8.rec (λ_=>WF) w0 w1 w2 w3 w4 w5 w6 w7 (dg i) α β α x (λ_ _ v k=>k v) (Nat.div i 8) v k
def sc2 (α β:Type):WI α β (N8 (N8 α)):=λx i v k=>@D8.rec (λ_=>WF) w0 w1 w2 w3 w4 w5 w6 w7 (dg i) α β (N8 α) x (sc1 α β) (Nat.div i 8) v k
def sc3 (α β:Type):WI α β (N8 (N8 (N8 α))):=λx i v k=>@D8.rec (λ_=>WF) w0 w1 w2 w3 w4 w5 w6 w7 (dg i) α β (N8 (N8 α)) x (sc2 α β) (Nat.div i 8) v k
def sc4 (α β:Type):WI α β (N8 (N8 (N8 (N8 α)))):=λx i v k=>@D8.rec (λ_=>WF) w0 w1 w2 w3 w4 w5 w6 w7 (dg i) α β (N8 (N8 (N8 α))) x (sc3 α β) (Nat.div i 8) v k
def sc5 (α β:Type):WI α β (N8 (N8 (N8 (N8 (N8 α))))):=λx i v k=>@D8.rec (λ_=>WF) w0 w1 w2 w3 w4 w5 w6 w7 (dg i) α β (N8 (N8 (N8 (N8 α)))) x (sc4 α β) (Nat.div i 8) v k
def sc6 (α β:Type):WI α β (N8 (N8 (N8 (N8 (N8 (N8 α)))))):=λx i v k=>@D8.rec (λ_=>WF) w0 w1 w2 w3 w4 w5 w6 w7 (dg i) α β (N8 (N8 (N8 (N8 (N8 α))))) x (sc5 α β) (Nat.div i 8) v k
def g1 (α:Type):(N8 α)->Nat->α:=λx i=>@D8.rec (λ_=>(β:Type)->N8 β->β) @N8.a0 @N8.a1 @N8.a2 @N8.a3 @N8.a4 @N8.a5 @N8.a6 @N8.a7 (dg i) α x
def g2 (α:Type):(N8 (N8 α))->Nat->α:=λx i=>g1 α (@D8.rec (λ_=>(β:Type)->N8 β->β) @N8.a0 @N8.a1 @N8.a2 @N8.a3 @N8.a4 @N8.a5 @N8.a6 @N8.a7 (dg i) (N8 α) x) (Nat.div i 8)
def g3 (α:Type):(N8 (N8 (N8 α)))->Nat->α:=λx i=>g2 α (@D8.rec (λ_=>(β:Type)->N8 β->β) @N8.a0 @N8.a1 @N8.a2 @N8.a3 @N8.a4 @N8.a5 @N8.a6 @N8.a7 (dg i) (N8 (N8 α)) x) (Nat.div i 8)
def g4 (α:Type):(N8 (N8 (N8 (N8 α))))->Nat->α:=λx i=>g3 α (@D8.rec (λ_=>(β:Type)->N8 β->β) @N8.a0 @N8.a1 @N8.a2 @N8.a3 @N8.a4 @N8.a5 @N8.a6 @N8.a7 (dg i) (N8 (N8 (N8 α))) x) (Nat.div i 8)
def g5 (α:Type):(N8 (N8 (N8 (N8 (N8 α)))))->Nat->α:=λx i=>g4 α (@D8.rec (λ_=>(β:Type)->N8 β->β) @N8.a0 @N8.a1 @N8.a2 @N8.a3 @N8.a4 @N8.a5 @N8.a6 @N8.a7 (dg i) (N8 (N8 (N8 (N8 α)))) x) (Nat.div i 8)
def g6 (α:Type):(N8 (N8 (N8 (N8 (N8 (N8 α))))))->Nat->α:=λx i=>g5 α (@D8.rec (λ_=>(β:Type)->N8 β->β) @N8.a0 @N8.a1 @N8.a2 @N8.a3 @N8.a4 @N8.a5 @N8.a6 @N8.a7 (dg i) (N8 (N8 (N8 (N8 (N8 α))))) x) (Nat.div i 8)
inductive T (α:Type) where
 |t0 (x:α)
 |t1 (x:(N8 α))
 |t2 (x:(N8 (N8 α)))
 |t3 (x:(N8 (N8 (N8 α))))
 |t4 (x:(N8 (N8 (N8 (N8 α)))))
 |t5 (x:(N8 (N8 (N8 (N8 (N8 α))))))
 |t6 (x:(N8 (N8 (N8 (N8 (N8 (N8 α)))))))
 |tn (d:Nat) (x:Oc α d)
def T.dep {α:Type}:T α->Nat
 |.t0 _=>0
 |.t1 _=>1
 |.t2 _=>2
 |.t3 _=>3
 |.t4 _=>4
 |.t5 _=>5
 |.t6 _=>6
 |.tn d _=>d
def T.oc {α:Type}:(t:T α)->Oc α t.dep
 |.t0 x=>x
 |.t1 x=>x
 |.t2 x=>x
 |.t3 x=>x
 |.t4 x=>x
 |.t5 x=>x
 |.t6 x=>x
 |.tn _ x=>x
def T.ofI {α:Type}:(d:Nat)->Oc α d->T α
 |0,x=>.t0 x
 |1,x=>.t1 x
 |2,x=>.t2 x
 |3,x=>.t3 x
 |4,x=>.t4 x
 |5,x=>.t5 x
 |6,x=>.t6 x
 |d,x=>.tn d x
def T.e {α:Type} (a:α):T α:=.t0 a
def T.get {α:Type} (t:T α) (i:Nat):α:=@T.rec α (λ_=>Nat->α) (λx _=>x) (g1 α) (g2 α) (g3 α) (g4 α) (g5 α) (g6 α) (nw α) t i
def T.fz {α β:Type} (t:T α) (k:T α->β):β:=@T.rec α (λ_=>(T α->β)->β) (λx k=>k (.t0 x)) (λx k=>k (.t1 x)) (λx k=>k (.t2 x)) (λx k=>k (.t3 x)) (λx k=>k (.t4 x)) (λx k=>k (.t5 x)) (λx k=>k (.t6 x)) (λd x k=>k (.tn d x)) t k
def T.iO (α:Type):Nat->(d:Nat)->Oc α d->Nat->α->T α
 |0,d,x,i,v=>zE α (T α) d x i v (T.ofI d)
 |n+1,d,x,i,v=>T.iO α n (d+1) (oH α d x) i v
def s1 (α:Type) (x:(N8 α)) (d i:Nat) (v:α):T α:=@Nat.rec (λ_=>(N8 α)->Nat->Nat->α->T α) (λx _ i v=>sc1 α (T α) x i v T.t1) (λn _ x _ i v=>T.iO α (Nat.succ n) 1 x i v) (Nat.sub d 1) x d i v
def s2 (α:Type) (x:(N8 (N8 α))) (d i:Nat) (v:α):T α:=@Nat.rec (λ_=>(N8 (N8 α))->Nat->Nat->α->T α) (λx _ i v=>sc2 α (T α) x i v T.t2) (λn _ x _ i v=>T.iO α (Nat.succ n) 2 x i v) (Nat.sub d 2) x d i v
def s3 (α:Type) (x:(N8 (N8 (N8 α)))) (d i:Nat) (v:α):T α:=@Nat.rec (λ_=>(N8 (N8 (N8 α)))->Nat->Nat->α->T α) (λx _ i v=>sc3 α (T α) x i v T.t3) (λn _ x _ i v=>T.iO α (Nat.succ n) 3 x i v) (Nat.sub d 3) x d i v
def s4 (α:Type) (x:(N8 (N8 (N8 (N8 α))))) (d i:Nat) (v:α):T α:=@Nat.rec (λ_=>(N8 (N8 (N8 (N8 α))))->Nat->Nat->α->T α) (λx _ i v=>sc4 α (T α) x i v T.t4) (λn _ x _ i v=>T.iO α (Nat.succ n) 4 x i v) (Nat.sub d 4) x d i v
def s5 (α:Type) (x:(N8 (N8 (N8 (N8 (N8 α)))))) (d i:Nat) (v:α):T α:=@Nat.rec (λ_=>(N8 (N8 (N8 (N8 (N8 α)))))->Nat->Nat->α->T α) (λx _ i v=>sc5 α (T α) x i v T.t5) (λn _ x _ i v=>T.iO α (Nat.succ n) 5 x i v) (Nat.sub d 5) x d i v
def s6 (α:Type) (x:(N8 (N8 (N8 (N8 (N8 (N8 α))))))) (d i:Nat) (v:α):T α:=@Nat.rec (λ_=>(N8 (N8 (N8 (N8 (N8 (N8 α))))))->Nat->Nat->α->T α) (λx _ i v=>sc6 α (T α) x i v T.t6) (λn _ x _ i v=>T.iO α (Nat.succ n) 6 x i v) (Nat.sub d 6) x d i v
def z1 (α:Type) (a:α) (i:Nat) (v:α):T α:=sc1 α (T α) (kZ α a) i v T.t1
def z2 (α:Type) (a:α) (i:Nat) (v:α):T α:=sc2 α (T α) (kZ (N8 α) (kZ α a)) i v T.t2
def z3 (α:Type) (a:α) (i:Nat) (v:α):T α:=sc3 α (T α) (kZ (N8 (N8 α)) (kZ (N8 α) (kZ α a))) i v T.t3
def z4 (α:Type) (a:α) (i:Nat) (v:α):T α:=sc4 α (T α) (kZ (N8 (N8 (N8 α))) (kZ (N8 (N8 α)) (kZ (N8 α) (kZ α a)))) i v T.t4
def z5 (α:Type) (a:α) (i:Nat) (v:α):T α:=sc5 α (T α) (kZ (N8 (N8 (N8 (N8 α)))) (kZ (N8 (N8 (N8 α))) (kZ (N8 (N8 α)) (kZ (N8 α) (kZ α a))))) i v T.t5
def z6 (α:Type) (a:α) (i:Nat) (v:α):T α:=sc6 α (T α) (kZ (N8 (N8 (N8 (N8 (N8 α))))) (kZ (N8 (N8 (N8 (N8 α)))) (kZ (N8 (N8 (N8 α))) (kZ (N8 (N8 α)) (kZ (N8 α) (kZ α a)))))) i v T.t6
def s0 (α:Type) (a:α) (d i:Nat) (v:α):T α:=(@Nat.rec (λ_=>T α) (T.t0 v) (λn _=>(@Nat.rec (λ_=>T α) (z1 α a i v) (λn _=>(@Nat.rec (λ_=>T α) (z2 α a i v) (λn _=>(@Nat.rec (λ_=>T α) (z3 α a i v) (λn _=>(@Nat.rec (λ_=>T α) (z4 α a i v) (λn _=>(@Nat.rec (λ_=>T α) (z5 α a i v) (λn _=>(@Nat.rec (λ_=>T α) (z6 α a i v) (λn _=>(T.iO α d 0 a i v)) n)) n)) n)) n)) n)) n)) d)
def T.set {α:Type} (d:Nat) (t:T α) (i:Nat) (v:α):T α:=@T.rec α (λ_=>Nat->Nat->α->T α) (s0 α) (s1 α) (s2 α) (s3 α) (s4 α) (s5 α) (s6 α) (λdt x d i v=>T.iO α (Nat.sub d dt) dt x i v) t d i v
def Bc {α:Type} (b:Bool) (x y:α):α:=Bool.rec y x b
def Fz {α:Type} (n:Nat) (x:α):α:=@Nat.rec (λ_=>α) x (λ_ _=>x) n
inductive dB where
 |no
 |cells (t:T Value) (n:Nat) (ty:TypeId) (op:Nat) (lo hi:Nat)
 |obj (o:Obj)
 |loop (ready:Bool) (pending:Option Code) (nt:Nat) (t:T Value) (params:List Tmp) (assign body:Code) (defers:Nat)
inductive Hp where
 |mk (t:T dB) (nx:Nat)
 |fn (f:Nat->dB) (nx:Nat)
def dep (n:Nat):Nat:=Nat.succ (Nat.div (Nat.log2 n) 3)
def Hp.blk (H:Hp) (b:Nat):dB:=match H with|.mk t n=>Bc (Nat.blt b n) (t.get b) .no|.fn f n=>Bc (Nat.blt b n) (f b) .no
def Hp.nx (H:Hp):Nat:=match H with|.mk _ n=>n|.fn _ n=>n
def Hp.put (H:Hp) (b:Nat) (x:dB):Hp:=match H with|.mk t n=>.mk (T.set 5 t b x) n|.fn f n=>.fn (λc=>Bc (Nat.beq c b) x (f c)) n
def Hp.push (H:Hp) (x:dB):Hp:=match H with|.mk t n=>.mk (T.set 5 t n x) (Nat.succ n)|.fn f n=>.fn (λc=>Bc (Nat.beq c n) x (f c)) (Nat.succ n)
def Hp.room (H:Hp):Bool:=match H with|.mk _ n=>Nat.blt n 32768|.fn _ _=>true
def QJ (d:Nat):List Value->Nat->T Value->T Value
 | [],_,t=>t
 |v::vs,i,t=>QJ d vs (Nat.succ i) (T.set d t i v)
def rP (t:T Value):Nat->Nat->List Value
 |0,_=>[]
 |k+1,i=>t.get i::rP t k (Nat.succ i)
def U:Value:=.tuple #[]
def aG (cs:List Value) (ty:TypeId) (op:Nat):dB :=
 match cs with
 | []=>.cells (.e U) 0 ty op 0 0
 | [v]=>.cells (.e v) 1 ty op 0 0
 |_=>.cells (QJ (dep cs.length) cs 0 (.e U)) cs.length ty op 0 0
structure Tb where
 eN:Nat->Option TypeDesc
 info:Nat->Option TypeInfo
 fn:Nat->Option Func
 Xu:List Nat
 ng:Nat
 CL:Nat->List (Nat×Nat×Nat)
 uni:Nat->Option (Nat×Value)
 hk:Nat->Code->Bool
 lp:Code->T Value->Hp->Option (T Value×Hp×Nat×Nat×Nat)
 Cw:String->List (Nat×Nat):=λ_=>[]
inductive iG where
 |b|i|s|p|sl|m|f|ifc
inductive Ah where
 |one (l:iG)
 |many (n:Nat) (ps:List (Nat×iG))
inductive Xl where
 |bad
 |mv (x:Operand)
 |pick (c a b:Operand)
 |alloc (z:dB)
 |box (ty:TypeId) (x:Operand)
 |build (z:List Value) (ps:List (Nat×Nat×Operand))
 |eX (len:Nat) (ty:TypeId) (z:List Value) (ps:List (Nat×Nat×Operand))
 |jd (a:Operand)
 |uh (n:Nat) (a:Operand)
 |st (n:Nat) (a x:Operand)
 |dU (x:Operand)
 |bin (op:BinOp) (x y:Operand)
 |eq (neg:Bool) (p:Ah) (x y:Operand)
 |un (op:UnOp) (x:Operand)
 |jM (k:IntKind) (x:Operand)
 |aaJ (x:Operand)
 |aaG (ty:TypeId) (x:Operand)
 |Qn (x:Operand)
 |cSS (x:Operand)
 |Rx (x:Operand)
 |frU (l:List (Nat×Nat×Nat)) (x:Operand)
 |usd (x:Operand)
 |Rl (e:TypeId) (p n:Operand)
 |mkI (t:TypeId) (x:Operand)
 |mkF (fn:Fn) (first captured:List Operand)
 |Fk
 |O1 (ty:TypeId) (bytes:Nat) (z:List Value) (l c:Operand)
 |slS (x:Operand) (lo hi:Option Operand)
 |slL (sz:Nat) (x:Operand) (lo hi mx:Option Operand)
 |Ov (n sz:Nat) (x:Operand) (lo hi mx:Option Operand)
 |fa (off:Nat) (x:Operand)
 |fld (agg:Bool) (sz off:Nat) (x:Operand)
 |Z1 (n sz:Nat) (x i:Operand)
 |sJ (sz:Nat) (x i:Operand)
 |ixA (agg:Bool) (n sz:Nat) (x i:Operand)
 |A5 (x i:Operand)
 |lkp (z:Value) (ok:Bool) (p:Ah) (m k:Operand)
 |mup (p:Ah) (m k x:Operand)
 |YF (x:Operand)
 |YH (x:Operand)
 |Zf (it:Operand)
 |Zh (it:Operand)
 |tas (t:TypeId) (z:Value) (ok:Bool) (x:Operand)
 |ext (x:Operand) (i:Nat)
 |len (k:Nat) (x:Operand)
 |ZL (n:Nat)
 |cap (x:Operand)
 |app (ty:TypeId) (sz bytes:Nat) (s x:Operand)
 |copy (sz:Nat) (d x:Operand)
 |clear (z:List Value) (x:Operand)
 |min (x y:Operand)
 |max (x y:Operand)
 |Zy (x y z:Operand)
 |ZC (x y z:Operand)
 |del (p:Ah) (m k:Operand)
 |call (f:Operand) (args:List Operand)
 |inv (ms:List (Nat×Nat)) (r:Operand) (args:List Operand)
 |defer (f:Operand) (args:List Operand)
 |recover
 |panic (x:Operand)
structure CO where
 dst:Option Tmp
 guard:Option (Tmp×Bool)
 op:Xl
def bQ (v:Value):Bool:=match v with|.agg _=>false|.tuple _=>false|.chan none=>false|_=>true
def aW (n:Nat) (v:Value):Bool:=match n with
 |0=>false
 |n+1=>(match v with
  |.bool _=>true|.int _ _=>true|.string _=>true|.float _ _=>true|.complex _ _ _=>true
  |.pointer none=>true|.slice none _ _=>true|.map none=>true|.nilFunc=>true|.nilIface=>true
  |.agg a=>a.toList.all (λv=>aW n v&&bQ v)
  |.tuple a=>a.toList.all (aW n)
  |.iface _ v=>aW n v
  |.func (.func _) a b=>a.toList.isEmpty&&b.toList.isEmpty
  |_=>false)
def yQ (l:List Value):Bool:=l.all λv=>aW 10 v&&bQ v
section
variable (tb:Tb)
def dN (t:TypeId):Option Bool:=match tb.eN t with|some (.struct _)=>some true|some (.array _ _)=>some true|some _=>some false|none=>none
def eY (t:TypeId):Option Nat:=(tb.info t).map (·.size)
def lT (t:TypeId):Option (List Value):=match tb.info t with
 |some i=>(match i.zero with
  |some z=>(match yQ z.cells.toList with|true=>some z.cells.toList|false=>none)
  |none=>none)
 |none=>none
def zeroV (t:TypeId):Option Value:=match tb.info t with
 |some i=>(match i.zero with
  |some z=>(match aW 10 z with|true=>some z|false=>none)
  |none=>none)
 |none=>none
def nF (fields:Array Field):List (Nat×Operand)->Option (List (Nat×Nat×Operand))
 | []=>some []
 |(i,x)::rest=>match fields[i]? with
  |none=>none
  |some f=>match eY tb f.type with
   |none=>none
   |some s=>(nF fields rest).map λl=>(f.offset,s,x)::l
def oY (s:Nat):List (Nat×Operand)->List (Nat×Nat×Operand)
 | []=>[]
 |(i,x)::rest=>(i*s,s,x)::oY s rest
def qA (d:TypeDesc):Option iG:=match d with
 |.bool=>some .b|.int _=>some .i|.string=>some .s|.pointer e=>(match eY tb e with|some (_+1)=>some .p|_=>none)
 |.slice _=>some .sl|.map _ _=>some .m|.func _ _ _=>some .f|.interface _=>some .ifc
 |_=>none
def qp (k:Nat):List (Nat×iG)->List (Nat×iG)
 | []=>[]
 |(o,l)::r=>(k+o,l)::qp k r
def sS (f:TypeId->Option (List (Nat×iG))) (n:Nat):List Field->Option (List (Nat×iG))
 | []=>some []
 | x :: xs => if x.name = "_" then sS f n xs else (match f x.type, eY tb x.type, sS f n xs with
  |some a,some (s+1),some b=>if x.offset+(s+1)<=n then some (qp x.offset a++b)else none
  |_,_,_=>none)
def iY (d:Nat) (t:TypeId):Option (List (Nat×iG)):=match d with
 |0=>none
 |d+1=>(match tb.eN t with
  |some (.struct fs)=>if tb.Xu.contains t then (match eY tb t with|some n=>sS tb (iY d) n fs.toList|none=>none)else none
  |some (.array _ _)=>none
  |some x=>(match qA tb x with|some l=>some [(0,l)]|none=>none)
  |none=>none)
def V5 (t:TypeId):Option Ah:=match tb.eN t with
 |some (.struct _)=>(match iY tb 20 t,eY tb t with|some l,some n=>some (.many n l)|_,_=>none)
 |some (.array _ _)=>none
 |some d=>(match qA tb d with|some l=>some (.one l)|none=>none)
 |none=>none
def kP (t:TypeId):Option Ah:=match tb.eN t with
 |some (.int _)=>some (.one .i)
 |some .string=>some (.one .s)
 |some .bool=>some (.one .b)
 |_=>none
def gK:Operand->Bool|.const _=>true|_=>false
def y7 (neg:Bool) (t:TypeId) (x y:Operand):Xl:=match tb.eN t with
 |some (.interface ms)=>if gK x||gK y||ms.isEmpty then .eq neg (.one .ifc) x y else .bad
 |_=>(match V5 tb t with
  |some p=>.eq neg p x y
  |none=>.bad)
def at0 (at_:Array TypeId):Option TypeDesc:=match at_.toList with|t::_=>tb.eN t | []=>none
def at1 (at_:Array TypeId):Option TypeDesc:=match at_.toList with|_::t::_=>tb.eN t|_=>none
def GA (b:Builtin) (at_:Array TypeId) (args:List Operand):Xl :=
 match b,args with
 |.append,[s,x]=>match at0 tb at_,at1 tb at_ with
  |some (.slice _),some (.int _)=>.bad
  |some (.slice elem),some _=>match tb.info elem with
   |some i=>(match i.zero with
    |some z=>(match Nat.beq z.cells.toList.length i.size with
     |true=>.app elem i.size i.bytes s x
     |false=>.bad)
    |none=>.bad)
   |none=>.bad
  |_,_=>.bad
 |.len,[x]=>match at0 tb at_ with
  |some (.array n _)=>.ZL n
  |some .string=>.len 0 x
  |some (.slice _)=>.len 1 x
  |some (.map _ _)=>.len 2 x
  |_=>.bad
 |.cap,[x]=>match at0 tb at_ with
  |some (.slice _)=>.cap x
  |_=>.bad
 |.copy,[d,x]=>match at0 tb at_ with
  |some (.slice elem)=>match eY tb elem with
   |some s=>.copy s d x
   |none=>.bad
  |_=>.bad
 |.clear,[x]=>match at0 tb at_ with
  |some (.slice elem)=>match lT tb elem with
   |some z=>.clear z x
   |none=>.bad
  |_=>.bad
 |.min,[x,y]=>.min x y
 |.max,[x,y]=>.max x y
 |.min,[x,y,z]=>.Zy x y z
 |.max,[x,y,z]=>.ZC x y z
 |.recover,[]=>.recover
 |.unsafeSliceData,[x]=>.usd x
 |.unsafeString,[p,n]=>(match at0 tb at_ with
  |some (.pointer e)=>(match tb.eN e,eY tb e with
   |some (.int .u8),some 1=>.Rl e p n
   |_,_=>.bad)
  |_=>.bad)
 |.delete,[m,k]=>(match at0 tb at_ with
  |some (.map key _)=>(match kP tb key with
   |some p=>.del p m k
   |none=>.bad)
  |_=>.bad)
 |_,_=>.bad
def wP (t:TypeId) (m k x:Operand):Xl:=match tb.eN t with
 |some (.map key _)=>(match kP tb key with
  |some p=>.mup p m k x
  |none=>.bad)
 |_=>.bad
def cw (o:Oper):Xl :=
 match o.op with
 |.move x=>.mv x
 |.assign x=>.mv x
 |.pick c a b=>.pick c a b
 |.alloc elem=>match tb.uni elem with
  |some (n,v)=>.alloc (.cells (.e v) n elem 0 0 0)
  |none=>match lT tb elem with
   |some z=>.alloc (aG z elem 0)
   |none=>.bad
 |.box elem x=>.box elem x
 |.build t parts=>match tb.eN t,lT tb t with
  |some (.struct fields),some z=>match nF tb fields parts.toList,fields.toList.all (λf=>(eY tb f.type).isSome)with
   |some l,true=>.build z l
   |_,_=>.bad
  |some (.array _ elem),some z=>match eY tb elem with
   |some s=>.build z (oY s parts.toList)
   |none=>.bad
  |_,_=>.bad
 |.buildSlice t len parts=>match tb.eN t with
  |some (.slice elem)=>match eY tb elem,lT tb elem with
   |some s,some z=>Bc (Nat.beq z.length s&&Nat.ble (len*s) 16777216) (.eX len elem (List.replicate len z).flatten (oY s parts.toList)) .bad
   |_,_=>.bad
  |_=>.bad
 |.load t a=>(match dN tb t with
  |some true=>(match eY tb t with|some n=>.uh n a|none=>.bad)
  |some false=>.jd a
  |none=>.bad)
 |.store t a x=>match eY tb t with|some n=>.st n a x|none=>.bad
 |.nilCheck x=>.dU x
 |.binOp op t x y _=>(match op with
  |.eql=>y7 tb false t x y
  |.neq=>y7 tb true t x y
  |op=>.bin op x y)
 |.unOp op _ x=>.un op x
 |.convert src dst x=>match tb.eN src,tb.eN dst with
  |some (.int _),some (.int k)=>.jM k x
  |some (.int _),some .string=>.aaJ x
  |some .string,some .string=>.cSS x
  |some (.pointer e),some .unsafePointer=>(match eY tb e with|some (_+1)=>.Rx x|_=>.bad)
  |some .unsafePointer,some (.pointer u)=>(match eY tb u with|some (_+1)=>.frU (tb.CL u) x|_=>.bad)
  |some .string,some (.slice e)=>match tb.eN e with
   |some (.int .u8)=>.aaG e x
   |_=>.bad
  |some (.slice e),some .string=>match tb.eN e with
   |some (.int .u8)=>.Qn x
   |_=>.bad
  |_,_=>.bad
 |.makeInterface t x=>match tb.eN t with
  |some (.interface _)=>.bad
  |some _=>.mkI t x
  |none=>.bad
 |.makeFunc fn first captured=>(match fn with|.func f=>.mkF (.func f) first.toList captured.toList|_=>.bad)
 |.makeMap _ none=>.Fk
 |.makeMap t (some (.const (.int _ _)))=>(match tb.eN t with|some (.map _ _)=>.Fk|_=>.bad)
 |.makeSlice t l c=>match tb.eN t with
  |some (.slice elem)=>match lT tb elem,tb.info elem with
   |some z,some ti=>Bc (Nat.beq z.length ti.size) (.O1 elem ti.bytes z l c) .bad
   |_,_=>.bad
  |_=>.bad
 |.slice t x lo hi mx=>match tb.eN t with
  |some .string=>match mx with
   |none=>.slS x lo hi
   |some _=>.bad
  |some (.slice elem)=>match eY tb elem with
   |some sz=>.slL sz x lo hi mx
   |none=>.bad
  |some (.array n elem)=>match eY tb elem with
   |some sz=>.Ov n sz x lo hi mx
   |none=>.bad
  |_=>.bad
 |.fieldAddr s x f=>match tb.eN s with
  |some (.struct fields)=>match fields[f]? with
   |some fd=>match eY tb fd.type with
    |some (_+1)=>.fa fd.offset x
    |_=>.bad
   |none=>.bad
  |_=>.bad
 |.field s x f=>match tb.eN s with
  |some (.struct fields)=>match fields[f]? with
   |some fd=>match eY tb fd.type,dN tb fd.type with
    |some n,some ag=>.fld ag n fd.offset x
    |_,_=>.bad
   |none=>.bad
  |_=>.bad
 |.indexAddr t x ix=>match tb.eN t with
  |some (.array n elem)=>match eY tb elem with
   |some sz=>.Z1 n sz x ix
   |none=>.bad
  |some (.slice elem)=>match eY tb elem with
   |some sz=>.sJ sz x ix
   |none=>.bad
  |_=>.bad
 |.index t x ix=>match tb.eN t with
  |some (.array n elem)=>match eY tb elem,dN tb elem with
   |some sz,some ag=>.ixA ag n sz x ix
   |_,_=>.bad
  |some .string=>.A5 x ix
  |_=>.bad
 |.lookup t m k ok=>match tb.eN t with
  |some (.map key elem)=>match zeroV tb elem,kP tb key with
   |some z,some p=>.lkp z ok p m k
   |_,_=>.bad
  |_=>.bad
 |.mapUpdate t m k x=>wP tb t m k x
 |.insert t m k x=>wP tb t m k x
 |.range t x=>match tb.eN t with
  |some .string=>.YF x
  |some (.map _ _)=>.YH x
  |_=>.bad
 |.next it true=>.Zf it
 |.next it false=>.Zh it
 |.typeAssert x _ t ok=>match tb.eN t with
  |some (.interface _)=>.bad
  |some _=>match zeroV tb t with
   |some z=>.tas t z ok x
   |none=>.bad
  |none=>.bad
 |.extract t i=>.ext t i
 |.call c=>match c.callee with
  |.builtin b=>GA tb b c.argTypes c.args.toList
  |.value f=>.call f c.args.toList
  |.invoke r n=>.inv (tb.Cw n) r c.args.toList
 |.defer c=>match c.callee with
  |.value f=>.defer f c.args.toList
  |_=>.bad
 |.panic x=>.panic x
 |_=>.bad
def JR (ops:Array Oper) (g:Option (Nat×Bool)):Option (Option (Tmp×Bool)) :=
 match g with
 |none=>some none
 |some (j,w)=>match (ops[j]?).bind (·.dst)with
  |some d=>some (some (d,w))
  |none=>none
def qw (nt:Nat) (x:Operand):Bool:=match x with
 |.tmp t=>Nat.blt t nt
 |.const v=>aW 10 v
 |.global g=>Nat.blt g tb.ng
 |.func _=>true
def HY (nt:Nat) (o:Oper) (g:Option (Tmp×Bool)):Bool :=
 o.op.operands.toList.all (qw tb nt)&&(match o.dst with|some d=>Nat.blt d nt|none=>true)&&(match g with|some (d,_)=>Nat.blt d nt|none=>true)
def mK (nt:Nat) (ops:Array Oper) (o:Oper):CO:=match JR ops o.guard with
 |some g=>(match HY tb nt o g with
  |true=>⟨o.dst,g,cw tb o⟩
  |false=>⟨none,none,.bad⟩)
 |none=>⟨none,none,.bad⟩
def bV (nt:Nat) (ops:Array Oper):List Oper->List CO
 | []=>[]
 |o::rest=>mK tb nt ops o::bV nt ops rest
def looksAt (ops:Array Oper) (o:Oper):List Tmp :=
 (o.op.operands.toList.filterMap λ| .tmp t=>some t|_=>none) ++
 (match o.guard with
  |some (g,_)=>((ops[g]?).bind (·.dst)).toList
  |none=>[])
def uK (ops:Array Oper) (x y:Oper):Bool :=
 (match x.dst with
  |some d=>!(looksAt ops y).contains d&&y.dst != some d
  |none=>true) &&
 (match y.dst with
  |some d=>!(looksAt ops x).contains d
  |none=>true)
def AL (o:Oper):Bool:=match o.op with
 |.defer _=>false
 |.select _ _=>false
 |_=>true
def ew (ops:Array Oper) (B:Array Nat):Bool :=
 ops.toList.all AL&&((List.range ops.size).all λj=>(ops.getD j default).after.all λe=>!Region.binds .any e||Nat.blt e.on j)&&(List.range ops.size).all λj=>(List.range j).all λi =>
  (B.getD j 0).testBit i||uK ops (ops.getD i default) (ops.getD j default)
end
inductive R where
 |fail
 |val (v:Value) (H:Hp) (r w:Nat)
 |call (f:FuncId) (args:List Value)
 |round (l:Nat) (args:List Value)
 |panic (v:Value)
 |defer (d:Deferred)
 |recover
def bit (b:Nat):Nat:=Nat.shiftLeft 1 b
def R.v (x:Value) (H:Hp):R:=.val x H 0 0
def R.o (x:Option Value) (H:Hp):R:=match x with|some v=>.val v H 0 0|none=>.fail
def aA (t:T Value) (x:Operand):Value :=
 match x with
 |.tmp i=>t.get i
 |.const v=>v
 |.global g=>.pointer (some ⟨g,0,none⟩)
 |.func f=>.func (.func f) #[] #[]
def de (t:T Value):List Operand->List Value
 | []=>[]
 |x::xs=>aA t x::de t xs
def dR (t:T Value):Option Operand->Option Value
 |none=>none
 |some x=>some (aA t x)
def eZ (v:Value):Option (Nat×Nat):=match v with
 |.pointer (some ⟨b,o,none⟩)=>some (b,o)
 |_=>none
def J8 (v:Value):Option Int:=match v with|.int _ n=>some n|_=>none
def GN (v:Value):Option (IntKind×Int):=match v with|.int k n=>some (k,n)|_=>none
def zC (v:Value):Option Bool:=match v with|.bool b=>some b|_=>none
def QN (v:Value):Option ByteArray:=match v with|.string s=>some s|_=>none
def asM (v:Value):Option (Option Nat):=match v with|.map r=>some r|_=>none
def W8 (v:Value):Option (List Value):=match v with|.agg a=>some a.toList|_=>none
def tZ (n:Int):Option Nat:=match n with|.ofNat m=>some m|.negSucc _=>none
def gX (v:Value):Option (List Value):=match v with|.agg a=>some a.toList|.tuple _=>none|.chan none=>none|v=>some [v]
def qR (v:Value):Option (Option (Nat×Nat)×Nat×Nat×Bool):=match v with
 |.slice none l c=>some (none,l,c,false)
 |.slice (some ⟨b,o,none⟩) l c=>some (some (b,o),l,Nat.div c 2,Nat.beq (Nat.mod c 2) 1)
 |_=>none
def c_ (a:Option (Nat×Nat)) (l c:Nat) (op:Bool):Value:=match a with
 |none=>.slice none l c
 |some (b,o)=>.slice (some ⟨b,o,none⟩) l (Bc op (Nat.succ (Nat.mul 2 c)) (Nat.mul 2 c))
def C5 (k:IntKind):Nat:=match k with
 |.i8=>127|.i16=>32767|.i32=>2147483647|.i64=>9223372036854775807
 |.u8=>255|.u16=>65535|.u32=>4294967295|.u64=>18446744073709551615
def aN (k:IntKind) (n:Int):Int:=match n with
 |.ofNat m=>Bc (Nat.ble m (C5 k)) (.ofNat m) (k.wrap (.ofNat m))
 |.negSucc m=>Bc (k.signed&&Nat.ble m (C5 k)) (.negSucc m) (k.wrap (.negSucc m))
def pW (x y:Int):Bool:=match x with
 |.ofNat a=>(match y with|.ofNat b=>Nat.blt a b|.negSucc _=>false)
 |.negSucc a=>(match y with|.ofNat _=>true|.negSucc b=>Nat.blt b a)
def nQ (x y:Int):Bool:=match x with
 |.ofNat a=>(match y with|.ofNat b=>Nat.beq a b|.negSucc _=>false)
 |.negSucc a=>(match y with|.ofNat _=>false|.negSucc b=>Nat.beq a b)
def tD (a b:IntKind):Bool:=match a with
 |.i8=>(match b with|.i8=>true|_=>false)|.i16=>(match b with|.i16=>true|_=>false)
 |.i32=>(match b with|.i32=>true|_=>false)|.i64=>(match b with|.i64=>true|_=>false)
 |.u8=>(match b with|.u8=>true|_=>false)|.u16=>(match b with|.u16=>true|_=>false)
 |.u32=>(match b with|.u32=>true|_=>false)|.u64=>(match b with|.u64=>true|_=>false)
def qk (op:BinOp) (k:IntKind) (x y:Int):Value :=
 match x,y with
 |.ofNat a,.ofNat b=>(match op with
  |.and=>.int k (aN k (.ofNat (Nat.land a b)))
  |.or=>.int k (aN k (.ofNat (Nat.lor a b)))
  |.xor=>.int k (aN k (.ofNat (Nat.xor a b)))
  |_=>.int k (k.wrap (BitVec.ofInt k.bits x &&& ~~~ (BitVec.ofInt k.bits y)).toNat))
 |_,_=>(match op with
  |.and=>.int k (k.wrap (BitVec.ofInt k.bits x &&& BitVec.ofInt k.bits y).toNat)
  |.or=>.int k (k.wrap (BitVec.ofInt k.bits x ||| BitVec.ofInt k.bits y).toNat)
  |.xor=>.int k (k.wrap (BitVec.ofInt k.bits x ^^^ BitVec.ofInt k.bits y).toNat)
  |_=>.int k (k.wrap (BitVec.ofInt k.bits x &&& ~~~ (BitVec.ofInt k.bits y)).toNat))
def iz (op:BinOp) (k:IntKind) (x y:Int):Option Value :=
 match op with
 |.add=>some (.int k (aN k (Int.add x y)))
 |.sub=>some (.int k (aN k (Int.sub x y)))
 |.mul=>some (.int k (aN k (Int.mul x y)))
 |.quo=>Bc (nQ y 0) none (some (.int k (aN k (x.tdiv y))))
 |.rem=>Bc (nQ y 0) none (some (.int k (x.tmod y)))
 |.eql=>some (.bool (nQ x y))|.neq=>some (.bool (!(nQ x y)))|.lss=>some (.bool (pW x y))|.leq=>some (.bool (!(pW y x)))
 |.gtr=>some (.bool (pW y x))|.geq=>some (.bool (!(pW x y)))
 |.and=>some (qk .and k x y)
 |.or=>some (qk .or k x y)
 |.xor=>some (qk .xor k x y)
 |.andNot=>some (qk .andNot k x y)
 |.shl=>Bc (pW y 0) none (some (.int k (k.wrap (x*2 ^ (min y.toNat k.bits)))))
 |.shr=>Bc (pW y 0) none (some (.int k (x.fdiv (2 ^ (min y.toNat k.bits)))))
def p8:List UInt8->List UInt8->Bool
 | [],[]=>true
 |a::x,b::y=>Bc (Nat.beq a.toNat b.toNat) (p8 x y) false
 |_,_=>false
def Iz:List UInt8->List UInt8->Bool
 |_,[]=>false
 | [],_::_=>true
 |a::x,b::y=>Bc (Nat.blt a.toNat b.toNat) true (Bc (Nat.beq a.toNat b.toNat) (Iz x y) false)
def xk (op:BinOp) (x y:ByteArray):Option Value :=
 match op with
 |.add=>Bc (Nat.ble (x.data.toList.length+y.data.toList.length) 1073741824) (some (.string ⟨⟨x.data.toList++y.data.toList⟩⟩)) none
 |.eql=>some (.bool (p8 x.data.toList y.data.toList))
 |.neq=>some (.bool (!(p8 x.data.toList y.data.toList)))
 |.lss=>some (.bool (Iz x.data.toList y.data.toList))
 |.leq=>some (.bool (!(Iz y.data.toList x.data.toList)))
 |.gtr=>some (.bool (Iz y.data.toList x.data.toList))
 |.geq=>some (.bool (!(Iz x.data.toList y.data.toList)))
 |_=>none
def cu (l:iG) (x y:Value):Option Bool:=match l with
 |.b=>(match x with|.bool a=>(match y with|.bool b=>some (Bc a b (!b))|_=>none)|_=>none)
 |.i=>(match x with|.int j a=>(match y with|.int k b=>Bc (tD j k) (some (nQ a b)) none|_=>none)|_=>none)
 |.s=>(match x with|.string a=>(match y with|.string b=>some (p8 a.data.toList b.data.toList)|_=>none)|_=>none)
 |.p=>(match x with
  |.pointer none=>(match y with|.pointer b=>some b.isNone|_=>none)
  |.pointer (some ⟨b,o,none⟩)=>(match y with
   |.pointer none=>some false
   |.pointer (some ⟨c,p,none⟩)=>Bc (Nat.beq b c) (some (Nat.beq o p)) none
   |_=>none)
  |_=>none)
 |.sl=>(match x with
  |.slice none _ _=>(match y with|.slice b _ _=>some b.isNone|_=>none)
  |.slice (some _) _ _=>(match y with|.slice none _ _=>some false|_=>none)
  |_=>none)
 |.m=>(match x with
  |.map none=>(match y with|.map b=>some b.isNone|_=>none)
  |.map (some _)=>(match y with|.map none=>some false|_=>none)
  |_=>none)
 |.f=>(match x with
  |.nilFunc=>(match y with|.nilFunc=>some true|.func _ _ _=>some false|_=>none)
  |.func _ _ _=>(match y with|.nilFunc=>some false|_=>none)
  |_=>none)
 |.ifc=>(match x with
  |.nilIface=>(match y with|.nilIface=>some true|.iface _ _=>some false|_=>none)
  |.iface _ _=>(match y with|.nilIface=>some false|_=>none)
  |_=>none)
def ga (xs ys:List Value):List (Nat×iG)->Option Bool
 | []=>some true
 |(o, l)::rest=>(match xs[o]? with
  |some x=>(match ys[o]? with
   |some y=>(match cu l x y with
    |some true=>ga xs ys rest
    |some false=>some false
    |none=>none)
   |none=>none)
  |none=>none)
def V2 (p:Ah) (x y:Value):Option Bool:=match p with
 |.one l=>cu l x y
 |.many n ps=>(match x with
  |.agg a=>(match y with|.agg b=>Bc (Nat.beq a.toList.length n&&Nat.beq b.toList.length n) (ga a.toList b.toList ps) none|_=>none)
  |_=>none)
inductive er where
 |bin (op:BinOp)|eq (l:iG)|neg|jM (k:IntKind)|chr|len|A5|mm (lo:Bool)|str
class tf where
 hk:er->List Value->Option Value
def YY [tf] (x:Option Value) (h:er) (l:List Value):Option Value:=match x with|some v=>some v|none=>tf.hk h l
def WV (x:Option Value):Option Bool:=match x with|some (.bool b)=>some b|_=>none
def hkE [tf] (p:Ah) (x y:Value):Option Bool:=match p with|.one l=>WV (tf.hk (.eq l) [x,y])|_=>none
def orE [tf] (z:Option Bool) (p:Ah) (x y:Value):Option Bool:=match z with|some b=>some b|none=>hkE p x y
def jo [tf] (neg:Bool) (p:Ah) (x y:Value) (H:Hp):R:=match orE (V2 p x y) p x y with
 |some b=>R.v (.bool (Bc neg (!b) b)) H
 |none=>.fail
def gD (op:BinOp) (x y:Value):Option Value :=
 match x with
 |.int k a=>(match y with
  |.int k' b=>(match op with
   |.shl=>iz .shl k a b
   |.shr=>iz .shr k a b
   |op=>Bc (tD k k') (iz op k a b) none)
  |_=>none)
 |.string a=>(match y with|.string b=>xk op a b|_=>none)
 |_=>none
def dK [tf] (op:BinOp) (x y:Value):Option Value:=YY (gD op x y) (.bin op) [x,y]
variable [tf]
def bH (t:T Value) (cells:List Value):List (Nat×Nat×Operand)->Option (List Value)
 | []=>some cells
 |(off,size,x)::rest =>
  (match gX (aA t x)with
  |some vs=>Bc (Nat.beq vs.length size&&Nat.ble (off+size) cells.length)
   (bH t (cells.take off++(vs++cells.drop (off+size))) rest) none
  |none=>none)
def R.pt (b o:Nat) (H:Hp) (r w:Nat):R:=.val (.pointer (some ⟨b,o,none⟩)) H r w
def OG (H:Hp) (b o:Nat):Option Value:=match H.blk b with
 |.cells t n _ _ _ _=>Bc (Nat.blt o n) (some (t.get o)) none
 |_=>none
def qU (H:Hp) (b o k:Nat):Option (List Value):=match H.blk b with
 |.cells t n _ _ _ _=>Bc (Nat.ble (o+k) n) (some (rP t k o)) none
 |_=>none
def iu (o k lo hi:Nat):Bool:=Nat.ble hi lo||Nat.ble (o+k) lo||Nat.ble hi o
def N3 (H:Hp) (b o:Nat) (vs:List Value):Option Hp:=match H.blk b with
 |.cells t n ty op lo hi=>Bc (Nat.ble (o+vs.length) n&&iu o vs.length lo hi) (some (H.put b (.cells (QJ (dep n) vs o t) n ty op lo hi))) none
 |_=>none
def tM (a b:Value):Bool:=match a with
 |.int .u8 (.ofNat x)=>(match b with|.int .u8 (.ofNat y)=>Nat.beq x y|_=>false)
 |_=>false
def wrS (d:Nat):List Value->Nat->T Value->T Value
 | [],_,t=>t
 |v::vs,i,t=>Bc (tM (t.get i) v) (wrS d vs (Nat.succ i) t) (T.fz (T.set d t i v) λt=>wrS d vs (Nat.succ i) t)
def G8 (H:Hp) (b o:Nat) (vs:List Value):Option Hp:=match H.blk b with
 |.cells t n ty op lo hi=>Bc (Nat.ble (o+vs.length) n&&iu o vs.length lo hi) (some (H.put b (.cells (wrS (dep n) vs o t) n ty op lo hi))) none
 |_=>none
def dA (v:Value) (H:Hp):R:=match eZ v with
 |some (b,o)=>(match OG H b o with|some x=>.val x H (bit b) 0|none=>.fail)
 |none=>.fail
def ia (n:Nat) (v:Value) (H:Hp):R:=match eZ v with
 |some (b,o)=>(match qU H b o n with|some l=>.val (.agg ⟨l⟩) H (bit b) 0|none=>.fail)
 |none=>.fail
def i_ (n:Nat) (a x:Value) (H:Hp):R:=match eZ a with
 |some (b,o)=>(match gX x with
  |some vs=>Bc (Nat.beq vs.length n) (match N3 H b o vs with|some H'=>.val U H' 0 (bit b)|none=>.fail) .fail
  |none=>.fail)
 |none=>.fail
def qH (c a b:Value) (H:Hp):R:=match zC c with
 |some t=>R.v (Bc t a b) H
 |none=>.fail
def aS (x:dB) (H:Hp) (f:Nat->Value) (r w:Nat):R:=match H with
 |.mk t n=>Bc (Nat.blt n 32768) (.val (f n) (.mk (T.set 5 t n x) (Nat.succ n)) r w) .fail
 |.fn g n=>.val (f n) (.fn (λc=>Bc (Nat.beq c n) x (g c)) (Nat.succ n)) r w
def ptrTo (n:Nat):Value:=.pointer (some ⟨n,0,none⟩)
def mF (v:Value) (H:Hp):R:=match v with
 |.pointer none=>.fail|.nilIface=>.fail|.nilFunc=>.fail|.chan _=>.fail
 |.func (.method _) _ _=>.fail
 |x=>R.v x H
def Jy (op:UnOp) (v:Value) (H:Hp):R:=match op with
 |.neg=>R.o (YY (match GN v with|some (k,n)=>some (.int k (aN k (Int.sub 0 n)))|none=>none) .neg [v]) H
 |.xor=>(match GN v with|some (k,n)=>R.v (qk .xor k (Bc k.signed (-1) k.max) n) H|none=>.fail)
 |.not=>(match zC v with|some b=>R.v (.bool (!b)) H|none=>.fail)
 |_=>.fail
def XD (x:Option Value) (dflt hi:Nat):Option Nat:=match x with
 |none=>some dflt
 |some v=>(match J8 v with
  |some n=>(match tZ n with|some m=>Bc (Nat.ble m hi) (some m) none|none=>none)
  |none=>none)
def bounds (len cap:Nat) (lo hi mx:Option Value):Option (Nat×Nat×Nat) :=
 match Bc (mx.isSome&&hi.isNone) none (XD mx cap cap)with
 |none=>none
 |some m=>(match XD hi len m with
  |none=>none
  |some h=>(match XD lo 0 h with
   |none=>none
   |some l=>some (l,h,m)))
def Ni (sz:Nat) (a:Option (Nat×Nat)) (l h m:Nat) (H:Hp):R:=match a with
 |none=>.fail
 |some (b,o)=>(match H.blk b with
  |.cells _ _ _ op _ _=>Bc (Nat.beq op (Nat.succ sz)) (.val (c_ (some (b,o+l*sz)) (h-l) (m-l) true) H (bit b) 0) .fail
  |_=>.fail)
def acW (a:Option (Nat×Nat)) (k:Nat):Option (Nat×Nat):=match a with|none=>none|some (b,o)=>some (b,o+k)
def Nj (sz:Nat) (x:Value) (lo hi mx:Option Value) (H:Hp):R:=match qR x with
 |none=>.fail
 |some (a,len,cap,op)=>(match bounds len cap lo hi mx with
  |none=>.fail
  |some (l,h,m) =>
   Bc (op&&mx.isNone)
    (Bc (Nat.beq l 0) (R.v (c_ a (h-l) (m-l) true) H) (Bc (Nat.ble m l) .fail (Ni sz a l h m H)))
    (Bc (Nat.beq m l) (R.v (c_ a (h-l) (m-l) false) H) (R.v (c_ (acW a (l*sz)) (h-l) (m-l) false) H)))
def yS (n sz:Nat) (x:Value) (lo hi mx:Option Value) (H:Hp):R:=match eZ x with
 |none=>.fail
 |some (b,o)=>(match bounds n n lo hi mx with
  |none=>.fail
  |some (l,h,m)=>Bc (Nat.beq m l) (R.v (c_ (some (b,o)) (h-l) (m-l) false) H) (R.v (c_ (some (b,o+l*sz)) (h-l) (m-l) false) H))
def Nh (x:Value) (lo hi:Option Value) (H:Hp):R:=match QN x with
 |none=>.fail
 |some s=>(match bounds s.data.toList.length s.data.toList.length lo hi none with
  |none=>.fail
  |some (l,h,_)=>R.v (.string ⟨⟨(s.data.toList.drop l).take (h-l)⟩⟩) H)
def P4 (off:Nat) (x:Value) (H:Hp):R:=match eZ x with
 |some (b,o)=>R.pt b (o+off) H 0 0
 |none=>.fail
def nO (agg:Bool) (sz off:Nat) (x:Value) (H:Hp):R:=match W8 x with
 |none=>.fail
 |some l=>Bc agg (Bc (Nat.ble (off+sz) l.length) (R.v (.agg ⟨(l.drop off).take sz⟩) H) .fail) (R.o l[off]? H)
def idx (i:Value) (n:Nat):Option Nat:=match J8 i with
 |some j=>(match tZ j with|some m=>Bc (Nat.blt m n) (some m) none|none=>none)
 |none=>none
def nM (n sz:Nat) (x i:Value) (H:Hp):R:=match eZ x with
 |some (b,o)=>(match idx i n with|some m=>R.pt b (o+m*sz) H 0 0|none=>.fail)
 |none=>.fail
def eT (sz:Nat) (x i:Value) (H:Hp):R:=match qR x with
 |some (some (b,o),n,_,_)=>(match idx i n with|some m=>R.pt b (o+m*sz) H 0 0|none=>.fail)
 |_=>.fail
def kS (x i:Value) (H:Hp):R:=match QN x with
 |some s=>(match idx i s.data.toList.length with
  |some m=>(match s.data.toList[m]? with|some c=>R.v (.int .u8 (.ofNat c.toNat)) H|none=>.fail)
  |none=>.fail)
 |none=>R.o (tf.hk .A5 [x,i]) H
def Bp (agg:Bool) (n sz:Nat) (x i:Value) (H:Hp):R:=match idx i n with
 |some m=>nO agg sz (m*sz) x H
 |none=>.fail
def Bo (p:Ah) (k:Value):List MapEntry->Nat->Option (Option (Nat×Value))
 | [],_=>some none
 |e::es,i=>match V2 p k e.key with
  |some true=>some (some (i,e.val))
  |some false=>Bo p k es (Nat.succ i)
  |none=>none
def mapOf (H:Hp) (r:Nat):Option (Array MapEntry×Nat):=match H.blk r with
 |.obj (.map es c)=>some (es,c)
 |_=>none
def Nk (z:Value) (ok:Bool) (p:Ah) (m k:Value) (H:Hp):R:=match asM m with
 |none=>.fail
 |some none=>R.v (Bc ok (.tuple #[z,.bool false]) z) H
 |some (some r)=>(match mapOf H r with
  |none=>.fail
  |some (es,_)=>(match Bo p k es.toList 0 with
   |some (some (_,x))=>.val (Bc ok (.tuple #[x,.bool true]) x) H (bit r) 0
   |some none=>.val (Bc ok (.tuple #[z,.bool false]) z) H (bit r) 0
   |none=>.fail))
def Gj (p:Ah) (m k x:Value) (H:Hp):R:=match asM m with
 |some (some r)=>(match mapOf H r with
  |none=>.fail
  |some (es,c)=>(match Bo p k es.toList 0 with
   |some (some (i,_))=>.val U (H.put r (.obj (.map ⟨es.toList.modify i λe=>{ e with key:=k,val:=x }⟩ c))) 0 (bit r)
   |some none=>.val U (H.put r (.obj (.map ⟨es.toList++[{ key:=k,val:=x,born:=c }]⟩ (Nat.succ c)))) 0 (bit r)
   |none=>.fail))
 |_=>.fail
def Gl (p:Ah) (m k:Value) (H:Hp):R:=match asM m with
 |none=>.fail
 |some none=>R.v (.tuple #[]) H
 |some (some r)=>(match mapOf H r with
  |none=>.fail
  |some (es,c)=>(match Bo p k es.toList 0 with
   |some (some (i,_))=>.val (.tuple #[]) (H.put r (.obj (.map ⟨es.toList.eraseIdx i⟩ c))) 0 (bit r)
   |some none=>.val (.tuple #[]) H 0 (bit r)
   |none=>.fail))
def Dy (x:Value) (H:Hp):R:=match asM x with
 |none=>.fail
 |some none=>aS (.obj (.mapIter none 0 #[] 0)) H ptrTo 0 0
 |some (some m)=>(match mapOf H m with
  |none=>.fail
  |some (_,c)=>aS (.obj (.mapIter (some m) c #[] c)) H ptrTo (bit m) 0)
def yT (x:Value) (H:Hp):R:=match eZ x with
 |some (r,0)=>(match H.blk r with
  |.obj (.stringIter s pos)=>Bc (Nat.blt pos s.data.toList.length)
   (match Utf8.decode s pos with
    |(c,width)=>.val (.tuple #[.bool true,.int .i64 (.ofNat pos),.int .i32 (.ofNat c)]) (H.put r (.obj (.stringIter s (pos+width)))) 0 (bit r))
   (.val (.tuple #[.bool false]) H 0 (bit r))
  |_=>.fail)
 |_=>.fail
def yU (x:Value) (H:Hp):R:=match eZ x with
 |some (r,0)=>(match H.blk r with
  |.obj (.mapIter none _ _ _)=>.val (.tuple #[.bool false]) H 0 (bit r)
  |.obj (.mapIter (some m) since seen last)=>(match mapOf H m with
   |none=>.fail
   |some (es,clock) =>
    if !seen.isEmpty&&!es.isEmpty&&es.all (·.born ≥ last)then .fail else
    let left:=es.toList.filter λe=>!seen.contains e.born
    if left.any (·.born ≥ since)then .fail else
    match left with
    | []=>.val (.tuple #[.bool false]) H (bit m) (bit r)
    | [e]=>.val (.tuple #[.bool true,e.key,e.val]) (H.put r (.obj (.mapIter (some m) since (seen.push e.born) clock))) (bit m) (bit r)
    |_=>.fail)
  |_=>.fail)
 |_=>.fail
def Ng (t:TypeId) (z:Value) (ok:Bool) (x:Value) (H:Hp):R:=match x with
 |.nilIface=>Bc ok (R.v (.tuple #[z,.bool false]) H) .fail
 |.iface u v=>Bc (Nat.beq t u) (R.v (Bc ok (.tuple #[v,.bool true]) v) H) (Bc ok (R.v (.tuple #[z,.bool false]) H) .fail)
 |_=>.fail
def qi (x:Value) (i:Nat) (H:Hp):R:=match x with|.tuple vs=>R.o vs.toList[i]? H|_=>.fail
def fY (k:Nat) (x:Value) (H:Hp):R:=match x with
 |.string s=>Bc (Nat.beq k 0) (R.v (.int .i64 (.ofNat s.data.toList.length)) H) .fail
 |.slice _ n _=>Bc (Nat.beq k 1) (R.v (.int .i64 (.ofNat n)) H) .fail
 |.map none=>Bc (Nat.beq k 2) (R.v (.int .i64 0) H) .fail
 |.map (some r)=>Bc (Nat.beq k 2) (match mapOf H r with|some (es,_)=>.val (.int .i64 (.ofNat es.toList.length)) H (bit r) 0|none=>.fail) .fail
 |.chan c=>Bc (Nat.beq k 0) (R.o (tf.hk .len [.chan c]) H) .fail
 |_=>.fail
def Nn (x:Value) (H:Hp):R:=match qR x with
 |some (_,_,c,false)=>R.v (.int .i64 (.ofNat c)) H
 |_=>.fail
def gb (l:List UInt8):List Value:=l.map λb=>.int .u8 (.ofNat b.toNat)
def Up (v:Value):Bool:=match v with|.int .u8 _=>true|_=>false
def af1 (v:Value):UInt8:=match v with|.int _ n=>UInt8.ofNat n.toNat|_=>0
def strOf (l:List Value):Option (List UInt8):=Bc (l.all Up) (some (l.map af1)) none
def zD (l:List Value):Option Value:=YY (match strOf l with|some s=>some (.string ⟨⟨s⟩⟩)|none=>none) .str l
def CM (x:Value):Option Nat:=match x with|.slice _ n _=>some n|.string s=>some s.data.toList.length|_=>none
def eI (H:Hp) (sz n:Nat) (x:Value):Option (List Value×Nat):=match x with
 |.slice none _ _=>Bc (Nat.beq n 0) (some ([],0)) none
 |.slice (some ⟨_,_,some _⟩) _ _=>Bc (Nat.beq n 0) (some ([],0)) none
 |.slice (some ⟨b,o,none⟩) _ _=>(match qU H b o (n*sz)with|some l=>some (l,bit b)|none=>none)
 |.string s=>Bc (Nat.beq sz 1) (some (gb (s.data.toList.take n),0)) none
 |_=>none
def gq (need bytes:Nat):Bool:=Nat.ble ((2*need+768)*bytes) 140737488355328&&Nat.ble need 140737488355328
def frB (str:Bool) (lo hi:Nat) (b:dB):dB:=match b with|.cells t n ty op _ _=>Bc str (.cells t n ty op 1 0) (.cells t n ty op lo hi)|b=>b
def iQ (ty:TypeId) (sz bytes:Nat) (s x:Value) (H:Hp):R :=
 match CM x,qR s with
 |some n, some (a,len,cap,op)=>(match eI H sz n x with
  |none=>.fail
  |some (new,r) =>
   Bc (Nat.ble (len+n) cap)
    (match a with
     |none=>.val (.slice none (len+n) cap) H r 0
     |some (b,o)=>(match N3 H b (o+len*sz) new with
      |some H'=>.val (c_ a (len+n) cap op) H' r (bit b)
      |none=>.fail))
    (Bc (gq (len+n) bytes)
     (match a with
      |none=>Bc (Nat.beq len 0) (aS (aG new ty (Nat.succ sz)) H (λi=>c_ (some (i,0)) (len+n) (len+n) true) r 0) .fail
      |some (b,o)=>(match qU H b o (len*sz)with
       |none=>.fail
       |some old =>
        Bc op
         (match H.blk b with
          |.cells _ k ty' op' lo hi=>Bc (Nat.beq op' (Nat.succ sz)&&Nat.beq (o+cap*sz) k&&Nat.beq ty' ty&&(Nat.ble hi lo||Nat.ble o lo)&&iu (o+len*sz) (n*sz) lo hi)
           (aS (frB (Nat.blt hi lo) (lo-o) (hi-o) (aG (old++new) ty (Nat.succ sz))) (H.put b .no) (λi=>c_ (some (i,0)) (len+n) (len+n) true) r (bit b)) .fail
          |_=>.fail)
         (aS (aG (old++new) ty (Nat.succ sz)) H (λi=>c_ (some (i,0)) (len+n) (len+n) true) (Nat.lor r (bit b)) 0)))
     .fail))
 |_,_=>.fail
def yV (sz:Nat) (d x:Value) (H:Hp):R :=
 match CM x,qR d with
 |some xl,some (a,dl,_,_)=>(match eI H sz (Nat.min xl dl) x with
  |none=>.fail
  |some (cs,r)=>(match a with
   |none=>.val (.int .i64 (.ofNat (Nat.min xl dl))) H r 0
   |some (b,o)=>(match G8 H b o cs with
    |some H'=>.val (.int .i64 (.ofNat (Nat.min xl dl))) H' r (bit b)
    |none=>.fail)))
 |_,_=>.fail
def sU (z:List Value) (x:Value) (H:Hp):R:=match qR x with
 |some (none,_,_,_)=>R.v (.tuple #[]) H
 |some (some (b,o),n,_,_)=>(match N3 H b o (List.replicate n z).flatten with
  |some H'=>.val (.tuple #[]) H' 0 (bit b)
  |none=>.fail)
 |none=>.fail
def vg (lo:Bool) (x y:Value) (H:Hp):R:=match GN x,J8 y with
 |some (k,a),some b=>R.v (.int k (Bc (Bc lo (pW b a) (pW a b)) b a)) H
 |_,_=>R.o (tf.hk (.mm lo) [x,y]) H
def Fm (lo:Bool) (a b:Int):Int:=Bc (Bc lo (pW b a) (pW a b)) b a
def oV (lo:Bool) (x y z:Value) (H:Hp):R:=match GN x,J8 y,J8 z with
 |some (k,a),some b,some c=>R.v (.int k (Fm lo (Fm lo a b) c)) H
 |_,_,_=>.fail
def Nf (ty:TypeId) (x:Value) (H:Hp):R:=match QN x with
 |none=>.fail
 |some s=>aS (frB true 0 0 (aG (gb s.data.toList) ty 2)) H
  (λi=>c_ (some (i,0)) s.data.toList.length s.data.toList.length true) 0 0
def vf (x:Value) (H:Hp):R:=match x with
 |.slice none _ _=>R.v (.string .empty) H
 |.slice (some ⟨b,o,none⟩) n _=>(match qU H b o n with
  |some l=>(match zD l with|some s=>.val s H (bit b) 0|none=>.fail)
  |none=>.fail)
 |_=>.fail
def ac4 (ty:TypeId) (c:Nat) (z:List Value):dB:=match z with | [v]=>.cells (.e v) c ty 0 0 0|_=>aG (List.replicate c z).flatten ty 0
def Gh (x:Value) (H:Hp):R:=match eZ x with
 |some (b,o)=>(match H.blk b with
  |.cells _ n _ _ _ _=>Bc (Nat.blt o n) (.val x H (bit b) 0) .fail
  |_=>.fail)
 |none=>.fail
def yj (ty n o:Nat):List (Nat×Nat×Nat)->Bool
 | []=>false
 |(a,b,c)::l=>Bc (Nat.beq a ty&&Nat.beq b n&&Nat.beq c o) true (yj ty n o l)
def Gk (l:List (Nat×Nat×Nat)) (x:Value) (H:Hp):R:=match eZ x with
 |some (b,o)=>(match H.blk b with
  |.cells _ n ty 0 _ _=>Bc (yj ty n o l) (.val x H (bit b) 0) .fail
  |_=>.fail)
 |none=>.fail
def ve (x:Value) (H:Hp):R:=match qR x with
 |some (none,_,_,_)=>R.v (.pointer none) H
 |some (some (b,o),_,c,_)=>Bc (Nat.beq c 0) .fail (R.pt b o H 0 0)
 |none=>.fail
def lD (lo hi o n:Nat):Nat×Nat:=Bc (Nat.ble hi lo) (o,o+n) (Nat.min lo o,Nat.max hi (o+n))
def yR (e:TypeId) (p n:Value) (H:Hp):R:=match n with
 |.int .i64 m=>(match tZ m with
  |some 0=>(match p with|.pointer _=>R.v (.string .empty) H|_=>.fail)
  |some (m+1)=>(match eZ p with
   |some (b,o)=>(match H.blk b with
    |.cells t k ty op lo hi=>Bc (Nat.beq ty e&&Nat.ble (o+(m+1)) k&&Nat.ble lo hi&&Nat.ble k 1073741824)
     (match zD (rP t (m+1) o)with
      |some s=>.val s (H.put b (.cells t k ty op (lD lo hi o (m+1)).1 (lD lo hi o (m+1)).2)) (bit b) (bit b)
      |none=>.fail) .fail
    |_=>.fail)
   |none=>.fail)
  |none=>.fail)
 |_=>.fail
def aap (x:Value) (H:Hp):R:=match QN x with|some s=>R.v (.string s) H|none=>.fail
def qI (ty:TypeId) (bytes:Nat) (z:List Value) (l c:Value) (H:Hp):R:=match J8 l,J8 c with
 |some l,some c=>(match tZ l,tZ c with
  |some l,some c=>Bc (Nat.ble l c&&Nat.ble (c*bytes) 1099511627776&&Nat.ble c 1099511627776)
   (aS (ac4 ty c z) H (λi=>c_ (some (i,0)) l c false) 0 0) .fail
  |_,_=>.fail)
 |_,_=>.fail
def lkM (t:Nat):List (Nat×Nat)->Option Nat
 | []=>none
 |(u,f)::rest=>Bc (Nat.beq t u) (some f) (lkM t rest)
def ZX (ms:List (Nat×Nat)) (r:Value) (args:List Value):R:=match r with
 |.iface t v=>(match lkM t ms with|some f=>.call f (v::args)|none=>.fail)
 |_=>.fail
def oX (fv:Value) (args:List Value):R:=match fv with
 |.func (.func f) first cap=>.call f (first.toList++(args++cap.toList))
 |.func (.yield l) first _=>.round l (first.toList++args)
 |_=>.fail
def lH (fv:Value) (args:List Value):R:=match fv with
 |.func fn first cap=>.defer { target:=.fn fn cap,args:=⟨first.toList++args⟩ }
 |_=>.fail
def bD (z:Option (List Value)) (k:List Value->R):R:=match z with|some l=>k l|none=>.fail
def wK (x:Value):R:=match x with|.iface t v=>.panic (.iface t v)|_=>.fail
def uF (k:IntKind) (x:Value) (H:Hp):R:=match J8 x with|some n=>R.v (.int k (aN k n)) H|none=>R.o (tf.hk (.jM k) [x]) H
def Nl (x:Value) (H:Hp):R:=match J8 x with|some n=>R.v (.string (Utf8.encode n)) H|none=>R.o (tf.hk .chr [x]) H
def Dx (x:Value) (H:Hp):R:=match QN x with|some s=>aS (.obj (.stringIter s 0)) H ptrTo 0 0|none=>.fail
def iW (h:er) (l:List Value):Option Value:=match h,l with
 |.bin op,[a,b]=>gD op a b
 |.eq .i,[.int j a,.int k b]=>Bc (tD j k) (some (.bool (nQ a b))) none
 |.eq .s,[.string a,.string b]=>some (.bool (p8 a.data.toList b.data.toList))
 |.neg,[.int k n]=>some (.int k (aN k (Int.sub 0 n)))
 |.jM k,[.int _ n]=>some (.int k (aN k n))
 |.chr,[.int _ n]=>some (.string (Utf8.encode n))
 |.len,[.string s]=>some (.int .i64 (.ofNat s.data.toList.length))
 |.A5,[.string s,.int k j]=>(match idx (.int k j) s.data.toList.length with
  |some m=>(match s.data.toList[m]? with|some c=>some (.int .u8 (.ofNat c.toNat))|none=>none)
  |none=>none)
 |.mm lo,[.int k a,.int k' b]=>Bc (tD k k') (some (.int k (Bc (Bc lo (pW b a) (pW a b)) b a))) none
 |.str,l=>(match strOf l with|some s=>some (.string ⟨⟨s⟩⟩)|none=>none)
 |_,_=>none
def run (op:Xl) (t:T Value) (H:Hp):R :=
 match op with
 |.bad=>.fail
 |.mv x=>R.v (aA t x) H
 |.pick c a b=>qH (aA t c) (aA t a) (aA t b) H
 |.alloc z=>aS z H ptrTo 0 0
 |.box ty x=>bD (gX (aA t x)) λl=>aS (aG l ty 0) H ptrTo 0 0
 |.build z ps=>bD (bH t z ps) λl=>R.v (.agg ⟨l⟩) H
 |.eX len ty z ps=>bD (bH t z ps) λl=>aS (aG l ty 0) H (λi=>c_ (some (i,0)) len len false) 0 0
 |.jd a=>dA (aA t a) H
 |.uh n a=>ia n (aA t a) H
 |.st n a x=>i_ n (aA t a) (aA t x) H
 |.dU x=>mF (aA t x) H
 |.bin op x y=>R.o (dK op (aA t x) (aA t y)) H
 |.eq neg p x y=>jo neg p (aA t x) (aA t y) H
 |.un op x=>Jy op (aA t x) H
 |.jM k x=>uF k (aA t x) H
 |.aaJ x=>Nl (aA t x) H
 |.aaG ty x=>Nf ty (aA t x) H
 |.Qn x=>vf (aA t x) H
 |.cSS x=>aap (aA t x) H
 |.Rx x=>Gh (aA t x) H
 |.frU l x=>Gk l (aA t x) H
 |.usd x=>ve (aA t x) H
 |.Rl e p n=>yR e (aA t p) (aA t n) H
 |.mkI ty x=>R.v (.iface ty (aA t x)) H
 |.mkF fn first cap=>R.v (.func fn ⟨de t first⟩ ⟨de t cap⟩) H
 |.Fk=>aS (.obj (.map #[] 0)) H (λi=>.map (some i)) 0 0
 |.O1 ty by_ z l c=>qI ty by_ z (aA t l) (aA t c) H
 |.slS x lo hi=>Nh (aA t x) (dR t lo) (dR t hi) H
 |.slL sz x lo hi mx=>Nj sz (aA t x) (dR t lo) (dR t hi) (dR t mx) H
 |.Ov n sz x lo hi mx=>yS n sz (aA t x) (dR t lo) (dR t hi) (dR t mx) H
 |.fa off x=>P4 off (aA t x) H
 |.fld agg sz off x=>nO agg sz off (aA t x) H
 |.Z1 n sz x i=>nM n sz (aA t x) (aA t i) H
 |.sJ sz x i=>eT sz (aA t x) (aA t i) H
 |.ixA agg n sz x i=>Bp agg n sz (aA t x) (aA t i) H
 |.A5 x i=>kS (aA t x) (aA t i) H
 |.lkp z ok p m k=>Nk z ok p (aA t m) (aA t k) H
 |.mup p m k x=>Gj p (aA t m) (aA t k) (aA t x) H
 |.YF x=>Dx (aA t x) H
 |.YH x=>Dy (aA t x) H
 |.Zf x=>yT (aA t x) H
 |.Zh x=>yU (aA t x) H
 |.tas ty z ok x=>Ng ty z ok (aA t x) H
 |.ext x i=>qi (aA t x) i H
 |.len k x=>fY k (aA t x) H
 |.ZL n=>R.v (.int .i64 (.ofNat n)) H
 |.cap x=>Nn (aA t x) H
 |.app ty sz by_ s x=>iQ ty sz by_ (aA t s) (aA t x) H
 |.copy sz d x=>yV sz (aA t d) (aA t x) H
 |.clear z x=>sU z (aA t x) H
 |.min x y=>vg true (aA t x) (aA t y) H
 |.max x y=>vg false (aA t x) (aA t y) H
 |.Zy x y z=>oV true (aA t x) (aA t y) (aA t z) H
 |.ZC x y z=>oV false (aA t x) (aA t y) (aA t z) H
 |.del p m k=>Gl p (aA t m) (aA t k) H
 |.call f args=>oX (aA t f) (de t args)
 |.inv ms r args=>ZX ms (aA t r) (de t args)
 |.defer f args=>lH (aA t f) (de t args)
 |.recover=>.recover
 |.panic x=>wK (aA t x)
inductive Ex where
 |normal|ret|exit (id:Nat)|goto (l:Nat)|panic (v:Value)
structure Cx where
 d:Nat
 nt:Nat
 eL:Option Nat
 drw:Bool
inductive CR where
 |fail
 |mk (x:Ex) (t:T Value) (ds:List Deferred) (H:Hp) (r w:Nat)
inductive CD where
 |fail
 |mk (ret:Bool) (t:T Value) (um:FrameMode) (H:Hp) (r w:Nat)
 |qV (v:Value) (um:FrameMode) (H:Hp) (r w:Nat)
inductive KR where
 |fail (why:Nat)
 |ret (v:Value) (H:Hp) (r w:Nat)
 |panic (v:Value) (H:Hp) (r w:Nat)
 |drop (um:FrameMode) (H:Hp) (r w:Nat)
 |n_ (v:Value) (H:Hp) (r w:Nat)
inductive Task where
 |call (f:FuncId) (args:List Value)
 |mI (f:FuncId) (args:List Value) (um:FrameMode)
 |round (l:Nat) (args:List Value)
 |loop (b:Code) (cx:Cx) (t:T Value) (ds:List Deferred)
 |unwind (nt:Nat) (res:List ResultVar) (t:T Value) (ds:List Deferred) (m:FrameMode)
inductive TR where
 |k (x:KR)
 |c (x:CR)
def eF (d:Nat) (t:T Value) (dst:Option Tmp) (v:Value):T Value:=match dst with
 |none=>t
 |some i=>T.set d t i v
def dn (t:T Value) (g:Option (Tmp×Bool)):Bool:=match g with
 |none=>true
 |some (d,w)=>(match zC (t.get d)with|some b=>Bc b w (!w)|none=>false)
abbrev Rec:=Task->Hp->TR
abbrev Acc:=List (Nat×Nat×Nat)
inductive OR where
 |fail
 |mk (x:Ex) (t:T Value) (ds:List Deferred) (H:Hp) (acc:Acc) (r w:Nat)
def lP (H H':Hp):Nat:=Nat.sub (bit H'.nx) (bit H.nx)
def jF (b:Nat) (rj wj:Nat):Acc->Bool
 | []=>true
 |(i,ri,wi)::rest=>Bc (Nat.testBit b i) (jF b rj wj rest)
  (Bc (Nat.beq (Nat.land wi (Nat.lor rj wj)) 0) (Bc (Nat.beq (Nat.land wj ri) 0) (jF b rj wj rest) false) false)
def eP (B:Array Nat):Acc->Bool
 | []=>true
 |(j,rj,wj)::rest=>jF (B.getD j 0) rj wj rest&&eP B rest
def zJ (x:Value):Value:=.tuple ⟨[.tuple ⟨[x]⟩]⟩
def dL (v:Value):Option Value:=match v with|.tuple ⟨[.tuple ⟨[x]⟩]⟩=>some x|_=>none
def eO (v:Value) (H:Hp) (r w:Nat):KR:=match dL v with|some x=>.panic x H r w|none=>.ret v H r w
section
variable (tb:Tb) (sp:Nat->List Value->Hp->Option (Value×Hp×Nat×Nat)) (rec:Rec)
def bt (x:TR) (go:Value->Hp->Nat->Nat->OR) (pa:Value->Hp->Nat->Nat->OR):OR:=match x with
 |.k (.ret v H r w)=>go v H r w
 |.k (.panic v H r w)=>pa v H r w
 |_=>.fail
def cY (x:R) (H:Hp) (kv:Value->Hp->Nat->Nat->Nat->OR) (kp:Value->Hp->Nat->Nat->OR) (kd:Deferred->OR):OR:=match x with
 |.fail=>.fail
 |.val v H' r' w'=>kv v H' r' w' (Nat.lor w' (lP H H'))
 |.call f args=>bt (rec (.call f args) H) (λv H' r' w'=>kv v H' r' w' (Nat.lor w' (lP H H'))) kp
 |.round l args=>bt (rec (.round l args) H) (λv H' r' w'=>kv v H' r' w' (Nat.lor w' (lP H H'))) (λ_ _ _ _=>.fail)
 |.panic v=>kp v H 0 0
 |.defer d=>kd d
 |.recover=>.fail
def aY (cx:Cx):List CO->Nat->T Value->List Deferred->Hp->Acc->Nat->Nat->OR
 | [],_,t,ds,H,acc,r,w=>.mk .normal t ds H acc r w
 |o::rest,i,t,ds,H,acc,r,w =>
  Bc (dn t o.guard)
   (cY rec (run o.op t H) H
    (λv H' r' w' a'=>aY cx rest (Nat.succ i) (eF cx.d t o.dst v) ds H' ((i,r',a')::acc) (Nat.lor r r') (Nat.lor w w'))
    (λv H' r' w'=>.mk (.panic v) t ds H' ((i,0,0)::acc) (Nat.lor r r') (Nat.lor w w'))
    (λd=>match cx.eL,cx.drw with
     |none,false=>aY cx rest (Nat.succ i) (eF cx.d t o.dst U) (d::ds) H acc r w
     |_,_=>.fail))
   (aY cx rest (Nat.succ i) (eF cx.d t o.dst U) ds H acc r w)
def CR.join (r w:Nat) (x:CR):CR:=match x with
 |.fail=>.fail
 |.mk x t ds H r' w'=>.mk x t ds H (Nat.lor r r') (Nat.lor w w')
def CR.tW (x:TR):CR:=match x with|.c y=>y|.k _=>.fail
def CR.andThen (x:CR) (k:T Value->List Deferred->Hp->CR):CR:=match x with
 |.fail=>.fail
 |.mk x t ds H r w=>(match x with
  |.normal=>CR.join r w (k t ds H)
  |y=>.mk y t ds H r w)
def outBlock (id:Nat) (x:CR):CR:=match x with
 |.fail=>.fail
 |.mk x t ds H r w=>(match x with
  |.exit j=>Bc (Nat.beq j id) (.mk .normal t ds H r w) (.mk (.exit j) t ds H r w)
  |y=>.mk y t ds H r w)
def Tl (x:OR):CR:=match x with
 |.fail=>.fail
 |.mk x t ds H _ r w=>.mk x t ds H r w
def nD (nt:Nat) (o:Oper):Option Tmp:=match o.op with
 |.alloc _=>(match o.guard with
  |some _=>none
  |none=>(match mK tb nt #[] o with
   |⟨some x,none,.alloc _⟩=>some x
   |_=>none))
 |_=>none
def ym (nt d:Nat) (ops:Array Oper) (B:Array Nat) (j:Nat):List Nat->T Value->Option (T Value)
 | [],t=>some t
 |k::ks,t=>(match Nat.ble k j||Nat.testBit (B.getD k 0) j with
  |true=>ym nt d ops B j ks t
  |false=>(match nD tb nt (ops.getD k default)with
   |some x=>(match zC (t.get x)with|none=>ym nt d ops B j ks (T.set d t x (.chan none))|some _=>none)
   |none=>none))
def adm (B:Array Nat) (j:Nat):Bool:=(List.range j).all λi=>Nat.testBit (B.getD j 0) i
def nL (nt d:Nat) (ops:Array Oper) (B:Array Nat) (x:OR):CR:=match x with
 |.fail=>.fail
 |.mk x t ds H acc r w=>(match x with
  |.normal=>Bc (eP B acc) (.mk .normal t ds H r w) .fail
  |.panic v=>(match acc with
   | []=>.fail
   |(j,_,_)::rest=>Bc (eP B rest&&adm B j) (match ym tb nt d ops B j (List.range ops.size) t with|some t'=>.mk (.panic v) t' ds H r w|none=>.fail) .fail)
  |_=>.fail)
def Gi (rd:Bool) (j:Option Code):Option Ex:=match j with
 |none=>Bc rd (some .normal) none
 |some .ret=>some .ret
 |some (.exit id)=>some (.exit id)
 |some (.goto l)=>some (.goto l)
 |_=>none
def gZ (l:Nat) (t:T Value) (ds:List Deferred) (x:TR):CR:=match x with
 |.k (.ret _ H r w)=>(match H.blk l with
  |.loop rd pending _ _ _ _ _ _=>(match Gi rd pending with
   |some ex=>.mk ex t ds (H.put l .no) r (Nat.lor w (bit l))
   |none=>.fail)
  |_=>.fail)
 |.k (.panic v H r w)=>.mk (.panic v) t ds H r w
 |_=>.fail
def kQ (g:FuncId):Bool:=match tb.fn g with|some fn=>fn.body.isSome|none=>false
def kU (cx:Cx) (f:Operand) (params:List Tmp) (assign body:Code) (t:T Value) (ds:List Deferred) (H:Hp):CR:=match cx.eL with
 |some _=>.fail
 |none => Bc (qw tb cx.nt f&&params.all (λp=>Nat.blt p cx.nt))
  (match aS (.obj (.deferred (some []))) H (λi=>.int .i64 (.ofNat i)) 0 0 with
   |.val (.int _ (.ofNat db)) H1 _ _=>(match aS (.loop true none cx.nt t params assign body db) H1 (λi=>.int .i64 (.ofNat i)) 0 0 with
    |.val (.int _ (.ofNat l)) H2 _ _=>(match oX (aA t f) [.func (.yield l) #[] #[]]with
     |.call g args=>Bc (kQ tb g) (gZ l t ({ target:=.collected db,args:=#[] }::ds) (rec (.call g args) H2)) .fail
     |_=>.fail)
    |_=>.fail)
   |_=>.fail) .fail
def Au (b:Code) (t:T Value) (ds:List Deferred) (H:Hp):CR:=match tb.lp b t H with
 |some (t',H',r,w,id)=>.mk (.exit id) t' ds H' r w
 |none=>.fail
def cj (cx:Cx) (c:Code) (t:T Value) (ds:List Deferred) (H:Hp):CR:=match c with
 |.skip=>.mk .normal t ds H 0 0
 |.label _=>.mk .normal t ds H 0 0
 |.ret=>.mk .ret t ds H 0 0
 |.exit id=>.mk (.exit id) t ds H 0 0
 |.goto l=>.mk (.goto l) t ds H 0 0
 |.refuse _=>.fail
 |.scope _=>.fail
 |.region _ ops draw=>(match draw with
  |false=>Tl (aY rec cx (bV tb cx.nt ops ops.toList) 0 t ds H [] 0 0)
  |true=>Bc (ew ops (Region.before ops)) (nL tb cx.nt cx.d ops (Region.before ops) (aY rec ⟨cx.d,cx.nt,cx.eL,true⟩ (bV tb cx.nt ops ops.toList) 0 t ds H [] 0 0)) .fail)
 |.seq a b=>CR.andThen (cj cx a t ds H) λt ds H=>cj cx b t ds H
 |.cond c a b=>Bc (qw tb cx.nt c) (match zC (aA t c)with
  |some true=>cj cx a t ds H
  |some false=>cj cx b t ds H
  |none=>.fail) .fail
 |.block id b=>outBlock id (cj cx b t ds H)
 |.loop b=>Bc (tb.hk cx.nt b) (Au tb b t ds H) (CR.andThen (cj cx b t ds H) λt ds H=>CR.tW (rec (.loop b cx t ds) H))
 |.rangeFunc f ps a b=>kU tb rec cx f ps.toList a b t ds H
def EH (um:FrameMode):Value×FrameMode:=match um with
 |.panicking ({ v,recovered:=false,goexit:=false }::older)=>(v,.panicking ({ v,recovered:=true }::older))
 |_=>(.nilIface,um)
def qK (d:Nat):List CO->T Value->FrameMode->Hp->Nat->Nat->CD
 | [],t,um,H,r,w=>.mk false t um H r w
 |o::rest,t,um,H,r,w =>
  Bc (dn t o.guard)
   (match run o.op t H with
    |.val v H' r' w'=>qK d rest (eF d t o.dst v) um H' (Nat.lor r r') (Nat.lor w w')
    |.recover=>(match EH um with|(v,um')=>qK d rest (eF d t o.dst v) um' H r w)
    |.panic v=>.qV v um H r w
    |_=>.fail)
   (qK d rest (eF d t o.dst U) um H r w)
def CD.join (r w:Nat) (x:CD):CD:=match x with
 |.fail=>.fail
 |.mk x t um H r' w'=>.mk x t um H (Nat.lor r r') (Nat.lor w w')
 |.qV v um H r' w'=>.qV v um H (Nat.lor r r') (Nat.lor w w')
def pZ (d nt:Nat) (c:Code) (t:T Value) (um:FrameMode) (H:Hp):CD:=match c with
 |.skip=>.mk false t um H 0 0
 |.ret=>.mk true t um H 0 0
 |.region id ops draw=>(match draw with
  |false=>qK d (bV tb nt ops ops.toList) t um H 0 0
  |true=>(match cj tb (λ_ _=>.k (.fail 0)) ⟨d,nt,none,false⟩ (.region id ops true) t [] H with
   |.mk .normal t' [] H' r w=>.mk false t' um H' r w
   |_=>.fail))
 |.seq a b=>(match pZ d nt a t um H with
  |.fail=>.fail
  |.mk true t um H r w=>.mk true t um H r w
  |.mk false t um H r w=>CD.join r w (pZ d nt b t um H)
  |.qV v um H r w=>.qV v um H r w)
 |.cond c a b=>Bc (qw tb nt c) (match zC (aA t c)with
  |some true=>pZ d nt a t um H
  |some false=>pZ d nt b t um H
  |none=>.fail) .fail
 |.block _ b=>(match pZ d nt b t um H with
  |.qV _ _ _ _ _=>.fail
  |x=>x)
 |_=>.fail
def eg (nt:Nat) (t:T Value) (H:Hp):List ResultVar->Option (List Value×Nat)
 | []=>some ([],0)
 |.tmp i::rest=>Bc (Nat.blt i nt) (match eg nt t H rest with|some (l,r)=>some (t.get i::l,r)|none=>none) none
 |.cell a ty::rest=>Bc (Nat.blt a nt) (match eZ (t.get a)with
  |some (b,o)=>(match (match dN tb ty with
   |some true=>(match eY tb ty with|some n=>(match qU H b o n with|some l=>some (.agg ⟨l⟩)|none=>none)|none=>none)
   |some false=>OG H b o
   |none=>none)with
   |some v=>(match eg nt t H rest with|some (l,r)=>some (v::l,Nat.lor (bit b) r)|none=>none)
   |none=>none)
  |none=>none) none
def B6 (l:List Value):Value:=match l with | [v]=>v|l=>.tuple ⟨l⟩
def mW:FrameMode->FrameMode
 |.panicking ({ recovered:=true,.. }::older) =>
  match older.dropWhile (!·.goexit)with
  | []=>.returning
  |rest=>.panicking rest
 |m=>m
def KR.join (r w:Nat) (x:TR):TR:=match x with
 |.k (.ret v H r' w')=>Fz (Nat.lor r r') (Fz (Nat.lor w w') (.k (.ret v H (Nat.lor r r') (Nat.lor w w'))))
 |.k (.panic v H r' w')=>.k (.panic v H (Nat.lor r r') (Nat.lor w w'))
 |_=>.k (.fail 20)
def ij (fn:Func) (x:CR):TR:=match x with
 |.fail=>.k (.fail 1)
 |.mk x t ds H r w=>(match x with
  |.normal=>KR.join r w (rec (.unwind fn.ntmps fn.results.toList t ds .returning) H)
  |.ret=>KR.join r w (rec (.unwind fn.ntmps fn.results.toList t ds .returning) H)
  |.panic v=>KR.join r w (rec (.unwind fn.ntmps fn.results.toList t ds (.panicking [{ v,recovered:=false }])) H)
  |_=>.k (.fail 2))
def VS (_d:Nat):T Value:=.e U
def gW (fn:Func) (args:List Value):T Value:=QJ (dep fn.ntmps) args 0 (VS (dep fn.ntmps))
def lF (f:FuncId) (args:List Value) (H:Hp):TR:=match tb.fn f with
 |none=>.k (.fail 3)
 |some fn=>(match fn.body with
  |none=>.k (.fail 4)
  |some c=>Bc (Nat.ble args.length fn.ntmps) (ij rec fn (cj tb rec ⟨dep fn.ntmps,fn.ntmps,none,false⟩ c (gW fn args) [] H)) (.k (.fail 14)))
def zh (fn:Func) (x:CD):TR:=match x with
 |.fail=>.k (.fail 18)
 |.mk _ t um H r w=>(match eg tb fn.ntmps t H fn.results.toList with
  |some (_,r')=>.k (.drop um H (Nat.lor r r') w)
  |none=>.k (.fail 19))
 |.qV v _ H r w=>.k (.n_ v H r w)
def sW (f:FuncId) (args:List Value) (um:FrameMode) (H:Hp):TR:=match tb.fn f with
 |none=>.k (.fail 3)
 |some fn=>(match fn.body with
  |none=>.k (.fail 4)
  |some c=>Bc (Nat.ble args.length fn.ntmps) (zh tb fn (pZ tb (dep fn.ntmps) fn.ntmps c (gW fn args) um H)) (.k (.fail 14)))
def nJ (nt:Nat) (res:List ResultVar) (t:T Value) (ds:List Deferred) (x:TR):TR:=match x with
 |.k (.drop m H r w)=>(match mW m with
  |.run=>.k (.fail 21)
  |m'=>KR.join r w (rec (.unwind nt res t ds m') H))
 |.k (.n_ v H r w)=>KR.join r w (rec (.unwind nt res t ds (.panicking [{ v,recovered:=false }])) H)
 |_=>.k (.fail 5)
def fZ (nt:Nat) (res:List ResultVar) (t:T Value) (ds:List Deferred) (m:FrameMode) (H:Hp):TR:=match ds with
 | []=>(match m with
  |.returning=>(match eg tb nt t H res with
   |some (l,r)=>.k (.ret (B6 l) H r 0)
   |none=>.k (.fail 6))
  |.panicking [{ v,recovered:=false,goexit:=false }]=>.k (.panic v H 0 0)
  |_=>.k (.fail 7))
 |d::ds=>(match d.target with
  |.collected b=>(match H.blk b with
   |.obj (.deferred (some []))=>KR.join 0 (bit b) (rec (.unwind nt res t ds m) (H.put b .no))
   |_=>.k (.fail 17))
  |.fn (.func f) cap=>nJ rec nt res t ds (rec (.mI f (d.args.toList++cap.toList) m) H)
  |_=>.k (.fail 8))
def rI (d nt:Nat):List Tmp->List Value->T Value->Option (T Value)
 | [],[],t=>some t
 |p::ps,a::as,t=>Bc (Nat.blt p nt) (rI d nt ps as (T.set d t p a)) none
 |_,_,_=>none
def endRound (l:Nat) (r w:Nat) (x:CR):TR:=match x with
 |.fail=>.k (.fail 9)
 |.mk x _ _ H r' w'=>(match H.blk l with
  |.loop false none nt lt ps a b db =>
   let fin (j:Option Code):TR:=.k (.ret (.bool j.isNone) (H.put l (.loop j.isNone j nt lt ps a b db)) (Nat.lor r r') (Nat.lor w (Nat.lor w' (bit l))))
   (match x with
    |.normal=>fin none
    |.ret=>fin (some .ret)
    |.exit id=>fin (some (.exit id))
    |.goto id=>fin (some (.goto id))
    |.panic _=>.k (.fail 16))
  |_=>.k (.fail 10))
def je (l:Nat) (args:List Value) (H:Hp):TR:=match H.blk l with
 |.loop true none nt lt ps a b db=>(match rI (dep nt) nt ps args lt with
  |none=>.k (.fail 11)
  |some t=>(match cj tb rec ⟨dep nt,nt,some l,false⟩ a t [] H with
   |.mk .normal t [] H1 r w=>(match H1.blk l with
    |.loop true none nt2 lt2 ps2 a2 b2 db2=>endRound l (Nat.lor (bit l) r) (Nat.lor w (bit l)) (cj tb rec ⟨dep nt,nt,some l,false⟩ b t [] (H1.put l (.loop false none nt2 lt2 ps2 a2 b2 db2)))
    |_=>.k (.fail 15))
   |_=>.k (.fail 12)))
 |_=>.k (.fail 13)
def f_ (tk:Task) (H:Hp):TR:=match tk with
 |.call f args=>(match sp f args H with
  |some (v,H',r,w)=>.k (eO v H' r w)
  |none=>lF tb rec f args H)
 |.mI f args um=>sW tb f args um H
 |.round l args=>je tb rec l args H
 |.loop b cx t ds=>.c (Bc (tb.hk cx.nt b) (Au tb b t ds H) (CR.andThen (cj tb rec cx b t ds H) λt ds H=>CR.tW (rec (.loop b cx t ds) H)))
 |.unwind nt res t ds m=>fZ tb rec nt res t ds m H
end
def ev (tb:Tb) (sp:Nat->List Value->Hp->Option (Value×Hp×Nat×Nat)) (n:Nat):Task->Hp->TR :=
 Nat.rec (λ_ _=>.k (.fail 0)) (λ_ ih=>f_ tb sp ih) n
def j_ (n:Nat):ByteArray:=⟨⟨(List.range 16).map λi=>UInt8.ofNat (Nat.add 48 (Nat.mod (Nat.div n (Nat.pow 2 (Nat.sub 15 i))) 2))⟩⟩
end Go.Ev
end
