/-
 A part of the reckoner for the statements of a Go program: what it answers,the model answers. Holds for every program whose tables are as given.
-/
import Derived.Test.YtgdejggelcpokaaGreatDoorG06
set_option linter.unusedSimpArgs false
set_option linter.unusedVariables false
set_option linter.unusedSectionVars false
noncomputable section
namespace Go.Ev
section
variable {P:Program} {tb:Tb} {d nt:Nat} {rnd:Option Nat} {ops:Array Oper} {B:Array Nat} (D:Dr P tb d nt rnd ops B ops.size)
def Dr.touch (k b:Nat):Bool:=(D.w k).testBit b || (Nat.ble (D.H k).nx b && Nat.blt b (D.H (k+1)).nx)
theorem touch_iff {k b:Nat}:D.touch k b=true↔(D.w k).testBit b=true∨((D.H k).nx≤b∧b<(D.H (k+1)).nx):=by
 simp [Dr.touch]
def Dr.cont (S:Nat→Bool):Nat→Nat→Blk
 | 0,b=>(D.H 0).blk b
 | k+1,b=>if S k=true∧D.touch k b=true then (D.H (k+1)).blk b else Dr.cont S k b
def dstIs (ops:Array Oper) (k x:Nat):Bool:=((ops[k]?).bind (·.dst)) == some x
def Dr.tcont (S:Nat→Bool):Nat→Nat→Value
 | 0,x=>(D.t 0).get x
 | k+1,x=>if S k=true∧dstIs ops k x=true then D.v k else Dr.tcont S k x
def Closed (B:Array Nat) (S:Nat→Bool):Prop:=∀ k,S k=true→∀ i,i<k→(B.getD k 0).testBit i=true→S i=true
theorem Dr.op {i:Nat} (hi:i<ops.size):∃ o,ops[i]?=some o:=⟨ops[i],by simp [hi]⟩
theorem Dr.can {i:Nat} (hi:i<ops.size):Can (D.H i) (D.H (i+1)) (D.w i):=by
 obtain ⟨o,ho⟩:=Dr.op hi
 exact (D.step i o hi ho).can
theorem Dr.mono {i j:Nat} (h:i≤j) (hj:j≤ops.size):(D.H i).nx≤(D.H j).nx:=by
 induction j with
 | zero => have:i=0:=by omega
           subst this;exact Nat.le_refl _
 | succ j ih =>
  by_cases e:i=j+1
  ·subst e;exact Nat.le_refl _
  ·exact Nat.le_trans (ih (by omega) (by omega)) (D.can (by omega)).mono
theorem blk_out {H:Hp} {b:Nat} (h:H.nx≤b):H.blk b=.no:=by
 cases H with
 | mk t n=>rw [blk_mk,if_neg (by have:n≤b:=h;omega)]
 | fn f n=>rw [blk_fn,if_neg (by have:n≤b:=h;omega)]
theorem Dr.keep {k b:Nat} (hk:k<ops.size) (h:D.touch k b=false):(D.H (k+1)).blk b=(D.H k).blk b:=by
 have h':¬ (D.touch k b=true):=by rw [h];simp
 rw [touch_iff] at h'
 have hw:(D.w k).testBit b=false:=by cases e:(D.w k).testBit b with | false=>rfl | true=>exact absurd (.inl e) h'
 by_cases hb:b<(D.H k).nx
 ·exact (D.can hk).keep b hb hw
 ·rw [blk_out (by omega),blk_out (by omega)]
theorem Dr.cont_eq {S:Nat→Bool} (hS:Closed B S) {j:Nat} (hj:j<ops.size) (hn:S j=false) (hb:∀ i,i<j→(B.getD j 0).testBit i=true→S i=true) {b:Nat}
 (hf:(D.r j).testBit b=true∨(D.w j).testBit b=true) (hlt:b<(D.H j).nx):D.cont S ops.size b=(D.H j).blk b:=by
 have h1:∀ k,k≤j→D.cont S k b=(D.H k).blk b:=by
  intro k
  induction k with
  | zero=>intro _;rfl
  | succ k ih =>
   intro hk
   have ihk:=ih (by omega)
   simp only [Dr.cont]
   by_cases ht:D.touch k b=true
   ·cases hs:S k with
    | true=>simp [ht]
    | false =>
     exfalso
     rcases D.ind k j (by omega) hj with h | ⟨h,_⟩
     ·rw [hb k (by omega) h] at hs;cases hs
     ·have:=h b ((touch_iff D).1 ht)
      rcases hf with hf | hf
      ·rw [this.1] at hf;cases hf
      ·rw [this.2.1] at hf;cases hf
   ·have ht':D.touch k b=false:=by simpa using ht
    rw [if_neg (by simp [ht'])]
    rw [ihk,D.keep (by omega) ht']
 have h2:∀ k,j≤k→k≤ops.size→D.cont S k b=(D.H j).blk b:=by
  intro k
  induction k with
  | zero => intro h _;have:j=0:=by omega
            subst this;exact h1 0 (Nat.le_refl _)
  | succ k ih =>
   intro hjk hk
   by_cases e:j=k+1
   ·subst e;exact h1 _ (Nat.le_refl _)
   ·have ihk:=ih (by omega) (by omega)
    simp only [Dr.cont]
    rw [if_neg,ihk]
    rintro ⟨hs,ht⟩
    rw [touch_iff] at ht
    have hnx:=D.mono (i:=j) (j:=k) (by omega) (by omega)
    rcases ht with ht | ht
    ·by_cases ejk:j=k
     ·subst ejk;rw [hn] at hs;cases hs
     ·rcases D.ind j k (by omega) (by omega) with h | ⟨h,h'⟩
      ·have:=hS k hs j (by omega) h
       rw [hn] at this;cases this
      ·rcases hf with hf | hf
       ·have:=h' b ht;rw [this] at hf;cases hf
       ·have:=(h b (.inl hf)).2.1;rw [this] at ht;cases ht
    ·omega
 exact h2 _ (by omega) (Nat.le_refl _)
def addS (S:Nat→Bool) (j:Nat):Nat→Bool:=fun k=>S k || k == j
theorem Dr.cont_other {S:Nat→Bool} {j b:Nat} (hn:S j=false) (h:D.touch j b=false):∀ k,D.cont (addS S j) k b=D.cont S k b:=by
 intro k
 induction k with
 | zero=>rfl
 | succ k ih =>
  simp only [Dr.cont,ih]
  by_cases e:k=j
  ·subst e;simp [h]
  ·have:addS S j k=S k:=by simp [addS,e]
   rw [this]
theorem Dr.cont_touch {S:Nat→Bool} (hS:Closed B S) {j:Nat} (hj:j<ops.size) (hn:S j=false) {b:Nat} (h:D.touch j b=true):D.cont (addS S j) ops.size b=(D.H (j+1)).blk b:=by
 have h2:∀ k,j<k→k≤ops.size→D.cont (addS S j) k b=(D.H (j+1)).blk b:=by
  intro k
  induction k with
  | zero=>intro h;omega
  | succ k ih =>
   intro hjk hk
   simp only [Dr.cont]
   by_cases e:k=j
   ·subst e;rw [if_pos ⟨by simp [addS],h⟩]
   ·rw [if_neg,ih (by omega) (by omega)]
    rintro ⟨hs,ht⟩
    have hs':S k=true:=by simpa [addS,e] using hs
    rcases D.ind j k (by omega) (by omega) with h' | ⟨h',_⟩
    ·have:=hS k hs' j (by omega) h'
     rw [hn] at this;cases this
    ·have hx:=h' b ((touch_iff D).1 h)
     rcases (touch_iff D).1 ht with ht | ht
     ·rw [hx.2.1] at ht;cases ht
     ·exact hx.2.2 ht
 exact h2 _ (by omega) (Nat.le_refl _)
theorem Dr.cont_all {S:Nat→Bool} (hall:∀ k,k<ops.size→S k=true) (b:Nat):∀ k,k≤ops.size→D.cont S k b=(D.H k).blk b:=by
 intro k
 induction k with
 | zero=>intro _;rfl
 | succ k ih =>
  intro hk
  simp only [Dr.cont]
  by_cases ht:D.touch k b=true
  ·rw [if_pos ⟨hall k (by omega),ht⟩]
  ·rw [if_neg (by simp [ht]),ih (by omega),D.keep (by omega) (by simpa using ht)]
theorem tcont_all {S:Nat→Bool} (hd:nt<2 ^ d) (hall:∀ k,k<ops.size→S k=true) {x:Nat} (hx:x<nt):∀ k,k≤ops.size→D.tcont S k x=(D.t k).get x:=by
 intro k
 induction k with
 | zero=>intro _;rfl
 | succ k ih =>
  intro hk
  obtain ⟨o,ho⟩:=Dr.op (ops:=ops) (i:=k) (by omega)
  simp only [Dr.tcont,ih (by omega)]
  rw [D.tput k o (by omega) ho]
  have hdl:=(D.step k o (by omega) ho).dlt
  simp only [hall k (by omega),true_and,dstIs,ho,Option.bind_some]
  cases hdst:o.dst with
  | none=>simp [putT]
  | some i =>
   show _=(T.set d (D.t k) i (D.v k)).get x
   rw [T.get_set d _ i x _ (by have:=hdl i hdst;omega) (by omega)]
   by_cases e:i=x
   ·subst e;simp
   ·have e2:¬ x=i:=fun h=>e h.symm
    have e3:(some i == some x)=false:=by
     simp;exact e
    rw [if_neg e2,if_neg (by simp [e3])]
end
section
variable {P:Program} {tb:Tb} {d nt:Nat} {rnd:Option Nat} {ops:Array Oper} {B:Array Nat} (D:Dr P tb d nt rnd ops B ops.size)
def ApOk (ops:Array Oper) (B:Array Nat):Prop:=∀ i j oi oj,i<j→ops[i]?=some oi→ops[j]?=some oj→(B.getD j 0).testBit i=true∨apartB ops oi oj=true
theorem apart_spec {x y:Oper} (h:apartB ops x y=true):(∀ d:Nat,x.dst=some d→d ∉ looksAt ops y∧y.dst≠some d)∧∀ d:Nat,y.dst=some d→d ∉ looksAt ops x:=by
 refine ⟨fun d hd=>?_,fun d hd=>?_⟩ <;> simp [apartB,hd] at h
 ·exact ⟨h.1.1,h.1.2⟩
 ·exact h.2
theorem dstIs_iff {k x:Nat} {o:Oper} (ho:ops[k]?=some o):dstIs ops k x=true↔o.dst=some x:=by
 simp [dstIs,ho]
theorem tget_keep (hd:nt<2 ^ d) {k x:Nat} (hk:k<ops.size) (hx:x<nt) (h:dstIs ops k x=false):(D.t (k+1)).get x=(D.t k).get x:=by
 obtain ⟨o,ho⟩:=Dr.op hk
 rw [D.tput k o hk ho]
 have hdl:=(D.step k o hk ho).dlt
 cases hdst:o.dst with
 | none=>rfl
 | some i =>
  show (T.set d (D.t k) i (D.v k)).get x=_
  rw [T.get_set d _ i x _ (by have:=hdl i hdst;omega) (by omega),if_neg]
  rintro rfl
  rw [(dstIs_iff ho).2 hdst] at h;cases h
theorem tcont_eq (hd:nt<2 ^ d) (hap:ApOk ops B) {S:Nat→Bool} (hS:Closed B S) {j:Nat} (hj:j<ops.size) (hn:S j=false) (hb:∀ i,i<j→(B.getD j 0).testBit i=true→S i=true) {x:Nat} (hx:x<nt)
 {oj:Oper} (hoj:ops[j]?=some oj) (hl:x∈looksAt ops oj):D.tcont S ops.size x=(D.t j).get x:=by
 have h1:∀ k,k≤j→D.tcont S k x=(D.t k).get x:=by
  intro k
  induction k with
  | zero=>intro _;rfl
  | succ k ih =>
   intro hk
   have ihk:=ih (by omega)
   obtain ⟨o,ho⟩:=Dr.op (ops:=ops) (i:=k) (by omega)
   simp only [Dr.tcont]
   cases ht:dstIs ops k x with
   | true =>
    have hdst:=(dstIs_iff ho).1 ht
    cases hs:S k with
    | true =>
     simp only [true_and,if_true]
     rw [D.tput k o (by omega) ho,hdst]
     show _=(T.set d (D.t k) x (D.v k)).get x
     rw [T.get_set d _ x x _ (by omega) (by omega),if_pos rfl]
    | false =>
     exfalso
     rcases hap k j o oj (by omega) ho hoj with h | h
     ·rw [hb k (by omega) h] at hs;cases hs
     ·exact ((apart_spec h).1 x hdst).1 hl
   | false=>rw [if_neg (by simp),ihk,tget_keep D hd (by omega) hx ht]
 have h2:∀ k,j≤k→k≤ops.size→D.tcont S k x=(D.t j).get x:=by
  intro k
  induction k with
  | zero => intro h _;have:j=0:=by omega
            subst this;exact h1 0 (Nat.le_refl _)
  | succ k ih =>
   intro hjk hk
   by_cases e:j=k+1
   ·subst e;exact h1 _ (Nat.le_refl _)
   ·have ihk:=ih (by omega) (by omega)
    simp only [Dr.tcont]
    rw [if_neg,ihk]
    rintro ⟨hs,ht⟩
    obtain ⟨o,ho⟩:=Dr.op (ops:=ops) (i:=k) (by omega)
    have hdst:=(dstIs_iff ho).1 ht
    by_cases ejk:j=k
    ·subst ejk;rw [hn] at hs;cases hs
    ·rcases hap j k oj o (by omega) hoj ho with h | h
     ·have:=hS k hs j (by omega) h
      rw [hn] at this;cases this
     ·exact (apart_spec h).2 x hdst hl
 exact h2 _ (by omega) (Nat.le_refl _)
theorem tcont_add (hap:ApOk ops B) {S:Nat→Bool} (hS:Closed B S) {j:Nat} (hj:j<ops.size) (hn:S j=false) (x:Nat) :
 D.tcont (addS S j) ops.size x=if dstIs ops j x=true then D.v j else D.tcont S ops.size x:=by
 have h1:∀ k,k≤j→D.tcont (addS S j) k x=D.tcont S k x:=by
  intro k
  induction k with
  | zero=>intro _;rfl
  | succ k ih =>
   intro hk
   simp only [Dr.tcont,ih (by omega)]
   have:addS S j k=S k:=by simp [addS];omega
   rw [this]
 have h2:∀ k,j<k→k≤ops.size→D.tcont (addS S j) k x=if dstIs ops j x=true then D.v j else D.tcont S k x:=by
  intro k
  induction k with
  | zero=>intro h;omega
  | succ k ih =>
   intro hjk hk
   simp only [Dr.tcont]
   by_cases e:k=j
   ·subst e
    rw [h1 k (Nat.le_refl _)]
    by_cases ht:dstIs ops k x=true
    ·rw [if_pos ⟨by simp [addS],ht⟩,if_pos ht]
    ·rw [if_neg (fun h=>ht h.2),if_neg ht,if_neg (fun h=>ht h.2)]
   ·have hsk:addS S j k=S k:=by simp [addS,e]
    rw [hsk,ih (by omega) (by omega)]
    by_cases hc:S k=true∧dstIs ops k x=true
    ·rw [if_pos hc,if_pos hc,if_neg]
     intro ht
     obtain ⟨oj,hoj⟩:=Dr.op (ops:=ops) hj
     obtain ⟨o,ho⟩:=Dr.op (ops:=ops) (i:=k) (by omega)
     rcases hap j k oj o (by omega) hoj ho with h | h
     ·have:=hS k hc.1 j (by omega) h
      rw [hn] at this;cases this
     ·exact ((apart_spec h).1 x ((dstIs_iff hoj).1 ht)).2 ((dstIs_iff ho).1 hc.2)
    ·rw [if_neg hc,if_neg hc]
 exact h2 _ hj (Nat.le_refl _)
end
section
variable {P:Program} {tb:Tb} {d nt:Nat} {rnd:Option Nat} {ops:Array Oper} {B:Array Nat} (D:Dr P tb d nt rnd ops B ops.size)
def Dr.newIn (S:Nat→Bool) (b:Nat):Prop:=∃ k,k<ops.size∧S k=true∧(D.H k).nx≤b∧b<(D.H (k+1)).nx
def Dr.scope (S:Nat→Bool) (rt wt b:Nat):Prop:=(b<(D.H 0).nx∧inS rt wt b)∨D.newIn S b
def Dr.wscope (S:Nat→Bool) (wt b:Nat):Prop:=(b<(D.H 0).nx∧wt.testBit b=true)∨D.newIn S b
theorem Dr.wscope.scope {S:Nat→Bool} {rt wt b:Nat} (h:D.wscope S wt b):D.scope S rt wt b:=h.imp (fun ⟨a,c⟩=>⟨a,.inr c⟩) id
structure DInv (S:Nat→Bool) (β0:Mp) (W0:World) (rt wt:Nat) (ds:List Deferred) (β:Mp) (W:World) (a:Act):Prop where
 le:Mp.le β0 β
 dom:∀ b m,β b=some m→m.rb<W.heap.size
 only:∀ b m,β b=some m→β0 b=none→D.newIn S b
 rel:∀ b,D.scope S rt wt b→D.cont S ops.size b≠.no→∃ m,β b=some m∧BOk β W (D.cont S ops.size b) m
 inj:∀ b c mb mc,D.wscope S wt b→D.scope S rt wt c→D.cont S ops.size b≠.no→D.cont S ops.size c≠.no→β b=some mb→β c=some mc→mb.rb=mc.rb→b=c
 frame:∀ rb o,W0.heap[rb]?=some o→(∀ b m,b<(D.H 0).nx→wt.testBit b=true→β0 b=some m→m.rb≠rb)→W.heap[rb]?=some o
 size:W0.heap.size≤W.heap.size
 new:∀ b m,(D.H 0).nx≤b→β0 b=none→β b=some m→W0.heap.size≤m.rb∨∃ c mc,c<(D.H 0).nx∧wt.testBit c=true∧β0 c=some mc∧mc.rb=m.rb∧D.cont S ops.size c=.no
 env:W.os=W0.os∧W.tape=W0.tape∧W.output=W0.output
 tsz:a.tmps.size=nt
 tmp:∀ x,x<nt→VRel β (D.tcont S ops.size x) (a.tmps.getD x undef)
 def_:DsRel β ds a.defers
theorem alloc_one {k j b:Nat} (hk:k<ops.size) (hj:j<ops.size) (h1:(D.H k).nx≤b∧b<(D.H (k+1)).nx) (h2:(D.H j).nx≤b∧b<(D.H (j+1)).nx):k=j:=by
 rcases Nat.lt_trichotomy k j with h | h | h
 ·have:=D.mono (i:=k+1) (j:=j) (by omega) (by omega);omega
 ·exact h
 ·have:=D.mono (i:=j+1) (j:=k) (by omega) (by omega);omega
theorem alloc_of {b:Nat}:∀ n,n≤ops.size→(D.H 0).nx≤b→b<(D.H n).nx→∃ k,k<n∧(D.H k).nx≤b∧b<(D.H (k+1)).nx:=by
 intro n
 induction n with
 | zero=>intro _ h1 h2;omega
 | succ n ih =>
  intro hn h1 h2
  rcases Nat.lt_or_ge b (D.H n).nx with h | h
  ·obtain ⟨k,hk,x⟩:=ih (by omega) h1 h;exact ⟨k,by omega,x⟩
  ·exact ⟨n,by omega,h,h2⟩
theorem alive_back {j b:Nat} (hb:b<(D.H 0).nx):j≤ops.size→(D.H j).blk b≠.no→(D.H 0).blk b≠.no:=by
 induction j with
 | zero=>intro _ h;exact h
 | succ j ih =>
  intro hj h
  refine ih (by omega) ?_
  have hnx:=D.mono (i:=0) (j:=j) (by omega) (by omega)
  exact (alive_iff _ _).1 ((D.can (by omega)).alive_of (by omega) ((alive_iff _ _).2 h))
end
section
variable {P:Program} {tb:Tb} {d nt:Nat} {rnd:Option Nat} {ops:Array Oper} {B:Array Nat} (D:Dr P tb d nt rnd ops B ops.size)
theorem scope_fp {S:Nat→Bool} {rt wt j b:Nat} (hj:j<ops.size) (hb:∀ i,i<j→(B.getD j 0).testBit i=true→S i=true) (hr:sub (D.r j) rt) (hw:sub (D.w j) wt)
 (hf:(D.r j).testBit b=true∨(D.w j).testBit b=true) (hlt:b<(D.H j).nx):D.scope S rt wt b:=by
 rcases Nat.lt_or_ge b (D.H 0).nx with h0 | h0
 ·exact .inl ⟨h0,hf.imp (hr b) (hw b)⟩
 ·obtain ⟨k,hk,hkb⟩:=alloc_of D j (by omega) h0 hlt
  refine .inr ⟨k,by omega,?_,hkb⟩
  cases hs:S k with
  | true=>rfl
  | false =>
   exfalso
   rcases D.ind k j hk hj with h | ⟨h,_⟩
   ·rw [hb k hk h] at hs;cases hs
   ·have:=h b (.inr hkb)
    rcases hf with hf | hf
    ·rw [this.1] at hf;cases hf
    ·rw [this.2.1] at hf;cases hf
theorem wscope_fp {S:Nat→Bool} {wt j b:Nat} (hj:j<ops.size) (hb:∀ i,i<j→(B.getD j 0).testBit i=true→S i=true) (hw:sub (D.w j) wt) (hf:(D.w j).testBit b=true) (hlt:b<(D.H j).nx):D.wscope S wt b:=by
 rcases scope_fp D (rt:=D.r j) hj hb (fun _ h=>h) hw (.inr hf) hlt with h | h
 ·exact .inl ⟨h.1,hw b hf⟩
 ·exact .inr h
theorem pre_step {S:Nat→Bool} (hS:Closed B S) {β0 β:Mp} {W0 W:World} {a:Act} {rt wt r0 w0 j:Nat} {ds:List Deferred} (hj:j<ops.size) (hn:S j=false) (hb:∀ i,i<j→(B.getD j 0).testBit i=true→S i=true) (hr:sub (D.r j) rt) (hw:sub (D.w j) wt)
 (p0:Pre β0 (D.H 0) (D.H ops.size) r0 w0 W0) (I:DInv D S β0 W0 rt wt ds β W a):Pre β (D.H j) (D.H (j+1)) (D.r j) (D.w j) W:=by
 have hsc:=fun {b:Nat} (hf:inS (D.r j) (D.w j) b) (ha:alive (D.H j) b)=>scope_fp D hj hb hr hw hf ha.1
 have hwc:=fun {b:Nat} (hf:(D.w j).testBit b=true) (ha:alive (D.H j) b)=>wscope_fp D hj hb hw hf ha.1
 have hce:=fun {b:Nat} (hf:inS (D.r j) (D.w j) b) (ha:alive (D.H j) b)=>D.cont_eq hS hj hn hb hf ha.1
 refine ⟨fun b hf ha=>?_,fun b c mb mc hfb hfc hab hac eb ec e=>?_,fun b h1 h2=>?_,I.dom⟩
 ·have h1:=hce hf ha
  obtain ⟨m,e,hB⟩:=I.rel b (hsc hf ha) (by rw [h1];exact ha.2)
  exact ⟨m,e,by rw [h1] at hB;exact hB⟩
 ·exact I.inj b c mb mc (hwc hfb hab) (hsc hfc hac) (by rw [hce (inS_w hfb) hab];exact hab.2) (by rw [hce hfc hac];exact hac.2) eb ec e
 ·cases e:β b with
  | none=>rfl
  | some m =>
   exfalso
   have hm0:=D.mono (i:=0) (j:=j) (by omega) (by omega)
   have hmn:=D.mono (i:=j+1) (j:=ops.size) (by omega) (by omega)
   have hf0:=p0.fresh b (by omega) (by omega)
   obtain ⟨k,hk,hs,hkb⟩:=I.only b m e hf0
   have:=alloc_one D hk hj hkb ⟨h1,h2⟩
   subst this
   rw [hn] at hs;cases hs
end
section
variable {P:Program} {tb:Tb} {d nt:Nat} {rnd:Option Nat} {ops:Array Oper} {B:Array Nat} (D:Dr P tb d nt rnd ops B ops.size)
theorem newIn_add {S:Nat→Bool} {j b:Nat} (h:D.newIn (addS S j) b):D.newIn S b∨((D.H j).nx≤b∧b<(D.H (j+1)).nx):=by
 obtain ⟨k,hk,hs,hb⟩:=h
 by_cases e:k=j
 ·subst e;exact .inr hb
 ·exact .inl ⟨k,hk,by simpa [addS,e] using hs,hb⟩
theorem newIn_mono {S:Nat→Bool} {j b:Nat} (h:D.newIn S b):D.newIn (addS S j) b:=by
 obtain ⟨k,hk,hs,hb⟩:=h
 exact ⟨k,hk,by simp [addS,hs],hb⟩
theorem post_step {S:Nat→Bool} (hS:Closed B S) {β0 β β':Mp} {W0 W W':World} {a:Act} {rt wt r0 w0 j:Nat} {ds:List Deferred} {o:Oper} {v':Value} (hap:ApOk ops B) (hj:j<ops.size) (ho:ops[j]?=some o) (hn:S j=false)
 (hb:∀ i,i<j→(B.getD j 0).testBit i=true→S i=true) (hr:sub (D.r j) rt) (hw:sub (D.w j) wt)
 (p0:Pre β0 (D.H 0) (D.H ops.size) r0 w0 W0) (hrt:sub rt r0) (hwt:sub wt w0) (I:DInv D S β0 W0 rt wt ds β W a) (hv:VRel β' (D.v j) v') (q:Post β β' (D.H j) (D.H (j+1)) (D.w j) W W') :
 DInv D (addS S j) β0 W0 rt wt ds β' W' (a.put o.dst v'):=by
 have hm0:=D.mono (i:=0) (j:=j) (by omega) (by omega)
 have hm1:=D.mono (i:=j) (j:=j+1) (by omega) (by omega)
 have hmn:=D.mono (i:=j+1) (j:=ops.size) (by omega) (by omega)
 have pj:=pre_step D hS hj hn hb hr hw p0 I
 have hcan:=D.can hj
 have ct:=fun {b:Nat} (h:D.touch j b=true)=>D.cont_touch hS hj hn h
 have co:=fun {b:Nat} (h:D.touch j b=false)=>D.cont_other hn h ops.size
 have wr:∀ b,(D.w j).testBit b=true→b<(D.H j).nx→D.wscope S wt b∧D.cont S ops.size b=(D.H j).blk b∧(D.H j).blk b≠.no:=fun b h1 h2 =>
  ⟨wscope_fp D hj hb hw h1 h2,D.cont_eq hS hj hn hb (.inr h1) h2,(hcan.wal b h2 h1).2⟩
 have tq:∀ b,D.touch j b=true→D.cont (addS S j) ops.size b≠.no→((D.H j).nx≤b∨(D.w j).testBit b=true)∧alive (D.H (j+1)) b:=by
  intro b h1 h2
  rw [ct h1] at h2
  refine ⟨?_,(alive_iff _ _).2 h2⟩
  rcases (touch_iff D).1 h1 with h | h
  ·exact .inr h
  ·exact .inl h.1
 have sc:∀ b,D.touch j b=false→D.scope (addS S j) rt wt b→D.scope S rt wt b:=by
  intro b h1 h2
  rcases h2 with h2 | h2
  ·exact .inl h2
  ·rcases newIn_add D h2 with h | h
   ·exact .inr h
   ·rw [(touch_iff D).2 (.inr h)] at h1;cases h1
 have scw:∀ b,D.touch j b=false→D.wscope (addS S j) wt b→D.wscope S wt b:=by
  intro b h1 h2
  rcases h2 with h2 | h2
  ·exact .inl h2
  ·rcases newIn_add D h2 with h | h
   ·exact .inr h
   ·rw [(touch_iff D).2 (.inr h)] at h1;cases h1
 have known:∀ b m,D.touch j b=false→D.scope (addS S j) rt wt b→D.cont (addS S j) ops.size b≠.no→β' b=some m→β b=some m∧D.scope S rt wt b∧D.cont S ops.size b≠.no:=by
  intro b m h1 h2 h3 e
  rw [co h1] at h3
  have hs:=sc b h1 h2
  obtain ⟨m1,e1,_⟩:=I.rel b hs h3
  have:=q.le _ _ e1
  rw [e] at this;cases this
  exact ⟨e1,hs,h3⟩
 refine ⟨I.le.trans q.le,q.dom,fun b m e h0=>?_,fun b hs hc=>?_,fun b c mb mc hsb hsc hcb hcc eb ec e=>?_,fun rb ob h1 h2=>?_,Nat.le_trans I.size q.size,fun b m hb0 h0 e=>?_,
  ⟨q.env.1.trans I.env.1,q.env.2.1.trans I.env.2.1,q.env.2.2.trans I.env.2.2⟩,?_,?_,?_⟩
 ·cases e1:β b with
  | some m1=>exact newIn_mono D (I.only b m1 e1 h0)
  | none =>
   have:=q.only b m e e1
   exact ⟨j,hj,by simp [addS],this⟩
 ·cases ht:D.touch j b with
  | true =>
   obtain ⟨t1,t2⟩:=tq b ht hc
   rw [ct ht]
   exact q.rel b t1 t2
  | false =>
   rw [co ht] at hc ⊢
   have hs':=sc b ht hs
   obtain ⟨m,e,o1,ho1,hr1⟩:=I.rel b hs' hc
   refine ⟨m,q.le _ _ e,o1,?_,hr1.mono q.le⟩
   refine q.frame m.rb o1 ho1 fun c mc hcl hcw ec he=>?_
   obtain ⟨s1,s2,s3⟩:=wr c hcw hcl
   have:=I.inj c b mc m s1 hs' (by rw [s2];exact s3) hc ec e he
   subst this
   rw [(touch_iff D).2 (.inl hcw)] at ht;cases ht
 ·
  have cross:∀ b c mb mc,D.touch j b=true→D.touch j c=false→D.scope (addS S j) rt wt c→D.cont (addS S j) ops.size b≠.no→D.cont (addS S j) ops.size c≠.no→β' b=some mb→β' c=some mc→mb.rb=mc.rb→False:=by
   intro b c mb mc htb htc hsc hcb hcc eb ec e
   obtain ⟨k1,k2,k3⟩:=known c mc htc hsc hcc ec
   obtain ⟨t1,t2⟩:=tq b htb hcb
   by_cases hbl:b<(D.H j).nx
   ·have hbw:(D.w j).testBit b=true:=t1.resolve_left (by omega)
    obtain ⟨s1,s2,s3⟩:=wr b hbw hbl
    obtain ⟨m1,e1,_⟩:=I.rel b s1.scope (by rw [s2];exact s3)
    have:=q.le _ _ e1;rw [eb] at this;cases this
    have:=I.inj b c mb mc s1 k2 (by rw [s2];exact s3) k3 e1 k1 e
    subst this
    rw [htb] at htc;cases htc
   ·have hbf:β b=none:=pj.fresh b (by omega) t2.1
    rcases q.new b mb (by omega) hbf eb with h | ⟨x,mx,hx,hxw,ex,erb,_⟩
    ·have:=I.dom c mc k1;omega
    ·obtain ⟨s1,s2,s3⟩:=wr x hxw hx
     have:=I.inj x c mx mc s1 k2 (by rw [s2];exact s3) k3 ex k1 (by omega)
     subst this
     rw [(touch_iff D).2 (.inl hxw)] at htc;cases htc
  cases htb:D.touch j b with
  | true =>
   cases htc:D.touch j c with
   | true =>
    obtain ⟨b1,b2⟩:=tq b htb hcb
    obtain ⟨c1,c2⟩:=tq c htc hcc
    exact q.inj b c mb mc b1 c1 b2 c2 eb ec e
   | false=>exact (cross b c mb mc htb htc hsc hcb hcc eb ec e).elim
  | false =>
   cases htc:D.touch j c with
   | true=>exact (cross c b mc mb htc htb hsb.scope hcc hcb ec eb e.symm).elim
   | false =>
    obtain ⟨b1,b2,b3⟩:=known b mb htb hsb.scope hcb eb
    obtain ⟨c1,c2,c3⟩:=known c mc htc hsc hcc ec
    exact I.inj b c mb mc (scw b htb hsb) c2 b3 c3 b1 c1 e
 ·refine q.frame rb ob (I.frame rb ob h1 h2) fun c mc hcl hcw ec=>?_
  obtain ⟨s1,s2,s3⟩:=wr c hcw hcl
  by_cases hc0:c<(D.H 0).nx
  ·have ha0:=alive_back D hc0 (by omega:j≤ops.size) s3
   obtain ⟨m1,e1,_⟩:=p0.rel c (.inr (hwt c (hw c hcw))) ((alive_iff _ _).2 ha0)
   have:=I.le _ _ e1;rw [ec] at this;cases this
   exact h2 c mc hc0 (hw c hcw) e1
  ·have hf0:=p0.fresh c (by omega) (by omega)
   rcases I.new c mc (by omega) hf0 ec with h | ⟨x,mx,hx,hxw,ex,erb,_⟩
   ·have:rb<W0.heap.size:=by
     rcases Nat.lt_or_ge rb W0.heap.size with h' | h'
     ·exact h'
     ·simp [Array.getElem?_eq_none h'] at h1
    omega
   ·have:=h2 x mx hx hxw ex;omega
 ·
  have deadkeep:∀ x,x<(D.H 0).nx→D.cont S ops.size x=.no→D.cont (addS S j) ops.size x=.no:=by
   intro x hx hc
   cases ht:D.touch j x with
   | false=>rw [co ht];exact hc
   | true =>
    rcases (touch_iff D).1 ht with h | h
    ·obtain ⟨s1,s2,s3⟩:=wr x h (by omega)
     rw [s2] at hc;exact absurd hc s3
    ·omega
  cases e1:β b with
  | some m1 =>
   have:=q.le _ _ e1;rw [e] at this;cases this
   rcases I.new b m hb0 h0 e1 with h | ⟨c,mc,hc,hcw,ec,erb,hd⟩
   ·exact .inl h
   ·exact .inr ⟨c,mc,hc,hcw,ec,erb,deadkeep c hc hd⟩
  | none =>
   have hbb:=q.only b m e e1
   rcases q.new b m hbb.1 e1 e with h | ⟨c,mc,hc,hcw,ec,erb,hd⟩
   ·exact .inl (Nat.le_trans I.size h)
   ·obtain ⟨s1,s2,s3⟩:=wr c hcw hc
    by_cases hc0:c<(D.H 0).nx
    ·have ha0:=alive_back D hc0 (by omega:j≤ops.size) s3
     obtain ⟨m1,e2,_⟩:=p0.rel c (.inr (hwt c (hw c hcw))) ((alive_iff _ _).2 ha0)
     have:=I.le _ _ e2;rw [ec] at this;cases this
     refine .inr ⟨c,mc,hc0,hw c hcw,e2,erb,?_⟩
     rw [ct ((touch_iff D).2 (.inl hcw))]
     cases e3:(D.H (j+1)).blk c with
     | no=>rfl
     | _=>exact absurd ((alive_iff _ _).2 (by rw [e3];simp)) hd
    ·have hf0:=p0.fresh c (by omega) (by omega)
     rcases I.new c mc (by omega) hf0 ec with h | ⟨x,mx,hx,hxw,ex,erb',hdx⟩
     ·exact .inl (by omega)
     ·exact .inr ⟨x,mx,hx,hxw,ex,by omega,deadkeep x hx hdx⟩
 ·cases o.dst <;> simp [Act.put,I.tsz]
 ·intro x hx
  rw [tcont_add D hap hS hj hn x]
  have hold:=(I.tmp x hx).mono q.le
  cases hdst:o.dst with
  | none =>
   have:dstIs ops j x=false:=by simp [dstIs,ho,hdst]
   rw [if_neg (by simp [this])]
   exact hold
  | some i =>
   have hsz:x<a.tmps.size:=by rw [I.tsz];exact hx
   by_cases e:i=x
   ·subst e
    have:dstIs ops j i=true:=(dstIs_iff ho).2 hdst
    rw [if_pos this]
    simpa [Act.put,Array.getD,hsz] using hv
   ·have:¬ (dstIs ops j x=true):=fun h=>by
     have:=(dstIs_iff ho).1 h;rw [hdst] at this;cases this;exact e rfl
    rw [if_neg this]
    have hg:(a.put (some i) v').tmps.getD x undef=a.tmps.getD x undef:=by
     simp [Act.put,Array.getD,hsz,Array.getElem_setIfInBounds,e]
    rw [hg];exact hold
 ·have:(a.put o.dst v').defers=a.defers:=by cases o.dst <;> rfl
  rw [this];exact I.def_.mono q.le
end
def bfStep (acc:Array Nat) (o:Oper):Array Nat:=acc.push (o.after.foldl (fun s e=>if Region.binds .any e then s ||| 2 ^ e.on ||| acc.getD e.on 0 else s) 0)
theorem before_eq (ops:Array Oper):Region.before ops=ops.toList.foldl bfStep #[]:=by
 unfold Region.before
 rw [← Array.foldl_toList]
 rfl
theorem fold_bits (acc:Array Nat) (i:Nat):∀ (l:List Edge) (s:Nat),(l.foldl (fun s e=>if Region.binds .any e then s ||| 2 ^ e.on ||| acc.getD e.on 0 else s) s).testBit i=true →
 s.testBit i=true∨∃ e∈l,Region.binds .any e=true∧(i=e.on∨(acc.getD e.on 0).testBit i=true):=by
 intro l
 induction l with
 | nil=>intro s h;exact .inl h
 | cons e l ih =>
  intro s h
  rw [List.foldl_cons] at h
  rcases ih _ h with h1 | ⟨x,hx,h2⟩
  ·by_cases hb:Region.binds .any e=true
   ·rw [if_pos hb] at h1
    rw [Nat.testBit_or,Nat.testBit_or] at h1
    simp only [Bool.or_eq_true] at h1
    rcases h1 with (h1 | h1) | h1
    ·exact .inl h1
    ·rw [Nat.testBit_two_pow] at h1
     exact .inr ⟨e,by simp,hb,.inl (by simp at h1;exact h1.symm)⟩
    ·exact .inr ⟨e,by simp,hb,.inr h1⟩
   ·rw [if_neg hb] at h1
    exact .inl h1
  ·exact .inr ⟨x,by simp [hx],h2⟩
theorem bf_fold:∀ (l:List Oper) (acc:Array Nat),(∀ k,k<acc.size→(l.foldl bfStep acc).getD k 0=acc.getD k 0) ∧
 ∀ (k:Nat) o,l[k]?=some o→∀ i,((l.foldl bfStep acc).getD (acc.size+k) 0).testBit i=true→∃ e∈o.after.toList,Region.binds .any e=true∧(i=e.on∨((l.foldl bfStep acc).getD e.on 0).testBit i=true):=by
 intro l
 induction l with
 | nil=>intro acc;exact ⟨fun k _=>rfl,fun k o h=>by simp at h⟩
 | cons o l ih =>
  intro acc
  have hsz:(bfStep acc o).size=acc.size+1:=by simp [bfStep]
  obtain ⟨h1,h2⟩:=ih (bfStep acc o)
  have old:∀ k,k<acc.size→(bfStep acc o).getD k 0=acc.getD k 0:=by
   intro k hk
   rw [Array.getD_eq_getD_getElem?,Array.getD_eq_getD_getElem?]
   show (((acc.push _)[k]?).getD 0)=_
   rw [Array.getElem?_push_lt hk]
   simp [hk]
  have keep:∀ k,k<acc.size→(List.foldl bfStep acc (o::l)).getD k 0=acc.getD k 0:=by
   intro k hk
   rw [List.foldl_cons,h1 k (by omega),old k hk]
  refine ⟨keep,fun k o1 ho i hi=>?_⟩
  cases k with
  | zero =>
   simp at ho;subst ho
   rw [List.foldl_cons,Nat.add_zero,h1 acc.size (by omega)] at hi
   have hnew:(bfStep acc o).getD acc.size 0=o.after.foldl (fun s e=>if Region.binds .any e then s ||| 2 ^ e.on ||| acc.getD e.on 0 else s) 0:=by
    rw [Array.getD_eq_getD_getElem?]
    show (((acc.push _)[acc.size]?).getD 0)=_
    rw [Array.getElem?_push_size];rfl
   rw [hnew,← Array.foldl_toList] at hi
   rcases fold_bits acc i _ _ hi with h | ⟨e,he,hb,h⟩
   ·simp at h
   ·refine ⟨e,he,hb,h.imp id fun h=>?_⟩
    have hlt:e.on<acc.size:=by
     rcases Nat.lt_or_ge e.on acc.size with h' | h'
     ·exact h'
     ·simp [Array.getD,Nat.not_lt.2 h'] at h
    rw [keep _ hlt];exact h
  | succ k =>
   simp at ho
   have:=h2 k o1 ho i (by rw [hsz,show acc.size+1+k=acc.size+(k+1) from by omega];exact hi)
   exact this
theorem before_spec {ops:Array Oper} {j:Nat} {o:Oper} (ho:ops[j]?=some o) {i:Nat} (h:((Region.before ops).getD j 0).testBit i=true) :
 ∃ e∈o.after,Region.binds .any e=true∧(i=e.on∨((Region.before ops).getD e.on 0).testBit i=true):=by
 rw [before_eq] at h ⊢
 obtain ⟨e,he,hb,hx⟩:=(bf_fold ops.toList #[]).2 j o (by simpa using ho) i (by simpa using h)
 exact ⟨e,by simpa using he,hb,hx⟩
section
variable {P:Program} {tb:Tb} {d nt:Nat} {rnd:Option Nat} {ops:Array Oper} (D:Dr P tb d nt rnd ops (Region.before ops) ops.size)
def Closed2 (ops:Array Oper) (S:Nat→Bool):Prop:=∀ k,S k=true→∀ i,((Region.before ops).getD k 0).testBit i=true→S i=true
theorem Closed2.closed {S:Nat→Bool} (h:Closed2 ops S):Closed (Region.before ops) S:=fun k hk i _ hb=>h k hk i hb
def lst (listed:Array Bool):Nat→Bool:=fun k=>listed.getD k false
theorem lst_set {listed:Array Bool} {j:Nat} (hj:j<listed.size):lst (listed.setIfInBounds j true)=addS (lst listed) j:=by
 funext k
 unfold lst addS
 by_cases e:j=k
 ·subst e;simp [hj]
 ·have:(k == j)=false:=by simp;exact fun h=>e h.symm
  rw [this,Bool.or_false]
  exact getD_set_ne false e
def Forw (ops:Array Oper):Prop:=∀ (j:Nat) o,ops[j]?=some o→∀ e∈o.after,Region.binds .any e=true→e.on<j
theorem ready_all {listed:Array Bool} (hf:Forw ops) (hs:listed.size=ops.size) (h:Region.ready .any ops listed=[]):∀ k,k<ops.size→lst listed k=true:=by
 intro k
 induction k using Nat.strongRecOn with
 | _ k ih =>
  intro hk
  cases hl:lst listed k with
  | true=>rfl
  | false =>
   exfalso
   obtain ⟨o,ho⟩:=Dr.op hk
   have:k∈Region.ready .any ops listed:=by
    rw [mem_ready]
    refine ⟨?_,o,ho,fun e he hb=>ih e.on (hf k o ho e he hb) (by have:=hf k o ho e he hb;omega)⟩
    have hk':k<listed.size:=by omega
    simp only [lst,Array.getD,hk',dif_pos] at hl ⊢
    exact hl
   rw [h] at this;cases this
theorem draw_any {β0:Mp} {W0:World} {rt wt r0 w0:Nat} {ds:List Deferred} {F:Fence} {Q:Exit→Act→World→Prop} (hd:nt<2 ^ d) (hap:ApOk ops (Region.before ops)) (hf:Forw ops)
 (hrw:∀ i,i<ops.size→sub (D.r i) rt∧sub (D.w i) wt) (p0:Pre β0 (D.H 0) (D.H ops.size) r0 w0 W0) (hrt:sub rt r0) (hwt:sub wt w0) (hg:GRel tb.ng β0) (hF:FRel β0 rnd F)
 (hQ:∀ (S:Nat→Bool) β W a,(∀ k,k<ops.size→S k=true)→DInv D S β0 W0 rt wt ds β W a→Q .normal a W) :
 ∀ (fuel:Nat) (listed:Array Bool) (a:Act) (W:World) (β:Mp),listed.size=ops.size→Closed2 ops (lst listed)→DInv D (lst listed) β0 W0 rt wt ds β W a→((List.range ops.size).filter fun k=>!lst listed k).length≤fuel →
  wpAnyIn F 0 P .any ops Q fuel listed a W:=by
 intro fuel
 induction fuel with
 | zero =>
  intro listed a W β hs hc I hfuel
  have hall:∀ k,k<ops.size→lst listed k=true:=by
   intro k hk
   have h0:((List.range ops.size).filter fun k=>!lst listed k)=[]:=List.length_eq_zero_iff.1 (by omega)
   have:=List.filter_eq_nil_iff.1 h0 k (List.mem_range.2 hk)
   simpa using this
  refine ⟨?_,hQ _ _ _ _ hall I⟩
  cases hr:Region.ready .any ops listed with
  | nil=>rfl
  | cons j l =>
   exfalso
   have hj:j∈Region.ready .any ops listed:=by rw [hr];simp
   obtain ⟨h1,o,ho,_⟩:=mem_ready.1 hj
   have hlt:j<ops.size:=(Array.getElem?_eq_some_iff.1 ho).1
   have:=hall j hlt
   have hj':j<listed.size:=by omega
   simp only [lst,Array.getD,hj',dif_pos] at this h1
   rw [this] at h1;cases h1
 | succ fuel ih =>
  intro listed a W β hs hc I hfuel
  refine ⟨fun h=>hQ _ _ _ _ (ready_all hf hs h) I,fun j hj=>?_⟩
  obtain ⟨h1,o,ho,h2⟩:=mem_ready.1 hj
  have hlt:j<ops.size:=(Array.getElem?_eq_some_iff.1 ho).1
  have hj':j<listed.size:=by omega
  have hn:lst listed j=false:=by
   simp only [lst,Array.getD,hj',dif_pos] at h1 ⊢
   exact h1
  have hbs:∀ i,((Region.before ops).getD j 0).testBit i=true→lst listed i=true:=by
   intro i hi
   obtain ⟨e,he,hb,hx⟩:=before_spec ho hi
   rcases hx with rfl | hx
   ·exact h2 e he hb
   ·exact hc e.on (h2 e he hb) i hx
  have hb:∀ i,i<j→((Region.before ops).getD j 0).testBit i=true→lst listed i=true:=fun i _ h=>hbs i h
  have pj:=pre_step D hc.closed hlt hn hb (hrw j hlt).1 (hrw j hlt).2 p0 I
  have st:=D.step j o hlt ho
  refine st.run β W a F _ Q (hg.mono I.le) (hF.mono I.le) (fun x hx=>?_) (fun jg w dg h3 h4 h5=>?_) pj (fun β' v' W' hv q=>?_)
  ·have hok:=st.opnds x hx
   cases x with
   | tmp i =>
    have hi:=(blt_iff _ _).1 hok
    have:=I.tmp i hi
    rw [tcont_eq D hd hap hc.closed hlt hn hb hi ho (List.mem_append_left _ (List.mem_filterMap.2 ⟨.tmp i,hx,rfl⟩))] at this
    exact this
   | const v=>exact VRel.flat β 10 v hok
   | global g =>
    obtain ⟨m,e,h1,h2⟩:=(hg.mono I.le) g ((blt_iff _ _).1 hok)
    have:=VRel.ptr g 0 m e
    rw [h1,h2] at this;exact this
   | func f=>exact .func f [] [] [] [] rfl (fun i v v' h=>by simp at h) rfl (fun i v v' h=>by simp at h)
  ·have:=I.tmp dg h5
   rw [tcont_eq D hd hap hc.closed hlt hn hb h5 ho (List.mem_append_right _ (by rw [h3];simp [h4]))] at this
   exact ⟨this,I.tsz⟩
  ·refine ih (listed.setIfInBounds j true) _ W' β' (by simp [hs]) ?_ ?_ ?_
   ·rw [lst_set hj']
    intro k hk i hi
    simp only [addS,Bool.or_eq_true,beq_iff_eq] at hk ⊢
    rcases hk with hk | rfl
    ·exact .inl (hc k hk i hi)
    ·exact .inl (hbs i hi)
   ·rw [lst_set hj']
    exact post_step D hc.closed hap hlt ho hn hb (hrw j hlt).1 (hrw j hlt).2 p0 hrt hwt I hv q
   ·rw [lst_set hj']
    have hlen:∀ (l:List Nat),j∈l→(l.filter fun k=>!addS (lst listed) j k).length<(l.filter fun k=>!lst listed k).length:=by
     intro l
     induction l with
     | nil=>intro h;cases h
     | cons x l ihl =>
      intro hm
      have hle:∀ (l:List Nat),(l.filter fun k=>!addS (lst listed) j k).length≤(l.filter fun k=>!lst listed k).length:=by
       intro l
       induction l with
       | nil=>simp
       | cons y l ihy =>
        simp only [List.filter_cons]
        cases h1:lst listed y <;> cases h2:addS (lst listed) j y <;> simp <;> first | omega | (simp [addS,h1] at h2)
      by_cases e:x=j
      ·subst e
       simp only [List.filter_cons,hn]
       have:addS (lst listed) x x=true:=by simp [addS]
       simp only [this,Bool.not_true,Bool.not_false,if_true,Bool.false_eq_true,if_false,List.length_cons]
       have:=hle l;omega
      ·have hm':j∈l:=(List.mem_cons.1 hm).resolve_left (fun h=>e h.symm)
       have:=ihl hm'
       have hx:addS (lst listed) j x=lst listed x:=by simp [addS,e]
       simp only [List.filter_cons,hx]
       cases lst listed x <;> simp <;> omega
    have:=hlen (List.range ops.size) (List.mem_range.2 hlt)
    omega
end
theorem Pre.congr {β:Mp} {H H':Hp} {r w:Nat} {W W2:World} (p:Pre β H H' r w W) (h:W2.heap=W.heap):Pre β H H' r w W2 :=
 ⟨fun b hb ha=>let ⟨m,e,o,ho,hr⟩:=p.rel b hb ha;⟨m,e,o,by rw [h];exact ho,hr⟩,p.inj,p.fresh,fun b m e=>by rw [h];exact p.dom b m e⟩
theorem Post.from {β β':Mp} {H H':Hp} {w:Nat} {W W1 W2:World} (q:Post β β' H H' w W1 W2) (h:W1.heap=W.heap) (he:W1.os=W.os∧W1.tape=W.tape∧W1.output=W.output):Post β β' H H' w W W2 :=
 ⟨q.le,q.only,q.rel,fun rb o h1 h2=>q.frame rb o (by rw [h];exact h1) h2,by rw [← h];exact q.size,q.dom,fun b m h1 h2 h3=>by rw [← h];exact q.new b m h1 h2 h3,q.inj,
  ⟨q.env.1.trans he.1,q.env.2.1.trans he.2.1,q.env.2.2.trans he.2.2⟩⟩
theorem drawOk_inv {ops:Array Oper} (h:drawOk ops (Region.before ops)=true):(∀ o∈ops.toList,noDef o=true)∧Forw ops∧ApOk ops (Region.before ops):=by
 simp only [drawOk,Bool.and_eq_true,List.all_eq_true,List.mem_range] at h
 obtain ⟨⟨h1,h2⟩,h3⟩:=h
 refine ⟨h1,fun j o ho e he hb=>?_,fun i j oi oj hij hi hj=>?_⟩
 ·have hlt:j<ops.size:=(Array.getElem?_eq_some_iff.1 ho).1
  have:=h2 j hlt
  have hg:ops.getD j default=o:=by
   rw [Array.getD_eq_getD_getElem?,ho];rfl
  rw [hg] at this
  have:=Array.all_eq_true_iff_forall_mem.1 this e he
  rw [hb] at this
  exact (blt_iff _ _).1 (by simpa using this)
 ·have hlt:j<ops.size:=(Array.getElem?_eq_some_iff.1 hj).1
  have:=h3 j hlt i hij
  have hgi:ops.getD i default=oi:=by rw [Array.getD_eq_getD_getElem?,hi];rfl
  have hgj:ops.getD j default=oj:=by rw [Array.getD_eq_getD_getElem?,hj];rfl
  rw [hgi,hgj] at this
  simpa using this
theorem region_draw {P:Program} {tb:Tb} (ok:TbOk P tb) {rec:Rec} (hrec:RecOk P tb.ng rec) {cx:Cx} (hd:cx.nt<2 ^ cx.d) {ops:Array Oper} {id:Nat} (hdo:drawOk ops (Region.before ops)=true) {t:T Value} {ds:List Deferred} {H:Hp} {x:Ex}
 {t':T Value} {ds':List Deferred} {H':Hp} {r' w':Nat} (h:ofORd (Region.before ops) (evOps rec ⟨cx.d,cx.nt,cx.rnd,true⟩ (compOs tb cx.nt ops ops.toList) 0 t ds H [] 0 0)=.mk x t' ds' H' r' w') (hw:H.wf) :
 Can H H' w'∧∀ β W a F,GRel tb.ng β→FRel β cx.rnd F→ARel β cx.nt t ds a→Pre β H H' r' w' W→(Code.region id ops true).wpIn F 0 P (CPost β cx.nt H H' w' W x t' ds') a W:=by
 obtain ⟨hnd,hfw,hap⟩:=drawOk_inv hdo
 unfold ofORd at h
 split at h
 ·cases h
 ·rename_i x0 t0 ds0 H0 acc r0 w0 hev
  split at h
  ·cases hp:okPair (Region.before ops) acc with
   | false=>rw [hp,Bc_f] at h;cases h
   | true =>
    rw [hp,Bc_t] at h;cases h
    have hl:∀ k:Nat,ops.toList[k]?=ops[0+k]?:=fun k=>by simp
    obtain ⟨es,c1,rfl,_,_,c5,_,_,c8⟩:=evOps_chain ok hrec (cx:=⟨cx.d,cx.nt,cx.rnd,true⟩) rfl ops (Region.before ops) ops.toList 0 hl hnd _ _ _ _ _ _ _ _ _ _ _ _ hev hw (okPair_iff _ _ hp)
    obtain ⟨D,d1,d2,d3,d4,d5⟩:=dr_of c1 c5 c8
    obtain ⟨r2,w2,e1,e2,hcan,_⟩:=evOps_ok ok hrec (cx:=⟨cx.d,cx.nt,cx.rnd,true⟩) hd ops ops.toList 0 hl _ _ _ _ _ _ _ _ _ _ _ _ _ hev hw
    rw [zero_lor'] at e1 e2
    subst e1 e2
    refine ⟨hcan,fun β W a F hg hF ha p=>wpIn_region_any ok.mixed ?_⟩
    have hlst:lst (Array.replicate ops.size false)=fun _=>false:=by
     funext k
     simp only [lst,Array.getD]
     split <;> simp
    have c0:∀ k b,D.cont (fun _=>false) k b=(D.H 0).blk b:=by
     intro k b
     induction k with
     | zero=>rfl
     | succ k ih=>simp [Dr.cont,ih]
    have t0:∀ k y,D.tcont (fun _=>false) k y=(D.t 0).get y:=by
     intro k y
     induction k with
     | zero=>rfl
     | succ k ih=>simp [Dr.tcont,ih]
    have nn:∀ b,¬ D.newIn (fun _=>false) b:=fun b ⟨k,_,hs,_⟩=>by cases hs
    have p1:Pre β (D.H 0) (D.H ops.size) r' w' { W with drawn:=W.drawn+1 }:=by
     rw [d2,d4];exact p.congr rfl
    refine draw_any D (β0:=β) (W0:={ W with drawn:=W.drawn+1 }) (rt:=r') (wt:=w') (r0:=r') (w0:=w') (ds:=ds') hd hap hfw d5 p1 (sub_refl _) (sub_refl _) hg hF ?_ ops.size _ a _ β (by simp) ?_ ?_ ?_
    ·intro S β1 W1 a1 hall I
     have ca:=fun b=>D.cont_all hall b ops.size (Nat.le_refl _)
     have scp:∀ b,(H.nx≤b∨w'.testBit b=true)→alive H' b→D.scope S r' w' b:=by
      intro b hb hab
      rcases Nat.lt_or_ge b (D.H 0).nx with h0 | h0
      ·exact .inl ⟨h0,.inr (hb.resolve_left (by rw [← d2];omega))⟩
      ·obtain ⟨k,hk,hkb⟩:=alloc_of D ops.size (Nat.le_refl _) h0 (by rw [d4];exact hab.1)
       exact .inr ⟨k,hk,hall k hk,hkb⟩
     have scw:∀ b,(H.nx≤b∨w'.testBit b=true)→alive H' b→D.wscope S w' b:=by
      intro b hb hab
      rcases Nat.lt_or_ge b (D.H 0).nx with h0 | h0
      ·exact .inl ⟨h0,hb.resolve_left (by rw [← d2];omega)⟩
      ·obtain ⟨k,hk,hkb⟩:=alloc_of D ops.size (Nat.le_refl _) h0 (by rw [d4];exact hab.1)
       exact .inr ⟨k,hk,hall k hk,hkb⟩
     have q:Post β β1 H H' w' { W with drawn:=W.drawn+1 } W1:=by
      refine ⟨I.le,fun b m e h0=>?_,fun b hb hab=>?_,fun rb o h1 h2=>I.frame rb o h1 (fun b m hb=>h2 b m (by rw [← d2];exact hb)),I.size,I.dom,fun b m hb h0 e=>?_,fun b c mb mc hb hc hab hac eb ec e=>?_,I.env⟩
      ·obtain ⟨k,hk,_,hkb⟩:=I.only b m e h0
       have m1:=D.mono (i:=0) (j:=k) (by omega) (by omega)
       have m2:=D.mono (i:=k+1) (j:=ops.size) (by omega) (by omega)
       rw [d2] at m1;rw [d4] at m2
       omega
      ·have:=I.rel b (scp b hb hab) (by rw [ca,d4];exact hab.2)
       rw [ca,d4] at this;exact this
      ·rcases I.new b m (by rw [d2];exact hb) h0 e with h | ⟨c,mc,hc,hcw,ec,erb,hdd⟩
       ·exact .inl h
       ·rw [ca,d4] at hdd
        exact .inr ⟨c,mc,by rw [← d2];exact hc,hcw,ec,erb,fun hal=>hal.2 hdd⟩
      ·exact I.inj b c mb mc (scw b hb hab) (scp c hc hac) (by rw [ca,d4];exact hab.2) (by rw [ca,d4];exact hac.2) eb ec e
     refine ⟨β1,trivial,⟨⟨I.tsz,fun y v hv=>?_⟩,I.def_⟩,q.from rfl ⟨rfl,rfl,rfl⟩⟩
     have hy:y<cx.nt:=by
      rcases Nat.lt_or_ge y cx.nt with h' | h'
      ·exact h'
      ·rw [Array.getElem?_eq_none (by rw [I.tsz];exact h')] at hv;cases hv
     have:=I.tmp y hy
     rw [tcont_all D hd hall hy ops.size (Nat.le_refl _),d3] at this
     rw [Array.getD_eq_getD_getElem?,hv] at this
     exact this
    ·rw [hlst];intro k hk;cases hk
    ·rw [hlst]
     refine ⟨Mp.le.refl _,p1.dom,fun b m e h0=>(by rw [h0] at e;cases e),fun b hs hc=>?_,fun b c mb mc hsb hsc hcb hcc eb ec e=>?_,fun rb o h _=>h,Nat.le_refl _,fun b m _ h0 e=>(by rw [h0] at e;cases e),⟨rfl,rfl,rfl⟩,ha.1.1,fun y hy=>?_,ha.2⟩
     ·rw [c0] at hc ⊢
      exact p1.rel b ((hs.resolve_right (nn b)).2) ((alive_iff _ _).2 hc)
     ·rw [c0] at hcb hcc
      exact p1.inj b c mb mc ((hsb.resolve_right (nn b)).2) ((hsc.resolve_right (nn c)).2) ((alive_iff _ _).2 hcb) ((alive_iff _ _).2 hcc) eb ec e
     ·rw [t0,d1];exact trel_get ha.1 hy
    ·refine Nat.le_trans (List.length_filter_le _ _) ?_
     simp
  ·cases h
section
variable {F:Fence} {n:Nat} {P:Program} {Q:Exit→Act→World→Prop} {a:Act} {w:World}
theorem loopIn_next {c:Code} (h:c.wpIn F n P (Exit.then (loopIn F n P c Q) Q) a w):loopIn F n P c Q a w:=by
 intro b k cs hro hb hr
 obtain ⟨e,a₁,w₁,hq,harr⟩:=h b (.inLoop c::k) cs hro hb hr
 cases e with
 | normal =>
  obtain ⟨e₂,a₂,w₂,hq₂,harr₂⟩:=hq b k cs hro hb hr
  exact ⟨e₂,a₂,w₂,hq₂,.of_steps (StepsIn.trans harr (.one (fenced_calm hb hr rfl) stepR_inLoop)) harr₂⟩
 | exit id=>exact ⟨_,a₁,w₁,hq,.pass (x:=.inLoop c) rfl (fun _ _=>.inl (by simp)) harr⟩
 | goto l=>exact ⟨_,a₁,w₁,hq,.pass (x:=.inLoop c) rfl (fun _ _=>.inl (by simp)) harr⟩
 | ret=>exact ⟨_,a₁,w₁,hq,.pass (x:=.inLoop c) rfl (fun _ _=>.inl (by simp)) harr⟩
 | panic ch=>exact ⟨_,a₁,w₁,hq,.pass (x:=.inLoop c) rfl (fun _ _=>.inl (by simp)) harr⟩
 | outgrown=>exact ⟨_,a₁,w₁,hq,.pass (x:=.inLoop c) rfl (fun _ _=>.inl (by simp)) harr⟩
theorem wpIn_of_loopIn {c:Code} (h:loopIn F n P c Q a w):(Code.loop c).wpIn F n P Q a w:=by
 intro b k cs hro hb hr
 obtain ⟨e,a',w',hq,harr⟩:=h b k cs hro hb hr
 exact ⟨e,a',w',hq,.of_steps (.one (fenced_calm hb hr rfl) stepR_loop) harr⟩
end
section
variable {P:Program} {tb:Tb} (ok:TbOk P tb)
def CodeOk (P:Program) (tb:Tb) (cx:Cx) (c:Code) (t:T Value) (ds:List Deferred) (H:Hp) (y:CR):Prop:=match y with
 | .fail=>True
 | .mk x t' ds' H' r' w'=>Can H H' w'∧∀ β W a F,GRel tb.ng β→FRel β cx.rnd F→ARel β cx.nt t ds a→Pre β H H' r' w' W→c.wpIn F 0 P (CPost β cx.nt H H' w' W x t' ds') a W
theorem code_seq {cx:Cx} {c1 c2:Code} {t:T Value} {ds:List Deferred} {H:Hp} {y:CR} {k:T Value→List Deferred→Hp→CR} (h1:CodeOk P tb cx c1 t ds H y) (h2:∀ t ds H,H.wf→CodeOk P tb cx c2 t ds H (k t ds H)) :
 CodeOk P tb cx (.seq c1 c2) t ds H (CR.andThen y k):=by
 cases y with
 | fail=>trivial
 | mk x t1 ds1 H1 r1 w1 =>
  obtain ⟨g1,g2⟩:=h1
  cases x with
  | normal =>
   show CodeOk P tb cx _ t ds H (CR.join r1 w1 (k t1 ds1 H1))
   have h2':=h2 t1 ds1 H1 g1.wf
   cases hk:k t1 ds1 H1 with
   | fail=>trivial
   | mk x2 t2 ds2 H2 r2 w2 =>
    rw [hk] at h2'
    obtain ⟨g3,g4⟩:=h2'
    refine ⟨Can.comp g1 g3,fun β W a F hg hF ha p=>wpIn_seq (wpIn_mono (g2 β W a F hg hF ha (p.first g3)) fun e a' W' hc=>?_)⟩
    obtain ⟨β1,hx,ha1,hp⟩:=hc
    cases e <;> try exact hx.elim
    exact wpIn_mono (g4 β1 W' a' F (hg.mono hp.le) (hF.mono hp.le) ha1 (Pre.second g1 g3 p hp)) fun e a2 W2 h=>CPost.comp g1 g3 p hp h
  | _ =>
   refine ⟨g1,fun β W a F hg hF ha p=>wpIn_seq (wpIn_mono (g2 β W a F hg hF ha p) fun e a' W' hc=>?_)⟩
   have hc':=hc
   obtain ⟨β1,hx,_⟩:=hc
   cases e <;> first | exact hc' | exact hx.elim
end
section
variable {P:Program} {tb:Tb} (ok:TbOk P tb) {cx:Cx} {t:T Value} {ds:List Deferred} {H:Hp}
theorem code_block {id:Nat} {c:Code} {y:CR} (h:CodeOk P tb cx c t ds H y):CodeOk P tb cx (.block id c) t ds H (outBlock id y):=by
 cases y with
 | fail=>trivial
 | mk x t1 ds1 H1 r1 w1 =>
  obtain ⟨g1,g2⟩:=h
  cases x with
  | exit j =>
   show CodeOk P tb cx _ t ds H (Bc (Nat.beq j id) _ _)
   cases e:Nat.beq j id with
   | true =>
    have:=(beq_iff _ _).1 e;subst this
    refine ⟨g1,fun β W a F hg hF ha p=>wpIn_block (wpIn_mono (g2 β W a F hg hF ha p) fun e a' W' hc=>?_)⟩
    obtain ⟨β1,hx,ha1,hp⟩:=hc
    cases e <;> try exact hx.elim
    have:j=_:=hx
    subst this
    simp only [Exit.inBlock,if_true]
    exact ⟨β1,trivial,ha1,hp⟩
   | false =>
    refine ⟨g1,fun β W a F hg hF ha p=>wpIn_block (wpIn_mono (g2 β W a F hg hF ha p) fun e' a' W' hc=>?_)⟩
    obtain ⟨β1,hx,ha1,hp⟩:=hc
    cases e' <;> try exact hx.elim
    have:j=_:=hx
    subst this
    have hne:¬ j=id:=fun h=>by rw [(beq_iff _ _).2 h] at e;cases e
    simp only [Exit.inBlock,hne,if_false]
    exact ⟨β1,rfl,ha1,hp⟩
  | _ =>
   refine ⟨g1,fun β W a F hg hF ha p=>wpIn_block (wpIn_mono (g2 β W a F hg hF ha p) fun e a' W' hc=>?_)⟩
   obtain ⟨β1,hx,ha1,hp⟩:=hc
   cases e <;> first | exact ⟨β1,hx,ha1,hp⟩ | exact hx.elim
end
section
variable {P:Program} {tb:Tb} (ok:TbOk P tb) {cx:Cx} {t:T Value} {ds:List Deferred} {H:Hp}
theorem code_region {rec:Rec} (hrec:RecOk P tb.ng rec) (ok:TbOk P tb) (hd:cx.nt<2 ^ cx.d) {ops:Array Oper} {id:Nat} (hw:H.wf) :
 CodeOk P tb cx (.region id ops false) t ds H (ofOR (evOps rec cx (compOs tb cx.nt ops ops.toList) 0 t ds H [] 0 0)):=by
 cases h:evOps rec cx (compOs tb cx.nt ops ops.toList) 0 t ds H [] 0 0 with
 | fail=>trivial
 | mk x t' ds' H' acc r' w' =>
  have hl:∀ k:Nat,ops.toList[k]?=ops[0+k]?:=fun k=>by simp
  obtain ⟨r2,w2,e1,e2,hcan,hk⟩:=evOps_ok ok hrec hd ops ops.toList 0 hl _ _ _ _ _ _ _ _ _ _ _ _ _ h hw
  rw [zero_lor'] at e1 e2
  subst e1 e2
  refine ⟨hcan,fun β W a F hg hF ha p=>wpIn_region ?_⟩
  have:=hk β W a F hg hF ha p _ (fun e a' W' h=>h)
  rw [List.range_eq_range']
  simpa using this
end
section
variable {P:Program} {tb:Tb} (ok:TbOk P tb) {cx:Cx} {t:T Value} {ds:List Deferred} {H:Hp}
theorem code_cond {c:Operand} {x y:Code} {z:CR} {b:Bool} (hok:okO tb cx.nt c=true) (hc:asB (evalO t c)=some b) (h:CodeOk P tb cx (if b then x else y) t ds H z):CodeOk P tb cx (.cond c x y) t ds H z:=by
 cases z with
 | fail=>trivial
 | mk x1 t1 ds1 H1 r1 w1 =>
  obtain ⟨g1,g2⟩:=h
  refine ⟨g1,fun β W a F hg hF ha p=>?_⟩
  have hv:=operand_ok hg ha.1 hok
  rw [asB_inv hc] at hv
  generalize hr:a.eval c=v' at hv
  cases hv
  exact wpIn_cond hr (g2 β W a F hg hF ha p)
end
section
variable {P:Program} {tb:Tb} (ok:TbOk P tb) {cx:Cx}
theorem code_loop {rec:Rec} (hrec:RecOk P tb.ng rec) (hd:cx.nt<2 ^ cx.d) {b:Code} {t:T Value} {ds:List Deferred} {H:Hp} {y:CR} (h:CodeOk P tb cx b t ds H y) :
 (match CR.andThen y (fun t ds H=>CR.ofTR (rec (.loop b cx t ds) H)) with
  | .fail=>True
  | .mk x t' ds' H' r' w'=>Can H H' w'∧∀ β W a F,GRel tb.ng β→FRel β cx.rnd F→ARel β cx.nt t ds a→Pre β H H' r' w' W→loopIn F 0 P b (CPost β cx.nt H H' w' W x t' ds') a W):=by
 cases y with
 | fail=>trivial
 | mk x t1 ds1 H1 r1 w1 =>
  obtain ⟨g1,g2⟩:=h
  cases x with
  | normal =>
   show (match CR.join r1 w1 (CR.ofTR (rec (.loop b cx t1 ds1) H1)) with | .fail=>True | .mk ..=>_)
   have hr:=hrec (.loop b cx t1 ds1) H1 g1.wf
   cases hk:rec (.loop b cx t1 ds1) H1 with
   | k z=>trivial
   | c z =>
    cases z with
    | fail=>trivial
    | mk x2 t2 ds2 H2 r2 w2 =>
     rw [hk] at hr
     obtain ⟨g3,g4⟩:=hr hd
     refine ⟨Can.comp g1 g3,fun β W a F hg hF ha p=>loopIn_next (wpIn_mono (g2 β W a F hg hF ha (p.first g3)) fun e a' W' hc=>?_)⟩
     obtain ⟨β1,hx,ha1,hp⟩:=hc
     cases e <;> try exact hx.elim
     have:=g4 β1 W' a' F (hg.mono hp.le) (hF.mono hp.le) ha1 (Pre.second g1 g3 p hp)
     intro b' k cs h1 h2 h3
     obtain ⟨e,a2,W2,hq,harr⟩:=this b' k cs h1 h2 h3
     exact ⟨e,a2,W2,CPost.comp g1 g3 p hp hq,harr⟩
  | _ =>
   refine ⟨g1,fun β W a F hg hF ha p=>loopIn_next (wpIn_mono (g2 β W a F hg hF ha p) fun e a' W' hc=>?_)⟩
   have hc':=hc
   obtain ⟨β1,hx,_⟩:=hc
   cases e <;> first | exact hc' | exact hx.elim
end
theorem Pre.less {β:Mp} {H H':Hp} {r w r' w':Nat} {W:World} (p:Pre β H H' r w W) (h:∀ b,inS r' w' b→inS r w b) (hw:∀ b,w'.testBit b=true→w.testBit b=true):Pre β H H' r' w' W :=
 ⟨fun b hb=>p.rel b (h b hb),fun b c mb mc hb hc=>p.inj b c mb mc (hw b hb) (h c hc),p.fresh,p.dom⟩
theorem Fz_eq {α:Type} (n:Nat) (x:α):Fz n x=x:=by cases n <;> rfl
section
variable {P:Program} {tb:Tb} {cx:Cx} {t:T Value} {ds:List Deferred} {H:Hp}
theorem code_skip (hw:H.wf):CodeOk P tb cx .skip t ds H (.mk .normal t ds H 0 0) :=
 ⟨Can.refl hw,fun β _ _ _ _ _ ha p=>wpIn_skip ⟨β,trivial,ha,Post.refl p.dom⟩⟩
theorem code_label (hw:H.wf) (l:Nat):CodeOk P tb cx (.label l) t ds H (.mk .normal t ds H 0 0) :=
 ⟨Can.refl hw,fun β _ _ _ _ _ ha p=>wpIn_label ⟨β,trivial,ha,Post.refl p.dom⟩⟩
theorem code_ret (hw:H.wf):CodeOk P tb cx .ret t ds H (.mk .ret t ds H 0 0) :=
 ⟨Can.refl hw,fun β _ _ _ _ _ ha p=>wpIn_ret ⟨β,trivial,ha,Post.refl p.dom⟩⟩
theorem code_exit (hw:H.wf) (id:Nat):CodeOk P tb cx (.exit id) t ds H (.mk (.exit id) t ds H 0 0) :=
 ⟨Can.refl hw,fun β _ _ _ _ _ ha p=>wpIn_exit ⟨β,rfl,ha,Post.refl p.dom⟩⟩
theorem code_goto (hw:H.wf) (l:Nat):CodeOk P tb cx (.goto l) t ds H (.mk (.goto l) t ds H 0 0) :=
 ⟨Can.refl hw,fun β _ _ _ _ _ ha p=>wpIn_goto ⟨β,rfl,ha,Post.refl p.dom⟩⟩
theorem code_draw {rec:Rec} (ok:TbOk P tb) (hrec:RecOk P tb.ng rec) (hd:cx.nt<2 ^ cx.d) {ops:Array Oper} {id:Nat} (hw:H.wf) :
 CodeOk P tb cx (.region id ops true) t ds H (Bc (drawOk ops (Region.before ops)) (ofORd (Region.before ops) (evOps rec ⟨cx.d,cx.nt,cx.rnd,true⟩ (compOs tb cx.nt ops ops.toList) 0 t ds H [] 0 0)) .fail):=by
 cases hdo:drawOk ops (Region.before ops) with
 | false=>rw [Bc_f];trivial
 | true =>
  rw [Bc_t]
  cases h:ofORd (Region.before ops) (evOps rec ⟨cx.d,cx.nt,cx.rnd,true⟩ (compOs tb cx.nt ops ops.toList) 0 t ds H [] 0 0) with
  | fail=>trivial
  | mk x t' ds' H' r' w'=>exact region_draw ok hrec hd hdo h hw
end
end Go.Ev
end
