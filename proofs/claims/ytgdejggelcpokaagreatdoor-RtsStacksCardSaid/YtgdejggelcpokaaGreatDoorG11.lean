/-
 A part of the reckoner for the statements of a Go program: what it answers,the model answers. Holds for every program whose tables are as given.
-/
import Derived.Test.YtgdejggelcpokaaGreatDoorG09
set_option linter.unusedSimpArgs false
set_option linter.unusedVariables false
set_option linter.unusedSectionVars false
noncomputable section
namespace Go.Ev
def TR.bot:TR→Prop
 | .k (.fail _)=>True
 | .c .fail=>True
 | _=>False
def RLe (rec rec':Rec):Prop:=∀ tk H,(rec tk H).bot∨rec' tk H=rec tk H
section
variable {tb:Tb} {sp:Nat→List Value→Hp→Option (Value×Hp×Nat×Nat)} {rec rec':Rec} (h:RLe rec rec')
include h
theorem afterCall_le (tk:Task) (H:Hp) {k k':Value→Hp→Nat→Nat→OR} {p p':Value→Hp→Nat→Nat→OR} (hk:∀ v H r w,k v H r w=.fail∨k' v H r w=k v H r w) (hp:∀ v H r w,p v H r w=.fail∨p' v H r w=p v H r w) :
 afterCall (rec tk H) k p=.fail∨afterCall (rec' tk H) k' p'=afterCall (rec tk H) k p:=by
 rcases h tk H with hb | he
 ·left
  cases hx:rec tk H with
  | c y=>rfl
  | k y=>rw [hx] at hb;cases y <;> first | rfl | exact hb.elim
 ·rw [he]
  cases hx:rec tk H with
  | c y=>exact .inl rfl
  | k y =>
   cases y with
   | ret v H r w=>exact hk v H r w
   | panic v H r w=>exact hp v H r w
   | fail n=>exact .inl rfl
   | drop u H r w=>exact .inl rfl
theorem evOps_le (cx:Cx):∀ (l:List CO) (i:Nat) (t:T Value) (ds:List Deferred) (H:Hp) (acc:Acc) (r w:Nat),evOps rec cx l i t ds H acc r w=.fail∨evOps rec' cx l i t ds H acc r w=evOps rec cx l i t ds H acc r w:=by
 intro l
 induction l with
 | nil=>intro i t ds H acc r w;exact .inr rfl
 | cons o l ih =>
  intro i t ds H acc r w
  simp only [evOps]
  cases wants t o.guard with
  | false=>rw [Bc_f,Bc_f];exact ih _ _ _ _ _ _ _
  | true =>
   rw [Bc_t,Bc_t]
   cases run o.op t H with
   | fail=>exact .inl rfl
   | recover=>exact .inl rfl
   | val v H' r' w'=>exact ih _ _ _ _ _ _ _
   | panic v=>exact .inr rfl
   | call f args=>exact afterCall_le h _ _ (fun v H r w=>ih _ _ _ _ _ _ _) (fun v H r w=>.inr rfl)
   | round l args=>exact afterCall_le h _ _ (fun v H r w=>ih _ _ _ _ _ _ _) (fun v H r w=>.inr rfl)
   | defer d =>
    simp only [stepR]
    cases cx.rnd with
    | some l=>exact .inl rfl
    | none=>cases cx.drw with
     | true=>exact .inl rfl
     | false=>exact ih _ _ _ _ _ _ _
omit h in
theorem ofTR_le (tk:Task) (H:Hp) (h:RLe rec rec'):CR.ofTR (rec tk H)=.fail∨CR.ofTR (rec' tk H)=CR.ofTR (rec tk H):=by
 rcases h tk H with hb | he
 ·left
  cases hx:rec tk H with
  | k y=>rfl
  | c y=>rw [hx] at hb;cases y <;> first | rfl | exact hb.elim
 ·rw [he];exact .inr rfl
omit h in
theorem andThen_le {x x':CR} {k k':T Value→List Deferred→Hp→CR} (hx:x=.fail∨x'=x) (hk:∀ t ds H,k t ds H=.fail∨k' t ds H=k t ds H):CR.andThen x k=.fail∨CR.andThen x' k'=CR.andThen x k:=by
 rcases hx with rfl | rfl
 ·exact .inl rfl
 ·cases x' with
  | fail=>exact .inl rfl
  | mk x t ds H r w =>
   cases x with
   | normal =>
    rcases hk t ds H with e | e
    ·left;show CR.join r w (k t ds H)=_;rw [e];rfl
    ·right;show CR.join r w (k' t ds H)=CR.join r w (k t ds H);rw [e]
   | _=>exact .inr rfl
theorem afterRange_le (l:Nat) (t:T Value) (ds:List Deferred) (tk:Task) (H:Hp):afterRange l t ds (rec tk H)=.fail∨afterRange l t ds (rec' tk H)=afterRange l t ds (rec tk H):=by
 rcases h tk H with hb | he
 ·left
  cases hx:rec tk H with
  | c y=>rfl
  | k y=>rw [hx] at hb;cases y <;> first | rfl | exact hb.elim
 ·rw [he];exact .inr rfl
theorem evRange_le (cx:Cx) (f:Operand) (ps:List Tmp) (a b:Code) (t:T Value) (ds:List Deferred) (H:Hp):evRange tb rec cx f ps a b t ds H=.fail∨evRange tb rec' cx f ps a b t ds H=evRange tb rec cx f ps a b t ds H:=by
 unfold evRange
 cases cx.rnd with
 | some l=>exact .inl rfl
 | none =>
  simp only []
  cases (okO tb cx.nt f && ps.all (fun p=>Nat.blt p cx.nt)) with
  | false=>exact .inl rfl
  | true =>
   rw [Bc_t,Bc_t]
   split
   ·split
    ·split
     ·rename_i g args _
      cases hasBody tb g with
      | false=>exact .inl rfl
      | true=>rw [Bc_t,Bc_t];exact afterRange_le h _ _ _ _ _
     ·exact .inl rfl
    ·exact .inl rfl
   ·exact .inl rfl
theorem evCC_le:∀ (c:Code) (cx:Cx) (t:T Value) (ds:List Deferred) (H:Hp),evCC tb rec cx c t ds H=.fail∨evCC tb rec' cx c t ds H=evCC tb rec cx c t ds H:=by
 intro c
 induction c with
 | region id ops draw =>
  intro cx t ds H
  cases draw with
  | false =>
   simp only [evCC]
   rcases evOps_le h cx (compOs tb cx.nt ops ops.toList) 0 t ds H [] 0 0 with e | e
   ·left;rw [e];rfl
   ·right;rw [e]
  | true =>
   simp only [evCC]
   cases drawOk ops (Region.before ops) with
   | false=>exact .inl rfl
   | true =>
    rw [Bc_t,Bc_t]
    rcases evOps_le h ⟨cx.d,cx.nt,cx.rnd,true⟩ (compOs tb cx.nt ops ops.toList) 0 t ds H [] 0 0 with e | e
    ·left;rw [e];rfl
    ·right;rw [e]
 | seq a b iha ihb=>intro cx t ds H;exact andThen_le (iha cx t ds H) (fun t ds H=>ihb cx t ds H)
 | cond c a b iha ihb =>
  intro cx t ds H
  simp only [evCC]
  cases okO tb cx.nt c with
  | false=>exact .inl rfl
  | true =>
   rw [Bc_t,Bc_t]
   cases asB (evalO t c) with
   | none=>exact .inl rfl
   | some v=>cases v with
    | true=>exact iha cx t ds H
    | false=>exact ihb cx t ds H
 | block id b ih =>
  intro cx t ds H
  simp only [evCC]
  rcases ih cx t ds H with e | e
  ·left;rw [e];rfl
  ·right;rw [e]
 | loop b ih =>
  intro cx t ds H
  simp only [evCC]
  cases tb.hk cx.nt b with
  | true=>exact .inr rfl
  | false=>rw [Bc_f,Bc_f];exact andThen_le (ih cx t ds H) (fun t ds H=>ofTR_le _ _ h)
 | rangeFunc f ps a b iha ihb=>intro cx t ds H;exact evRange_le h cx f ps.toList a b t ds H
 | _=>intro cx t ds H;exact .inr rfl
omit h in
theorem join_le {x x':TR} {r w:Nat} (hx:x.bot∨x'=x):(KR.join r w x).bot∨KR.join r w x'=KR.join r w x:=by
 rcases hx with hb | rfl
 ·left
  cases x with
  | c y=>trivial
  | k y=>cases y <;> first | trivial | exact hb.elim
 ·exact .inr rfl
theorem afterBody_le {fn:Func} {x x':CR} (hx:x=.fail∨x'=x):(afterBody rec fn x).bot∨afterBody rec' fn x'=afterBody rec fn x:=by
 rcases hx with rfl | rfl
 ·exact .inl trivial
 ·cases x' with
  | fail=>exact .inl trivial
  | mk x t ds H r w =>
   cases x with
   | normal=>exact join_le (h _ _)
   | ret=>exact join_le (h _ _)
   | panic v=>exact join_le (h _ _)
   | _=>exact .inr rfl
theorem evCall_le (f:FuncId) (args:List Value) (H:Hp):(evCall tb rec f args H).bot∨evCall tb rec' f args H=evCall tb rec f args H:=by
 unfold evCall
 split
 ·exact .inr rfl
 ·split
  ·exact .inr rfl
  ·rename_i fn _ _ c _
   cases Nat.ble args.length fn.ntmps with
   | false=>exact .inr rfl
   | true=>rw [Bc_t,Bc_t];exact afterBody_le h (evCC_le h _ _ _ _ _)
theorem evUnwind_le (nt:Nat) (res:List ResultVar) (t:T Value) (ds:List Deferred) (m:FrameMode) (H:Hp):(evUnwind tb rec nt res t ds m H).bot∨evUnwind tb rec' nt res t ds m H=evUnwind tb rec nt res t ds m H:=by
 unfold evUnwind
 split
 ·exact .inr rfl
 ·split
  ·split
   ·exact join_le (h _ _)
   ·exact .inr rfl
  ·rename_i f cap _
   unfold afterDefer
   rcases h (.dcall f _ m) H with hb | he
   ·left
    split
    ·rename_i hx;rw [hx] at hb;exact hb.elim
    ·trivial
   ·rw [he]
    split
    ·split
     ·exact .inr rfl
     ·exact join_le (h _ _)
    ·exact .inr rfl
  ·exact .inr rfl
theorem evRound_le (l:Nat) (args:List Value) (H:Hp):(evRound tb rec l args H).bot∨evRound tb rec' l args H=evRound tb rec l args H:=by
 unfold evRound
 split
 ·split
  ·exact .inr rfl
  ·rename_i t _
   rcases evCC_le (tb:=tb) h _ ⟨_,_,some l,false⟩ t [] H with e | e
   ·left;rw [e];trivial
   ·rw [e]
    split
    ·split
     ·rename_i hb
      rcases evCC_le (tb:=tb) h _ ⟨_,_,some l,false⟩ _ [] _ with e2 | e2
      ·left;rw [e2];trivial
      ·right;rw [e2]
     ·exact .inr rfl
    ·exact .inr rfl
 ·exact .inr rfl
theorem evTask_le:RLe (evTask tb sp rec) (evTask tb sp rec'):=by
 intro tk H
 cases tk with
 | call f args =>
  simp only [evTask]
  cases sp f args H with
  | none=>exact evCall_le h f args H
  | some q=>exact .inr rfl
 | dcall f args um=>exact .inr rfl
 | round l args=>exact evRound_le h l args H
 | loop b cx t ds =>
  simp only [evTask]
  cases tb.hk cx.nt b with
  | true=>exact .inr rfl
  | false =>
   rw [Bc_f,Bc_f]
   rcases andThen_le (evCC_le (tb:=tb) h b cx t ds H) (fun t ds H=>ofTR_le (.loop b cx t ds) H h) with e | e
   ·left;rw [e];trivial
   ·right;rw [e]
 | unwind nt res t ds m=>exact evUnwind_le h nt res t ds m H
end
variable {tb:Tb} {sp:Nat→List Value→Hp→Option (Value×Hp×Nat×Nat)}
theorem ev_step_le:∀ n,RLe (ev tb sp n) (ev tb sp (n+1)):=by
 intro n
 induction n with
 | zero=>intro tk H;exact .inl trivial
 | succ n ih=>exact evTask_le ih
theorem ev_le {n m:Nat} (hnm:n≤m):RLe (ev tb sp n) (ev tb sp m):=by
 induction m with
 | zero => have:n=0:=by omega
           subst this;intro tk H;exact .inr rfl
 | succ m ih =>
  by_cases e:n=m+1
  ·subst e;intro tk H;exact .inr rfl
  ·intro tk H
   rcases ih (by omega) tk H with hb | he
   ·exact .inl hb
   ·rcases ev_step_le (tb:=tb) (sp:=sp) m tk H with hb | he2
    ·rw [he] at hb;exact .inl hb
    ·right;rw [he2,he]
end Go.Ev
end
noncomputable section
namespace Go.Ev
inductive KC where
 | skip | ret | bad
 | exit (id:Nat)
 | goto (l:Nat)
 | reg (cos:List CO)
 | draw (B:Array Nat) (cos:List CO)
 | seq (a b:KC)
 | cond (c:Operand) (a b:KC)
 | block (id:Nat) (b:KC)
 | loop (c:Code) (b:KC)
 | hook (c:Code)
 | rangef (f:Operand) (ps:Array Tmp) (a b:Code) (ka kb:KC)
def kcomp (tb:Tb) (nt:Nat):Code→KC
 | .skip=>.skip
 | .label _=>.skip
 | .ret=>.ret
 | .exit id=>.exit id
 | .goto l=>.goto l
 | .region _ ops draw=>(match draw with
  | false=>.reg (compOs tb nt ops ops.toList)
  | true=>Bc (drawOk ops (Region.before ops)) (.draw (Region.before ops) (compOs tb nt ops ops.toList)) .bad)
 | .seq a b=>.seq (kcomp tb nt a) (kcomp tb nt b)
 | .cond c a b=>Bc (okO tb nt c) (.cond c (kcomp tb nt a) (kcomp tb nt b)) .bad
 | .block id b=>.block id (kcomp tb nt b)
 | .loop b=>Bc (tb.hk nt b) (.hook b) (.loop b (kcomp tb nt b))
 | .rangeFunc f ps a b=>.rangef f ps a b (kcomp tb nt a) (kcomp tb nt b)
 | _=>.bad
def _root_.Go.Code.sl:Code→Code | .seq a _=>a | _=>.skip
def _root_.Go.Code.sr:Code→Code | .seq _ b=>b | _=>.skip
def _root_.Go.Code.ca:Code→Code | .cond _ a _=>a | _=>.skip
def _root_.Go.Code.cb:Code→Code | .cond _ _ b=>b | _=>.skip
def _root_.Go.Code.bl:Code→Code | .block _ b=>b | _=>.skip
def _root_.Go.Code.lp:Code→Code | .loop b=>b | _=>.skip
def _root_.Go.Code.ra:Code→Code | .rangeFunc _ _ a _=>a | _=>.skip
def _root_.Go.Code.rb:Code→Code | .rangeFunc _ _ _ b=>b | _=>.skip
structure Env where
 n0:Nat
 Rd:Nat→Prop
 Wr:Nat→Prop
structure Env.ok (e:Env) (r w:Nat) (H':Hp):Prop where
 rd:∀ b,b<e.n0→r.testBit b=true→e.Rd b
 wr:∀ b,b<e.n0→w.testBit b=true→e.Wr b
 lt:∀ b,r.testBit b=true∨w.testBit b=true→b<H'.nx
theorem Env.ok.zero (e:Env) (H:Hp):e.ok 0 0 H:=⟨fun b _ h=>by simp at h,fun b _ h=>by simp at h,fun b h=>by simp at h⟩
theorem Env.ok.lor {e:Env} {r1 w1 r2 w2:Nat} {H1 H2:Hp} (h1:e.ok r1 w1 H1) (h2:e.ok r2 w2 H2) (hm:H1.nx≤H2.nx):e.ok (Nat.lor r1 r2) (Nat.lor w1 w2) H2:=by
 refine ⟨fun b hb h=>?_,fun b hb h=>?_,fun b h=>?_⟩
 ·rw [lor_bit] at h;simp only [Bool.or_eq_true] at h
  rcases h with h | h
  ·exact h1.rd b hb h
  ·exact h2.rd b hb h
 ·rw [lor_bit] at h;simp only [Bool.or_eq_true] at h
  rcases h with h | h
  ·exact h1.wr b hb h
  ·exact h2.wr b hb h
 ·rw [lor_bit,lor_bit] at h;simp only [Bool.or_eq_true] at h
  rcases h with (h | h) | (h | h)
  ·exact Nat.lt_of_lt_of_le (h1.lt b (.inl h)) hm
  ·exact h2.lt b (.inl h)
  ·exact Nat.lt_of_lt_of_le (h1.lt b (.inr h)) hm
  ·exact h2.lt b (.inr h)
theorem Env.ok.read {e:Env} {b:Nat} {H:Hp} (hb:b<H.nx) (h:b<e.n0→e.Rd b):e.ok (bit b) 0 H :=
 ⟨fun c hc hh=>by have:=(bit_iff b c).1 hh;subst this;exact h hc,fun c _ hh=>by simp at hh,fun c hh=>by
  rcases hh with hh | hh
  ·have:=(bit_iff b c).1 hh;subst this;exact hb
  ·simp at hh⟩
theorem Env.ok.write {e:Env} {b:Nat} {H:Hp} (hb:b<H.nx) (h:b<e.n0→e.Wr b):e.ok 0 (bit b) H :=
 ⟨fun c _ hh=>by simp at hh,fun c hc hh=>by have:=(bit_iff b c).1 hh;subst this;exact h hc,fun c hh=>by
  rcases hh with hh | hh
  ·simp at hh
  ·have:=(bit_iff b c).1 hh;subst this;exact hb⟩
section
variable (tb:Tb) (sp:Nat→List Value→Hp→Option (Value×Hp×Nat×Nat)) (e:Env)
def EC (f:FuncId) (args:List Value) (H:Hp) (K:Value→Hp→Prop):Prop :=
 ∃ N v H' r w,ev tb sp N (.call f args) H=.k (.ret v H' r w)∧e.ok r w H'∧H.nx≤H'.nx∧K v H'
def WR (x:R) (H:Hp) (K:Value→Hp→Prop):Prop:=match x with
 | .val v H' r w=>e.ok r w H'∧H.nx≤H'.nx∧K v H'
 | .call f args=>EC tb sp e f args H K
 | _=>False
def WO (cx:Cx) (cos:List CO) (t:T Value) (ds:List Deferred) (H:Hp) (K:T Value→List Deferred→Hp→Prop):Prop :=
 ∃ N t' ds' H' r w,(∀ i acc r0 w0,∃ acc',evOps (ev tb sp N) cx cos i t ds H acc r0 w0=.mk .normal t' ds' H' acc' (Nat.lor r0 r) (Nat.lor w0 w))∧e.ok r w H'∧H.nx≤H'.nx∧K t' ds' H'
def WC (cx:Cx) (c:Code) (t:T Value) (ds:List Deferred) (H:Hp) (K:Ex→T Value→List Deferred→Hp→Prop):Prop :=
 ∃ N x t' ds' H' r w,evCC tb (ev tb sp N) cx c t ds H=.mk x t' ds' H' r w∧e.ok r w H'∧H.nx≤H'.nx∧K x t' ds' H'
def WK (cx:Cx) (k:KC) (t:T Value) (ds:List Deferred) (H:Hp) (K:Ex→T Value→List Deferred→Hp→Prop):Prop :=
 ∀ c,kcomp tb cx.nt c=k→WC tb sp e cx c t ds H K
end
section
variable {tb:Tb} {sp:Nat→List Value→Hp→Option (Value×Hp×Nat×Nat)} {e:Env}
theorem EC.mono {f:FuncId} {args:List Value} {H:Hp} {K K':Value→Hp→Prop} (h:EC tb sp e f args H K) (hk:∀ v H',H.nx≤H'.nx→K v H'→K' v H'):EC tb sp e f args H K' :=
 let ⟨N,v,H',r,w,h1,h2,h3,h4⟩:=h;⟨N,v,H',r,w,h1,h2,h3,hk _ _ h3 h4⟩
theorem ev_up {N M:Nat} (hNM:N≤M) {tk:Task} {H:Hp} {x:KR} (h:ev tb sp N tk H=.k x) (hx:¬ (TR.k x).bot):ev tb sp M tk H=.k x:=by
 rcases ev_le (tb:=tb) (sp:=sp) hNM tk H with hb | he
 ·rw [h] at hb;exact absurd hb hx
 ·rw [he,h]
theorem evOps_up {N M:Nat} (hNM:N≤M) {cx:Cx} {cos:List CO} {i:Nat} {t:T Value} {ds:List Deferred} {H:Hp} {acc:Acc} {r w:Nat} {x:Ex} {t':T Value} {ds':List Deferred} {H':Hp} {acc':Acc} {r' w':Nat}
 (h:evOps (ev tb sp N) cx cos i t ds H acc r w=.mk x t' ds' H' acc' r' w'):evOps (ev tb sp M) cx cos i t ds H acc r w=.mk x t' ds' H' acc' r' w':=by
 rcases evOps_le (ev_le (tb:=tb) (sp:=sp) hNM) cx cos i t ds H acc r w with he | he
 ·rw [h] at he;cases he
 ·rw [he,h]
theorem evCC_up {N M:Nat} (hNM:N≤M) {cx:Cx} {c:Code} {t:T Value} {ds:List Deferred} {H:Hp} {x:Ex} {t':T Value} {ds':List Deferred} {H':Hp} {r' w':Nat}
 (h:evCC tb (ev tb sp N) cx c t ds H=.mk x t' ds' H' r' w'):evCC tb (ev tb sp M) cx c t ds H=.mk x t' ds' H' r' w':=by
 rcases evCC_le (tb:=tb) (ev_le (tb:=tb) (sp:=sp) hNM) c cx t ds H with he | he
 ·rw [h] at he;cases he
 ·rw [he,h]
theorem WO.mono {cx:Cx} {cos:List CO} {t:T Value} {ds:List Deferred} {H:Hp} {K K':T Value→List Deferred→Hp→Prop} (h:WO tb sp e cx cos t ds H K) (hk:∀ t' ds' H',H.nx≤H'.nx→K t' ds' H'→K' t' ds' H'):WO tb sp e cx cos t ds H K' :=
 let ⟨N,t',ds',H',r,w,h1,h2,h3,h4⟩:=h;⟨N,t',ds',H',r,w,h1,h2,h3,hk _ _ _ h3 h4⟩
theorem WC.mono {cx:Cx} {c:Code} {t:T Value} {ds:List Deferred} {H:Hp} {K K':Ex→T Value→List Deferred→Hp→Prop} (h:WC tb sp e cx c t ds H K) (hk:∀ x t' ds' H',H.nx≤H'.nx→K x t' ds' H'→K' x t' ds' H'):WC tb sp e cx c t ds H K' :=
 let ⟨N,x,t',ds',H',r,w,h1,h2,h3,h4⟩:=h;⟨N,x,t',ds',H',r,w,h1,h2,h3,hk _ _ _ _ h3 h4⟩
theorem WK.mono {cx:Cx} {k:KC} {t:T Value} {ds:List Deferred} {H:Hp} {K K':Ex→T Value→List Deferred→Hp→Prop} (h:WK tb sp e cx k t ds H K) (hk:∀ x t' ds' H',H.nx≤H'.nx→K x t' ds' H'→K' x t' ds' H'):WK tb sp e cx k t ds H K' :=
 fun c hc=>(h c hc).mono hk
theorem WO.nil {cx:Cx} {t:T Value} {ds:List Deferred} {H:Hp} {K:T Value→List Deferred→Hp→Prop} (h:K t ds H):WO tb sp e cx [] t ds H K :=
 ⟨0,t,ds,H,0,0,fun i acc r0 w0=>⟨acc,by rw [lor_zero',lor_zero'];rfl⟩,.zero e H,Nat.le_refl _,h⟩
theorem WO.skip {cx:Cx} {o:CO} {cos:List CO} {t:T Value} {ds:List Deferred} {H:Hp} {K:T Value→List Deferred→Hp→Prop} (hg:wants t o.guard=false) (h:WO tb sp e cx cos (putT cx.d t o.dst U) ds H K):WO tb sp e cx (o::cos) t ds H K:=by
 obtain ⟨N,t',ds',H',r,w,h1,h2,h3,h4⟩:=h
 refine ⟨N,t',ds',H',r,w,fun i acc r0 w0=>?_,h2,h3,h4⟩
 simp only [evOps,hg,Bc_f]
 exact h1 _ _ _ _
theorem WO.cons {cx:Cx} {o:CO} {cos:List CO} {t:T Value} {ds:List Deferred} {H:Hp} {K:T Value→List Deferred→Hp→Prop} (hg:wants t o.guard=true)
 (h:WR tb sp e (run o.op t H) H fun v H1=>WO tb sp e cx cos (putT cx.d t o.dst v) ds H1 K):WO tb sp e cx (o::cos) t ds H K:=by
 cases hr:run o.op t H with
 | val v H1 r1 w1 =>
  rw [hr] at h
  obtain ⟨a1,a2,N,t',ds',H',r,w,h1,h2,h3,h4⟩:=h
  refine ⟨N,t',ds',H',Nat.lor r1 r,Nat.lor w1 w,fun i acc r0 w0=>?_,a1.lor h2 h3,Nat.le_trans a2 h3,h4⟩
  simp only [evOps,hg,Bc_t,hr,stepR]
  obtain ⟨acc',h5⟩:=h1 (Nat.succ i) ((i,r1,Nat.lor w1 (rng H H1))::acc) (Nat.lor r0 r1) (Nat.lor w0 w1)
  exact ⟨acc',by rw [h5,lor_assoc',lor_assoc']⟩
 | call f args =>
  rw [hr] at h
  obtain ⟨N1,v,H1,r1,w1,b1,a1,a2,N,t',ds',H',r,w,h1,h2,h3,h4⟩:=h
  refine ⟨max N1 N,t',ds',H',Nat.lor r1 r,Nat.lor w1 w,fun i acc r0 w0=>?_,a1.lor h2 h3,Nat.le_trans a2 h3,h4⟩
  simp only [evOps,hg,Bc_t,hr,stepR]
  rw [ev_up (Nat.le_max_left N1 N) b1 (fun h=>h)]
  simp only [afterCall]
  obtain ⟨acc',h5⟩:=h1 (Nat.succ i) ((i,r1,Nat.lor w1 (rng H H1))::acc) (Nat.lor r0 r1) (Nat.lor w0 w1)
  exact ⟨acc',by rw [evOps_up (Nat.le_max_right N1 N) h5,lor_assoc',lor_assoc']⟩
 | fail=>rw [hr] at h;exact h.elim
 | round l args=>rw [hr] at h;exact h.elim
 | panic v=>rw [hr] at h;exact h.elim
 | defer d=>rw [hr] at h;exact h.elim
 | recover=>rw [hr] at h;exact h.elim
variable {cx:Cx} {t:T Value} {ds:List Deferred} {H:Hp} {K:Ex→T Value→List Deferred→Hp→Prop}
theorem WK.skip (h:K .normal t ds H):WK tb sp e cx .skip t ds H K:=by
 intro c hc
 cases c <;> simp only [kcomp,reduceCtorEq] at hc
 ·exact ⟨0,.normal,t,ds,H,0,0,rfl,.zero e H,Nat.le_refl _,h⟩
 all_goals first
  | exact ⟨0,.normal,t,ds,H,0,0,rfl,.zero e H,Nat.le_refl _,h⟩
  | (exfalso;revert hc;split <;> first | (intro hc;cases hc;done) | (generalize drawOk _ _=b;cases b <;> intro hc <;> cases hc))
  | (exfalso;revert hc;generalize okO tb cx.nt _=b;cases b <;> intro hc <;> cases hc)
  | (exfalso;revert hc;generalize tb.hk cx.nt _=b;cases b <;> intro hc <;> cases hc)
theorem kcomp_ret {c:Code} {nt:Nat} (hc:kcomp tb nt c=.ret):c=.ret:=by
 cases c <;> simp only [kcomp,reduceCtorEq] at hc
 all_goals first
  | rfl
  | (exfalso;revert hc;split <;> first | (intro hc;cases hc;done) | (generalize drawOk _ _=b;cases b <;> intro hc <;> cases hc))
  | (exfalso;revert hc;generalize okO tb nt _=b;cases b <;> intro hc <;> cases hc)
  | (exfalso;revert hc;generalize tb.hk nt _=b;cases b <;> intro hc <;> cases hc)
theorem WK.ret (h:K .ret t ds H):WK tb sp e cx .ret t ds H K:=by
 intro c hc
 have:=kcomp_ret hc;subst this
 exact ⟨0,.ret,t,ds,H,0,0,rfl,.zero e H,Nat.le_refl _,h⟩
theorem kcomp_exit {c:Code} {nt id:Nat} (hc:kcomp tb nt c=.exit id):c=.exit id:=by
 cases c <;> simp only [kcomp,reduceCtorEq,KC.exit.injEq] at hc
 all_goals first
  | (subst hc;rfl)
  | (exfalso;revert hc;split <;> first | (intro hc;cases hc;done) | (generalize drawOk _ _=b;cases b <;> intro hc <;> cases hc))
  | (exfalso;revert hc;generalize okO tb nt _=b;cases b <;> intro hc <;> cases hc)
  | (exfalso;revert hc;generalize tb.hk nt _=b;cases b <;> intro hc <;> cases hc)
theorem WK.exit {id:Nat} (h:K (.exit id) t ds H):WK tb sp e cx (.exit id) t ds H K:=by
 intro c hc
 have:=kcomp_exit hc;subst this
 exact ⟨0,.exit id,t,ds,H,0,0,rfl,.zero e H,Nat.le_refl _,h⟩
theorem kcomp_seq {c:Code} {nt:Nat} {a b:KC} (hc:kcomp tb nt c=.seq a b):∃ x y,c=.seq x y∧kcomp tb nt x=a∧kcomp tb nt y=b:=by
 cases c <;> simp only [kcomp,reduceCtorEq,KC.seq.injEq] at hc
 all_goals first
  | exact ⟨_,_,rfl,hc.1,hc.2⟩
  | (exfalso;revert hc;split <;> first | (intro hc;cases hc;done) | (generalize drawOk _ _=b;cases b <;> intro hc <;> cases hc))
  | (exfalso;revert hc;generalize okO tb nt _=b;cases b <;> intro hc <;> cases hc)
  | (exfalso;revert hc;generalize tb.hk nt _=b;cases b <;> intro hc <;> cases hc)
theorem WK.seq {a b:KC} (h:WK tb sp e cx a t ds H fun x t1 ds1 H1=>match x with | .normal=>WK tb sp e cx b t1 ds1 H1 K | y=>K y t1 ds1 H1):WK tb sp e cx (.seq a b) t ds H K:=by
 intro c hc
 obtain ⟨x,y,rfl,ha,hb⟩:=kcomp_seq hc
 obtain ⟨N,x1,t1,ds1,H1,r1,w1,h1,h2,h3,h4⟩:=h x ha
 cases x1 with
 | normal =>
  obtain ⟨N2,x2,t2,ds2,H2,r2,w2,g1,g2,g3,g4⟩:=h4 y hb
  refine ⟨max N N2,x2,t2,ds2,H2,Nat.lor r1 r2,Nat.lor w1 w2,?_,h2.lor g2 g3,Nat.le_trans h3 g3,g4⟩
  simp only [evCC]
  rw [evCC_up (Nat.le_max_left N N2) h1]
  show CR.join r1 w1 (evCC tb (ev tb sp (max N N2)) cx y t1 ds1 H1)=_
  rw [evCC_up (Nat.le_max_right N N2) g1];rfl
 | _ =>
  refine ⟨N,_,t1,ds1,H1,r1,w1,?_,h2,h3,h4⟩
  simp only [evCC];rw [h1];rfl
theorem kcomp_cond {c:Code} {nt:Nat} {o:Operand} {a b:KC} (hc:kcomp tb nt c=.cond o a b):∃ x y,c=.cond o x y∧kcomp tb nt x=a∧kcomp tb nt y=b∧okO tb nt o=true:=by
 cases c <;> simp only [kcomp,reduceCtorEq] at hc
 all_goals first
  | (exfalso;revert hc;split <;> first | (intro hc;cases hc;done) | (generalize drawOk _ _=b;cases b <;> intro hc <;> cases hc);done)
  | (exfalso;revert hc;generalize tb.hk nt _=b;cases b <;> intro hc <;> cases hc;done)
  | skip
 rename_i o' x y
 cases h:okO tb nt o' with
 | false=>rw [h,Bc_f] at hc;cases hc
 | true=>rw [h,Bc_t] at hc;cases hc;exact ⟨x,y,rfl,rfl,rfl,h⟩
theorem WK.cond {o:Operand} {a b:KC} {v:Bool} (hv:asB (evalO t o)=some v) (h:WK tb sp e cx (if v then a else b) t ds H K):WK tb sp e cx (.cond o a b) t ds H K:=by
 intro c hc
 obtain ⟨x,y,rfl,ha,hb,hok⟩:=kcomp_cond hc
 cases v with
 | true =>
  obtain ⟨N,x1,t1,ds1,H1,r1,w1,h1,h2⟩:=h x ha
  refine ⟨N,x1,t1,ds1,H1,r1,w1,?_,h2⟩
  simp only [evCC,hok,Bc_t,hv,h1]
 | false =>
  obtain ⟨N,x1,t1,ds1,H1,r1,w1,h1,h2⟩:=h y hb
  refine ⟨N,x1,t1,ds1,H1,r1,w1,?_,h2⟩
  simp only [evCC,hok,Bc_t,hv,h1]
theorem kcomp_block {c:Code} {nt id:Nat} {b:KC} (hc:kcomp tb nt c=.block id b):∃ x,c=.block id x∧kcomp tb nt x=b:=by
 cases c <;> simp only [kcomp,reduceCtorEq,KC.block.injEq] at hc
 all_goals first
  | (obtain ⟨rfl,h⟩:=hc;exact ⟨_,rfl,h⟩)
  | (exfalso;revert hc;split <;> first | (intro hc;cases hc;done) | (generalize drawOk _ _=b;cases b <;> intro hc <;> cases hc))
  | (exfalso;revert hc;generalize okO tb nt _=b;cases b <;> intro hc <;> cases hc)
  | (exfalso;revert hc;generalize tb.hk nt _=b;cases b <;> intro hc <;> cases hc)
def inBl (id:Nat) (K:Ex→T Value→List Deferred→Hp→Prop):Ex→T Value→List Deferred→Hp→Prop:=fun x t ds H=>match x with
 | .exit j=>if j=id then K .normal t ds H else K (.exit j) t ds H
 | y=>K y t ds H
theorem WK.block {id:Nat} {b:KC} (h:WK tb sp e cx b t ds H (inBl id K)):WK tb sp e cx (.block id b) t ds H K:=by
 intro c hc
 obtain ⟨x,rfl,hb⟩:=kcomp_block hc
 obtain ⟨N,x1,t1,ds1,H1,r1,w1,h1,h2,h3,h4⟩:=h x hb
 cases x1 with
 | exit j =>
  by_cases e:j=id
  ·subst e
   refine ⟨N,.normal,t1,ds1,H1,r1,w1,?_,h2,h3,by simpa [inBl] using h4⟩
   simp only [evCC,h1,outBlock,(beq_iff j j).2 rfl,Bc_t]
  ·refine ⟨N,.exit j,t1,ds1,H1,r1,w1,?_,h2,h3,by simpa [inBl,e] using h4⟩
   have:Nat.beq j id=false:=by
    cases hh:Nat.beq j id with
    | false=>rfl
    | true=>exact absurd ((beq_iff _ _).1 hh) e
   simp only [evCC,h1,outBlock,this,Bc_f]
 | _ =>
  refine ⟨N,_,t1,ds1,H1,r1,w1,?_,h2,h3,h4⟩
  simp only [evCC,h1,outBlock]
theorem kcomp_loop {c:Code} {nt:Nat} {d:Code} {b:KC} (hc:kcomp tb nt c=.loop d b):c=.loop d∧kcomp tb nt d=b∧tb.hk nt d=false:=by
 cases c <;> simp only [kcomp,reduceCtorEq,KC.loop.injEq] at hc
 all_goals first
  | (rename_i b';revert hc;cases hh:tb.hk nt b' with
   | true=>(intro hc;cases hc)
   | false=>(intro hc;cases hc;exact ⟨rfl,rfl,hh⟩))
  | (exfalso;revert hc;split <;> first | (intro hc;cases hc;done) | (generalize drawOk _ _=b;cases b <;> intro hc <;> cases hc))
  | (exfalso;revert hc;generalize okO tb nt _=b;cases b <;> intro hc <;> cases hc)
  | (exfalso;revert hc;generalize tb.hk nt _=b;cases b <;> intro hc <;> cases hc)
theorem WK.loop {d:Code} {b:KC} (h:WK tb sp e cx b t ds H fun x t1 ds1 H1=>match x with | .normal=>WK tb sp e cx (.loop d b) t1 ds1 H1 K | y=>K y t1 ds1 H1):WK tb sp e cx (.loop d b) t ds H K:=by
 intro c hc
 obtain ⟨rfl,hb,hh⟩:=kcomp_loop hc
 obtain ⟨N,x1,t1,ds1,H1,r1,w1,h1,h2,h3,h4⟩:=h d hb
 cases x1 with
 | normal =>
  obtain ⟨N2,x2,t2,ds2,H2,r2,w2,g1,g2,g3,g4⟩:=h4 (.loop d) (by simp only [kcomp];rw [hh,Bc_f,hb])
  refine ⟨max N (N2+1),x2,t2,ds2,H2,Nat.lor r1 r2,Nat.lor w1 w2,?_,h2.lor g2 g3,Nat.le_trans h3 g3,g4⟩
  simp only [evCC]
  rw [hh,Bc_f,evCC_up (Nat.le_max_left N (N2+1)) h1]
  show CR.join r1 w1 (CR.ofTR (ev tb sp (max N (N2+1)) (.loop d cx t1 ds1) H1))=_
  have e1:ev tb sp (N2+1) (.loop d cx t1 ds1) H1=.c (evCC tb (ev tb sp N2) cx (.loop d) t1 ds1 H1):=rfl
  have e2:ev tb sp (max N (N2+1)) (.loop d cx t1 ds1) H1=.c (.mk x2 t2 ds2 H2 r2 w2):=by
   rcases ev_le (tb:=tb) (sp:=sp) (Nat.le_max_right N (N2+1)) (.loop d cx t1 ds1) H1 with hb | he
   ·rw [e1,g1] at hb;exact hb.elim
   ·rw [he,e1,g1]
  rw [e2];rfl
 | _ =>
  refine ⟨N,_,t1,ds1,H1,r1,w1,?_,h2,h3,h4⟩
  simp only [evCC];rw [hh,Bc_f,h1];rfl
theorem WK.loop_ind {d:Code} {b:KC} (I:Nat→T Value→List Deferred→Hp→Prop)
 (h:∀ n t ds H,I n t ds H→WK tb sp e cx b t ds H fun x t1 ds1 H1=>match x with | .normal=>∃ m,m<n∧I m t1 ds1 H1 | y=>K y t1 ds1 H1):∀ n t ds H,I n t ds H→WK tb sp e cx (.loop d b) t ds H K:=by
 intro n
 induction n using Nat.strongRecOn with
 | _ n ih =>
  intro t ds H hI
  refine WK.loop ((h n t ds H hI).mono fun x t1 ds1 H1 _ hx=>?_)
  cases x with
  | normal=>obtain ⟨m,hm,hI'⟩:=hx;exact ih m hm _ _ _ hI'
  | _=>exact hx
theorem kcomp_reg {c:Code} {nt:Nat} {cos:List CO} (hc:kcomp tb nt c=.reg cos):∃ id ops,c=.region id ops false∧compOs tb nt ops ops.toList=cos:=by
 cases c <;> simp only [kcomp,reduceCtorEq] at hc
 all_goals first
  | (exfalso;revert hc;generalize okO tb nt _=b;cases b <;> intro hc <;> cases hc;done)
  | (exfalso;revert hc;generalize tb.hk nt _=b;cases b <;> intro hc <;> cases hc;done)
  | skip
 rename_i id ops draw
 cases draw with
 | false=>simp only [KC.reg.injEq] at hc;exact ⟨id,ops,rfl,hc⟩
 | true =>
  simp only at hc
  cases h:drawOk ops (Region.before ops) with
  | false=>rw [h,Bc_f] at hc;cases hc
  | true=>rw [h,Bc_t] at hc;cases hc
theorem WK.reg {cos:List CO} (h:WO tb sp e cx cos t ds H (K .normal)):WK tb sp e cx (.reg cos) t ds H K:=by
 intro c hc
 obtain ⟨id,ops,rfl,hcos⟩:=kcomp_reg hc
 obtain ⟨N,t',ds',H',r,w,h1,h2,h3,h4⟩:=h
 obtain ⟨acc',h5⟩:=h1 0 [] 0 0
 refine ⟨N,.normal,t',ds',H',r,w,?_,h2,h3,h4⟩
 simp only [evCC,hcos,h5,ofOR,zero_lor']
end
section
variable {tb:Tb} {sp:Nat→List Value→Hp→Option (Value×Hp×Nat×Nat)} {e:Env}
def cxOf (fn:Func):Cx:=⟨dep fn.ntmps,fn.ntmps,none,false⟩
def Leaves (tb:Tb) (e:Env) (fn:Func) (K:Value→Hp→Prop):Ex→T Value→List Deferred→Hp→Prop:=fun x t ds H =>
 (x=.normal∨x=.ret)∧ds=[]∧∃ l r,resL tb fn.ntmps t H fn.results.toList=some (l,r)∧e.ok r 0 H∧K (resV l) H
theorem EC.intro {f:FuncId} {fn:Func} {c:Code} {k:KC} {args:List Value} {H:Hp} {K:Value→Hp→Prop} (hs:sp f args H=none) (hf:tb.fn f=some fn) (hb:fn.body=some c) (hk:kcomp tb fn.ntmps c=k) (hn:args.length≤fn.ntmps)
 (h:WK tb sp e (cxOf fn) k (enterT fn args) [] H (Leaves tb e fn K)):EC tb sp e f args H K:=by
 obtain ⟨N,x,t,ds,H',r,w,h1,h2,h3,hx,rfl,l,r2,h4,h5,h6⟩:=h c hk
 refine ⟨max N 1+1,resV l,H',Nat.lor r r2,Nat.lor w 0,?_,h2.lor h5 (Nat.le_refl _),h3,h6⟩
 show evTask tb sp (ev tb sp (max N 1)) (.call f args) H=_
 simp only [evTask,hs,evCall,hf,hb]
 have hn':=(ble_iff args.length fn.ntmps).2 hn
 rw [hn',Bc_t]
 have hu:ev tb sp (max N 1) (.unwind fn.ntmps fn.results.toList t [] .returning) H'=.k (.ret (resV l) H' r2 0):=by
  refine ev_up (Nat.le_max_right N 1) ?_ (fun h=>h)
  show evUnwind tb (ev tb sp 0) fn.ntmps fn.results.toList t [] .returning H'=_
  simp only [evUnwind,h4]
 have h1':=evCC_up (Nat.le_max_left N 1) h1
 show afterBody (ev tb sp (max N 1)) fn (evCC tb (ev tb sp (max N 1)) (cxOf fn) c (enterT fn args) [] H)=_
 rw [h1']
 rcases hx with rfl | rfl
 ·simp only [afterBody,hu,KR.join,Fz_eq]
 ·simp only [afterBody,hu,KR.join,Fz_eq]
structure En where
 i:Nat
 R:Nat→Prop
 W:Nat→Prop
def Chk (B:Array Nat) (i:Nat) (R W:Nat→Prop) (A:List En):Prop :=
 ∀ en∈A,(B.getD i 0).testBit en.i=true∨((∀ b,en.W b→¬ R b∧¬ W b)∧∀ b,W b→¬ en.R b)
def Rz (A:List En) (acc:Acc):Prop :=
 ∀ x∈acc,(x.2.1=0∧x.2.2=0)∨∃ en∈A,en.i=x.1∧(∀ b,x.2.1.testBit b=true→en.R b)∧(∀ b,x.2.2.testBit b=true→en.W b)
theorem land_eq_zero {x y:Nat} (h:∀ b,x.testBit b=true→y.testBit b=false):Nat.land x y=0:=by
 apply Nat.eq_of_testBit_eq
 intro b
 show (x &&& y).testBit b=_
 rw [Nat.testBit_and,Nat.zero_testBit]
 cases hx:x.testBit b with
 | false=>rfl
 | true=>rw [h b hx];rfl
theorem okOne_of {B:Array Nat} {i:Nat} {R W:Nat→Prop} {A:List En} {acc:Acc} {r w:Nat} (hc:Chk B i R W A) (hz:Rz A acc) (hr:∀ b,r.testBit b=true→R b) (hw:∀ b,w.testBit b=true→W b):okOne (B.getD i 0) r w acc=true:=by
 induction acc with
 | nil=>rfl
 | cons x acc ih =>
  obtain ⟨j,rj,wj⟩:=x
  have ih':=ih fun y hy=>hz y (by simp [hy])
  simp only [okOne]
  cases ht:Nat.testBit (B.getD i 0) j with
  | true=>rw [Bc_t];exact ih'
  | false =>
   rw [Bc_f]
   have key:(∀ b,wj.testBit b=true→(Nat.lor r w).testBit b=false)∧(∀ b,w.testBit b=true→rj.testBit b=false):=by
    rcases hz (j,rj,wj) (by simp) with ⟨h1,h2⟩ | ⟨en,hen,h1,h2,h3⟩
    ·simp only at h1 h2;subst h1 h2
     exact ⟨fun b h=>by simp at h,fun b _=>by simp⟩
    ·simp only at h1 h2 h3
     subst h1
     rcases hc en hen with h4 | ⟨h4,h5⟩
     ·rw [ht] at h4;cases h4
     ·refine ⟨fun b hb=>?_,fun b hb=>?_⟩
      ·have:=h4 b (h3 b hb)
       rw [lor_bit]
       cases h6:r.testBit b with
       | true=>exact absurd (hr b h6) this.1
       | false=>cases h7:w.testBit b with
        | true=>exact absurd (hw b h7) this.2
        | false=>rfl
      ·cases h6:rj.testBit b with
       | false=>rfl
       | true=>exact absurd (h2 b h6) (h5 b (hw b hb))
   rw [land_eq_zero key.1,land_eq_zero key.2]
   exact ih'
def WD (tb:Tb) (sp:Nat→List Value→Hp→Option (Value×Hp×Nat×Nat)) (e:Env) (cx:Cx) (B:Array Nat) (cos:List CO) (i:Nat) (t:T Value) (ds:List Deferred) (H:Hp) (A:List En) (K:T Value→List Deferred→Hp→Prop):Prop :=
 ∃ N t' ds' H' r w,(∀ acc r0 w0,Rz A acc→okPair B acc=true→∃ acc',okPair B acc'=true∧evOps (ev tb sp N) ⟨cx.d,cx.nt,cx.rnd,true⟩ cos i t ds H acc r0 w0=.mk .normal t' ds' H' acc' (Nat.lor r0 r) (Nat.lor w0 w))∧e.ok r w H'∧H.nx≤H'.nx∧K t' ds' H'
def WRd (tb:Tb) (sp:Nat→List Value→Hp→Option (Value×Hp×Nat×Nat)) (e:Env) (B:Array Nat) (i:Nat) (x:R) (H:Hp) (A:List En) (K:Value→Hp→List En→Prop):Prop:=match x with
 | .val v H' r w=>e.ok r w H'∧H.nx≤H'.nx ∧
  ((r=0∧w=0∧H'.nx=H.nx∧K v H' A)∨∃ R W:Nat→Prop,(∀ b,r.testBit b=true→R b)∧(∀ b,w.testBit b=true∨(H.nx≤b∧b<H'.nx)→W b)∧Chk B i R W A∧K v H' (⟨i,R,W⟩::A))
 | .call f args=>∃ e':Env,e.n0≤e'.n0∧e'.n0=H.nx∧(∀ b,b<e.n0→e'.Rd b→e.Rd b)∧(∀ b,b<e.n0→e'.Wr b→e.Wr b) ∧
  EC tb sp e' f args H fun v H'=>∀ R W:Nat→Prop,(∀ b,R b↔(b<H.nx∧e'.Rd b)∨(H.nx≤b∧b<H'.nx))→(∀ b,W b↔(b<H.nx∧e'.Wr b)∨(H.nx≤b∧b<H'.nx))→Chk B i R W A∧K v H' (⟨i,R,W⟩::A)
 | _=>False
theorem WD.nil {cx:Cx} {B:Array Nat} {i:Nat} {t:T Value} {ds:List Deferred} {H:Hp} {A:List En} {K:T Value→List Deferred→Hp→Prop} (h:K t ds H):WD tb sp e cx B [] i t ds H A K :=
 ⟨0,t,ds,H,0,0,fun acc r0 w0 _ ho=>⟨acc,ho,by rw [lor_zero',lor_zero'];rfl⟩,.zero e H,Nat.le_refl _,h⟩
theorem WD.skip {cx:Cx} {B:Array Nat} {o:CO} {cos:List CO} {i:Nat} {t:T Value} {ds:List Deferred} {H:Hp} {A:List En} {K:T Value→List Deferred→Hp→Prop} (hg:wants t o.guard=false) (h:WD tb sp e cx B cos (i+1) (putT cx.d t o.dst U) ds H A K) :
 WD tb sp e cx B (o::cos) i t ds H A K:=by
 obtain ⟨N,t',ds',H',r,w,h1,h2,h3,h4⟩:=h
 refine ⟨N,t',ds',H',r,w,fun acc r0 w0 hz ho=>?_,h2,h3,h4⟩
 simp only [evOps,hg,Bc_f]
 exact h1 _ _ _ hz ho
theorem rng_none {H H':Hp} (h:H'.nx=H.nx):rng H H'=0:=by unfold rng;rw [h];exact Nat.sub_self _
theorem Rz.cons {A:List En} {acc:Acc} {i r a:Nat} {R W:Nat→Prop} (hz:Rz A acc) (hr:∀ b,r.testBit b=true→R b) (hw:∀ b,a.testBit b=true→W b):Rz (⟨i,R,W⟩::A) ((i,r,a)::acc):=by
 intro x hx
 rcases List.mem_cons.1 hx with rfl | hx
 ·exact .inr ⟨⟨i,R,W⟩,by simp,rfl,hr,hw⟩
 ·rcases hz x hx with h | ⟨en,h1,h2⟩
  ·exact .inl h
  ·exact .inr ⟨en,List.mem_cons.2 (.inr h1),h2⟩
theorem WD.cons {cx:Cx} {B:Array Nat} {o:CO} {cos:List CO} {i:Nat} {t:T Value} {ds:List Deferred} {H:Hp} {A:List En} {K:T Value→List Deferred→Hp→Prop} (hg:wants t o.guard=true)
 (h:WRd tb sp e B i (run o.op t H) H A fun v H1 A1=>WD tb sp e cx B cos (i+1) (putT cx.d t o.dst v) ds H1 A1 K):WD tb sp e cx B (o::cos) i t ds H A K:=by
 cases hr:run o.op t H with
 | val v H1 r1 w1 =>
  rw [hr] at h
  obtain ⟨a1,a2,h⟩:=h
  rcases h with ⟨rfl,rfl,hn,N,t',ds',H',r,w,h1,h2,h3,h4⟩ | ⟨R,W,hR,hW,hc,N,t',ds',H',r,w,h1,h2,h3,h4⟩
  ·refine ⟨N,t',ds',H',r,w,fun acc r0 w0 hz ho=>?_,h2,Nat.le_trans a2 h3,h4⟩
   simp only [evOps,hg,Bc_t,hr,stepR]
   rw [rng_none hn]
   obtain ⟨acc',h5,h6⟩:=h1 ((i,0,Nat.lor 0 0)::acc) (Nat.lor r0 0) (Nat.lor w0 0) (fun x hx=>by
    rcases List.mem_cons.1 hx with rfl | hx
    ·exact .inl ⟨rfl,rfl⟩
    ·exact hz x hx) (by
    simp only [okPair,Bool.and_eq_true]
    exact ⟨okOne_of (R:=fun _=>False) (W:=fun _=>False) (A:=A) (fun en _=>.inr ⟨fun b _=>⟨id,id⟩,fun b h=>h.elim⟩) hz (fun b h=>by simp at h) (fun b h=>by rw [lor_zero'] at h;simp at h),ho⟩)
   exact ⟨acc',h5,by rw [h6,lor_zero',lor_zero']⟩
  ·refine ⟨N,t',ds',H',Nat.lor r1 r,Nat.lor w1 w,fun acc r0 w0 hz ho=>?_,a1.lor h2 h3,Nat.le_trans a2 h3,h4⟩
   simp only [evOps,hg,Bc_t,hr,stepR]
   have hWa:∀ b,(Nat.lor w1 (rng H H1)).testBit b=true→W b:=fun b hb=>by
    rw [lor_bit] at hb;simp only [Bool.or_eq_true] at hb
    rcases hb with hb | hb
    ·exact hW b (.inl hb)
    ·exact hW b (.inr ((rng_bit a2 b).1 hb))
   obtain ⟨acc',h5,h6⟩:=h1 ((i,r1,Nat.lor w1 (rng H H1))::acc) (Nat.lor r0 r1) (Nat.lor w0 w1) (hz.cons hR hWa) (by
    simp only [okPair,Bool.and_eq_true]
    exact ⟨okOne_of hc hz hR hWa,ho⟩)
   exact ⟨acc',h5,by rw [h6,lor_assoc',lor_assoc']⟩
 | call f args =>
  rw [hr] at h
  obtain ⟨e',q1,q2,q3,q4,N1,v,H1,r1,w1,b1,a1,a2,h⟩:=h
  obtain ⟨hc,N,t',ds',H',r,w,h1,h2,h3,h4⟩:=h _ _ (fun b=>Iff.rfl) (fun b=>Iff.rfl)
  have hR:∀ b,r1.testBit b=true→(b<H.nx∧e'.Rd b)∨(H.nx≤b∧b<H1.nx):=fun b hb=>by
   rcases Nat.lt_or_ge b H.nx with hlt | hge
   ·exact .inl ⟨hlt,a1.rd b (by omega) hb⟩
   ·exact .inr ⟨hge,a1.lt b (.inl hb)⟩
  have hW:∀ b,(Nat.lor w1 (rng H H1)).testBit b=true→(b<H.nx∧e'.Wr b)∨(H.nx≤b∧b<H1.nx):=fun b hb=>by
   rw [lor_bit] at hb;simp only [Bool.or_eq_true] at hb
   rcases hb with hb | hb
   ·rcases Nat.lt_or_ge b H.nx with hlt | hge
    ·exact .inl ⟨hlt,a1.wr b (by omega) hb⟩
    ·exact .inr ⟨hge,a1.lt b (.inr hb)⟩
   ·exact .inr ((rng_bit a2 b).1 hb)
  have a1':e.ok r1 w1 H1:=⟨fun b hb hh=>q3 b hb (a1.rd b (Nat.lt_of_lt_of_le hb q1) hh),fun b hb hh=>q4 b hb (a1.wr b (Nat.lt_of_lt_of_le hb q1) hh),a1.lt⟩
  refine ⟨max N1 N,t',ds',H',Nat.lor r1 r,Nat.lor w1 w,fun acc r0 w0 hz ho=>?_,a1'.lor h2 h3,Nat.le_trans a2 h3,h4⟩
  simp only [evOps,hg,Bc_t,hr,stepR]
  rw [ev_up (Nat.le_max_left N1 N) b1 (fun h=>h)]
  simp only [afterCall]
  obtain ⟨acc',h5,h6⟩:=h1 ((i,r1,Nat.lor w1 (rng H H1))::acc) (Nat.lor r0 r1) (Nat.lor w0 w1) (hz.cons hR hW) (by
   simp only [okPair,Bool.and_eq_true]
   exact ⟨okOne_of hc hz hR hW,ho⟩)
  exact ⟨acc',h5,by rw [evOps_up (Nat.le_max_right N1 N) h6,lor_assoc',lor_assoc']⟩
 | fail=>rw [hr] at h;exact h.elim
 | round l args=>rw [hr] at h;exact h.elim
 | panic v=>rw [hr] at h;exact h.elim
 | defer d=>rw [hr] at h;exact h.elim
 | recover=>rw [hr] at h;exact h.elim
theorem kcomp_draw {c:Code} {nt:Nat} {B:Array Nat} {cos:List CO} (hc:kcomp tb nt c=.draw B cos):∃ id ops,c=.region id ops true∧compOs tb nt ops ops.toList=cos∧Region.before ops=B∧drawOk ops (Region.before ops)=true:=by
 cases c <;> simp only [kcomp,reduceCtorEq] at hc
 all_goals first
  | (exfalso;revert hc;generalize okO tb nt _=b;cases b <;> intro hc <;> cases hc;done)
  | (exfalso;revert hc;generalize tb.hk nt _=b;cases b <;> intro hc <;> cases hc;done)
  | skip
 rename_i id ops draw
 cases draw with
 | false=>simp only [reduceCtorEq] at hc
 | true =>
  simp only at hc
  cases h:drawOk ops (Region.before ops) with
  | false=>rw [h,Bc_f] at hc;cases hc
  | true=>rw [h,Bc_t] at hc;cases hc;exact ⟨id,ops,rfl,rfl,rfl,h⟩
theorem WK.draw {cx:Cx} {B:Array Nat} {cos:List CO} {t:T Value} {ds:List Deferred} {H:Hp} {K:Ex→T Value→List Deferred→Hp→Prop} (h:WD tb sp e cx B cos 0 t ds H [] (K .normal)):WK tb sp e cx (.draw B cos) t ds H K:=by
 intro c hc
 obtain ⟨id,ops,rfl,hcos,rfl,hdo⟩:=kcomp_draw hc
 obtain ⟨N,t',ds',H',r,w,h1,h2,h3,h4⟩:=h
 obtain ⟨acc',h5,h6⟩:=h1 [] 0 0 (fun x hx=>by cases hx) rfl
 refine ⟨N,.normal,t',ds',H',r,w,?_,h2,h3,h4⟩
 simp only [evCC,hdo,Bc_t,hcos,h6,ofORd,h5,zero_lor']
end
section
theorem evalO_tmp (t:T Value) (i:Nat):evalO t (.tmp i)=t.get i:=rfl
theorem evalO_const (t:T Value) (v:Value):evalO t (.const v)=v:=rfl
theorem evalO_func (t:T Value) (f:FuncId):evalO t (.func f)=.func (.func f) #[] #[]:=rfl
theorem get_putT {d i j:Nat} (hi:i<2 ^ d) (hj:j<2 ^ d) (t:T Value) (v:Value):(putT d t (some i) v).get j=if j=i then v else t.get j:=T.get_set d t i j v hi hj
theorem putT_none (d:Nat) (t:T Value) (v:Value):putT d t none v=t:=rfl
theorem enterT_get {fn:Func} {args:List Value} (hn:args.length≤fn.ntmps) {i:Nat} (hi:i<fn.ntmps):(enterT fn args).get i=args.getD i U:=by
 unfold enterT
 have hd:=lt_dep fn.ntmps
 rw [wrL_get (dep fn.ntmps) args 0 _ i (by omega) (by omega)]
 by_cases h:i<args.length
 ·rw [if_pos ⟨Nat.zero_le _,by omega⟩];simp
 ·rw [if_neg (by omega),fullU_get]
  simp [List.getD,List.getElem?_eq_none (Nat.le_of_not_lt h)]
theorem ltI_dec (x y:Int):ltI x y=decide (x<y):=ltI_eq x y
theorem eqI_dec (x y:Int):eqI x y=decide (x=y):=by rw [eqI_eq];rfl
theorem wrapF_i64 {n:Int} (h1 : -9223372036854775808≤n) (h2:n≤9223372036854775807):wrapF .i64 n=n:=by
 cases n with
 | ofNat m =>
  show Bc (Nat.ble m 9223372036854775807) _ _=_
  have h3:(m:Int)≤9223372036854775807:=h2
  rw [(ble_iff m 9223372036854775807).2 (by omega)];rfl
 | negSucc m =>
  show Bc (IntKind.i64.signed && Nat.ble m 9223372036854775807) _ _=_
  rw [(ble_iff m 9223372036854775807).2 (by omega)];rfl
theorem binV_add (a b:Int):binV .add (.int .i64 a) (.int .i64 b)=some (.int .i64 (wrapF .i64 (a+b))):=rfl
theorem binV_sub (a b:Int):binV .sub (.int .i64 a) (.int .i64 b)=some (.int .i64 (wrapF .i64 (a-b))):=rfl
theorem binV_lss (a b:Int):binV .lss (.int .i64 a) (.int .i64 b)=some (.bool (decide (a<b))):=by rw [← ltI_dec];rfl
theorem binV_gtr (a b:Int):binV .gtr (.int .i64 a) (.int .i64 b)=some (.bool (decide (b<a))):=by rw [← ltI_dec];rfl
theorem binV_leq (a b:Int):binV .leq (.int .i64 a) (.int .i64 b)=some (.bool (!decide (b<a))):=by rw [← ltI_dec];rfl
theorem binV_geq (a b:Int):binV .geq (.int .i64 a) (.int .i64 b)=some (.bool (!decide (a<b))):=by rw [← ltI_dec];rfl
theorem exEq_int (neg:Bool) (a b:Int) (H:Hp):exEq neg (.one .i) (.int .i64 a) (.int .i64 b) H=.val (.bool (Bc neg (!decide (a=b)) (decide (a=b)))) H 0 0:=by rw [← eqI_dec];rfl
theorem Ro_some (v:Value) (H:Hp):R.o (some v) H=.val v H 0 0:=rfl
theorem Rv_eq (v:Value) (H:Hp):R.v v H=.val v H 0 0:=rfl
def Row (H:Hp) (b:Nat) (ty op:Nat) (L:List Value):Prop:=∃ t,H.blk b=.cells t L.length ty op 0 0∧∀ (i:Nat) v,L[i]?=some v→t.get i=v
theorem Row.alive {H:Hp} {b ty op:Nat} {L:List Value} (h:Row H b ty op L):alive H b:=by
 obtain ⟨t,h,_⟩:=h;exact (alive_iff H b).2 (by rw [h];simp)
theorem Row.lt {H:Hp} {b ty op:Nat} {L:List Value} (h:Row H b ty op L):b<H.nx:=h.alive.1
theorem Row.of_blk {H H':Hp} {b ty op:Nat} {L:List Value} (h:Row H b ty op L) (e:H'.blk b=H.blk b):Row H' b ty op L:=by
 obtain ⟨t,h1,h2⟩:=h;exact ⟨t,e.trans h1,h2⟩
theorem exLd1_row {H:Hp} {b ty op o:Nat} {L:List Value} {v:Value} (h:Row H b ty op L) (hv:L[o]?=some v):exLd1 (.pointer (some ⟨b,o,none⟩)) H=.val v H (bit b) 0:=by
 obtain ⟨t,h1,h2⟩:=h
 have hlt:o<L.length:=by
  rcases Nat.lt_or_ge o L.length with h' | h'
  ·exact h'
  ·rw [List.getElem?_eq_none h'] at hv;cases hv
 show (match rd1 H b o with | some x=>R.val x H (bit b) 0 | none=>.fail)=_
 have:rd1 H b o=some v:=by
  unfold rd1;rw [h1];simp only []
  rw [(blt_iff o L.length).2 hlt,Bc_t,h2 o v hv]
 rw [this]
theorem rdL_list {t:T Value} {L:List Value} (h:∀ (i:Nat) v,L[i]?=some v→t.get i=v):∀ (k o:Nat),o+k≤L.length→rdL t k o=(L.drop o).take k:=by
 intro k o hle
 apply List.ext_getElem?
 intro i
 by_cases hi:i<k
 ·rw [rdL_get t k o i hi,List.getElem?_take_of_lt hi,List.getElem?_drop]
  have:o+i<L.length:=by omega
  rw [h (o+i) L[o+i] (by simp [this])]
  simp [this]
 ·rw [List.getElem?_eq_none (by rw [rdL_len];omega),List.getElem?_eq_none (by simp;omega)]
theorem rdN_row {H:Hp} {b ty op o k:Nat} {L:List Value} (h:Row H b ty op L) (hle:o+k≤L.length):rdN H b o k=some ((L.drop o).take k):=by
 obtain ⟨t,h1,h2⟩:=h
 unfold rdN;rw [h1];simp only []
 rw [(ble_iff _ _).2 hle,Bc_t,rdL_list h2 k o hle]
theorem exLdN_row {H:Hp} {b ty op o k:Nat} {L:List Value} (h:Row H b ty op L) (hle:o+k≤L.length):exLdN k (.pointer (some ⟨b,o,none⟩)) H=.val (.agg ⟨(L.drop o).take k⟩) H (bit b) 0:=by
 show (match rdN H b o k with | some l=>R.val (.agg ⟨l⟩) H (bit b) 0 | none=>.fail)=_
 rw [rdN_row h hle]
theorem exFa_ptr (off b o:Nat) (H:Hp):exFa off (.pointer (some ⟨b,o,none⟩)) H=.val (.pointer (some ⟨b,o+off,none⟩)) H 0 0:=rfl
theorem idx_int {i:Int} {n:Nat} (h1:0≤i) (h2:i<n):idx (.int .i64 i) n=some i.toNat:=by
 obtain ⟨m,rfl⟩:=Int.eq_ofNat_of_zero_le h1
 show (match natI (Int.ofNat m) with | some m=>Bc (Nat.blt m n) (some m) none | none=>none)=_
 simp only [natI]
 rw [(blt_iff m n).2 (by omega),Bc_t];rfl
theorem exIaS_int {sz b o n c:Nat} {i:Int} {H:Hp} (h1:0≤i) (h2:i<n):exIaS sz (.slice (some ⟨b,o,none⟩) n c) (.int .i64 i) H=.val (.pointer (some ⟨b,o+i.toNat*sz,none⟩)) H 0 0:=by
 unfold exIaS asSl
 simp only [idx_int h1 h2];rfl
theorem exIaA_int {n sz b o:Nat} {i:Int} {H:Hp} (h1:0≤i) (h2:i<n):exIaA n sz (.pointer (some ⟨b,o,none⟩)) (.int .i64 i) H=.val (.pointer (some ⟨b,o+i.toNat*sz,none⟩)) H 0 0:=by
 show (match idx (.int .i64 i) n with | some m=>R.pt b (o+m*sz) H 0 0 | none=>.fail)=_
 rw [idx_int h1 h2];rfl
theorem row_push {H:Hp} (hr:H.room=true) (L:List Value) (ty op:Nat):Row (H.push (blkL L ty op)) H.nx ty op L:=by
 obtain ⟨t,h1,h2⟩:=blkL_eq L ty op
 exact ⟨t,by rw [blk_push _ hr,if_pos rfl,h1],h2⟩
theorem alloc1_room {H:Hp} (hr:H.room=true) (x:Blk) (f:Nat→Value) (r w:Nat):alloc1 x H f r w=.val (f H.nx) (H.push x) r w:=by rw [alloc1_eq,if_pos hr]
theorem blk_push_old {H:Hp} (hr:H.room=true) (x:Blk) {c:Nat} (h:c<H.nx):(H.push x).blk c=H.blk c:=by rw [blk_push _ hr,if_neg (by omega)]
theorem blk_put_ne {H:Hp} (hw:H.wf) (x:Blk) {b c:Nat} (hb:b<H.nx) (h:c≠b):(H.put b x).blk c=H.blk c:=by rw [blk_put _ hw hb,if_neg h]
theorem asSl_open (b o l c:Nat):asSl (.slice (some ⟨b,o,none⟩) l (2*c+1))=some (some (b,o),l,c,true):=by
 show some (some (b,o),l,Nat.div (2*c+1) 2,Nat.beq (Nat.mod (2*c+1) 2) 1)=_
 have h1:Nat.div (2*c+1) 2=c:=by show (2*c+1) / 2=c;omega
 have h2:Nat.mod (2*c+1) 2=1:=by show (2*c+1) % 2=1;omega
 rw [h1,h2];rfl
theorem asSl_shut (b o l c:Nat):asSl (.slice (some ⟨b,o,none⟩) l (2*c))=some (some (b,o),l,c,false):=by
 show some (some (b,o),l,Nat.div (2*c) 2,Nat.beq (Nat.mod (2*c) 2) 1)=_
 have h1:Nat.div (2*c) 2=c:=by show (2*c) / 2=c;omega
 have h2:Nat.mod (2*c) 2=0:=by show (2*c) % 2=0;omega
 rw [h1,h2];rfl
end
section
theorem okBytes_of {need bytes:Nat} (h1:(2*need+768)*bytes≤140737488355328) (h2:need≤140737488355328):okBytes need bytes=true:=by
 unfold okBytes
 rw [(ble_iff _ _).2 h1,(ble_iff _ _).2 h2];rfl
theorem rdN_all {H:Hp} {b ty op:Nat} {L:List Value} (h:Row H b ty op L):rdN H b 0 L.length=some L:=by
 rw [rdN_row h (by omega)];simp
theorem cellsOf_slice {H:Hp} {b ty op o n sz c:Nat} {L:List Value} (h:Row H b ty op L) (hle:o+n*sz≤L.length):cellsOfV H sz n (.slice (some ⟨b,o,none⟩) n c)=some ((L.drop o).take (n*sz),bit b):=by
 unfold cellsOfV
 simp only [rdN_row h hle]
theorem exApp_nil {H:Hp} (hr:H.room=true) {ty sz by_ n r:Nat} {x:Value} {new:List Value} (hl:lenV x=some n) (hn:0<n) (hc:cellsOfV H sz n x=some (new,r)) (hb:okBytes n by_=true) :
 exApp ty sz by_ (.slice none 0 0) x H=.val (.slice (some ⟨H.nx,0,none⟩) n (2*n+1)) (H.push (blkL new ty (sz+1))) r 0:=by
 unfold exApp
 simp only [hl,hc,asSl,Nat.zero_add]
 have h1:Nat.ble n 0=false:=by rw [ble_f];exact hn
 rw [h1,Bc_f,hb,Bc_t]
 show Bc (Nat.beq 0 0) _ _=_
 rw [show Nat.beq 0 0=true from rfl,Bc_t,alloc1_room hr]
 rfl
theorem thawed_zero (o k:Nat):thawed o k 0 0=true:=by
 unfold thawed
 rw [show Nat.ble 0 0=true from rfl];rfl
theorem exApp_open {H:Hp} (hr:H.room=true) {ty sz by_ n m r b:Nat} {L:List Value} {x:Value} {new:List Value} (h:Row H b ty (sz+1) L) (hL:L.length=m*sz) (hl:lenV x=some n) (hn:0<n) (hc:cellsOfV H sz n x=some (new,r)) (hb:okBytes (m+n) by_=true) :
 exApp ty sz by_ (.slice (some ⟨b,0,none⟩) m (2*m+1)) x H=.val (.slice (some ⟨H.nx,0,none⟩) (m+n) (2*(m+n)+1)) ((H.put b .no).push (blkL (L++new) ty (sz+1))) r (bit b):=by
 obtain ⟨t,h1,h2⟩:=h
 have hrow:Row H b ty (sz+1) L:=⟨t,h1,h2⟩
 unfold exApp
 simp only [hl,hc,asSl_open]
 have h3:Nat.ble (m+n) m=false:=by rw [ble_f];omega
 rw [h3,Bc_f,hb,Bc_t,← hL,rdN_all hrow]
 simp only [h1]
 rw [Bc_t]
 have hcond:(Nat.beq (sz+1) (Nat.succ sz) && Nat.beq (0+L.length) L.length && Nat.beq ty ty && (Nat.ble 0 0 || Nat.ble 0 0) && thawed (0+L.length) (n*sz) 0 0)=true:=by
  rw [thawed_zero,(beq_iff (sz+1) (Nat.succ sz)).2 rfl,(beq_iff (0+L.length) L.length).2 (by omega),(beq_iff ty ty).2 rfl];rfl
 rw [hcond,Bc_t,alloc1_room (by rw [room_put];exact hr),nx_put]
 have hfr:frB (Nat.blt 0 0) (0-0) (0-0) (blkL (L++new) ty (Nat.succ sz))=blkL (L++new) ty (sz+1):=by
  obtain ⟨t2,e2,_⟩:=blkL_eq (L++new) ty (sz+1)
  show frB (Nat.blt 0 0) (0-0) (0-0) (blkL (L++new) ty (sz+1))=_
  rw [e2];rfl
 rw [hfr]
 rfl
end
end Go.Ev
end
noncomputable section
namespace Go.Ev
section
variable (tb:Tb) (sp:Nat→List Value→Hp→Option (Value×Hp×Nat×Nat)) (e:Env)
def WOR (d:Nat) (H:Hp) (K:T Value→Prop):List CO→T Value→Prop
 | [],t=>K t
 | o::cos,t=>(match wants t o.guard with
  | true=>(match run o.op t H with
   | .val v H' r w=>H'=H∧w=0∧e.ok r 0 H∧WOR d H K cos (putT d t o.dst v)
   | _=>False)
  | false=>WOR d H K cos (putT d t o.dst U))
mutual
def WOG (d:Nat) (K:T Value→Hp→Prop):List CO→T Value→Hp→Prop
 | [],t,H=>K t H
 | o::cos,t,H=>(match wants t o.guard with
  | true=>(match run o.op t H with
   | .val v H1 r w=>e.ok r w H1∧H.nx≤H1.nx∧WOG d K cos (putT d t o.dst v) H1
   | .call f args=>EC tb sp e f args H (WOGk d K cos t o.dst)
   | _=>False)
  | false=>WOG d K cos (putT d t o.dst U) H)
def WOGk (d:Nat) (K:T Value→Hp→Prop) (cos:List CO) (t:T Value) (dst:Option Tmp):Value→Hp→Prop:=fun v H1=>WOG d K cos (putT d t dst v) H1
end
end
section
variable {tb:Tb} {sp:Nat→List Value→Hp→Option (Value×Hp×Nat×Nat)} {e:Env}
theorem WO.of_wog {cx:Cx} {K:T Value→Hp→Prop} {ds:List Deferred}:∀ {cos:List CO} {t:T Value} {H:Hp},WOG tb sp e cx.d K cos t H→WO tb sp e cx cos t ds H (fun t' ds' H'=>ds'=ds∧K t' H'):=by
 intro cos
 induction cos with
 | nil=>intro t H h;rw [WOG] at h;exact WO.nil ⟨rfl,h⟩
 | cons o cos ih =>
  intro t H h
  rw [WOG] at h
  cases hg:wants t o.guard with
  | true =>
   rw [hg] at h
   refine WO.cons hg ?_
   revert h
   cases run o.op t H with
   | val v H1 r w=>exact fun h=>⟨h.1,h.2.1,ih h.2.2⟩
   | call f args=>exact fun h=>EC.mono h fun v H1 _ hk=>ih (by rw [WOGk] at hk;exact hk)
   | _=>exact fun h=>h.elim
  | false =>
   rw [hg] at h
   exact WO.skip hg (ih h)
theorem wor_run {d:Nat} {H:Hp} {K:T Value→Prop}:∀ {cos:List CO} {t:T Value},WOR e d H K cos t →
 ∃ t' r,(∀ (rec:Rec) (cx:Cx) i ds acc r0 w0,cx.d=d→(∀ x∈acc,x.2.2=0)→∃ acc',(∀ x∈acc',x.2.2=0)∧evOps rec cx cos i t ds H acc r0 w0=.mk .normal t' ds H acc' (Nat.lor r0 r) (Nat.lor w0 0))∧e.ok r 0 H∧K t':=by
 intro cos
 induction cos with
 | nil=>intro t h;exact ⟨t,0,fun rec cx i ds acc r0 w0 _ ha=>⟨acc,ha,by rw [lor_zero',lor_zero'];rfl⟩,.zero e H,h⟩
 | cons o cos ih =>
  intro t h
  rw [WOR] at h
  cases hg:wants t o.guard with
  | true =>
   rw [hg] at h
   simp only [] at h
   cases hr:run o.op t H with
   | val v H1 r w =>
    rw [hr] at h
    obtain ⟨rfl,rfl,h1,h2⟩:=h
    obtain ⟨t',r2,h3,h4,h5⟩:=ih h2
    refine ⟨t',Nat.lor r r2,fun rec cx i ds acc r0 w0 hd ha=>?_,by have:=h1.lor h4 (Nat.le_refl _);rwa [lor_zero'] at this,h5⟩
    obtain ⟨acc',h6,h7⟩:=h3 rec cx (Nat.succ i) ds ((i,r,Nat.lor 0 (rng H1 H1))::acc) (Nat.lor r0 r) (Nat.lor w0 0) hd (fun x hx=>by
     rcases List.mem_cons.1 hx with rfl | hx
     ·show Nat.lor 0 (rng H1 H1)=0
      rw [rng_none rfl];rfl
     ·exact ha x hx)
    refine ⟨acc',h6,?_⟩
    subst hd
    simp only [evOps,hg,Bc_t,hr,stepR]
    rw [h7,lor_assoc',lor_assoc',lor_zero' 0]
   | _=>rw [hr] at h;exact h.elim
  | false =>
   rw [hg] at h
   obtain ⟨t',r2,h3,h4,h5⟩:=ih h
   refine ⟨t',r2,fun rec cx i ds acc r0 w0 hd ha=>?_,h4,h5⟩
   obtain ⟨acc',h6,h7⟩:=h3 rec cx (Nat.succ i) ds acc r0 w0 hd ha
   refine ⟨acc',h6,?_⟩
   subst hd
   simp only [evOps,hg,Bc_f]
   exact h7
variable {cx:Cx} {t:T Value} {ds:List Deferred} {H:Hp} {K:Ex→T Value→List Deferred→Hp→Prop}
theorem WK.reg_r {cos:List CO} (h:WOR e cx.d H (fun t'=>K .normal t' ds H) cos t):WK tb sp e cx (.reg cos) t ds H K:=by
 obtain ⟨t',r,h1,h2,h3⟩:=wor_run h
 intro c hc
 obtain ⟨id,ops,rfl,hcos⟩:=kcomp_reg hc
 obtain ⟨acc',_,h5⟩:=h1 (ev tb sp 0) cx 0 ds [] 0 0 rfl (fun x hx=>by cases hx)
 refine ⟨0,.normal,t',ds,H,r,0,?_,h2,Nat.le_refl _,h3⟩
 simp only [evCC,hcos,h5,ofOR,zero_lor']
theorem WK.reg_g {cos:List CO} (h:WOG tb sp e cx.d (fun t' H'=>K .normal t' ds H') cos t H):WK tb sp e cx (.reg cos) t ds H K :=
 WK.reg ((WO.of_wog h).mono fun t' ds' H' _ hk=>by obtain ⟨rfl,hk⟩:=hk;exact hk)
theorem ok_zero:e.ok 0 0 H↔True:=by simp [Env.ok.zero]
theorem wants_none' (t:T Value):wants t none=true:=rfl
def wantsV (v:Value) (w:Bool):Bool:=match asB v with | some b=>Bc b w (!w) | none=>false
theorem wants_some (t:T Value) (i:Nat) (w:Bool):wants t (some (i,w))=wantsV (t.get i) w:=rfl
theorem wantsV_U (w:Bool):wantsV U w=false:=rfl
theorem wantsV_tt:wantsV (.bool true) true=true:=rfl
theorem wantsV_tf:wantsV (.bool true) false=false:=rfl
theorem wantsV_ft:wantsV (.bool false) true=false:=rfl
theorem wantsV_ff:wantsV (.bool false) false=true:=rfl
theorem exPick_t (x y:Value) (H:Hp):exPick (.bool true) x y H=.val x H 0 0:=rfl
theorem exPick_f (x y:Value) (H:Hp):exPick (.bool false) x y H=.val y H 0 0:=rfl
end
end Go.Ev
end
noncomputable section
namespace Go.Ev
abbrev oN (n:Nat) (x:COp):CO:=⟨some n,none,x⟩
abbrev oU (x:COp):CO:=⟨none,none,x⟩
abbrev oK (z:Int):Operand:=.const (.int .i64 z)
end Go.Ev
end
