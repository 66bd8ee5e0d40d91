/-
 A part of the proof that pliantlaw15.RtsStacks returns true and leaves its arguments alone. Conditions: those of the card in the last text.
-/
import Derived.Test.YtgdejggelcpokaaGreatDoorG37
set_option linter.unusedSimpArgs false
set_option linter.unusedVariables false
set_option linter.unusedSectionVars false
noncomputable section
namespace Go.Proofs.RS
open Go Go.Ev Go.Proofs
noncomputable def hl (fn:Func) (p:List Bool) (j:Nat) (args:List Value) (H:Hp):Option HoleS:=Bc (Nat.ble args.length fn.ntmps) (holeR Tb0 13 (cxOf fn) j (goH Tb0 (ev Tb0 spL 100000) 13 (cxOf fn) p (fn.body.getD .skip) (enterT fn args) [] H [])) none
noncomputable def el (fn:Func) (s:HoleS) (v:Value) (H:Hp):Option (Value×Hp):=endH Tb0 (ev Tb0 spL 100000) 13 (cxOf fn) fn s v H
noncomputable def gl (args:List Value) (H:Hp):Option (Code×T Value×List Deferred×Hp×List Code):=Bc (Nat.ble args.length Tryz.f138.ntmps) (goH Tb0 (ev Tb0 spL 100000) 13 (cxOf Tryz.f138) [true,true,true,true,true,true] (Tryz.f138.body.getD .skip) (enterT Tryz.f138 args) [] H []) none
structure Ch where
 s0:HoleS
 s1:HoleS
 s2:HoleS
 s3:HoleS
 s4:HoleS
 t5:T Value
 H5:Hp
 r:Value×Hp
noncomputable def chain (args:List Value) (H:Hp):Option Ch :=
 match hl Tryz.f8 [true,false,false] 2 args H with
 | none=>none
 | some s0=>match hl Tryz.f38 [true,false,false] 1 s0.args s0.H with
 | none=>none
 | some s1=>match hl Tryz.f81 [true,false] 1 s1.args s1.H with
 | none=>none
 | some s2=>match hl Tryz.f133 [true,true,false] 1 s2.args s2.H with
 | none=>none
 | some s3=>match hl Tryz.f134 [true,false] 1 s3.args s3.H with
 | none=>none
 | some s4=>match gl s4.args s4.H with
 | some (_,t5,[],H5,[])=>(match el Tryz.f134 s4 (.tuple #[]) H5 with
  | none=>none
  | some r4=>match el Tryz.f133 s3 r4.1 r4.2 with
  | none=>none
  | some r3=>match el Tryz.f81 s2 r3.1 r3.2 with
  | none=>none
  | some r2=>match el Tryz.f38 s1 r2.1 r2.2 with
  | none=>none
  | some r1=>match el Tryz.f8 s0 r1.1 r1.2 with
  | none=>none
  | some r=>some ⟨s0,s1,s2,s3,s4,t5,H5,r⟩)
 | _=>none
theorem hl_inv {fn:Func} {p:List Bool} {j:Nat} {args:List Value} {H:Hp} {s:HoleS} (h:hl fn p j args H=some s):args.length≤fn.ntmps∧holeR Tb0 13 (cxOf fn) j (goH Tb0 (ev Tb0 spL 100000) 13 (cxOf fn) p (fn.body.getD .skip) (enterT fn args) [] H [])=some s:=by
 unfold hl at h
 cases hb:Nat.ble args.length fn.ntmps with
 | false=>rw [hb,Bc_f] at h;cases h
 | true=>rw [hb,Bc_t] at h;exact ⟨(ble_iff _ _).1 hb,h⟩
theorem goH_code {tb:Tb} {rec:Rec} {n0:Nat} {cx:Cx}:∀ {p:List Bool} {c:Code} {t:T Value} {ds:List Deferred} {H:Hp} {pend:List Code} {c':Code} {t':T Value} {ds':List Deferred} {H':Hp} {pend':List Code},
 goH tb rec n0 cx p c t ds H pend=some (c',t',ds',H',pend')→c'=codeAt p c:=by
 intro p
 induction p with
 | nil =>
  intro c t ds H pend c' t' ds' H' pend' h
  simp only [goH,Option.some.injEq,Prod.mk.injEq] at h
  exact h.1.symm
 | cons b p ih =>
  intro c t ds H pend c' t' ds' H' pend' h
  cases b with
  | false =>
   simp only [goH] at h
   split at h
   ·exact ih h
   ·cases h
  | true =>
   simp only [goH] at h
   split at h
   ·split at h
    ·rename_i t1 ds1 H1 r w hev
     cases hm:mOk n0 r w H H1 with
     | false=>rw [hm,Bc_f] at h;cases h
     | true=>rw [hm,Bc_t] at h;exact ih h
    ·cases h
   ·cases h
theorem lvl {f f2:FuncId} {fn:Func} {p:List Bool} {j:Nat} {args:List Value} {H:Hp} {s:HoleS} (hs:spL f args H=none) (hf:Tb0.fn f=some fn) (hb:fn.body=some (fn.body.getD .skip)) (h1:hl fn p j args H=some s) (h2:s.f=f2) {v3:Value} {H3:Hp}
 (he:EC Tb0 spL (envS 13) f2 s.args s.H fun v' H'=>v'=v3∧H'=H3) {r:Value×Hp} (h3:el fn s v3 H3=some r):EC Tb0 spL (envS 13) f args H fun v' H'=>v'=r.1∧H'=r.2:=by
 subst h2
 obtain ⟨hn,h1⟩:=hl_inv h1
 exact EC.hole hs hf hb hn h1 he (v:=r.1) (H':=r.2) h3
theorem chain_ok {args:List Value} {H:Hp} {x:Ch} (h:chain args H=some x) (hf:[x.s0.f,x.s1.f,x.s2.f,x.s3.f,x.s4.f]=[38,81,133,134,138])
 (hloop:∀ {K:Ex→T Value→List Deferred→Hp→Prop},(∀ t',K .normal t' [] x.H5)→WK Tb0 spL (envS 13) (cxOf Tryz.f138) frm_k x.t5 [] x.H5 K):EC Tb0 spL (envS 13) 8 args H fun v' H'=>v'=x.r.1∧H'=x.r.2:=by
 unfold chain at h
 split at h
 ·cases h
 rename_i s0 e0
 split at h
 ·cases h
 rename_i s1 e1
 split at h
 ·cases h
 rename_i s2 e2
 split at h
 ·cases h
 rename_i s3 e3
 split at h
 ·cases h
 rename_i s4 e4
 split at h
 ·rename_i c5 t5 H5 e5
  split at h
  ·cases h
  rename_i r4 d4
  split at h
  ·cases h
  rename_i r3 d3
  split at h
  ·cases h
  rename_i r2 d2
  split at h
  ·cases h
  rename_i r1 d1
  split at h
  ·cases h
  rename_i r d0
  have h:=Option.some.inj h
  subst h
  simp only [List.cons.injEq,and_true] at hf
  obtain ⟨f0,f1,f2,f3,f4⟩:=hf
  refine lvl (spL_k.no 8 (by decide) _ _) (by rfl) (by rfl) e0 f0 (lvl (spL_k.no 38 (by decide) _ _) (by rfl) (by rfl) e1 f1 (lvl (spL_k.no 81 (by decide) _ _) (by rfl) (by rfl) e2 f2 (lvl (spL_k.no 133 (by decide) _ _) (by rfl) (by rfl) e3 f3 (lvl (spL_k.no 134 (by decide) _ _) (by rfl) (by rfl) e4 f4 ?_ d4) d3) d2) d1) d0
  unfold gl at e5
  cases hb:Nat.ble s4.args.length Tryz.f138.ntmps with
  | false=>rw [hb,Bc_f] at e5;cases e5
  | true =>
   rw [hb,Bc_t] at e5
   refine EC.introU (fn:=Tryz.f138) (c:=frm_body) (spL_k.no 138 (by decide) _ _) (by rfl) frm_some ((ble_iff _ _).1 hb) ?_
   have hc:=goH_code e5
   refine goH_ok (K:=LeavesU Tb0 spL (envS 13) Tryz.f138 fun v' H'=>v'=.tuple #[]∧H'=H5) (pend:=[]) e5 ?_
   rw [hc]
   exact hloop (fun t'=>⟨.inl rfl,1,.tuple #[],H5,0,0,rfl,.zero _ _,Nat.le_refl _,rfl,rfl⟩) _ frm_comp
 ·cases h
def iV (n:Int):Value:=.int .i64 n
abbrev ctlS (k:Nat):Value:=.slice (some ⟨24+2*k,0,none⟩) k (2*k+1)
abbrev pS (k:Nat):Value:=.agg ⟨[.slice (some ⟨15,0,none⟩) 2 4,vN 32,.slice none 0 0,.slice (some ⟨16,0,none⟩) 2 4,.slice (some ⟨17,0,none⟩) 1 2,ctlS k]⟩
noncomputable def hS (f:Nat→Blk) (k:Nat) (cs:List Value):Hp:=.fn (fun b=>Bc (Nat.beq b 5) g5 (Bc (Nat.beq b (24+2*k)) (blkL cs 3 2) (Bc (Nat.blt b 13) (f b) (Bc (Nat.blt b 23) (hD.blk b) (f b))))) (25+2*k)
def stS (k:Nat):List Value:=[.slice (some ⟨75+2*k,0,none⟩) 2 5,vN 32,.slice none 0 0,.slice (some ⟨64+2*k,0,none⟩) 2 5,.slice (some ⟨66+2*k,0,none⟩) 1 3,.slice (some ⟨68+2*k,0,none⟩) k (2*k+1),.pointer (some ⟨76+2*k,0,none⟩),.slice (some ⟨104+2*k,0,none⟩) 1 3,vN 32,.slice (some ⟨95+2*k,0,none⟩) 2 5,.slice (some ⟨97+2*k,0,none⟩) 2 5,.slice (some ⟨99+2*k,0,none⟩) 2 5,.slice (some ⟨77+2*k,0,none⟩) k (2*k),.pointer none,.slice none 0 0,vN 0,vN 3,vN 0,.bool false,.bool false,vN 0,vN 0]
def prL:List Value:=[vS [77,65,73,78],.int .i64 (-1),vN 0,vN 64,.slice none 0 0,.slice none 0 0,.slice none 0 0,vS [85],vN 0,vN 0,vN 16,.slice none 0 0,.slice none 0 0,.slice none 0 0]
def lookS (k:Nat) (x:Option Ch):Option (List Nat×List Value×(Bool×Nat×Blk)×(Value×Nat×Bool)×List Blk×List (Option (List Value×TypeId×Nat×Nat×Nat))×Blk):=match x with
 | some c=>some ([c.s0.f,c.s1.f,c.s2.f,c.s3.f,c.s4.f],[c.t5.get 71,c.t5.get 72,c.t5.get 73],(c.H5.isFn,c.H5.nx,c.H5.blk (24+2*k)),(c.r.1,c.r.2.nx,c.r.2.isFn),(23::(24+2*k)::List.range 13).map c.r.2.blk,
  [75+2*k,104+2*k,68+2*k,77+2*k,78+2*k].map fun b=>rdB (c.r.2.blk b),c.r.2.blk (76+2*k))
 | none=>none
def acL0:List Value:=[vN 0,.slice none 0 0,vN 24,.int .i64 (-1),.slice none 0 0,vN 0,vN 0,vN 0,vS [],vS []]
noncomputable def expS (f:Nat→Blk) (k n5:Nat) (cs:List Value):Option (List Nat×List Value×(Bool×Nat×Blk)×(Value×Nat×Bool)×List Blk×List (Option (List Value×TypeId×Nat×Nat×Nat))×Blk) :=
 some ([38,81,133,134,138],[ctlS k,vN k,vN 0],(true,n5,blkL cs 3 2),(.tuple #[.pointer (some ⟨78+2*k,0,none⟩),.int .i64 0],105+2*k,true),(23::(24+2*k)::List.range 13).map (hS f k cs).blk,
  [some (prL,88,8,0,0),some (acL0,128,11,0,0),some (cs,3,2,0,0),some (List.replicate k (.slice none 0 0),22,0,0,0),some (stS k,104,0,0,0)],.cells (.e (.int .u8 0)) 65536 171 0 0 0)
def RunS (f:Nat→Blk) (k:Nat) (cs:List Value):Prop:=lookS k (chain [pS k,inV] (hS f k cs))=expS f k (40+2*k) cs
set_option maxHeartbeats 4000000 in
theorem runS (f:Nat→Blk):∀ (l:List Int),1≤l.length→l.length≤8→RunS f l.length (l.map iV)
 | [],h,_=>absurd h (by decide)
 | [a],_,_=>by show RunS f 1 [iV a];unfold RunS;kernel_rfl
 | [a,b],_,_=>by show RunS f 2 [iV a,iV b];unfold RunS;kernel_rfl
 | [a,b,c],_,_=>by show RunS f 3 [iV a,iV b,iV c];unfold RunS;kernel_rfl
 | [a,b,c,d],_,_=>by show RunS f 4 [iV a,iV b,iV c,iV d];unfold RunS;kernel_rfl
 | [a,b,c,d,e],_,_=>by show RunS f 5 [iV a,iV b,iV c,iV d,iV e];unfold RunS;kernel_rfl
 | [a,b,c,d,e,g],_,_=>by show RunS f 6 [iV a,iV b,iV c,iV d,iV e,iV g];unfold RunS;kernel_rfl
 | [a,b,c,d,e,g,h],_,_=>by show RunS f 7 [iV a,iV b,iV c,iV d,iV e,iV g,iV h];unfold RunS;kernel_rfl
 | [a,b,c,d,e,g,h,i],_,_=>by show RunS f 8 [iV a,iV b,iV c,iV d,iV e,iV g,iV h,iV i];unfold RunS;kernel_rfl
 | _::_::_::_::_::_::_::_::_::_,_,h=>by simp only [List.length_cons] at h;omega
end Go.Proofs.RS
end
