/-
 A part of the proof that pliantlaw15.RtsStacks returns true and leaves its arguments alone. Conditions: those of the card in the last text.
-/
import Derived.KernelRfl
import Derived.Maps.RangeRun
import Derived.Test.YtgdejggelcpokaaGreatDoorG09
import Derived.Test.YtgdejggelcpokaaGreatDoorG10
import Derived.Test.YtgdejggelcpokaaGreatDoorG11
import Derived.Test.YtgdejggelcpokaaGreatDoorG12
import Derived.Test.YtgdejggelcpokaaGreatDoorG21
import Derived.Test.YtgdejggelcpokaaGreatDoorG34
set_option linter.unusedSimpArgs false
set_option linter.unusedVariables false
set_option linter.unusedSectionVars false
noncomputable section
namespace Go.Proofs.RS
open Go Go.Ev Go.Proofs Go.Ar
def gcV (s:Stk):List Value:=s.2.map fun e=>iN (8*57344+8*e.1)
def hcV (s:Stk):List Value:=s.2.map fun e=>uB e.2
theorem gcV_snoc (n:Nat) (st:List (Nat×UInt8)) (e:Nat×UInt8):gcV (n,st++[e])=gcV (n,st)++[iN (8*57344+8*e.1)]:=by simp [gcV]
theorem hcV_snoc (n:Nat) (st:List (Nat×UInt8)) (e:Nat×UInt8):hcV (n,st++[e])=hcV (n,st)++[uB e.2]:=by simp [hcV]
structure StcS (HL:Hp) (q k:Nat) (szs:List Nat) (L Lp Pc:List Value) (cq:Nat):Prop where
 nx:HL.nx=108+q
 k8:k≤8
 st:Row HL (78+q) 104 0 L
 h0:L[0]?=some (.slice (some ⟨75+q,0,none⟩) 2 5)
 h5:L[5]?=some (.slice (some ⟨68+q,0,none⟩) k cq)
 h6:L[6]?=some (.pointer (some ⟨76+q,0,none⟩))
 h7:L[7]?=some (.slice (some ⟨104+q,0,none⟩) 1 3)
 h12:L[12]?=some (.slice (some ⟨77+q,0,none⟩) k (2*k))
 h19:L[19]?=some (.bool false)
 pr:Row HL (75+q) 88 8 Pc
 p1:Pc[1]?=some (.int .i64 (-1))
 ac:Row HL (104+q) 128 11 acL
 ct:Row HL (68+q) 3 2 (szs.map fun m=>iN (8*m))
 pb:Row HL 23 29 0 Lp
 p5:Lp[5]?=some (.slice (some ⟨24+q,0,none⟩) k cq)
 cb:Row HL (24+q) 3 2 (szs.map fun m=>iN (8*m))
 ps:Row HL (105+q) 35 0 [pA (78+q) 0]
 pc:Row HL (106+q) 40 0 [.int .i64 (3),.int .i64 (1),.int .i64 (0),.bool false,vS []]
 sl:szs.length=k
 sb:∀ m∈szs,1≤m∧m≤64
abbrev XS (q:Nat) (c:Nat):Prop:=c=76+q∨c=77+q∨c=107+q
structure SitS (HL H:Hp) (q:Nat) (F:By) (gs hs:List Value) (bl:Nat→Nat) (sg sh:List Stk) (szs:List Nat):Prop where
 fn:H.isFn=true
 nx:HL.nx≤H.nx
 hX:KeptX (XS q) HL H
 mem:ByU H (76+q) 171 F 65536
 rg:Row H (77+q) 22 0 gs
 rh:Row H (107+q) 45 0 hs
 lg:gs.length=szs.length
 lh:hs.length=szs.length
 zg:sg.map Prod.fst=szs
 zh:sh.map Prod.fst=szs
 gl:∀ i v s,gs[i]?=some v→sg[i]?=some s→Lst HL.nx 3 H (bl (2*i)) v (gcV s)
 hl:∀ i v s,hs[i]?=some v→sh[i]?=some s→Lst HL.nx 5 H (bl (2*i+1)) v (hcV s)
 lt:∀ x,x<16→bl x<H.nx
 inj:∀ x y,x<16→y<16→bl x=bl y→x=y
theorem set_map_fst {ss:List Stk} {szs:List Nat} (h:ss.map Prod.fst=szs) {i:Nat} {s:Stk} (hs:ss[i]?=some s) (st:List (Nat×UInt8)):(ss.set i (s.1,st)).map Prod.fst=szs:=by
 rw [List.map_set,h]
 apply List.ext_getElem?
 intro j
 rw [List.getElem?_set]
 split
 ·rename_i hij;subst hij
  have:szs[i]?=some s.1:=by rw [← h,List.getElem?_map,hs];rfl
  split
  ·exact this.symm
  ·rename_i hlt
   rw [List.getElem?_eq_none (by omega)] at this;cases this
 ·rfl
theorem split_at2 {α:Type}:∀ {l:List α} {k:Nat} {y:α},l[k]?=some y→∃ a b,l=a++y::b∧a.length=k:=by
 intro l
 induction l with
 | nil=>intro k y h;cases h
 | cons x l ih =>
  intro k y h
  cases k with
  | zero=>simp only [List.getElem?_cons_zero,Option.some.injEq] at h;subst h;exact ⟨[],l,rfl,rfl⟩
  | succ k =>
   obtain ⟨a,b,h1,h2⟩:=ih (k:=k) h
   exact ⟨x::a,b,by rw [h1];rfl,by simp [h2]⟩
theorem set_split {ss:List Stk} {i:Nat} {s:Stk} (hs:ss[i]?=some s):∃ a b,ss=a++s::b∧∀ s',ss.set i s'=a++s'::b:=by
 obtain ⟨a,b,e,hl⟩:=split_at2 hs
 refine ⟨a,b,e,fun s'=>?_⟩
 subst e;subst hl
 rw [List.set_append_right _ _ (Nat.le_refl _),Nat.sub_self];rfl
section
variable {sp:Nat→List Value→Hp→Option (Value×Hp×Nat×Nat)} {e:Env} {HL H:Hp} {q k cq:Nat} {szs:List Nat} {L Lp Pc:List Value} {F:By} {gs hs:List Value} {bl:Nat→Nat} {sg sh:List Stk}
theorem SitS.old (h:SitS HL H q F gs hs bl sg sh szs) {c:Nat} (hc:c<HL.nx) (h1:c≠76+q) (h2:c≠77+q) (h3:c≠107+q):H.blk c=HL.blk c:=h.hX.old c hc (by show ¬ (_∨_∨_);omega)
theorem SitS.len_g (h:SitS HL H q F gs hs bl sg sh szs):sg.length=szs.length:=by rw [← h.zg,List.length_map]
theorem lt_of_get {α:Type} {l:List α} {i:Nat} {x:α} (h:l[i]?=some x):i<l.length:=by
 rcases Nat.lt_or_ge i l.length with h' | h'
 ·exact h'
 ·rw [List.getElem?_eq_none h'] at h;cases h
theorem get_set {α:Type} {l:List α} {i j:Nat} {x y:α} (h:(l.set i x)[j]?=some y):(i=j∧y=x)∨(i≠j∧l[j]?=some y):=by
 rw [List.getElem?_set] at h
 split at h
 ·rename_i hij
  split at h
  ·cases h;exact .inl ⟨hij,rfl⟩
  ·cases h
 ·rename_i hij;exact .inr ⟨hij,h⟩
variable (c:StcS HL q k szs L Lp Pc cq)
include c
theorem SitS.bg (h:SitS HL H q F gs hs bl sg sh szs) {i:Nat} {v:Value} (hv:gs[i]?=some v):i<k∧bl (2*i)<H.nx:=by
 have h1:=lt_of_get hv;have h2:=h.lg;have h3:=c.sl;have h4:=c.k8
 exact ⟨by omega,h.lt _ (by omega)⟩
theorem SitS.bh (h:SitS HL H q F gs hs bl sg sh szs) {i:Nat} {v:Value} (hv:hs[i]?=some v):i<k∧bl (2*i+1)<H.nx:=by
 have h1:=lt_of_get hv;have h2:=h.lh;have h3:=c.sl;have h4:=c.k8
 exact ⟨by omega,h.lt _ (by omega)⟩
theorem SitS.kept {H':Hp} (h:SitS HL H q F gs hs bl sg sh szs) (k:Kept H H'):SitS HL H' q F gs hs bl sg sh szs :=
 ⟨k.fn,Nat.le_trans h.nx k.nx,h.hX.kept k,h.mem.mv k,h.rg.mv k,h.rh.mv k,h.lg,h.lh,h.zg,h.zh,
  fun i v s h1 h2=>(h.gl i v s h1 h2).keep fun _=>k.old _ (h.bg c h1).2,
  fun i v s h1 h2=>(h.hl i v s h1 h2).keep fun _=>k.old _ (h.bh c h1).2,
  fun x hx=>Nat.lt_of_lt_of_le (h.lt x hx) k.nx,h.inj⟩
theorem SitS.ov {H':Hp} {F':By} (h:SitS HL H q F gs hs bl sg sh szs) (o:OvK H (76+q) 171 F' 65536 H'):SitS HL H' q F' gs hs bl sg sh szs:=by
 have hnx:=c.nx;have h0:=h.nx;have h1:=o.nx
 refine ⟨o.fn,by omega,h.hX.step o.fn h1 fun c' hc hx=>o.old c' (by omega) (fun he=>hx (.inl he)),o.row,h.rg.mo o.old (by omega),h.rh.mo o.old (by omega),h.lg,h.lh,h.zg,h.zh,
  fun i v s h1 h2=>(h.gl i v s h1 h2).keep fun hb=>o.old _ (h.bg c h1).2 (by omega),
  fun i v s h1 h2=>(h.hl i v s h1 h2).keep fun hb=>o.old _ (h.bh c h1).2 (by omega),
  fun x hx=>Nat.lt_of_lt_of_le (h.lt x hx) o.nx,h.inj⟩
theorem StcS.at {b ty op:Nat} {l:List Value} (h:SitS HL H q F gs hs bl sg sh szs) (hr:Row HL b ty op l) (h1:b≠76+q) (h2:b≠77+q) (h3:b≠107+q):Row H b ty op l:=hr.of_blk (h.old hr.lt h1 h2 h3)
theorem SitS.size (h:SitS HL H q F gs hs bl sg sh szs) {i:Nat} {s:Stk} (hsg:sg[i]?=some s):szs[i]?=some s.1∧i<k∧1≤s.1∧s.1≤64:=by
 have h1:szs[i]?=some s.1:=by rw [← h.zg,List.getElem?_map,hsg];rfl
 have h2:=lt_of_get h1
 have h3:=c.sb s.1 (List.mem_of_getElem? h1)
 exact ⟨h1,by have:=c.sl;omega,h3⟩
variable (S:SpX sp) (he:e.n0≤23)
include S he
theorem SitS.gens (h:SitS HL H q F gs hs bl sg sh szs) {i:Nat} {s:Stk} (hsg:sg[i]?=some s):EC Tb0 sp e 14 [pA (78+q) 0,iN i] H fun v H'=>v=vN ((s.2.length:Nat):Int)∧H'=H:=by
 have hnx:=c.nx;have h0:=h.nx
 obtain ⟨_,hi,_⟩:=h.size c hsg
 obtain ⟨v,hv⟩:∃ v,gs[i]?=some v:=⟨_,List.getElem?_eq_getElem (by rw [h.lg,c.sl];exact hi)⟩
 have hl:=h.gl i v s hv hsg
 have:=gens_ok (e:=e) S h.fn (by omega) (by omega) (c.at h c.st (by omega) (by omega) (by omega)) c.h19 (by omega) c.k8 c.h12 h.rg (by rw [h.lg,c.sl]) hi (n:=HL.nx) (by omega) hv hl
 exact this.mono fun v H' _ hh=>⟨by rw [hh.1];simp [gcV],hh.2⟩
theorem SitS.base (h:SitS HL H q F gs hs bl sg sh szs) {i:Nat} {s:Stk} {st0:List (Nat×UInt8)} {e0:Nat×UInt8} (hsg:sg[i]?=some s) (hst:s.2=st0++[e0]) (hl1:s.2.length≤1000) :
 EC Tb0 sp e 10 [pA (78+q) 0,.int .i64 (5),.int .i64 (0),iN i] H fun v H'=>v=.tuple #[iN (8*57344+8*e0.1),vN 0]∧Kept H H':=by
 have hnx:=c.nx;have h0:=h.nx
 obtain ⟨_,hi,_⟩:=h.size c hsg
 obtain ⟨v,hv⟩:∃ v,gs[i]?=some v:=⟨_,List.getElem?_eq_getElem (by rw [h.lg,c.sl];exact hi)⟩
 have hl:=h.gl i v s hv hsg
 rw [show s=(s.1,st0++[e0]) from by rw [← hst],gcV_snoc] at hl
 exact base_ok (e:=e) S h.fn (by omega) (by omega) (c.at h c.st (by omega) (by omega) (by omega)) c.h19 (by omega) c.k8 c.h12 h.rg (by rw [h.lg,c.sl]) hi (n:=HL.nx) (by omega) hv hl (by simp [hst] at hl1;simp [gcV];omega) (by omega) (by omega) c.h0 c.h7 (c.at h c.pr (by omega) (by omega) (by omega)) c.p1 (c.at h c.ac (by omega) (by omega) (by omega))
theorem SitS.load (h:SitS HL H q F gs hs bl sg sh szs) {p:Nat} (hp:p<65536):EC Tb0 sp e 15 [pA (78+q) 0,iN (8*p),.agg ⟨[.int .i64 (3),.int .i64 (1),.int .i64 (0),.bool false,vS []]⟩] H fun v H'=>v=.tuple #[valV [F p],vN 0]∧Kept H H':=by
 have hnx:=c.nx;have h0:=h.nx
 exact rload_ok (e:=e) S h.fn (by omega) (c.at h c.st (by omega) (by omega) (by omega)) c.h6 c.h19 h.mem (fun h=>absurd h (by omega)) (fun h=>absurd h (by omega)) hp
theorem SitS.fill (h:SitS HL H q F gs hs bl sg sh szs) {i off:Nat} {s:Stk} {st0:List (Nat×UInt8)} {u u0:UInt8} (hsg:sg[i]?=some s) (hst:s.2=st0++[(off,u0)]) (hoff:off+s.1≤8192) (hl1:s.2.length≤1000) :
 EC Tb0 sp e 9 [iN i,uB u,pA (105+q) 0,pA 23 0,pA (106+q) 0] H fun v H'=>v=.bool true∧SitS HL H' q (fill F (57344+off) s.1 u) gs hs bl sg sh szs:=by
 have hnx:=c.nx;have h0:=h.nx
 obtain ⟨hz,hi,_⟩:=h.size c hsg
 obtain ⟨v,hv⟩:∃ v,gs[i]?=some v:=⟨_,List.getElem?_eq_getElem (by rw [h.lg,c.sl];exact hi)⟩
 have hl:=h.gl i v s hv hsg
 rw [show s=(s.1,st0++[(off,u0)]) from by rw [← hst],gcV_snoc] at hl
 have at':∀ {b ty op:Nat} {l:List Value},Row HL b ty op l→b≠76+q→b≠77+q→b≠107+q→Row H b ty op l:=fun hr=>c.at h hr
 have:=fill_ok (e:=e) S h.fn (by omega) (u:=u) (by omega) (at' c.st (by omega) (by omega) (by omega)) c.h19 (by omega) c.k8 c.h12 h.rg (by rw [h.lg,c.sl]) hi (n:=HL.nx) (by omega) hv hl (by simp [hst] at hl1;simp [gcV];omega) (by omega) c.h6 h.mem (by omega) (by omega) c.h0 c.h7 (at' c.pr (by omega) (by omega) (by omega)) c.p1 (at' c.ac (by omega) (by omega) (by omega))
  (by omega) (by omega) (by omega) (by omega) (at' c.ps (by omega) (by omega) (by omega)) (at' c.pb (by omega) (by omega) (by omega)) c.p5 (at' c.cb (by omega) (by omega) (by omega)) (kk:=s.1) (by rw [List.getElem?_map,hz];rfl) (at' c.pc (by omega) (by omega) (by omega))
  (by omega) (by omega) (by omega) (by omega) (by omega) (by omega) (by omega) (by omega) hoff
 exact this.mono fun v H' _ hh=>⟨hh.1,h.ov c hh.2⟩
theorem SitS.pop (h:SitS HL H q F gs hs bl sg sh szs) {us:List U} (hP:Ps F us sg) {i:Nat} {s:Stk} (hsg:sg[i]?=some s) (hl1:s.2.length≤1000) :
 EC Tb0 sp e 12 [pA (78+q) 0,iN i] H fun v H'=>(s.2=[]∧v=vN 2∧H'=H)∨∃ st0 e0 F' us' gs',s.2=st0++[e0]∧v=vN 0∧SitS HL H' q F' gs' hs bl (sg.set i (s.1,st0)) sh szs∧Ps F' us' (sg.set i (s.1,st0)):=by
 have hnx:=c.nx;have h0:=h.nx
 obtain ⟨hz,hi,_⟩:=h.size c hsg
 obtain ⟨v,hv⟩:∃ v,gs[i]?=some v:=⟨_,List.getElem?_eq_getElem (by rw [h.lg,c.sl];exact hi)⟩
 have hl:=h.gl i v s hv hsg
 have hst:=c.at h c.st (by omega) (by omega) (by omega)
 rcases List.eq_nil_or_concat s.2 with hnil | ⟨st0,e0,hcat⟩
 ·have hgc:gcV s=[]:=by unfold gcV;rw [hnil];rfl
  rw [hgc] at hl
  exact (pop_none (e:=e) S h.fn (by omega) (by omega) hst c.h19 (by omega) c.k8 c.h12 h.rg (by rw [h.lg,c.sl]) hi hv hl).mono fun v H' _ hh=>.inl ⟨hnil,hh.1,hh.2⟩
 ·have hcat':s.2=st0++[e0]:=by rw [hcat];simp
  have hse:s=(s.1,st0++[e0]):=by rw [← hcat']
  rw [hse,gcV_snoc] at hl
  obtain ⟨A,B,hsp,hset⟩:=set_split hsg
  have hP':=hP
  rw [hsp,hse] at hP'
  refine (pop_ok (e:=e) S h.fn (by omega) (by omega) hst c.h19 (by omega) c.k8 c.h12 h.rg (by rw [h.lg,c.sl]) hi (n:=HL.nx) (by omega) hv hl (by simp [hcat'] at hl1;simp [gcV];omega) (by omega) c.h6 h.mem hP'.is1 (by omega) (by omega) (by omega) (by omega) (by omega) (by omega) (h.bg c hv).2 (by omega) hP'.mem).mono fun v2 H' _ hh=>?_
  obtain ⟨rfl,f1,us1,v',hfr,hm,hg,hl',hX⟩:=hh
  refine .inr ⟨st0,e0,_,us1,gs.set i v',hcat',rfl,⟨hX.fn,Nat.le_trans h.nx hX.nx,h.hX.step hX.fn hX.nx fun c' hc hx=>hX.old c' (by omega) (by show ¬ (_∨_);have hx':¬ (c'=76+q∨c'=77+q∨c'=107+q):=hx;omega),hm,hg,h.rh.of_blk (hX.old _ h.rh.lt (by show ¬ (_∨_);omega)),by rw [List.length_set];exact h.lg,h.lh,set_map_fst h.zg hsg st0,h.zh,fun j w s2 h1 h2=>?_,fun j w s2 h1 h2=>?_,fun x hx=>Nat.lt_of_lt_of_le (h.lt x hx) hX.nx,h.inj⟩,?_⟩
  ·rcases get_set h1 with ⟨rfl,rfl⟩ | ⟨hne,h1⟩
   ·rcases get_set h2 with ⟨_,rfl⟩ | ⟨hne,_⟩
    ·exact hl'
    ·exact absurd rfl hne
   ·rcases get_set h2 with ⟨rfl,_⟩ | ⟨_,h2⟩
    ·exact absurd rfl hne
    ·exact (h.gl j w s2 h1 h2).keep fun hb=>hX.old _ (h.bg c h1).2 (by show ¬ (_∨_);omega)
  ·exact (h.hl j w s2 h1 h2).keep fun hb=>hX.old _ (h.bh c h1).2 (by show ¬ (_∨_);omega)
  ·rw [hset];exact hP'.pop hfr
theorem SitS.push (h:SitS HL H q F gs hs bl sg sh szs) {us:List U} (hP:Ps F us sg) {i:Nat} {s:Stk} (hsg:sg[i]?=some s) (hl60:s.2.length≤1000) (u:UInt8) :
 EC Tb0 sp e 13 [pA (78+q) 0,iN i] H fun v H'=>(v=vN 5∧SitS HL H' q F gs hs bl sg sh szs)∨∃ off F' us' gs' bl',v=vN 0∧SitS HL H' q F' gs' hs bl' (sg.set i (s.1,s.2++[(off,u)])) sh szs∧PgN F' us' (blks sg) off s.1:=by
 have hnx:=c.nx;have h0:=h.nx
 obtain ⟨hz,hi,hk1,hk2⟩:=h.size c hsg
 obtain ⟨v,hv⟩:∃ v,gs[i]?=some v:=⟨_,List.getElem?_eq_getElem (by rw [h.lg,c.sl];exact hi)⟩
 have hl:=h.gl i v s hv hsg
 have hst:=c.at h c.st (by omega) (by omega) (by omega)
 refine (push_ok (e:=e) S h.fn (by omega) (by omega) hst c.h19 (by omega) c.k8 c.h12 h.rg (by rw [h.lg,c.sl]) hi (n:=HL.nx) (by omega) hv hl (by omega) c.h6 h.mem hP.is1 (by omega) (by omega) (by omega) (by omega) (by omega) (by omega) (h.bg c hv).2 (by omega) (by omega) c.h5 (c.at h c.ct (by omega) (by omega) (by omega)) (kk:=s.1) (by rw [List.getElem?_map,hz];rfl) hk1 hk2 (by omega) (by omega) (by unfold gcV;rw [List.length_map];exact hl60)).mono fun v2 H' _ hh=>?_
 rcases hh with ⟨rfl,ho⟩ | ⟨rfl,f1,us1,off,v',b',hall,hm,hg,hl',hb',hblt,hX⟩
 ·exact .inl ⟨rfl,h.ov c ho⟩
 ·have hX':∀ c',c'<H.nx→c'≠76+q→c'≠77+q→(HL.nx≤c'→c'≠bl (2*i))→H'.blk c'=H.blk c':=fun c' h1 h2 h3 h4=>hX.old c' h1 (by show ¬ (_∨_∨_);rintro (h | h | ⟨h5,h6⟩) <;> first | exact h2 h | exact h3 h | exact h4 h5 h6)
  have hle:=hX.nx
  have hk8:=c.k8
  refine .inr ⟨off,_,us1,gs.set i v',fun x=>if x=2*i then b' else bl x,rfl,⟨hX.fn,Nat.le_trans h.nx hX.nx,h.hX.step hX.fn hX.nx fun c' hc hx=>hX' c' (by omega) (fun h=>hx (.inl h)) (fun h=>hx (.inr (.inl h))) (fun h5=>by omega),hm,hg,h.rh.of_blk (hX' _ h.rh.lt (by omega) (by omega) (fun h5=>by omega)),by rw [List.length_set];exact h.lg,h.lh,set_map_fst h.zg hsg _,h.zh,fun j w s2 h1 h2=>?_,fun j w s2 h1 h2=>?_,fun x hx=>?_,fun x y hx hy hxy=>?_⟩,hP.alloc hall⟩
  ·rcases get_set h1 with ⟨rfl,rfl⟩ | ⟨hne,h1⟩
   ·rcases get_set h2 with ⟨_,rfl⟩ | ⟨hne,_⟩
    ·show Lst HL.nx 3 H' (if 2*i=2*i then b' else _) w _
     rw [if_pos rfl,gcV_snoc]
     exact hl'
    ·exact absurd rfl hne
   ·rcases get_set h2 with ⟨rfl,_⟩ | ⟨_,h2⟩
    ·exact absurd rfl hne
    ·show Lst HL.nx 3 H' (if 2*j=2*i then b' else bl (2*j)) w _
     rw [if_neg (by omega)]
     obtain ⟨hj,hjl⟩:=h.bg c h1
     exact (h.gl j w s2 h1 h2).keep fun hb=>hX' _ hjl (by omega) (by omega) (fun _ he2=>by have:=h.inj _ _ (by omega) (by omega) he2;omega)
  ·show Lst HL.nx 5 H' (if 2*j+1=2*i then b' else bl (2*j+1)) w _
   rw [if_neg (by omega)]
   obtain ⟨hj,hjl⟩:=h.bh c h1
   exact (h.hl j w s2 h1 h2).keep fun hb=>hX' _ hjl (by omega) (by omega) (fun _ he2=>by have:=h.inj _ _ (by omega) (by omega) he2;omega)
  ·show (if x=2*i then b' else bl x)<_
   split
   ·exact hblt
   ·exact Nat.lt_of_lt_of_le (h.lt x hx) hX.nx
  ·have hlt1:=h.lt x hx;have hlt2:=h.lt y hy
   have hxy':(if x=2*i then b' else bl x)=if y=2*i then b' else bl y:=hxy
   split at hxy' <;> split at hxy'
   ·omega
   ·rcases hb' with hb' | hb'
    ·have:=h.inj _ _ (by omega) hy (hb'.symm.trans hxy');omega
    ·omega
   ·rcases hb' with hb' | hb'
    ·have:=h.inj _ _ hx (by omega) (hxy'.trans hb');omega
    ·omega
   ·exact h.inj _ _ hx hy hxy'
omit S he in
theorem SitS.cutst (he:e.n0≤23) (h:SitS HL H q F gs hs bl sg sh szs) {i:Nat} {v:Value} {s:Stk} (hv:hs[i]?=some v) (hss:sh[i]?=some s) {j:Nat} (hj:j≤s.2.length) :
 ∃ v' H1,(∀ H2,exSlL 1 v none (some (vN ((j:Nat):Int))) none H2=.val v' H2 0 0)∧exSt 1 (.pointer (some ⟨107+q,i,none⟩)) v' H=.val U H1 0 (bit (107+q))∧e.ok 0 (bit (107+q)) H1∧H.nx≤H1.nx∧SitS HL H1 q F gs (hs.set i v') bl sg (sh.set i (s.1,s.2.take j)) szs:=by
 have hnx:=c.nx;have h0:=h.nx
 obtain ⟨v',e1,hl⟩:=(h.hl i v s hv hss).cut (i:=j) (by unfold hcV;rw [List.length_map];exact hj)
 obtain ⟨H1,e2,w⟩:=exSt1_set (i:=i) (v:=v') hl.oneC h.fn h.rh (lt_of_get hv)
 refine ⟨v',H1,e1,e2,.write w.row.lt (fun h=>absurd h (by omega)),by rw [w.nx];exact Nat.le_refl _,w.fn,by rw [w.nx];exact h.nx,h.hX.step w.fn (by rw [w.nx];exact Nat.le_refl _) fun c' _ hx=>w.else_ c' (fun he=>hx (.inr (.inr he))),h.mem.ot w.else_ (by omega),h.rg.ot w.else_ (by omega),w.row,h.lg,by rw [List.length_set];exact h.lh,h.zg,set_map_fst h.zh hss _,fun j w2 s2 h1 h2=>?_,fun j2 w2 s2 h1 h2=>?_,fun x hx=>by rw [w.nx];exact h.lt x hx,h.inj⟩
 ·exact (h.gl j w2 s2 h1 h2).keep fun hb=>w.else_ _ (by omega)
 ·rcases get_set h1 with ⟨rfl,rfl⟩ | ⟨hne,h1⟩
  ·rcases get_set h2 with ⟨_,rfl⟩ | ⟨hne,_⟩
   ·have:hcV (s.1,s.2.take j)=(hcV s).take j:=by simp [hcV,List.map_take]
    rw [this]
    exact hl.keep fun hb=>w.else_ _ (by omega)
   ·exact absurd rfl hne
  ·rcases get_set h2 with ⟨rfl,_⟩ | ⟨_,h2⟩
   ·exact absurd rfl hne
   ·exact (h.hl j2 w2 s2 h1 h2).keep fun hb=>w.else_ _ (by omega)
omit S he in
theorem SitS.appst (he:e.n0≤23) (h:SitS HL H q F gs hs bl sg sh szs) {i:Nat} {v:Value} {s:Stk} (hv:hs[i]?=some v) (hss:sh[i]?=some s) (hlen:s.2.length≤1000) {Hb:Hp} {u:UInt8} {off:Nat} (kb:Kept H Hb) (nb:Hb.nx=H.nx+1) (rb:Row Hb H.nx 5 0 [uB u]) :
 ∃ v' Ha r w H1,exApp 5 1 1 v (.slice (some ⟨H.nx,0,none⟩) 1 (2*1)) Hb=.val v' Ha r w∧e.ok r w Ha∧Hb.nx≤Ha.nx∧exSt 1 (.pointer (some ⟨107+q,i,none⟩)) v' Ha=.val U H1 0 (bit (107+q))∧e.ok 0 (bit (107+q)) H1∧Ha.nx≤H1.nx∧∃ bl',SitS HL H1 q F gs (hs.set i v') bl' sg (sh.set i (s.1,s.2++[(off,u)])) szs:=by
 have hnx:=c.nx;have h0:=h.nx;have hk8:=c.k8
 have hb:=h.kept c kb
 obtain ⟨hi,hbl⟩:=hb.bh c hv
 have hbl0:=(h.bh c hv).2
 obtain ⟨v',b',Ha,r,w,e1,o1,hfa,n1,n2,_,hl',hb',hblt,hk⟩:=Lst.app (e:=e) (by_:=1) (hb.hl i v s hv hss) kb.fn (by omega) (by omega) hbl rb rfl (fun h=>absurd h (by omega)) (by decide) (by unfold hcV;rw [List.length_map];exact hlen)
 have hrh:Row Ha (107+q) 45 0 hs:=hb.rh.of_blk (hk _ hb.rh.lt (by omega))
 obtain ⟨H1,e2,wr⟩:=exSt1_set (i:=i) (v:=v') hl'.oneC hfa hrh (lt_of_get hv)
 have hX':∀ c',c'<Hb.nx→c'≠107+q→(HL.nx≤c'→c'≠bl (2*i+1))→H1.blk c'=Hb.blk c':=fun c' h1 h2 h3=>by
  rw [wr.else_ c' h2,hk c' h1 (by by_cases h4:HL.nx≤c' <;> first | exact .inl (h3 h4) | exact .inr (by omega))]
 have hnw:=wr.nx
 refine ⟨v',Ha,r,w,H1,e1,o1,n1,e2,.write wr.row.lt (fun h=>absurd h (by omega)),by omega,fun x=>if x=2*i+1 then b' else bl x,wr.fn,by omega,hb.hX.step wr.fn (by omega) fun c' hc hx=>hX' c' (by omega) (fun h=>hx (.inr (.inr h))) (fun h5=>by omega),hb.mem.of_blk (hX' _ hb.mem.lt (by omega) (fun h5=>by omega)),hb.rg.of_blk (hX' _ hb.rg.lt (by omega) (fun h5=>by omega)),wr.row,h.lg,by rw [List.length_set];exact h.lh,h.zg,set_map_fst h.zh hss _,fun j w2 s2 h1 h2=>?_,fun j w2 s2 h1 h2=>?_,fun x hx=>?_,fun x y hx hy hxy=>?_⟩
 ·show Lst HL.nx 3 H1 (if 2*j=2*i+1 then b' else bl (2*j)) w2 _
  rw [if_neg (by omega)]
  obtain ⟨hj,hjl⟩:=hb.bg c h1
  exact (hb.gl j w2 s2 h1 h2).keep fun hbb=>hX' _ hjl (by omega) (fun _ he2=>by have:=h.inj _ _ (by omega) (by omega) he2;omega)
 ·rcases get_set h1 with ⟨rfl,rfl⟩ | ⟨hne,h1⟩
  ·rcases get_set h2 with ⟨_,rfl⟩ | ⟨hne,_⟩
   ·show Lst HL.nx 5 H1 (if 2*i+1=2*i+1 then b' else _) w2 _
    rw [if_pos rfl,hcV_snoc]
    exact hl'.keep fun hbb=>wr.else_ _ (by omega)
   ·exact absurd rfl hne
  ·rcases get_set h2 with ⟨rfl,_⟩ | ⟨_,h2⟩
   ·exact absurd rfl hne
   ·show Lst HL.nx 5 H1 (if 2*j+1=2*i+1 then b' else bl (2*j+1)) w2 _
    rw [if_neg (by omega)]
    obtain ⟨hj,hjl⟩:=hb.bh c h1
    exact (hb.hl j w2 s2 h1 h2).keep fun hbb=>hX' _ hjl (by omega) (fun _ he2=>by have:=h.inj _ _ (by omega) (by omega) he2;omega)
 ·show (if x=2*i+1 then b' else bl x)<_
  split
  ·omega
  ·have:=hb.lt x hx;omega
 ·have hlt1:=hb.lt x hx;have hlt2:=hb.lt y hy
  have hxy':(if x=2*i+1 then b' else bl x)=if y=2*i+1 then b' else bl y:=hxy
  split at hxy' <;> split at hxy'
  ·omega
  ·rcases hb' with hb' | hb'
   ·have:=h.inj _ _ (by omega) hy (hb'.symm.trans hxy');omega
   ·omega
  ·rcases hb' with hb' | hb'
   ·have:=h.inj _ _ hx (by omega) (hxy'.trans hb');omega
   ·omega
  ·exact h.inj _ _ hx hy hxy'
end
end Go.Proofs.RS
end
noncomputable section
namespace Go.Proofs.RS
open Go Go.Ev Go.Proofs Go.Ds
def stL:List Value:=[.slice (some ⟨73,0,none⟩) 2 5,vN 32,.slice none 0 0,.slice (some ⟨62,0,none⟩) 2 5,.slice (some ⟨64,0,none⟩) 1 3,.slice (some ⟨66,0,none⟩) 1 3,.pointer (some ⟨74,0,none⟩),.slice (some ⟨100,0,none⟩) 1 3,vN 32,.slice (some ⟨91,0,none⟩) 2 5,.slice (some ⟨93,0,none⟩) 2 5,.slice (some ⟨95,0,none⟩) 2 5,.slice (some ⟨75,0,none⟩) 1 2,.pointer none,.slice none 0 0,vN 0,vN 3,vN 0,.bool false,.bool false,vN 0,vN 0]
end Go.Proofs.RS
end
noncomputable section
namespace Go.Ev
open Go.RowKit (Below)
structure St (ng:Nat) (W0:World) (β0:Mp) (N0:Nat) (β:Mp) (nt:Nat) (t:T Value) (ds:List Deferred) (H:Hp) (a:Act) (W:World):Prop where
 wf:H.wf
 nx:N0≤H.nx
 g:GRel ng β
 ar:ARel β nt t ds a
 rel:∀ b,alive H b→∃ m,β b=some m∧BOk β W (H.blk b) m
 fresh:∀ b,H.nx≤b→β b=none
 dom:∀ b m,β b=some m→m.rb<W.heap.size
 low:∀ b m,b<N0→β b=some m→m.rb<W0.heap.size
 high:∀ b m,N0≤b→alive H b→β b=some m→W0.heap.size≤m.rb
 inj:∀ b c mb mc,N0≤b→N0≤c→alive H b→alive H c→β b=some mb→β c=some mc→mb.rb=mc.rb→b=c
 old:Below W0.heap.size W0 W
 le:Mp.le β0 β
abbrev envS (N0:Nat):Env:=⟨N0,fun _=>True,fun _=>False⟩
section
variable {ng:Nat} {W0:World} {β0:Mp} {N0:Nat} {β:Mp} {nt:Nat} {t:T Value} {ds:List Deferred} {H:Hp} {a:Act} {W:World}
theorem St.hi (s:St ng W0 β0 N0 β nt t ds H a W) {b c:Nat} {mb mc:Bm} (hb:N0≤b) (ab:alive H b) (ac:alive H c) (eb:β b=some mb) (ec:β c=some mc) (e:mb.rb=mc.rb):b=c:=by
 rcases Nat.lt_or_ge c N0 with hc | hc
 ·have:=s.low c mc hc ec
  have:=s.high b mb hb ab eb
  omega
 ·exact s.inj b c mb mc hb hc ab ac eb ec e
theorem St.pre (s:St ng W0 β0 N0 β nt t ds H a W) {H':Hp} {r w:Nat} (hok:(envS N0).ok r w H'):Pre β H H' r w W:=by
 refine ⟨fun b _ ha=>s.rel b ha,fun b c mb mc hw _ ab ac eb ec e=>?_,fun b hb _=>s.fresh b hb,s.dom⟩
 have hb:N0≤b:=by
  rcases Nat.lt_or_ge b N0 with h | h
  ·exact (hok.wr b h hw).elim
  ·exact h
 exact s.hi hb ab ac eb ec e
theorem St.post (s:St ng W0 β0 N0 β nt t ds H a W) {H':Hp} {r w:Nat} (hok:(envS N0).ok r w H') (hcan:Can H H' w) {β':Mp} {W':World} (q:Post β β' H H' w W W') {t':T Value} {ds':List Deferred} {a':Act} (ha':ARel β' nt t' ds' a'):St ng W0 β0 N0 β' nt t' ds' H' a' W':=by
 have hwN:∀ b,w.testBit b=true→N0≤b:=fun b hw=>by
  rcases Nat.lt_or_ge b N0 with h | h
  ·exact (hok.wr b h hw).elim
  ·exact h
 have hsome:∀ b m,β' b=some m→b<H.nx→β b=some m:=fun b m e hb=>by
  cases h:β b with
  | none=>have:=q.only b m e h;omega
  | some m2=>have:=q.le b m2 h;rw [e] at this;cases this;rfl
 have hal:∀ b,alive H' b→b<H.nx→alive H b:=fun b ha hb=>by
  cases hw:w.testBit b with
  | true=>exact hcan.wal b hb hw
  | false=>exact (alive_iff H b).2 (by rw [← hcan.keep b hb hw];exact ha.2)
 have hnw:∀ b m,alive H' b→b<H.nx→w.testBit b=false→β b=some m→∀ c mc,w.testBit c=true→c<H.nx→β c=some mc→mc.rb≠m.rb:=fun b m ha hb hw e c mc hcw hc ec heq=>by
  have:=s.hi (hwN c hcw) (hcan.wal c hc hcw) (hal b ha hb) ec e heq
  rw [this] at hcw;rw [hcw] at hw;cases hw
 refine ⟨hcan.wf,Nat.le_trans s.nx hcan.mono,s.g.mono q.le,ha',fun b ha=>?_,fun b hb=>?_,q.dom,fun b m hb e=>s.low b m hb (hsome b m e (Nat.lt_of_lt_of_le hb s.nx)),fun b m hb ha e=>?_,fun b c mb mc hb hc ab ac eb ec heq=>?_,s.old.trans ?_,s.le.trans q.le⟩
 ·by_cases hnew:H.nx≤b∨w.testBit b=true
  ·exact q.rel b hnew ha
  ·have hb:b<H.nx:=by
    rcases Nat.lt_or_ge b H.nx with h | h
    ·exact h
    ·exact absurd (.inl h) hnew
   have hw:w.testBit b=false:=by
    cases h:w.testBit b with
    | false=>rfl
    | true=>exact absurd (.inr h) hnew
   obtain ⟨m,e,o,ho,hr⟩:=s.rel b (hal b ha hb)
   refine ⟨m,q.le b m e,o,?_,?_⟩
   ·exact q.frame m.rb o ho fun c mc hc hcw ec=>hnw b m ha hb hw e c mc hcw hc ec
   ·rw [hcan.keep b hb hw];exact hr.mono q.le
 ·cases e:β' b with
  | none=>rfl
  | some m =>
   have:=q.only b m e (s.fresh b (Nat.le_trans hcan.mono hb))
   omega
 ·rcases Nat.lt_or_ge b H.nx with h | h
  ·exact s.high b m hb (hal b ha h) (hsome b m e h)
  ·rcases q.new b m h (s.fresh b h) e with h2 | ⟨c,mc,h1,h2,h3,h4,h5⟩
   ·exact Nat.le_trans s.old.size h2
   ·rw [← h4];exact s.high c mc (hwN c h2) (hcan.wal c h1 h2) h3
 ·
  by_cases hbn:H.nx≤b∨w.testBit b=true
  ·by_cases hcn:H.nx≤c∨w.testBit c=true
   ·exact q.inj b c mb mc hbn hcn ab ac eb ec heq
   ·exact (one hsome hal hwN b c mb mc hb hc ab ac eb ec heq hbn hcn)
  ·by_cases hcn:H.nx≤c∨w.testBit c=true
   ·exact (one hsome hal hwN c b mc mb hc hb ac ab ec eb heq.symm hcn hbn).symm
   ·have hb':b<H.nx:=by
     rcases Nat.lt_or_ge b H.nx with h | h
     ·exact h
     ·exact absurd (.inl h) hbn
    have hc':c<H.nx:=by
     rcases Nat.lt_or_ge c H.nx with h | h
     ·exact h
     ·exact absurd (.inl h) hcn
    exact s.inj b c mb mc hb hc (hal b ab hb') (hal c ac hc') (hsome b mb eb hb') (hsome c mc ec hc') heq
 ·refine ⟨q.env.1,q.env.2.1,q.env.2.2,q.size,fun k hk=>?_⟩
  cases ho:W.heap[k]? with
  | none =>
   have:=Array.getElem?_eq_none_iff.1 ho
   have:=s.old.size
   omega
  | some o =>
   exact q.frame k o ho fun b m hb hwb e he=>by
    have:=s.high b m (hwN b hwb) (hcan.wal b hb hwb) e
    omega
where
 one (hsome:∀ b m,β' b=some m→b<H.nx→β b=some m) (hal:∀ b,alive H' b→b<H.nx→alive H b) (hwN:∀ b,w.testBit b=true→N0≤b) (b c:Nat) (mb mc:Bm) (hb:N0≤b) (hc:N0≤c) (ab:alive H' b) (ac:alive H' c) (eb:β' b=some mb) (ec:β' c=some mc) (heq:mb.rb=mc.rb)
  (hbn:H.nx≤b∨w.testBit b=true) (hcn:¬ (H.nx≤c∨w.testBit c=true)):b=c:=by
  have hc':c<H.nx:=by
   rcases Nat.lt_or_ge c H.nx with h | h
   ·exact h
   ·exact absurd (.inl h) hcn
  have ec':=hsome c mc ec hc'
  have ac':=hal c ac hc'
  rcases Nat.lt_or_ge b H.nx with h | h
  ·exact s.inj b c mb mc hb hc (hal b ab h) ac' (hsome b mb eb h) ec' heq
  ·rcases q.new b mb h (s.fresh b h) eb with h2 | ⟨c',mc',h1,h2,h3,h4,h5⟩
   ·have:=s.dom c mc ec'
    omega
   ·have:=s.hi (hwN c' h2) (hcan.wal c' h1 h2) ac' h3 ec' (h4.trans heq)
    subst this
    exact absurd ac h5
end
section
variable (P:Program) (tb:Tb) (W0:World) (β0:Mp) (N0:Nat)
def SK (cx:Cx) (k:KC) (t:T Value) (ds:List Deferred) (H:Hp) (K:Ex→T Value→List Deferred→Hp→Prop):Prop :=
 ∀ c,kcomp tb cx.nt c=k→∀ β W a,St tb.ng W0 β0 N0 β cx.nt t ds H a W→c.wpIn FW 0 P (fun e a' W'=>∃ β' x t' ds' H',XRel β' x e∧St tb.ng W0 β0 N0 β' cx.nt t' ds' H' a' W'∧K x t' ds' H') a W
end
section
variable {P:Program} {tb:Tb} {W0:World} {β0:Mp} {N0:Nat} {cx:Cx} {t:T Value} {ds:List Deferred} {H:Hp} {K K':Ex→T Value→List Deferred→Hp→Prop}
theorem SK.of_wk (ok:TbOk P tb) (hlp:LpOk P tb) {sp:Nat→List Value→Hp→Option (Value×Hp×Nat×Nat)} (hsp:SpOk P tb.ng sp) {k:KC} (hr:cx.rnd=none) (hd:cx.nt<2 ^ cx.d) (h:WK tb sp (envS N0) cx k t ds H K):SK P tb W0 β0 N0 cx k t ds H K:=by
 intro c hc β W a s
 obtain ⟨N,x,t',ds',H',r,w,hev,hok,hn,hK⟩:=h c hc
 have hc:=evCC_ok ok hlp (ev_ok ok hlp hsp N) c cx t ds H hd s.wf
 rw [hev] at hc
 obtain ⟨hcan,hk⟩:=hc
 refine wpIn_mono (hk β W a FW s.g (by rw [hr];rfl) s.ar (s.pre hok)) fun e a' W' hq=>?_
 obtain ⟨β',hx,ha',q⟩:=hq
 exact ⟨β',x,t',ds',H',hx,s.post hok hcan q ha',hK⟩
theorem SK.seq {a b:KC} (h:SK P tb W0 β0 N0 cx a t ds H fun x t1 ds1 H1=>match x with | .normal=>SK P tb W0 β0 N0 cx b t1 ds1 H1 K | y=>K y t1 ds1 H1):SK P tb W0 β0 N0 cx (.seq a b) t ds H K:=by
 intro c hc β W act s
 obtain ⟨x,y,rfl,ha,hb⟩:=kcomp_seq hc
 refine wpIn_seq (wpIn_mono (h x ha β W act s) fun e a' W' hq=>?_)
 obtain ⟨β',x1,t',ds',H',hx,s',hK⟩:=hq
 cases x1 with
 | normal =>
  cases e <;> try exact hx.elim
  exact hK y hb β' W' a' s'
 | _=>cases e <;> first | exact ⟨β',_,t',ds',H',hx,s',hK⟩ | exact hx.elim
theorem SK.cond {c:Operand} {a b:KC} {v:Bool} (hv:asB (evalO t c)=some v) (h:SK P tb W0 β0 N0 cx (if v then a else b) t ds H K):SK P tb W0 β0 N0 cx (.cond c a b) t ds H K:=by
 intro code hc β W act s
 obtain ⟨x,y,rfl,ha,hb,hok⟩:=kcomp_cond hc
 have hv':=operand_ok s.g s.ar.1 hok
 rw [asB_inv hv] at hv'
 generalize hr:act.eval c=v' at hv'
 cases hv'
 refine wpIn_cond hr ?_
 cases v with
 | true=>exact h x ha β W act s
 | false=>exact h y hb β W act s
theorem SK.revive {k:KC} {b:Nat} {m:Bm} {x:Blk} (hb:b<N0) (e0:β0 b=some m) (hm:m.rb<W0.heap.size) (hx:∀ β,Mp.le β0 β→BOk β W0 x m) (h:SK P tb W0 β0 N0 cx k t ds (H.put b x) K):SK P tb W0 β0 N0 cx k t ds H K:=by
 intro c hc β W a s
 have hlt:b<H.nx:=Nat.lt_of_lt_of_le hb s.nx
 have hblk:∀ c,c≠b→(H.put b x).blk c=H.blk c:=fun c hc=>blk_put_ne s.wf x hlt hc
 have hal:∀ c,c≠b→alive (H.put b x) c→alive H c:=fun c hc ha=>(alive_iff H c).2 (by rw [← hblk c hc];exact ha.2)
 refine h c hc β W a { s with wf:=wf_put s.wf b x,nx:=by rw [nx_put];exact s.nx,rel:=fun c ha=>?_,fresh:=fun c hc=>s.fresh c (by rw [nx_put] at hc;exact hc),high:=fun c m' hc ha e=>s.high c m' hc (hal c (by omega) ha) e,inj:=fun c d mc md hc hd ac ad ec ed he=>s.inj c d mc md hc hd (hal c (by omega) ac) (hal d (by omega) ad) ec ed he }
 by_cases he:c=b
 ·subst he
  obtain ⟨o,ho,hr⟩:=hx β s.le
  refine ⟨m,s.le _ _ e0,o,?_,?_⟩
  ·rw [s.old.block m.rb hm];exact ho
  ·rw [blk_put x s.wf hlt,if_pos rfl];exact hr
 ·rw [hblk c he]
  exact s.rel c (hal c he ha)
theorem calls_of_sk (ok:TbOk P tb) (hlp:LpOk P tb) {f:FuncId} {fn:Func} {c:Code} {k:KC} {args:List Value} {args':Array Value} {β:Mp} (hf:tb.fn f=some fn) (hb:fn.body=some c) (hk:kcomp tb fn.ntmps c=k) (hn:args.length≤fn.ntmps)
 (s:∀ a:Act,ARel β fn.ntmps (enterT fn args) [] a→St tb.ng W0 β0 N0 β fn.ntmps (enterT fn args) [] H a W0) (hl:LRel β args args'.toList) {R:Value→Hp→Prop}
 (h:SK P tb W0 β0 N0 (cxOf fn) k (enterT fn args) [] H (Leaves tb (envS N0) fn R)) :
 Calls P f args' W0 fun e W'=>∃ β' v v' H',e=.returned v'∧VRel β' v v'∧R v H'∧Below W0.heap.size W0 W':=by
 refine (callsIn_wide (n:=0)).1 (callsIn_of_wp_marks (ok.fn _ _ hf) hb trivial ?_)
 have hT:=enter_rel (fn:=fn) hl hn
 refine wpIn_mono (h c hk β W0 _ (s _ ⟨hT,DsRel.nil β⟩)) fun e a' W' hq=>?_
 obtain ⟨β1,x,t1,ds1,H1,hx,s1,hx1,rfl,l,r,hres,hok,hR⟩:=hq
 have hu:=unwind_ok (nt:=fn.ntmps) (res:=fn.results.toList) (t:=t1) (ds:=[]) (m:=.returning) ok (ev_ok ok hlp (sp:=fun _ _ _=>none) (fun f args H v H' r w _ h=>by cases h) 0) s1.wf
 have hev:evUnwind tb (ev tb (fun _ _ _=>none) 0) fn.ntmps fn.results.toList t1 [] .returning H1=.k (.ret (resV l) H1 r 0):=by simp only [evUnwind,hres]
 rw [hev] at hu
 have hlv:=hu.2 β1 W' s1.g (s1.pre hok) fn a'.tmps a'.defers .returning rfl s1.ar.1 s1.ar.2 trivial (by simp)
 have hfin:=LeavesInM.mono (R':=fun e W'=>∃ β' v v' H',e=.returned v'∧VRel β' v v'∧R v H'∧Below W0.heap.size W0 W') (fun e W2 hh=>by
  obtain ⟨β2,v',rfl,hv,q⟩:=hh
  refine ⟨β2,resV l,v',H1,rfl,hv,hR,s1.old.trans ⟨q.env.1,q.env.2.1,q.env.2.2,q.size,fun k hk=>?_⟩⟩
  cases ho:W'.heap[k]? with
  | none =>
   have:=Array.getElem?_eq_none_iff.1 ho
   have:=s1.old.size
   omega
  | some o=>exact q.frame k o ho fun b m _ hwb _=>by simp at hwb) _ _ _ hlv
 rcases hx1 with rfl | rfl
 ·cases e <;> first | exact hfin | exact hx.elim
 ·cases e <;> first | exact hfin | exact hx.elim
end
end Go.Ev
end
