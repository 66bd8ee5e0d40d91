/-
 A part of the proof that pliantlaw15.RtsAreas returns true and leaves its arguments alone. Conditions: those of the card in the last text.
-/
import Derived.KernelRfl
import Derived.Maps.RangeRun
import Derived.Test.YtgdejggelcpokaaGreatDoorProg
import Derived.Test.YtgdejggelcpokaaGreatDoorG09
import Derived.Test.YtgdejggelcpokaaGreatDoorG10
import Derived.Test.YtgdejggelcpokaaGreatDoorG11
import Derived.Test.YtgdejggelcpokaaGreatDoorG21
import Derived.Test.YtgdejggelcpokaaGreatDoorG24
import Derived.Test.YtgdejggelcpokaaGreatDoorG26
set_option linter.unusedSimpArgs false
set_option linter.unusedVariables false
set_option linter.unusedSectionVars false
noncomputable section
namespace Go.Ev
open Go.Proofs Go.Proofs.RS
def delB (i:Nat) (L:List Value):List Value:=L.take (i*3)++L.drop ((i+1)*3)
def spDelB (args:List Value) (H:Hp):Option (Value×Hp×Nat×Nat):=match args with
 | [.slice (some ⟨b,0,none⟩) n c,.int .i64 (.ofNat i),.int .i64 (.ofNat j)]=>(match H.blk b with
  | .cells t k ty op lo hi =>
   Bc (Nat.beq k (n*3) && Nat.beq ty 56 && Nat.blt i n && Nat.ble n 1000000 && Nat.beq op 4 && Nat.beq c (2*n+1) && Nat.beq lo 0 && Nat.beq hi 0 && Nat.beq j (i+1) && H.room)
    (some (.slice (some ⟨H.nx,0,none⟩) (n-1) (2*(n-1)+1),(H.put b .no).push (blkL (delB i (rdL t (n*3) 0)) 56 4),0,bit b)) none
  | _=>none)
 | _=>none
theorem delB_get {i j:Nat} {L:List Value} (hi:i*3≤L.length):(delB i L)[j]?=if j<i*3 then L[j]? else L[j+3]?:=by
 unfold delB
 have hl:(L.take (i*3)).length=i*3:=by rw [List.length_take];omega
 by_cases h1:j<i*3
 ·rw [if_pos h1,List.getElem?_append_left (by omega),List.getElem?_take_of_lt h1]
 ·rw [if_neg h1,List.getElem?_append_right (by omega),hl,List.getElem?_drop]
  congr 1
  omega
set_option maxHeartbeats 2000000 in
theorem spDelB_ok {P:Program} {ng:Nat} (L:InsB P) (v50:∀ w,(zeroValue 56).run P w=.ok (Value.agg #[Value.int .i64 0,Value.int .i64 0,Value.int .u8 0]) w) (hent:∀ (args:Array Value) (W:World),(callFunc 17 args).run P W=.ok (.enter 17 args) W) {args:List Value} {H:Hp} {v:Value} {H':Hp} {r w:Nat} (hw:H.wf) (h:spDelB args H=some (v,H',r,w)) :
 TaskOk P ng (.call 17 args) H (.k (.ret v H' r w)):=by
 unfold spDelB at h
 split at h
 case h_2=>cases h
 rename_i b n c i j
 split at h
 case h_2=>cases h
 rename_i t k ty op lo hi hb
 generalize hcond:(Nat.beq k (n*3) && Nat.beq ty 56 && Nat.blt i n && Nat.ble n 1000000 && Nat.beq op 4 && Nat.beq c (2*n+1) && Nat.beq lo 0 && Nat.beq hi 0 && Nat.beq j (i+1) && H.room)=q at h
 cases q with
 | false=>rw [Bc_f] at h;cases h
 | true =>
 rw [Bc_t] at h
 simp only [Option.some.injEq,Prod.mk.injEq] at h
 obtain ⟨rfl,rfl,rfl,rfl⟩:=h
 simp only [Bool.and_eq_true,beq_iff,ble_iff,blt_iff] at hcond
 obtain ⟨⟨⟨⟨⟨⟨⟨⟨⟨rfl,rfl⟩,hin⟩,hn6⟩,rfl⟩,rfl⟩,rfl⟩,rfl⟩,rfl⟩,hn⟩:=hcond
 have ha:alive H b:=(alive_iff H b).2 (by rw [hb];simp)
 refine ⟨can_fork hw ha hn,fun β W hgr p=>?_⟩
 intro args' hl
 obtain ⟨x1,l1,e1,hx1,hl⟩:=hl.cons_inv
 obtain ⟨x2,l2,rfl,hx2,hl⟩:=hl.cons_inv
 obtain ⟨x3,l3,rfl,hx3,hl⟩:=hl.cons_inv
 have:=hl.nil_inv;subst this
 have ea:=arr_three e1;subst ea
 cases hx2
 cases hx3
 cases hx1 with | sl _ _ _ _ c' m em hcap =>
 obtain ⟨m',cs,fr,em',hm,h2,h3,h4,h4',h5,h6⟩:=cells_of p (.inr ((bit_iff b b).2 rfl)) hb
 rw [em] at em';cases em'
 have hfr:=fr_none h6
 have hLL:LRel β (rdL t (n*3) 0) (rowOf cs (0+m.sh) (n*3)):=lrel_row (by omega) (by omega) h5
 have hL1:(rdL t (n*3) 0).all oneC=true:=one_row (n:=n*3) (by omega) fun j hj=>(h5 j hj).1
 have hlL:(rowOf cs (0+m.sh) (n*3)).length=n*3:=rowOf_len (by omega)
 have hcs:∀ j v,(rowOf cs (0+m.sh) (n*3))[j]?=some v→W.cell? ⟨m.rb,0+m.sh+j,none⟩=some v:=fun j v hj=>by
  have hj2:j<n*3:=by
   rcases Nat.lt_or_ge j (n*3) with h' | h'
   ·exact h'
   ·rw [List.getElem?_eq_none (by omega)] at hj;cases hj
  rw [rowOf_get hj2] at hj
  rw [cell_some hm];exact hj
 have h1c:∀ v∈rowOf cs (0+m.sh) (n*3),v.oneCell'=true:=fun v hv=>one_kit (all_one hLL hL1 v hv)
 have hrel:LRel β (delB i (rdL t (n*3) 0)) (delB i (rowOf cs (0+m.sh) (n*3))):=(hLL.take _).append (hLL.drop _)
 have hall:(delB i (rdL t (n*3) 0)).all oneC=true:=by
  unfold delB
  rw [List.all_append,Bool.and_eq_true]
  exact ⟨List.all_eq_true.2 fun x hx=>List.all_eq_true.1 hL1 x (List.mem_of_mem_take hx),List.all_eq_true.2 fun x hx=>List.all_eq_true.1 hL1 x (List.mem_of_mem_drop hx)⟩
 have hlen:(delB i (rowOf cs (0+m.sh) (n*3))).length=(n-1)*3:=by
  unfold delB
  rw [List.length_append,List.length_take,List.length_drop,hlL];omega
 generalize hLv:rowOf cs (0+m.sh) (n*3)=Lr at *
 obtain ⟨tn,hbn,hgn⟩:=blkL_eq (delB i (rdL t (n*3) 0)) 56 4
 have hesz:=h4' 3 rfl
 obtain ⟨hnc,hfit⟩:=hcap.2 (by omega)
 rw [hesz] at hfit
 obtain ⟨N,rfl⟩:∃ N,n=N+1:=⟨n-1,by omega⟩
 refine .inl ⟨hent _ _,callsIn_wide.2 ?_⟩
 refine (del_atB L v50 m.rb (0+m.sh) N c' i Lr W (by omega) (by omega) hlL hcs (fun j _=>frozen_none hm hfr _) h1c).mono fun e W' hR=>?_
 obtain ⟨rfl,rfl⟩:=hR
 refine ⟨β.put H.nx m,_,rfl,.sl H.nx 0 (N+1-1) (2*(N+1-1)+1) c' m (Mp.put_same _ _ _) ⟨fun h=>by omega,fun _=>⟨by omega,by rw [hesz];exact hfit⟩⟩,?_⟩
 have hm':W.drew.heap[m.rb]?=some (.cells cs 56 fr):=hm
 rw [setCells_eq _ _ _ hm',setCells_eq _ _ _ (setB_same hm'),setB_setB]
 have hld:(Lr.drop ((i+1)*3)).length=(N+1)*3-(i+1)*3:=by rw [List.length_drop,hlL]
 refine (post_inplace (cs2:=putRow (putRow cs (0+m.sh+i*3) (Lr.drop ((i+1)*3))) (0+m.sh+N*3) [Value.int .i64 0,Value.int .i64 0,Value.int .u8 0]) hw ha hn hbn hgn hall hrel em hm h2 (by rw [putRow_size,putRow_size]) hesz (by rw [hlen];omega) h6 (fun j hj=>?_) p).congr rfl ⟨rfl,rfl,rfl⟩
 rw [hlen] at hj
 rw [putRow_get _ _ _ _ (by rw [putRow_size];show _+3≤_;omega),if_neg (by omega),putRow_get _ _ _ _ (by omega),delB_get (by omega)]
 by_cases h1:j<i*3
 ·rw [if_neg (by omega),if_pos h1,← hLv,rowOf_get (by omega),Nat.zero_add]
 ·rw [if_pos (by omega),if_neg h1,List.getElem?_drop]
  congr 1;omega
end Go.Ev
namespace Go.Proofs.RS
open Go Go.Ev Go.Proofs
theorem insB:InsB Tryz.prog where
 mixed:=mixed_ok
 f17:=Tryz.func17
 t0:=Tryz.underlying0
 a0:=Tryz.isAgg0
 z0:=Tryz.sizeOf0
 v0:=Tryz.zeroValue0
 t3:=Tryz.underlying3
 a3:=Tryz.isAgg3
 z3:=Tryz.sizeOf3
 v3:=Tryz.zeroValue3
 t4:=Tryz.underlying4
 a4:=Tryz.isAgg4
 z4:=Tryz.sizeOf4
 v4:=Tryz.zeroValue4
 t52:=Tryz.underlying53
 a52:=Tryz.isAgg53
 z52:=Tryz.sizeOf53
 v52:=Tryz.zeroValue53
 z50:=Tryz.sizeOf56
 i50:=by kernel_rfl
noncomputable def spN (f:Nat) (args:List Value) (H:Hp):Option (Value×Hp×Nat×Nat):=Bc (Nat.beq f 17) (spDelB args H) (spM f args H)
theorem spN_ok:SpOk Tryz.prog NG spN:=by
 intro f args H v H' r w hw h
 unfold spN at h
 cases h1:Nat.beq f 17 with
 | true =>
  rw [h1,Bc_t] at h
  rw [(beq_iff _ _).1 h1]
  exact spDelB_ok insB Tryz.zeroValue56 (hasBody_inv tb_ok (by kernel_rfl)) hw h
 | false=>rw [h1,Bc_f] at h;exact spM_ok f args H v H' r w hw h
theorem spX_n:SpX spN where
 none:=fun f args H h1 h2=>by unfold spN;rw [beq_no h1.2.2.2.2.2.2,Bc_f];exact spX_m.none f args H h1 h2
 cl:=fun f args v H h=>by
  unfold spN
  rw [show Nat.beq f 17=false from by cases h <;> rfl,Bc_f];exact spM_cl h H
 zero:=fun args H=>by unfold spN;rw [show Nat.beq 153 17=false from rfl,Bc_f];exact spX_m.zero args H
theorem spN_del (args:List Value) (H:Hp):spN 17 args H=spDelB args H:=rfl
end Go.Proofs.RS
end
noncomputable section
namespace Go.Ev
open Go.Ar (Bk)
open Go.Proofs.RS
def blkV (x:Bk):List Value:=[vN ((8*16+8*x.1:Nat):Int),vN ((x.2.1:Nat):Int),uB x.2.2]
def cellsB (bl:List Bk):List Value:=bl.flatMap blkV
theorem cellsB_len (bl:List Bk):(cellsB bl).length=bl.length*3:=by
 induction bl with
 | nil=>rfl
 | cons x bl ih =>
  show (blkV x++cellsB bl).length=_
  rw [List.length_append,ih,List.length_cons]
  show 3+_=_
  omega
theorem cellsB_app (a b:List Bk):cellsB (a++b)=cellsB a++cellsB b:=by simp [cellsB]
theorem cellsB_at {bl:List Bk} {i j:Nat} {x:Bk} (h:bl[i]?=some x) (hj:j<3):(cellsB bl)[i*3+j]?=(blkV x)[j]?:=by
 induction bl generalizing i with
 | nil=>cases h
 | cons y bl ih =>
  show (blkV y++cellsB bl)[i*3+j]?=_
  have hl:(blkV y).length=3:=rfl
  cases i with
  | zero =>
   simp only [List.getElem?_cons_zero,Option.some.injEq] at h
   subst h
   rw [List.getElem?_append_left (by omega)];congr 1;omega
  | succ i =>
   rw [List.getElem?_append_right (by omega),hl,show (i+1)*3+j-3=i*3+j by omega]
   exact ih h
structure AllB (H:Hp) (ba:Nat) (va:Value) (bl:List Bk):Prop where
 al:H.blk ba≠.no
 form:(va=.slice none 0 0∧bl=[])∨(Row H ba 56 4 (cellsB bl)∧va=.slice (some ⟨ba,0,none⟩) bl.length (2*bl.length+1))
section
variable {H H':Hp} {ba:Nat} {va:Value} {bl:List Bk}
theorem AllB.lt (h:AllB H ba va bl):ba<H.nx:=((alive_iff H ba).2 h.al).1
theorem AllB.of_blk (h:AllB H ba va bl) (e:H'.blk ba=H.blk ba):AllB H' ba va bl:=⟨by rw [e];exact h.al,h.form.imp id fun h=>⟨h.1.of_blk e,h.2⟩⟩
theorem AllB.mv (h:AllB H ba va bl) (k:Kept H H'):AllB H' ba va bl:=h.of_blk (k.old _ h.lt)
theorem AllB.ot {b2:Nat} (h:AllB H ba va bl) (he:∀ c,c≠b2→H'.blk c=H.blk c) (hn:ba≠b2):AllB H' ba va bl:=h.of_blk (he _ hn)
theorem AllB.mo {b2:Nat} (h:AllB H ba va bl) (he:∀ c,c<H.nx→c≠b2→H'.blk c=H.blk c) (hn:ba≠b2):AllB H' ba va bl:=h.of_blk (he _ h.lt hn)
theorem AllB.len (h:AllB H ba va bl) (H2:Hp):exLen 1 va H2=.val (vN ((bl.length:Nat):Int)) H2 0 0:=by
 rcases h.form with ⟨rfl,rfl⟩ | ⟨_,rfl⟩ <;> rfl
theorem AllB.row (h:AllB H ba va bl) (hb:0<bl.length):Row H ba 56 4 (cellsB bl)∧va=.slice (some ⟨ba,0,none⟩) bl.length (2*bl.length+1):=by
 rcases h.form with ⟨_,rfl⟩ | h
 ·exact absurd hb (by simp)
 ·exact h
theorem iaS_all (h:AllB H ba va bl) {i:Nat} (hi:i<bl.length) (H2:Hp):exIaS 3 va (vN ((i:Nat):Int)) H2=.val (.pointer (some ⟨ba,i*3,none⟩)) H2 0 0:=by
 obtain ⟨_,rfl⟩:=h.row (by omega)
 unfold exIaS
 rw [asSl_open]
 simp only []
 have:idx (vN ((i:Nat):Int)) bl.length=some i:=by
  show Bc (Nat.blt i bl.length) (some i) none=_
  rw [(blt_iff _ _).2 hi];rfl
 rw [this]
 simp only []
 rw [Nat.zero_add];rfl
theorem ldN_all (h:AllB H ba va bl) {i:Nat} {x:Bk} (hi:bl[i]?=some x):exLdN 3 (.pointer (some ⟨ba,i*3,none⟩)) H=.val (.agg ⟨blkV x⟩) H (bit ba) 0:=by
 have hlt:i<bl.length:=by
  rcases Nat.lt_or_ge i bl.length with h | h
  ·exact h
  ·rw [List.getElem?_eq_none h] at hi;cases hi
 obtain ⟨hr,_⟩:=h.row (by omega)
 rw [exLdN_row hr (by rw [cellsB_len];omega)]
 congr 2
 apply congrArg
 apply List.ext_getElem?
 intro j
 rw [List.getElem?_take]
 split
 ·rw [List.getElem?_drop];exact cellsB_at hi (by omega)
 ·rename_i hj
  rw [List.getElem?_eq_none (by show 3≤j;omega)]
theorem ld1_all (h:AllB H ba va bl) {i:Nat} {x:Bk} (hi:bl[i]?=some x):exLd1 (.pointer (some ⟨ba,i*3,none⟩)) H=.val (vN ((8*16+8*x.1:Nat):Int)) H (bit ba) 0:=by
 have hlt:i<bl.length:=by
  rcases Nat.lt_or_ge i bl.length with h | h
  ·exact h
  ·rw [List.getElem?_eq_none h] at hi;cases hi
 obtain ⟨hr,_⟩:=h.row (by omega)
 exact exLd1_row hr (by have:=cellsB_at (j:=0) hi (by decide);rw [Nat.add_zero] at this;exact this)
theorem lenB_3 (b n c:Nat):lenV (.slice (some ⟨b,0,none⟩) n c)=some n:=rfl
theorem AllB.app {e:Env} {x:Bk} {b2:Nat} (hf:H.isFn=true) (h:AllB H ba va bl) (hb:e.n0≤ba) (hr:Row H b2 56 0 (blkV x)) (hb2:e.n0≤b2) (hn:bl.length≤1000) :
 ∃ va' H1 r w,exApp 56 3 24 va (.slice (some ⟨b2,0,none⟩) 1 2) H=.val va' H1 r w∧e.ok r w H1∧H1.isFn=true∧H1.nx=H.nx+1∧AllB H1 H.nx va' (bl++[x])∧∀ c,c<H.nx→c≠ba→H1.blk c=H.blk c:=by
 have hc:cellsOfV H 3 1 (.slice (some ⟨b2,0,none⟩) 1 2)=some (blkV x,bit b2):=by
  show (match rdN H b2 0 (1*3) with | some l=>some (l,bit b2) | none=>none)=_
  rw [rdN_row (o:=0) (k:=3) hr (by show 0+3≤3;decide)]
  rfl
 have hok1:e.ok (bit b2) 0 H:=.read hr.lt fun h=>absurd h (by omega)
 have hlt:=h.lt
 have hcell:cellsB (bl++[x])=cellsB bl++blkV x:=by rw [cellsB_app];simp [cellsB]
 have hlen:(bl++[x]).length=bl.length+1:=by simp
 rcases h.form with ⟨rfl,rfl⟩ | ⟨h1,rfl⟩
 ·refine ⟨_,_,_,_,exApp_nil (fn_room hf) (lenB_3 b2 1 2) (by decide) hc (okBytes_of (by decide) (by decide)),⟨hok1.rd,hok1.wr,fun b hb=>by rw [nx_push];have:=hok1.lt b hb;omega⟩,by rw [isFn_push];exact hf,nx_push _ _,?_,fun c hc _=>blk_push_old (fn_room hf) _ hc⟩
  have hrow:=row_push (H:=H) (fn_room hf) (blkV x) 56 4
  exact ⟨by rw [blk_push _ (fn_room hf),if_pos rfl];obtain ⟨t,h1,_⟩:=blkL_eq (blkV x) 56 4;rw [h1];simp,.inr ⟨by rw [hcell];exact hrow,rfl⟩⟩
 ·refine ⟨_,_,_,_,exApp_open (fn_room hf) h1 (by rw [cellsB_len]) (lenB_3 b2 1 2) (by decide) hc (okBytes_of (by omega) (by omega)),?_,by rw [isFn_push,isFn_put];exact hf,by rw [nx_push,nx_put],?_,fun c hcl hcb=>?_⟩
  ·have h2:=hok1.lor (Env.ok.write (e:=e) (b:=ba) hlt (fun h=>absurd h (by omega))) (Nat.le_refl _)
   rw [lor_zero',zero_lor'] at h2
   exact ⟨h2.rd,h2.wr,fun c hcc=>by rw [nx_push,nx_put];have:=h2.lt c hcc;omega⟩
  ·have hroom:(H.put ba .no).room=true:=by rw [room_put];exact fn_room hf
   have hrow:=row_push (H:=H.put ba .no) hroom (cellsB bl++blkV x) 56 4
   rw [nx_put] at hrow
   refine ⟨?_,.inr ⟨by rw [hcell];exact hrow,by rw [hlen]⟩⟩
   have:=(alive_iff _ _).1 ((alive_iff _ H.nx).2 (by obtain ⟨t,h1,_⟩:=hrow;rw [h1];simp))
   exact this
  ·rw [blk_push_old (by rw [room_put];exact (fn_room hf)) _ (by rw [nx_put];exact hcl),blk_put_ne (fn_wf hf) _ hlt hcb]
theorem AllB.del {tb:Tb} {sp:Nat→List Value→Hp→Option (Value×Hp×Nat×Nat)} {e:Env} (hsp:∀ args H,sp 17 args H=spDelB args H) {b1 b2:List Bk} {x:Bk} (hf:H.isFn=true) (h:AllB H ba va (b1++x::b2)) (hb:e.n0≤ba) (hn:(b1++x::b2).length≤1000) :
 EC tb sp e 17 [va,vN ((b1.length:Nat):Int),vN ((b1.length+1:Nat):Int)] H fun v H1=>H1.isFn=true∧H1.nx=H.nx+1∧AllB H1 H.nx v (b1++b2)∧∀ c,c<H.nx→c≠ba→H1.blk c=H.blk c:=by
 have hlt:=h.lt
 obtain ⟨hr,rfl⟩:=h.row (by simp;omega)
 have hr':=hr
 obtain ⟨t,hblk,ht⟩:=hr
 have hlen:(b1++x::b2).length=b1.length+1+b2.length:=by simp;omega
 have hrd:rdL t ((b1++x::b2).length*3) 0=cellsB (b1++x::b2):=by
  apply List.ext_getElem?
  intro j
  by_cases hj:j<(b1++x::b2).length*3
  ·rw [rdL_get t _ 0 j hj,Nat.zero_add]
   have hg:(cellsB (b1++x::b2))[j]?=some ((cellsB (b1++x::b2))[j]'(by rw [cellsB_len];exact hj)):=List.getElem?_eq_getElem _
   rw [hg,ht j _ hg]
  ·rw [List.getElem?_eq_none (by rw [rdL_len];omega),List.getElem?_eq_none (by rw [cellsB_len];omega)]
 have hdel:delB b1.length (cellsB (b1++x::b2))=cellsB (b1++b2):=by
  unfold delB
  rw [cellsB_app,show cellsB (x::b2)=blkV x++cellsB b2 from rfl,cellsB_app]
  congr 1
  ·rw [← cellsB_len b1,List.take_left]
  ·rw [← List.append_assoc,show (b1.length+1)*3=(cellsB b1++blkV x).length by rw [List.length_append,cellsB_len];show _=b1.length*3+3;omega,List.drop_left]
 have hroom:(H.put ba .no).room=true:=by rw [room_put];exact fn_room hf
 have hrow:=row_push (H:=H.put ba .no) hroom (cellsB (b1++b2)) 56 4
 rw [nx_put] at hrow
 refine ⟨1,.slice (some ⟨H.nx,0,none⟩) ((b1++x::b2).length-1) (2*((b1++x::b2).length-1)+1),(H.put ba .no).push (blkL (cellsB (b1++b2)) 56 4),0,bit ba,?_,?_,by rw [nx_push,nx_put];omega,by rw [isFn_push,isFn_put];exact hf,by rw [nx_push,nx_put],⟨?_,.inr ⟨hrow,?_⟩⟩,fun c hcl hcb=>?_⟩
 ·show evTask tb sp (ev tb sp 0) (.call 17 _) H=_
  have:sp 17 [.slice (some ⟨ba,0,none⟩) (b1++x::b2).length (2*(b1++x::b2).length+1),vN ((b1.length:Nat):Int),vN ((b1.length+1:Nat):Int)] H=some (.slice (some ⟨H.nx,0,none⟩) ((b1++x::b2).length-1) (2*((b1++x::b2).length-1)+1),(H.put ba .no).push (blkL (cellsB (b1++b2)) 56 4),0,bit ba):=by
   rw [hsp]
   show (match H.blk ba with
    | .cells t k ty op lo hi=>Bc (Nat.beq k ((b1++x::b2).length*3) && Nat.beq ty 56 && Nat.blt b1.length (b1++x::b2).length && Nat.ble (b1++x::b2).length 1000000 && Nat.beq op 4 && Nat.beq (2*(b1++x::b2).length+1) (2*(b1++x::b2).length+1) && Nat.beq lo 0 && Nat.beq hi 0 && Nat.beq (b1.length+1) (b1.length+1) && H.room)
     (some (Value.slice (some ⟨H.nx,0,none⟩) ((b1++x::b2).length-1) (2*((b1++x::b2).length-1)+1),(H.put ba .no).push (blkL (delB b1.length (rdL t ((b1++x::b2).length*3) 0)) 56 4),0,bit ba)) none
    | _=>none)=_
   rw [hblk]
   simp only []
   rw [hrd,hdel,cellsB_len]
   have hc:(Nat.beq ((b1++x::b2).length*3) ((b1++x::b2).length*3) && Nat.beq 56 56 && Nat.blt b1.length (b1++x::b2).length && Nat.ble (b1++x::b2).length 1000000 && Nat.beq 4 4 && Nat.beq (2*(b1++x::b2).length+1) (2*(b1++x::b2).length+1) && Nat.beq 0 0 && Nat.beq 0 0 && Nat.beq (b1.length+1) (b1.length+1) && H.room)=true:=by
    rw [(beq_iff ((b1++x::b2).length*3) _).2 rfl,(blt_iff b1.length (b1++x::b2).length).2 (by omega),(ble_iff (b1++x::b2).length 1000000).2 (by omega),(beq_iff (2*(b1++x::b2).length+1) _).2 rfl,(beq_iff (b1.length+1) _).2 rfl,fn_room hf];rfl
   rw [hc,Bc_t]
  simp only [evTask,this]
 ·have:=Env.ok.write (e:=e) (b:=ba) (H:=H) hlt (fun h=>absurd h (by omega))
  exact ⟨this.rd,this.wr,fun c hcc=>by rw [nx_push,nx_put];have:=this.lt c hcc;omega⟩
 ·obtain ⟨t2,h1,_⟩:=hrow;rw [h1];simp
 ·rw [hlen]
  have:(b1++b2).length=b1.length+1+b2.length-1:=by simp
  rw [this]
 ·rw [blk_push_old hroom _ (by rw [nx_put];exact hcl),blk_put_ne (fn_wf hf) _ hlt hcb]
end
theorem remI {x k:Int} (hk:k≠0) (H:Hp):R.o (binV .rem (.int .i64 x) (.int .i64 k)) H=.val (.int .i64 (x.tmod k)) H 0 0:=by
 have:binV .rem (.int .i64 x) (.int .i64 k)=some (.int .i64 (x.tmod k)):=by
  show Bc (eqI k 0) none (some (Value.int .i64 (x.tmod k)))=_
  rw [show eqI k 0=false from by rw [eqI_dec];exact decide_eq_false hk,Bc_f]
 rw [this];rfl
theorem tmod_b (x:Int) {L:Nat} (hL:0<L) : -(L:Int)<x.tmod L∧x.tmod L<L:=by
 have h1:=Int.tmod_lt_of_pos x (show (0:Int)<(L:Int) by omega)
 have h2:=Int.lt_tmod_of_pos x (show (0:Int)<(L:Int) by omega)
 exact ⟨h2,h1⟩
theorem modL (x:Int) {L:Nat} (hL:0<L):∃ m:Nat,m<L∧(x.tmod L+L).tmod L=(m:Int):=by
 obtain ⟨h1,h2⟩:=tmod_b x hL
 have h3:0≤x.tmod L+L:=by omega
 have h4:=Int.tmod_lt_of_pos (x.tmod L+L) (show (0:Int)<(L:Int) by omega)
 have h5:0≤(x.tmod L+L).tmod L:=Int.tmod_nonneg _ h3
 exact ⟨((x.tmod L+L).tmod L).toNat,by omega,by omega⟩
theorem eq_str (u:UInt8) (H:Hp):exEq true (.one .s) (vS [u]) (vS [u]) H=.val (.bool false) H 0 0:=by
 show (match some (eqBs [u] [u]) with | some b=>R.v (.bool (Bc true (!b) b)) H | none=>.fail)=_
 rw [Go.Ds.eqBs_self];rfl
theorem eq_val (u:UInt8) (H:Hp):exEq true (.many 2 [(0,.i),(1,.s)]) (valV [u]) (valV [u]) H=.val (.bool false) H 0 0:=by
 have:eqV (.many 2 [(0,.i),(1,.s)]) (valV [u]) (valV [u])=some true:=by
  show eqMany [vN 0,vS [u]] [vN 0,vS [u]] [(0,.i),(1,.s)]=_
  have h1:eqLeaf .s (vS [u]) (vS [u])=some true:=by
   show some (eqBs [u] [u])=_
   rw [Go.Ds.eqBs_self]
  simp only [eqMany,List.getElem?_cons_zero,List.getElem?_cons_succ,h1]
  rfl
 unfold exEq
 rw [this];rfl
theorem bsl_one {H:Hp} (hf:H.isFn=true) (u:UInt8):∃ H1,alloc1 (blkL [uB u] 5 0) H (fun i=>mkSlV (some (i,0)) 1 1 false) 0 0=.val (.slice (some ⟨H.nx,0,none⟩) 1 (2*1)) H1 0 0∧ByU H1 H.nx 5 (fun _=>u) 1∧Kept H H1∧H1.nx=H.nx+1 :=
 ⟨_,alloc_bsl hf _ _ _,row_push (fn_room hf) _ _ _,⟨by rw [isFn_push];exact hf,by rw [nx_push];omega,fun b hb=>blk_push_old (fn_room hf) _ hb⟩,nx_push _ _⟩
theorem bsl_blk {H:Hp} (hf:H.isFn=true) (x:Go.Ar.Bk):∃ H1,alloc1 (blkL (blkV x) 56 0) H (fun i=>mkSlV (some (i,0)) 1 1 false) 0 0=.val (.slice (some ⟨H.nx,0,none⟩) 1 (2*1)) H1 0 0∧Row H1 H.nx 56 0 (blkV x)∧Kept H H1∧H1.nx=H.nx+1 :=
 ⟨_,alloc_bsl hf _ _ _,row_push (fn_room hf) _ _ _,⟨by rw [isFn_push];exact hf,by rw [nx_push];omega,fun b hb=>blk_push_old (fn_room hf) _ hb⟩,nx_push _ _⟩
theorem KeptX.upd {X:Nat→Prop} {H H1 H2:Hp} {b:Nat} (h:KeptX X H H1) (hf:H2.isFn=true) (hn:H1.nx≤H2.nx) (he:∀ c,c<H1.nx→c≠b→H2.blk c=H1.blk c) (hb:X b∨H.nx≤b):KeptX X H H2 :=
 ⟨hf,Nat.le_trans h.nx hn,fun c hc hx=>by
  have hcb:c≠b:=by
   rintro rfl
   rcases hb with hb | hb
   ·exact hx hb
   ·omega
  rw [he c (Nat.lt_of_lt_of_le hc h.nx) hcb,h.old c hc hx]⟩
end Go.Ev
end
noncomputable section
namespace Go.Proofs.RS
open Go Go.Ev Go.Proofs
noncomputable def ded_body:Code:=(Tryz.f47.body).getD .skip
def ded_r0:List CO:=[
 ⟨(some 2),none,.mv (.const (.bool false))⟩]
def ded_r1:List CO:=[
 ⟨(some 3),none,.mv (.tmp 0)⟩,
 ⟨(some 4),none,.eq false (.one .p) (.tmp 3) (.const (.pointer none))⟩,
 ⟨(some 5),none,.mv (.tmp 4)⟩,
 ⟨(some 6),(some (5,false)),.mv (.tmp 0)⟩,
 ⟨(some 7),(some (5,false)),.nilc (.tmp 6)⟩,
 ⟨(some 8),(some (5,false)),.fa 19 (.tmp 7)⟩,
 ⟨(some 9),(some (5,false)),.ld1 (.tmp 8)⟩,
 ⟨(some 10),none,.pick (.tmp 5) (.const (.bool true)) (.tmp 9)⟩,
 ⟨(some 2),none,.mv (.tmp 10)⟩]
noncomputable def ded_k:KC :=
 (.seq (.reg ded_r0)
 (.seq (.reg ded_r1)
 .ret))
theorem ded_comp:kcomp Tb0 Tryz.f47.ntmps ded_body=ded_k:=by kernel_rfl
theorem ded_some:Tryz.f47.body=some ded_body:=rfl
end Go.Proofs.RS
end
noncomputable section
namespace Go.Proofs.RS
open Go Go.Ev Go.Proofs Go.Ds
def stL:List Value:=[.slice (some ⟨73,0,none⟩) 2 5,vN 32,.slice none 0 0,.slice (some ⟨62,0,none⟩) 2 5,.slice (some ⟨64,0,none⟩) 1 3,.slice (some ⟨66,0,none⟩) 1 3,.pointer (some ⟨74,0,none⟩),.slice (some ⟨100,0,none⟩) 1 3,vN 32,.slice (some ⟨91,0,none⟩) 2 5,.slice (some ⟨93,0,none⟩) 2 5,.slice (some ⟨95,0,none⟩) 2 5,.slice (some ⟨75,0,none⟩) 1 2,.pointer none,.slice none 0 0,vN 0,vN 3,vN 0,.bool false,.bool false,vN 0,vN 0]
end Go.Proofs.RS
end
noncomputable section
namespace Go.Ev
open Go.RowKit (Below)
structure St (ng:Nat) (W0:World) (β0:Mp) (N0:Nat) (β:Mp) (nt:Nat) (t:T Value) (ds:List Deferred) (H:Hp) (a:Act) (W:World):Prop where
 wf:H.wf
 nx:N0≤H.nx
 g:GRel ng β
 ar:ARel β nt t ds a
 rel:∀ b,alive H b→∃ m,β b=some m∧BOk β W (H.blk b) m
 fresh:∀ b,H.nx≤b→β b=none
 dom:∀ b m,β b=some m→m.rb<W.heap.size
 low:∀ b m,b<N0→β b=some m→m.rb<W0.heap.size
 high:∀ b m,N0≤b→alive H b→β b=some m→W0.heap.size≤m.rb
 inj:∀ b c mb mc,N0≤b→N0≤c→alive H b→alive H c→β b=some mb→β c=some mc→mb.rb=mc.rb→b=c
 old:Below W0.heap.size W0 W
 le:Mp.le β0 β
abbrev envS (N0:Nat):Env:=⟨N0,fun _=>True,fun _=>False⟩
section
variable {ng:Nat} {W0:World} {β0:Mp} {N0:Nat} {β:Mp} {nt:Nat} {t:T Value} {ds:List Deferred} {H:Hp} {a:Act} {W:World}
theorem St.hi (s:St ng W0 β0 N0 β nt t ds H a W) {b c:Nat} {mb mc:Bm} (hb:N0≤b) (ab:alive H b) (ac:alive H c) (eb:β b=some mb) (ec:β c=some mc) (e:mb.rb=mc.rb):b=c:=by
 rcases Nat.lt_or_ge c N0 with hc | hc
 ·have:=s.low c mc hc ec
  have:=s.high b mb hb ab eb
  omega
 ·exact s.inj b c mb mc hb hc ab ac eb ec e
theorem St.pre (s:St ng W0 β0 N0 β nt t ds H a W) {H':Hp} {r w:Nat} (hok:(envS N0).ok r w H'):Pre β H H' r w W:=by
 refine ⟨fun b _ ha=>s.rel b ha,fun b c mb mc hw _ ab ac eb ec e=>?_,fun b hb _=>s.fresh b hb,s.dom⟩
 have hb:N0≤b:=by
  rcases Nat.lt_or_ge b N0 with h | h
  ·exact (hok.wr b h hw).elim
  ·exact h
 exact s.hi hb ab ac eb ec e
theorem St.post (s:St ng W0 β0 N0 β nt t ds H a W) {H':Hp} {r w:Nat} (hok:(envS N0).ok r w H') (hcan:Can H H' w) {β':Mp} {W':World} (q:Post β β' H H' w W W') {t':T Value} {ds':List Deferred} {a':Act} (ha':ARel β' nt t' ds' a'):St ng W0 β0 N0 β' nt t' ds' H' a' W':=by
 have hwN:∀ b,w.testBit b=true→N0≤b:=fun b hw=>by
  rcases Nat.lt_or_ge b N0 with h | h
  ·exact (hok.wr b h hw).elim
  ·exact h
 have hsome:∀ b m,β' b=some m→b<H.nx→β b=some m:=fun b m e hb=>by
  cases h:β b with
  | none=>have:=q.only b m e h;omega
  | some m2=>have:=q.le b m2 h;rw [e] at this;cases this;rfl
 have hal:∀ b,alive H' b→b<H.nx→alive H b:=fun b ha hb=>by
  cases hw:w.testBit b with
  | true=>exact hcan.wal b hb hw
  | false=>exact (alive_iff H b).2 (by rw [← hcan.keep b hb hw];exact ha.2)
 have hnw:∀ b m,alive H' b→b<H.nx→w.testBit b=false→β b=some m→∀ c mc,w.testBit c=true→c<H.nx→β c=some mc→mc.rb≠m.rb:=fun b m ha hb hw e c mc hcw hc ec heq=>by
  have:=s.hi (hwN c hcw) (hcan.wal c hc hcw) (hal b ha hb) ec e heq
  rw [this] at hcw;rw [hcw] at hw;cases hw
 refine ⟨hcan.wf,Nat.le_trans s.nx hcan.mono,s.g.mono q.le,ha',fun b ha=>?_,fun b hb=>?_,q.dom,fun b m hb e=>s.low b m hb (hsome b m e (Nat.lt_of_lt_of_le hb s.nx)),fun b m hb ha e=>?_,fun b c mb mc hb hc ab ac eb ec heq=>?_,s.old.trans ?_,s.le.trans q.le⟩
 ·by_cases hnew:H.nx≤b∨w.testBit b=true
  ·exact q.rel b hnew ha
  ·have hb:b<H.nx:=by
    rcases Nat.lt_or_ge b H.nx with h | h
    ·exact h
    ·exact absurd (.inl h) hnew
   have hw:w.testBit b=false:=by
    cases h:w.testBit b with
    | false=>rfl
    | true=>exact absurd (.inr h) hnew
   obtain ⟨m,e,o,ho,hr⟩:=s.rel b (hal b ha hb)
   refine ⟨m,q.le b m e,o,?_,?_⟩
   ·exact q.frame m.rb o ho fun c mc hc hcw ec=>hnw b m ha hb hw e c mc hcw hc ec
   ·rw [hcan.keep b hb hw];exact hr.mono q.le
 ·cases e:β' b with
  | none=>rfl
  | some m =>
   have:=q.only b m e (s.fresh b (Nat.le_trans hcan.mono hb))
   omega
 ·rcases Nat.lt_or_ge b H.nx with h | h
  ·exact s.high b m hb (hal b ha h) (hsome b m e h)
  ·rcases q.new b m h (s.fresh b h) e with h2 | ⟨c,mc,h1,h2,h3,h4,h5⟩
   ·exact Nat.le_trans s.old.size h2
   ·rw [← h4];exact s.high c mc (hwN c h2) (hcan.wal c h1 h2) h3
 ·
  by_cases hbn:H.nx≤b∨w.testBit b=true
  ·by_cases hcn:H.nx≤c∨w.testBit c=true
   ·exact q.inj b c mb mc hbn hcn ab ac eb ec heq
   ·exact (one hsome hal hwN b c mb mc hb hc ab ac eb ec heq hbn hcn)
  ·by_cases hcn:H.nx≤c∨w.testBit c=true
   ·exact (one hsome hal hwN c b mc mb hc hb ac ab ec eb heq.symm hcn hbn).symm
   ·have hb':b<H.nx:=by
     rcases Nat.lt_or_ge b H.nx with h | h
     ·exact h
     ·exact absurd (.inl h) hbn
    have hc':c<H.nx:=by
     rcases Nat.lt_or_ge c H.nx with h | h
     ·exact h
     ·exact absurd (.inl h) hcn
    exact s.inj b c mb mc hb hc (hal b ab hb') (hal c ac hc') (hsome b mb eb hb') (hsome c mc ec hc') heq
 ·refine ⟨q.env.1,q.env.2.1,q.env.2.2,q.size,fun k hk=>?_⟩
  cases ho:W.heap[k]? with
  | none =>
   have:=Array.getElem?_eq_none_iff.1 ho
   have:=s.old.size
   omega
  | some o =>
   exact q.frame k o ho fun b m hb hwb e he=>by
    have:=s.high b m (hwN b hwb) (hcan.wal b hb hwb) e
    omega
where
 one (hsome:∀ b m,β' b=some m→b<H.nx→β b=some m) (hal:∀ b,alive H' b→b<H.nx→alive H b) (hwN:∀ b,w.testBit b=true→N0≤b) (b c:Nat) (mb mc:Bm) (hb:N0≤b) (hc:N0≤c) (ab:alive H' b) (ac:alive H' c) (eb:β' b=some mb) (ec:β' c=some mc) (heq:mb.rb=mc.rb)
  (hbn:H.nx≤b∨w.testBit b=true) (hcn:¬ (H.nx≤c∨w.testBit c=true)):b=c:=by
  have hc':c<H.nx:=by
   rcases Nat.lt_or_ge c H.nx with h | h
   ·exact h
   ·exact absurd (.inl h) hcn
  have ec':=hsome c mc ec hc'
  have ac':=hal c ac hc'
  rcases Nat.lt_or_ge b H.nx with h | h
  ·exact s.inj b c mb mc hb hc (hal b ab h) ac' (hsome b mb eb h) ec' heq
  ·rcases q.new b mb h (s.fresh b h) eb with h2 | ⟨c',mc',h1,h2,h3,h4,h5⟩
   ·have:=s.dom c mc ec'
    omega
   ·have:=s.hi (hwN c' h2) (hcan.wal c' h1 h2) ac' h3 ec' (h4.trans heq)
    subst this
    exact absurd ac h5
end
section
variable (P:Program) (tb:Tb) (W0:World) (β0:Mp) (N0:Nat)
def SK (cx:Cx) (k:KC) (t:T Value) (ds:List Deferred) (H:Hp) (K:Ex→T Value→List Deferred→Hp→Prop):Prop :=
 ∀ c,kcomp tb cx.nt c=k→∀ β W a,St tb.ng W0 β0 N0 β cx.nt t ds H a W→c.wpIn FW 0 P (fun e a' W'=>∃ β' x t' ds' H',XRel β' x e∧St tb.ng W0 β0 N0 β' cx.nt t' ds' H' a' W'∧K x t' ds' H') a W
end
section
variable {P:Program} {tb:Tb} {W0:World} {β0:Mp} {N0:Nat} {cx:Cx} {t:T Value} {ds:List Deferred} {H:Hp} {K K':Ex→T Value→List Deferred→Hp→Prop}
theorem SK.of_wk (ok:TbOk P tb) (hlp:LpOk P tb) {sp:Nat→List Value→Hp→Option (Value×Hp×Nat×Nat)} (hsp:SpOk P tb.ng sp) {k:KC} (hr:cx.rnd=none) (hd:cx.nt<2 ^ cx.d) (h:WK tb sp (envS N0) cx k t ds H K):SK P tb W0 β0 N0 cx k t ds H K:=by
 intro c hc β W a s
 obtain ⟨N,x,t',ds',H',r,w,hev,hok,hn,hK⟩:=h c hc
 have hc:=evCC_ok ok hlp (ev_ok ok hlp hsp N) c cx t ds H hd s.wf
 rw [hev] at hc
 obtain ⟨hcan,hk⟩:=hc
 refine wpIn_mono (hk β W a FW s.g (by rw [hr];rfl) s.ar (s.pre hok)) fun e a' W' hq=>?_
 obtain ⟨β',hx,ha',q⟩:=hq
 exact ⟨β',x,t',ds',H',hx,s.post hok hcan q ha',hK⟩
theorem SK.seq {a b:KC} (h:SK P tb W0 β0 N0 cx a t ds H fun x t1 ds1 H1=>match x with | .normal=>SK P tb W0 β0 N0 cx b t1 ds1 H1 K | y=>K y t1 ds1 H1):SK P tb W0 β0 N0 cx (.seq a b) t ds H K:=by
 intro c hc β W act s
 obtain ⟨x,y,rfl,ha,hb⟩:=kcomp_seq hc
 refine wpIn_seq (wpIn_mono (h x ha β W act s) fun e a' W' hq=>?_)
 obtain ⟨β',x1,t',ds',H',hx,s',hK⟩:=hq
 cases x1 with
 | normal =>
  cases e <;> try exact hx.elim
  exact hK y hb β' W' a' s'
 | _=>cases e <;> first | exact ⟨β',_,t',ds',H',hx,s',hK⟩ | exact hx.elim
theorem SK.cond {c:Operand} {a b:KC} {v:Bool} (hv:asB (evalO t c)=some v) (h:SK P tb W0 β0 N0 cx (if v then a else b) t ds H K):SK P tb W0 β0 N0 cx (.cond c a b) t ds H K:=by
 intro code hc β W act s
 obtain ⟨x,y,rfl,ha,hb,hok⟩:=kcomp_cond hc
 have hv':=operand_ok s.g s.ar.1 hok
 rw [asB_inv hv] at hv'
 generalize hr:act.eval c=v' at hv'
 cases hv'
 refine wpIn_cond hr ?_
 cases v with
 | true=>exact h x ha β W act s
 | false=>exact h y hb β W act s
theorem SK.revive {k:KC} {b:Nat} {m:Bm} {x:Blk} (hb:b<N0) (e0:β0 b=some m) (hm:m.rb<W0.heap.size) (hx:∀ β,Mp.le β0 β→BOk β W0 x m) (h:SK P tb W0 β0 N0 cx k t ds (H.put b x) K):SK P tb W0 β0 N0 cx k t ds H K:=by
 intro c hc β W a s
 have hlt:b<H.nx:=Nat.lt_of_lt_of_le hb s.nx
 have hblk:∀ c,c≠b→(H.put b x).blk c=H.blk c:=fun c hc=>blk_put_ne s.wf x hlt hc
 have hal:∀ c,c≠b→alive (H.put b x) c→alive H c:=fun c hc ha=>(alive_iff H c).2 (by rw [← hblk c hc];exact ha.2)
 refine h c hc β W a { s with wf:=wf_put s.wf b x,nx:=by rw [nx_put];exact s.nx,rel:=fun c ha=>?_,fresh:=fun c hc=>s.fresh c (by rw [nx_put] at hc;exact hc),high:=fun c m' hc ha e=>s.high c m' hc (hal c (by omega) ha) e,inj:=fun c d mc md hc hd ac ad ec ed he=>s.inj c d mc md hc hd (hal c (by omega) ac) (hal d (by omega) ad) ec ed he }
 by_cases he:c=b
 ·subst he
  obtain ⟨o,ho,hr⟩:=hx β s.le
  refine ⟨m,s.le _ _ e0,o,?_,?_⟩
  ·rw [s.old.block m.rb hm];exact ho
  ·rw [blk_put x s.wf hlt,if_pos rfl];exact hr
 ·rw [hblk c he]
  exact s.rel c (hal c he ha)
theorem calls_of_sk (ok:TbOk P tb) (hlp:LpOk P tb) {f:FuncId} {fn:Func} {c:Code} {k:KC} {args:List Value} {args':Array Value} {β:Mp} (hf:tb.fn f=some fn) (hb:fn.body=some c) (hk:kcomp tb fn.ntmps c=k) (hn:args.length≤fn.ntmps)
 (s:∀ a:Act,ARel β fn.ntmps (enterT fn args) [] a→St tb.ng W0 β0 N0 β fn.ntmps (enterT fn args) [] H a W0) (hl:LRel β args args'.toList) {R:Value→Hp→Prop}
 (h:SK P tb W0 β0 N0 (cxOf fn) k (enterT fn args) [] H (Leaves tb (envS N0) fn R)) :
 Calls P f args' W0 fun e W'=>∃ β' v v' H',e=.returned v'∧VRel β' v v'∧R v H'∧Below W0.heap.size W0 W':=by
 refine (callsIn_wide (n:=0)).1 (callsIn_of_wp_marks (ok.fn _ _ hf) hb trivial ?_)
 have hT:=enter_rel (fn:=fn) hl hn
 refine wpIn_mono (h c hk β W0 _ (s _ ⟨hT,DsRel.nil β⟩)) fun e a' W' hq=>?_
 obtain ⟨β1,x,t1,ds1,H1,hx,s1,hx1,rfl,l,r,hres,hok,hR⟩:=hq
 have hu:=unwind_ok (nt:=fn.ntmps) (res:=fn.results.toList) (t:=t1) (ds:=[]) (m:=.returning) ok (ev_ok ok hlp (sp:=fun _ _ _=>none) (fun f args H v H' r w _ h=>by cases h) 0) s1.wf
 have hev:evUnwind tb (ev tb (fun _ _ _=>none) 0) fn.ntmps fn.results.toList t1 [] .returning H1=.k (.ret (resV l) H1 r 0):=by simp only [evUnwind,hres]
 rw [hev] at hu
 have hlv:=hu.2 β1 W' s1.g (s1.pre hok) fn a'.tmps a'.defers .returning rfl s1.ar.1 s1.ar.2 trivial (by simp)
 have hfin:=LeavesInM.mono (R':=fun e W'=>∃ β' v v' H',e=.returned v'∧VRel β' v v'∧R v H'∧Below W0.heap.size W0 W') (fun e W2 hh=>by
  obtain ⟨β2,v',rfl,hv,q⟩:=hh
  refine ⟨β2,resV l,v',H1,rfl,hv,hR,s1.old.trans ⟨q.env.1,q.env.2.1,q.env.2.2,q.size,fun k hk=>?_⟩⟩
  cases ho:W'.heap[k]? with
  | none =>
   have:=Array.getElem?_eq_none_iff.1 ho
   have:=s1.old.size
   omega
  | some o=>exact q.frame k o ho fun b m _ hwb _=>by simp at hwb) _ _ _ hlv
 rcases hx1 with rfl | rfl
 ·cases e <;> first | exact hfin | exact hx.elim
 ·cases e <;> first | exact hfin | exact hx.elim
end
end Go.Ev
end
