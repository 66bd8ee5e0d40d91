/-
 A part of the proof that pliantlaw15.RtsAreas returns true and leaves its arguments alone. Conditions: those of the card in the last text.
-/
import Derived.Test.YtgdejggelcpokaaGreatDoorG12
import Derived.Test.YtgdejggelcpokaaGreatDoorG15
set_option linter.unusedSimpArgs false
set_option linter.unusedVariables false
set_option linter.unusedSectionVars false
noncomputable section
namespace Go.Ev
open Go.Proofs Go.Proofs.RS
theorem delL_get {i j:Nat} {L:List Value} (hi:i*2≤L.length):(delL i L)[j]?=if j<i*2 then L[j]? else L[j+2]?:=by
 unfold delL
 have hl:(L.take (i*2)).length=i*2:=by rw [List.length_take];omega
 by_cases h1:j<i*2
 ·rw [if_pos h1,List.getElem?_append_left (by omega),List.getElem?_take_of_lt h1]
 ·rw [if_neg h1,List.getElem?_append_right (by omega),hl,List.getElem?_drop]
  congr 1
  omega
set_option maxHeartbeats 2000000 in
theorem spDel_ok {P:Program} {ng:Nat} (L:InsL P) (v50:∀ w,(zeroValue 77).run P w=.ok (Value.agg #[Value.string ⟨#[]⟩,Value.string ⟨#[]⟩]) w) (hent:∀ (args:Array Value) (W:World),(callFunc 120 args).run P W=.ok (.enter 120 args) W) {args:List Value} {H:Hp} {v:Value} {H':Hp} {r w:Nat} (hw:H.wf) (h:spDel args H=some (v,H',r,w)) :
 TaskOk P ng (.call 120 args) H (.k (.ret v H' r w)):=by
 unfold spDel at h
 split at h
 case h_2=>cases h
 rename_i b n c i j
 split at h
 case h_2=>cases h
 rename_i t k ty op lo hi hb
 generalize hcond:(Nat.beq k (n*2) && Nat.beq ty 77 && Nat.blt i n && Nat.ble n 1000000 && Nat.beq op 3 && Nat.beq c (2*n+1) && Nat.beq lo 0 && Nat.beq hi 0 && Nat.beq j (i+1) && H.room)=q at h
 cases q with
 | false=>rw [Bc_f] at h;cases h
 | true =>
 rw [Bc_t] at h
 simp only [Option.some.injEq,Prod.mk.injEq] at h
 obtain ⟨rfl,rfl,rfl,rfl⟩:=h
 simp only [Bool.and_eq_true,beq_iff,ble_iff,blt_iff] at hcond
 obtain ⟨⟨⟨⟨⟨⟨⟨⟨⟨rfl,rfl⟩,hin⟩,hn6⟩,rfl⟩,rfl⟩,rfl⟩,rfl⟩,rfl⟩,hn⟩:=hcond
 have ha:alive H b:=(alive_iff H b).2 (by rw [hb];simp)
 refine ⟨can_fork hw ha hn,fun β W hgr p=>?_⟩
 intro args' hl
 obtain ⟨x1,l1,e1,hx1,hl⟩:=hl.cons_inv
 obtain ⟨x2,l2,rfl,hx2,hl⟩:=hl.cons_inv
 obtain ⟨x3,l3,rfl,hx3,hl⟩:=hl.cons_inv
 have:=hl.nil_inv;subst this
 have ea:=arr_three e1;subst ea
 cases hx2
 cases hx3
 cases hx1 with | sl _ _ _ _ c' m em hcap =>
 obtain ⟨m',cs,fr,em',hm,h2,h3,h4,h4',h5,h6⟩:=cells_of p (.inr ((bit_iff b b).2 rfl)) hb
 rw [em] at em';cases em'
 have hfr:=fr_none h6
 have hLL:LRel β (rdL t (n*2) 0) (rowOf cs (0+m.sh) (n*2)):=lrel_row (by omega) (by omega) h5
 have hL1:(rdL t (n*2) 0).all oneC=true:=one_row (n:=n*2) (by omega) fun j hj=>(h5 j hj).1
 have hlL:(rowOf cs (0+m.sh) (n*2)).length=n*2:=rowOf_len (by omega)
 have hcs:∀ j v,(rowOf cs (0+m.sh) (n*2))[j]?=some v→W.cell? ⟨m.rb,0+m.sh+j,none⟩=some v:=fun j v hj=>by
  have hj2:j<n*2:=by
   rcases Nat.lt_or_ge j (n*2) with h' | h'
   ·exact h'
   ·rw [List.getElem?_eq_none (by omega)] at hj;cases hj
  rw [rowOf_get hj2] at hj
  rw [cell_some hm];exact hj
 have h1c:∀ v∈rowOf cs (0+m.sh) (n*2),v.oneCell'=true:=fun v hv=>one_kit (all_one hLL hL1 v hv)
 have hrel:LRel β (delL i (rdL t (n*2) 0)) (delL i (rowOf cs (0+m.sh) (n*2))):=(hLL.take _).append (hLL.drop _)
 have hall:(delL i (rdL t (n*2) 0)).all oneC=true:=by
  unfold delL
  rw [List.all_append,Bool.and_eq_true]
  exact ⟨List.all_eq_true.2 fun x hx=>List.all_eq_true.1 hL1 x (List.mem_of_mem_take hx),List.all_eq_true.2 fun x hx=>List.all_eq_true.1 hL1 x (List.mem_of_mem_drop hx)⟩
 have hlen:(delL i (rowOf cs (0+m.sh) (n*2))).length=(n-1)*2:=by
  unfold delL
  rw [List.length_append,List.length_take,List.length_drop,hlL];omega
 generalize hLv:rowOf cs (0+m.sh) (n*2)=Lr at *
 obtain ⟨tn,hbn,hgn⟩:=blkL_eq (delL i (rdL t (n*2) 0)) 77 3
 have hesz:=h4' 2 rfl
 obtain ⟨hnc,hfit⟩:=hcap.2 (by omega)
 rw [hesz] at hfit
 obtain ⟨N,rfl⟩:∃ N,n=N+1:=⟨n-1,by omega⟩
 refine .inl ⟨hent _ _,callsIn_wide.2 ?_⟩
 refine (del_at L v50 m.rb (0+m.sh) N c' i Lr W (by omega) (by omega) hlL hcs (fun j _=>frozen_none hm hfr _) h1c).mono fun e W' hR=>?_
 obtain ⟨rfl,rfl⟩:=hR
 refine ⟨β.put H.nx m,_,rfl,.sl H.nx 0 (N+1-1) (2*(N+1-1)+1) c' m (Mp.put_same _ _ _) ⟨fun h=>by omega,fun _=>⟨by omega,by rw [hesz];exact hfit⟩⟩,?_⟩
 have hm':W.drew.heap[m.rb]?=some (.cells cs 77 fr):=hm
 rw [setCells_eq _ _ _ hm',setCells_eq _ _ _ (setB_same hm'),setB_setB]
 have hld:(Lr.drop ((i+1)*2)).length=(N+1)*2-(i+1)*2:=by rw [List.length_drop,hlL]
 refine (post_inplace (cs2:=putRow (putRow cs (0+m.sh+i*2) (Lr.drop ((i+1)*2))) (0+m.sh+N*2) [Value.string ⟨#[]⟩,Value.string ⟨#[]⟩]) hw ha hn hbn hgn hall hrel em hm h2 (by rw [putRow_size,putRow_size]) hesz (by rw [hlen];omega) h6 (fun j hj=>?_) p).congr rfl ⟨rfl,rfl,rfl⟩
 rw [hlen] at hj
 rw [putRow_get _ _ _ _ (by rw [putRow_size];show _+2≤_;omega),if_neg (by omega),putRow_get _ _ _ _ (by omega),delL_get (by omega)]
 by_cases h1:j<i*2
 ·rw [if_neg (by omega),if_pos h1,← hLv,rowOf_get (by omega),Nat.zero_add]
 ·rw [if_pos (by omega),if_neg h1,List.getElem?_drop]
  congr 1;omega
def spInsN (args:List Value) (H:Hp):Option (Value×Hp×Nat×Nat):=match args with
 | [.slice none 0 0,.int .i64 (.ofNat 0),.slice (some ⟨b2,0,none⟩) 1 _]=>(match H.blk b2 with
  | .cells t2 k2 _ op2 lo2 hi2 =>
   Bc (Nat.beq k2 2 && Nat.beq op2 0 && Nat.beq lo2 0 && Nat.beq hi2 0 && H.room)
    (some (.slice (some ⟨H.nx,0,none⟩) 1 3,H.push (blkL (rdL t2 2 0) 77 3),bit b2,0)) none
  | _=>none)
 | _=>none
set_option maxHeartbeats 2000000 in
theorem spInsN_ok {P:Program} {ng:Nat} (L:InsL P) (hent:∀ (args:Array Value) (W:World),(callFunc 118 args).run P W=.ok (.enter 118 args) W) {args:List Value} {H:Hp} {v:Value} {H':Hp} {r w:Nat} (hw:H.wf) (h:spInsN args H=some (v,H',r,w)) :
 TaskOk P ng (.call 118 args) H (.k (.ret v H' r w)):=by
 unfold spInsN at h
 split at h
 case h_2=>cases h
 rename_i b2 c2
 split at h
 case h_2=>cases h
 rename_i t2 k2 ty2 op2 lo2 hi2 hb2
 generalize hcond:(Nat.beq k2 2 && Nat.beq op2 0 && Nat.beq lo2 0 && Nat.beq hi2 0 && H.room)=q at h
 cases q with
 | false=>rw [Bc_f] at h;cases h
 | true =>
 rw [Bc_t] at h
 simp only [Option.some.injEq,Prod.mk.injEq] at h
 obtain ⟨rfl,rfl,rfl,rfl⟩:=h
 simp only [Bool.and_eq_true,beq_iff] at hcond
 obtain ⟨⟨⟨⟨rfl,rfl⟩,rfl⟩,rfl⟩,hn⟩:=hcond
 refine ⟨can_push hn,fun β W hgr p=>?_⟩
 intro args' hl
 obtain ⟨x1,l1,e1,hx1,hl⟩:=hl.cons_inv
 obtain ⟨x2,l2,rfl,hx2,hl⟩:=hl.cons_inv
 obtain ⟨x3,l3,rfl,hx3,hl⟩:=hl.cons_inv
 have:=hl.nil_inv;subst this
 have ea:=arr_three e1;subst ea
 cases hx1
 cases hx2
 cases hx3 with | sl _ _ _ _ cv m2 em2 hcap2 =>
 obtain ⟨m2',cs2,fr2,em2',hm2,g2,g3,g4,g4',g5,g6⟩:=cells_of p (.inl ((bit_iff b2 b2).2 rfl)) hb2
 rw [em2] at em2';cases em2'
 have hVV:LRel β (rdL t2 2 0) (rowOf cs2 (0+m2.sh) 2):=lrel_row (by omega) (by omega) g5
 have hV1:(rdL t2 2 0).all oneC=true:=one_row (n:=2) (by omega) fun j hj=>(g5 j hj).1
 have hlV:(rowOf cs2 (0+m2.sh) 2).length=2:=rowOf_len (by omega)
 have hvs:∀ j v,(rowOf cs2 (0+m2.sh) 2)[j]?=some v→W.cell? ⟨m2.rb,0+m2.sh+j,none⟩=some v:=fun j v hj=>by
  have hj2:j<2:=by
   rcases Nat.lt_or_ge j 2 with h' | h'
   ·exact h'
   ·rw [List.getElem?_eq_none (by omega)] at hj;cases hj
  rw [rowOf_get hj2] at hj
  rw [cell_some hm2];exact hj
 have h1v:∀ v∈rowOf cs2 (0+m2.sh) 2,v.oneCell'=true:=fun v hv=>one_kit (all_one hVV hV1 v hv)
 generalize hVv:rowOf cs2 (0+m2.sh) 2=Vr at *
 obtain ⟨tn,hbn,hgn⟩:=blkL_eq (rdL t2 2 0) 77 3
 have hf:β H.nx=none:=p.fresh _ (Nat.le_refl _) (by rw [nx_push];omega)
 refine .inl ⟨hent _ _,callsIn_wide.2 ?_⟩
 obtain ⟨q,hq⟩:∃ q,grownCap W 1 0 77=1+q:=⟨grownCap W 1 0 77-1,by have:=grownCap_ge W 1 0 77;omega⟩
 obtain ⟨Z,hZ,hZl⟩:=zeroRec_list q
 refine (ins_nil L m2.rb (0+m2.sh) cv Vr W hlV hvs h1v).mono fun e W' hR=>?_
 obtain ⟨rfl,rfl⟩:=hR
 rw [hq]
 have hor:ORel (β.put H.nx ⟨W.heap.size,0,(1+q)*2,2⟩) ⟨W.heap.size,0,(1+q)*2,2⟩ (blkL (rdL t2 2 0) 77 3) (.cells ⟨Vr++Z⟩ 77):=by
  rw [hbn]
  exact orel_app hgn hV1 (hVV.mono (Mp.le_put _ hf)) (by rw [hlV,hZl];omega)
 have q2:=post_push (β:=β) (H:=H) (W:=W) (blkL (rdL t2 2 0) 77 3) (.cells ⟨Vr++Z⟩ 77) ⟨W.heap.size,0,(1+q)*2,2⟩ hn rfl hf hor p.dom
 refine ⟨_,_,rfl,.sl H.nx 0 1 3 (1+q) ⟨W.heap.size,0,(1+q)*2,2⟩ (Mp.put_same _ _ _) ⟨fun h=>by omega,fun _=>⟨by omega,by simp⟩⟩,q2.congr ?_ ⟨rfl,rfl,rfl⟩⟩
 show W.heap.push _=W.heap.push _
 congr 2
 apply Array.ext'
 rw [show 1+q-1=q from by omega,Array.toList_append,hZ]
def spInsert (args:List Value) (H:Hp):Option (Value×Hp×Nat×Nat):=spOr (spIns args H) (spInsN args H)
theorem spInsert_ok {P:Program} {ng:Nat} (L:InsL P) (hent:∀ (args:Array Value) (W:World),(callFunc 118 args).run P W=.ok (.enter 118 args) W) {args:List Value} {H:Hp} {v:Value} {H':Hp} {r w:Nat} (hw:H.wf) (h:spInsert args H=some (v,H',r,w)) :
 TaskOk P ng (.call 118 args) H (.k (.ret v H' r w)):=by
 rcases spOr_inv h with h | h
 ·exact spIns_ok L hent hw h
 ·exact spInsN_ok L hent hw h
end Go.Ev
end
noncomputable section
namespace Go.Proofs.RS
open Go Go.Ev Go.Proofs Go.Ds
structure SpK (sp:Nat→List Value→Hp→Option (Value×Hp×Nat×Nat)):Prop where
 none:∀ f args H,f≠6→f≠118→f≠120→f≠198→f≠312→f≠153→f≠40→sp f args H=none
 ins:∀ args H,sp 118 args H=spInsert args H
 del:∀ args H,sp 120 args H=spDel args H
theorem SpK.no {sp:Nat→List Value→Hp→Option (Value×Hp×Nat×Nat)} (S:SpK sp) (f:Nat) (h:f≠6∧f≠118∧f≠120∧f≠198∧f≠312∧f≠153∧f≠40):∀ args H,sp f args H=Option.none:=fun args H=>S.none f args H h.1 h.2.1 h.2.2.1 h.2.2.2.1 h.2.2.2.2.1 h.2.2.2.2.2.1 h.2.2.2.2.2.2
section
variable {sp:Nat→List Value→Hp→Option (Value×Hp×Nat×Nat)} {e:Env}
theorem exExt_tup (l:List Value) (i:Nat) (v:Value) (h:l[i]?=some v) (H:Hp):exExt (.tuple ⟨l⟩) i H=.val v H 0 0:=by
 show (match l[i]? with | some x=>R.v x H | none=>.fail)=_
 rw [h];rfl
end
theorem zeros_get (t:T Value):∀ (k i:Nat),zeros t k i=true→∀ j,i≤j→j<i+k→t.get j=.int .u8 0:=by
 intro k
 induction k with
 | zero=>intro i _ j h1 h2;omega
 | succ k ih =>
  intro i h j h1 h2
  unfold zeros at h
  cases hs:sameU8 (t.get i) (.int .u8 0) with
  | false=>rw [hs,Bc_f] at h;cases h
  | true =>
   rw [hs,Bc_t] at h
   by_cases e:j=i
   ·rw [e];exact sameU8_eq hs
   ·exact ih (i+1) h j (by omega) (by omega)
section
variable {sp:Nat→List Value→Hp→Option (Value×Hp×Nat×Nat)} {e:Env}
set_option maxRecDepth 10000 in
set_option maxHeartbeats 4000000 in
theorem zero_ok (hs:∀ args H,sp 153 args H=none) {H:Hp} {b o n c k ty op lo hi:Nat} {t:T Value} (hb:H.blk b=.cells t k ty op lo hi) (hle:o+n≤k) (hn:n<4294967296) (hz:∀ j,o≤j→j<o+n→t.get j=.int .u8 0) (hr:b<e.n0→e.Rd b):EC Tb0 sp e 153 [.slice (some ⟨b,o,none⟩) n c] H fun v H'=>v=.bool true∧H'=H:=by
 refine EC.intro (fn:=Tryz.f153) (c:=zero_body) (hs _ _) (by rfl) zero_some zero_comp (by show 1≤14;decide) ?_
 have g0:(enterT Tryz.f153 [.slice (some ⟨b,o,none⟩) n c]).get 0=.slice (some ⟨b,o,none⟩) n c:=by rw [enterT_get (by show 1≤14;decide) (by show 0<14;decide)];rfl
 revert g0
 generalize enterT Tryz.f153 [.slice (some ⟨b,o,none⟩) n c]=t0
 intro g0
 show WK Tb0 sp e ⟨4,14,none,false⟩ zero_k t0 [] H _
 unfold zero_k
 have hlt:b<H.nx:=((alive_iff H b).2 (by rw [hb];simp)).1
 have hok:e.ok (bit b) 0 H:=.read hlt hr
 have k0:exLen 1 (.slice (some ⟨b,o,none⟩) n c) H=.val (vN n) H 0 0:=rfl
 refine WK.seq (WK.reg_rr (fun t'=>t'.get 0=.slice (some ⟨b,o,none⟩) n c) ?_ ?_)
 ·simp (config:={ maxSteps:=1000000 }) only [zero_r0,g0,WOR,WOG,WOC,WOGk,WOCk,wants_none',wants_some,wantsV_U,wantsV_tt,wantsV_tf,wantsV_ft,wantsV_ff,run,evalO_tmp,evalO_const,evalO_func,evalL,callV_func,Rv_eq,Ro_some,ok_zero,true_and,and_true,get_putT (d:=4),exLen_str,binV_geq,binV_leq,binV_lss,binV_gtr,exEq_int,exEq_str,exPick_t,exPick_f,Bool.not_true,Bool.not_false,Bc_t,Bc_f,Nat.reducePow,Nat.reduceLT,Nat.reduceEqDiff,Nat.reduceAdd,if_false,reduceIte,and_self,exFa_ptr,putT_none,Nat.zero_add,Nat.add_zero,Nat.le_refl,exUn_not]
 intro t1 g0
 refine WK.seq (WK.seq (WK.reg_rr (fun t'=>t'.get 5=.slice (some ⟨b,o,none⟩) n c∧t'.get 6=vN n∧t'.get 7=vN (0:Nat)) ?_ ?_))
 ·simp (config:={ maxSteps:=1000000 }) only [zero_r1,g0,k0,WOR,WOG,WOC,WOGk,WOCk,wants_none',wants_some,wantsV_U,wantsV_tt,wantsV_tf,wantsV_ft,wantsV_ff,run,evalO_tmp,evalO_const,evalO_func,evalL,callV_func,Rv_eq,Ro_some,ok_zero,true_and,and_true,get_putT (d:=4),exLen_str,binV_geq,binV_leq,binV_lss,binV_gtr,exEq_int,exEq_str,exPick_t,exPick_f,Bool.not_true,Bool.not_false,Bc_t,Bc_f,Nat.reducePow,Nat.reduceLT,Nat.reduceEqDiff,Nat.reduceAdd,if_false,reduceIte,and_self,exFa_ptr,putT_none,Nat.zero_add,Nat.add_zero,Nat.le_refl,exUn_not]
  rfl
 rintro t2 ⟨g5,g6,g7⟩
 refine WK.block (WK.loop_ind (fun m t' ds' H'=>ds'=[]∧H'=H∧∃ i:Nat,m=n-i∧i≤n∧t'.get 5=.slice (some ⟨b,o,none⟩) n c∧t'.get 6=vN n∧t'.get 7=vN i) ?_ n t2 [] H ⟨rfl,rfl,0,by omega,by omega,g5,g6,g7⟩)
 clear g5 g6 g7
 rintro m t3 ds H3 ⟨rfl,rfl,i,rfl,hi,g5,g6,g7⟩
 unfold zero_l7
 refine WK.seq (WK.reg_rr (fun t'=>t'.get 8=.bool (decide ((i:Int)<(n:Int)))∧Lo 8 t3 t') ?_ ?_)
 ·simp (config:={ maxSteps:=1000000 }) only [zero_r2,g6,g7,WOR,WOG,WOC,WOGk,WOCk,wants_none',wants_some,wantsV_U,wantsV_tt,wantsV_tf,wantsV_ft,wantsV_ff,run,evalO_tmp,evalO_const,evalO_func,evalL,callV_func,Rv_eq,Ro_some,ok_zero,true_and,and_true,get_putT (d:=4),exLen_str,binV_geq,binV_leq,binV_lss,binV_gtr,exEq_int,exEq_str,exPick_t,exPick_f,Bool.not_true,Bool.not_false,Bc_t,Bc_f,Nat.reducePow,Nat.reduceLT,Nat.reduceEqDiff,Nat.reduceAdd,if_false,reduceIte,and_self,exFa_ptr,putT_none,Nat.zero_add,Nat.add_zero,Nat.le_refl,exUn_not]
  intro j hj
  simp (disch:=omega) only [putT_lo (d:=4)]
 rintro t4 ⟨h8,hlo⟩
 have f5:=(hlo 5 (by omega)).trans g5
 have f6:=(hlo 6 (by omega)).trans g6
 have f7:=(hlo 7 (by omega)).trans g7
 by_cases hlt':i<n
 case neg =>
  refine WK.seq (WK.cond (v:=false) (by rw [evalO_tmp,h8,decide_eq_false (by omega)];rfl) (WK.exit ?_))
  show WK Tb0 sp e ⟨4,14,none,false⟩ _ t4 [] H3 _
  refine WK.seq (WK.reg_rr (fun t'=>t'.get 2=.bool true) ?_ ?_)
  ·simp (config:={ maxSteps:=1000000 }) only [zero_r8,WOR,WOG,WOC,WOGk,WOCk,wants_none',wants_some,wantsV_U,wantsV_tt,wantsV_tf,wantsV_ft,wantsV_ff,run,evalO_tmp,evalO_const,evalO_func,evalL,callV_func,Rv_eq,Ro_some,ok_zero,true_and,and_true,get_putT (d:=4),exLen_str,binV_geq,binV_leq,binV_lss,binV_gtr,exEq_int,exEq_str,exPick_t,exPick_f,Bool.not_true,Bool.not_false,Bc_t,Bc_f,Nat.reducePow,Nat.reduceLT,Nat.reduceEqDiff,Nat.reduceAdd,if_false,reduceIte,and_self,exFa_ptr,putT_none,Nat.zero_add,Nat.add_zero,Nat.le_refl,exUn_not]
  intro t5 h4
  refine WK.ret ⟨.inr rfl,rfl,[.bool true],0,?_,.zero _ _,rfl,rfl⟩
  show resL Tb0 14 t5 _ [.tmp 2]=_
  simp only [resL,h4];rfl
 refine WK.seq (WK.cond (v:=true) (by rw [evalO_tmp,h8,decide_eq_true (by omega)];rfl) (WK.skip ?_))
 have m1:exIaS 1 (.slice (some ⟨b,o,none⟩) n c) (vN i) H3=.val (.pointer (some ⟨b,o+i,none⟩)) H3 0 0:=by
  rw [exIaS_int (by omega) (by omega)];simp
 have m2:exLd1 (.pointer (some ⟨b,o+i,none⟩)) H3=.val (.int .u8 0) H3 (bit b) 0:=by
  show (match rd1 H3 b (o+i) with | some x=>R.val x H3 (bit b) 0 | none=>.fail)=_
  have:rd1 H3 b (o+i)=some (.int .u8 0):=by
   unfold rd1;rw [hb];simp only []
   rw [(blt_iff _ _).2 (by omega),Bc_t,hz (o+i) (by omega) (by omega)]
  rw [this]
 have m3:exEq true (.one .i) (.int .u8 0) (.int .u8 0) H3=.val (.bool false) H3 0 0:=rfl
 refine WK.seq (WK.block (WK.seq (WK.reg_rr (fun t'=>t'.get 4=.int .u8 0∧t'.get 5=.slice (some ⟨b,o,none⟩) n c∧t'.get 6=vN n∧t'.get 7=vN i) ?_ ?_)))
 ·simp (config:={ maxSteps:=1000000 }) only [zero_r3,f5,f6,f7,m1,m2,hok,WOR,WOG,WOC,WOGk,WOCk,wants_none',wants_some,wantsV_U,wantsV_tt,wantsV_tf,wantsV_ft,wantsV_ff,run,evalO_tmp,evalO_const,evalO_func,evalL,callV_func,Rv_eq,Ro_some,ok_zero,true_and,and_true,get_putT (d:=4),exLen_str,binV_geq,binV_leq,binV_lss,binV_gtr,exEq_int,exEq_str,exPick_t,exPick_f,Bool.not_true,Bool.not_false,Bc_t,Bc_f,Nat.reducePow,Nat.reduceLT,Nat.reduceEqDiff,Nat.reduceAdd,if_false,reduceIte,and_self,exFa_ptr,putT_none,Nat.zero_add,Nat.add_zero,Nat.le_refl,exUn_not]
 rintro t5 ⟨h4,f5,f6,f7⟩
 refine WK.seq (WK.reg_rr (fun t'=>t'.get 12=.bool false∧t'.get 5=.slice (some ⟨b,o,none⟩) n c∧t'.get 6=vN n∧t'.get 7=vN i) ?_ ?_)
 ·simp (config:={ maxSteps:=1000000 }) only [zero_r4,h4,f5,f6,f7,m3,WOR,WOG,WOC,WOGk,WOCk,wants_none',wants_some,wantsV_U,wantsV_tt,wantsV_tf,wantsV_ft,wantsV_ff,run,evalO_tmp,evalO_const,evalO_func,evalL,callV_func,Rv_eq,Ro_some,ok_zero,true_and,and_true,get_putT (d:=4),exLen_str,binV_geq,binV_leq,binV_lss,binV_gtr,exEq_int,exEq_str,exPick_t,exPick_f,Bool.not_true,Bool.not_false,Bc_t,Bc_f,Nat.reducePow,Nat.reduceLT,Nat.reduceEqDiff,Nat.reduceAdd,if_false,reduceIte,and_self,exFa_ptr,putT_none,Nat.zero_add,Nat.add_zero,Nat.le_refl,exUn_not]
 rintro t6 ⟨h12,f5,f6,f7⟩
 refine WK.cond (v:=false) (by rw [evalO_tmp,h12];rfl) (WK.skip ?_)
 show WK Tb0 sp e ⟨4,14,none,false⟩ (.reg zero_r6) t6 [] H3 _
 have hwr:wrapF .i64 ((i:Int)+1)=((i+1:Nat):Int):=by rw [wrapF_i64 (by omega) (by omega)];omega
 refine WK.reg_rr (fun t'=>t'.get 5=.slice (some ⟨b,o,none⟩) n c∧t'.get 6=vN n∧t'.get 7=vN (i+1:Nat)) ?_ ?_
 ·simp (config:={ maxSteps:=1000000 }) only [zero_r6,f5,f6,f7,binV_add,hwr,WOR,WOG,WOC,WOGk,WOCk,wants_none',wants_some,wantsV_U,wantsV_tt,wantsV_tf,wantsV_ft,wantsV_ff,run,evalO_tmp,evalO_const,evalO_func,evalL,callV_func,Rv_eq,Ro_some,ok_zero,true_and,and_true,get_putT (d:=4),exLen_str,binV_geq,binV_leq,binV_lss,binV_gtr,exEq_int,exEq_str,exPick_t,exPick_f,Bool.not_true,Bool.not_false,Bc_t,Bc_f,Nat.reducePow,Nat.reduceLT,Nat.reduceEqDiff,Nat.reduceAdd,if_false,reduceIte,and_self,exFa_ptr,putT_none,Nat.zero_add,Nat.add_zero,Nat.le_refl,exUn_not]
 rintro t7 ⟨d5,d6,d7⟩
 exact ⟨n-(i+1),by omega,rfl,rfl,i+1,rfl,by omega,d5,d6,d7⟩
end
end Go.Proofs.RS
end
