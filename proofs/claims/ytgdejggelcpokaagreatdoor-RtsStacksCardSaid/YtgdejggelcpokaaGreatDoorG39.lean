/-
 A part of the proof that pliantlaw15.RtsStacks returns true and leaves its arguments alone. Conditions: those of the card in the last text.
-/
import Derived.Test.YtgdejggelcpokaaGreatDoorG32
import Derived.Test.YtgdejggelcpokaaGreatDoorG33
import Derived.Test.YtgdejggelcpokaaGreatDoorG34
import Derived.Test.YtgdejggelcpokaaGreatDoorG35
import Derived.Test.YtgdejggelcpokaaGreatDoorG37
import Derived.Test.YtgdejggelcpokaaGreatDoorG38
set_option linter.unusedSimpArgs false
set_option linter.unusedVariables false
set_option linter.unusedSectionVars false
noncomputable section
namespace Go.Proofs.RS
open Go Go.Ev Go.Proofs Go.Ar
structure SpY (sp:Nat→List Value→Hp→Option (Value×Hp×Nat×Nat)):Prop where
 no:∀ f,f=135∨f=136∨f=174→∀ args H,sp f args H=none
section
attribute [local go_sem] Bc_f Bc_t GT Ro_some Rv_eq WOG Yj Yk Yl Ym Yn Yo Yp Yq Yr and_self and_true binV_add binV_leq binV_lss callV_func dec_F dec_T evalL evalO_const evalO_func evalO_tmp exEq_int exFa_ptr exPick_f exPick_t exUn_not if_false if_true ok_zero run true_and wantsV_U wantsV_ff wantsV_ft wantsV_tf wantsV_tt wants_none' wants_some
variable {sp:Nat→List Value→Hp→Option (Value×Hp×Nat×Nat)} {e:Env}
set_option maxRecDepth 10000 in
set_option maxHeartbeats 4000000 in
theorem wit_ok (S:SpY sp) {H:Hp} (hf:H.isFn=true) (he:e.n0≤H.nx) {x a c:Nat} (h1:a≤x) (h2:x≤c):EC Tb0 sp e 136 [iN x,iN a,iN c] H fun v H'=>v=.bool true∧H'=H:=by
 refine EC.i3 (by rfl) wit_some wit_comp (S.no 136 (by decide) _ _) (by show 3≤15;decide) fun t0 g0 g1 g2=>?_
 show WK Tb0 sp e ⟨4,15,none,false⟩ wit_k t0 [] H _
 unfold wit_k
 refine WK.seq ?_
 refine WK.reg_g ?_
 refine WOG.all (fun t' H'=>H=H'∧GT t' [(0,iN x),(1,iN a),(2,iN c),(6,.bool false)]) ?_ ?_
 ·simp +decide only [wit_r0,g0,g1,g2,Xo 4,go_sem]
 rintro t1_ _ ⟨rfl,g0_1,g1_1,g2_1,g6_1, -⟩
 refine WK.seq ?_
 refine WK.reg_g ?_
 have d3_:decide (((x:Nat):Int)<((a:Nat):Int))=false:=decide_eq_false (by omega)
 have d4_:decide (((c:Nat):Int)<((x:Nat):Int))=false:=decide_eq_false (by omega)
 refine WOG.all (fun t' H'=>H=H'∧t'.get 6=.bool true) ?_ ?_
 ·simp +decide only [wit_r1,g0_1,g1_1,g2_1,g6_1,d3_,d4_,Xo 4,go_sem]
 rintro t5_ _ ⟨rfl,g6_5⟩
 refine WK.ret ⟨.inr rfl,rfl,[.bool true],0,?_,.zero _ _,rfl,rfl⟩
 show resL Tb0 15 t5_ _ [.tmp 6]=_
 simp only [resL,g6_5];rfl
set_option maxRecDepth 10000 in
set_option maxHeartbeats 4000000 in
theorem siz_ok (S:SpY sp) {H:Hp} (hf:H.isFn=true) (he:e.n0≤H.nx) {m:Nat} (h1:1≤m) (h2:m≤64):EC Tb0 sp e 174 [iN (8*m),.int .i64 (8)] H fun v H'=>v=.bool true∧H'=H:=by
 refine EC.i2 (by rfl) siz_some siz_comp (S.no 174 (by decide) _ _) (by show 2≤13;decide) fun t0 g0 g1=>?_
 show WK Tb0 sp e ⟨4,13,none,false⟩ siz_k t0 [] H _
 unfold siz_k
 refine WK.seq ?_
 refine WK.reg_g ?_
 refine WOG.all (fun t' H'=>H=H'∧GT t' [(0,iN (8*m)),(1,.int .i64 (8)),(4,.bool false)]) ?_ ?_
 ·simp +decide only [siz_r0,g0,g1,Xo 4,go_sem]
 rintro t1_ _ ⟨rfl,g0_1,g1_1,g4_1, -⟩
 refine WK.seq ?_
 refine WK.reg_g ?_
 refine WOG.hide fun K0 hK0=>?_
 simp +decide only [siz_r1,g0_1,g1_1,Xo 4,go_sem]
 refine EC.mono (wit_ok S hf (by omega) (x:=8*m) (a:=8) (c:=65536) (by omega) (by omega)) fun v H3_ _ hv4_=>?_
 obtain ⟨rfl,hh5_⟩:=hv4_
 rw [hh5_];clear hh5_
 rw [WOGk]
 have m6_:∀ Hq,R.o (binV .rem (iN (8*m)) (.int .i64 8)) Hq=.val (.int .i64 (0)) Hq 0 0:=fun Hq=>rem8 (by omega)
 have d7_:decide ((0:Int)=(0:Int))=true:=decide_eq_true (by omega)
 refine WOG.all (fun t' H'=>H=H'∧t'.get 4=.bool true) ?_ ?_
 ·simp +decide only [siz_r1,g0_1,g1_1,g4_1,m6_,d7_,Xo 4,go_sem]
 rintro t8_ _ ⟨rfl,g4_8⟩
 refine hK0 _ _ ?_
 refine WK.ret ⟨.inr rfl,rfl,[.bool true],0,?_,.zero _ _,rfl,rfl⟩
 show resL Tb0 13 t8_ _ [.tmp 4]=_
 simp only [resL,g4_8];rfl
set_option maxRecDepth 10000 in
set_option maxHeartbeats 4000000 in
theorem mst_ok (S:SpY sp) {H:Hp} (hf:H.isFn=true) (he:e.n0≤H.nx):EC Tb0 sp e 135 [.bool true,.int .i64 (100)] H fun v H'=>v=.tuple #[]∧H'=H:=by
 refine EC.i2 (by rfl) mst_some mst_comp (S.no 135 (by decide) _ _) (by show 2≤9;decide) fun t0 g0 g1=>?_
 show WK Tb0 sp e ⟨4,9,none,false⟩ mst_k t0 [] H _
 unfold mst_k
 refine WK.seq ?_
 refine WK.reg_g ?_
 refine WOG.all (fun t' H'=>H=H'∧GT t' [(1,.int .i64 (100)),(5,.bool false)]) ?_ ?_
 ·simp +decide only [mst_r0,g0,g1,Xo 4,go_sem]
 rintro t1_ _ ⟨rfl,g1_1,g5_1, -⟩
 refine WK.cond (v:=false) (by rw [evalO_tmp,g5_1];rfl) ?_
 refine WK.skip ?_
 exact ⟨.inl rfl,rfl,[],0,rfl,.zero _ _,rfl,rfl⟩
set_option maxRecDepth 10000 in
set_option maxHeartbeats 4000000 in
theorem frm_ok (S:SpY sp) {H:Hp} (hf:H.isFn=true) (he:e.n0≤H.nx) {bq k oq:Nat} {C:List Value} (heq:e.n0≤bq) (hcq:Row H bq 3 oq C) (hC:∀ i,i<k→∃ m,C[i]?=some (iN (8*m))∧1≤m∧m≤64) (hk:k≤8) {cq:Nat} {d:Code} {t:T Value} (g71:t.get 71=sC bq 0 (k) (cq)) (g72:t.get 72=iN k) (g73:t.get 73=iN 0)
 {K:Ex→T Value→List Deferred→Hp→Prop} (hK:∀ t',K .normal t' [] H) :
 WK Tb0 sp e ⟨7,81,none,false⟩ (.block 4 (.loop d frm_l20)) t [] H K:=by
 have lt1_:=hcq.lt
 refine WK.block (WK.loop_ind (fun m t' ds' H'=>ds'=[]∧H'=H∧∃ j:Nat,m=k-j∧j≤k∧t'.get 71=sC bq 0 (k) (cq)∧t'.get 72=iN k∧t'.get 73=iN j) ?_ _ t [] H ⟨rfl,rfl,0,rfl,by omega,g71,g72,g73⟩)
 rintro m_l2 t_l2 ds_ H_l2 ⟨rfl,hH_,j,rfl,hj,g71_l2,g72_l2,g73_l2⟩
 rw [hH_];clear hH_
 unfold frm_l20
 refine WK.seq ?_
 by_cases hlt:j<k
 case pos =>
  obtain ⟨m,hcm,hm1,hm2⟩:=hC j hlt
  refine WK.reg_g ?_
  have d3_:decide (((j:Nat):Int)<((k:Nat):Int))=true:=decide_eq_true (by omega)
  refine WOG.all (fun t' H'=>H=H'∧GT t' [(71,sC bq 0 (k) (cq)),(72,iN k),(73,iN j),(74,.bool true)]) ?_ ?_
  ·simp +decide only [frm_r16,g71_l2,g72_l2,g73_l2,d3_,Xo 7,go_sem]
  rintro t4_ _ ⟨rfl,g71_4,g72_4,g73_4,g74_4, -⟩
  refine WK.seq ?_
  refine WK.cond (v:=true) (by rw [evalO_tmp,g74_4];rfl) ?_
  refine WK.skip ?_
  refine WK.seq ?_
  refine WK.block ?_
  refine WK.seq ?_
  refine WK.reg_g ?_
  have m6_:∀ Hq,exIaS 1 (sC bq 0 (k) (cq)) (iN j) Hq=.val (pA bq j) Hq 0 0:=fun Hq=>by rw [exIaS_int (by omega) (by omega)];simp
  have m7_:exLd1 (pA bq j) H=.val (iN (8*m)) H (bit (bq)) 0:=exLd1_row hcq hcm
  have o8_:e.ok (bit (bq)) 0 H:=.read hcq.lt (fun h=>absurd h (by omega))
  refine WOG.all (fun t' H'=>H=H'∧GT t' [(7,iN (8*m)),(71,sC bq 0 (k) (cq)),(72,iN k),(73,iN j)]) ?_ ?_
  ·simp +decide only [frm_r17,g71_4,g72_4,g73_4,g74_4,m6_,m7_,o8_,Xo 7,go_sem]
  rintro t9_ _ ⟨rfl,g7_9,g71_9,g72_9,g73_9, -⟩
  refine WK.reg_g ?_
  refine WOG.hide fun K0 hK0=>?_
  simp +decide only [frm_r18,g7_9,Xo 7,go_sem]
  refine EC.mono (siz_ok S hf (by omega) (m:=m) hm1 hm2) fun v H11_ _ hv12_=>?_
  obtain ⟨rfl,hh13_⟩:=hv12_
  rw [hh13_];clear hh13_
  rw [WOGk]
  simp +decide only [frm_r18,Xo 7,go_sem]
  refine EC.mono (mst_ok S hf (by omega)) fun v H14_ _ hv15_=>?_
  obtain ⟨rfl,hh16_⟩:=hv15_
  rw [hh16_];clear hh16_
  rw [WOGk]
  refine WOG.all (fun t' H'=>H=H'∧GT t' [(71,sC bq 0 (k) (cq)),(72,iN k),(73,iN j)]) ?_ ?_
  ·simp +decide only [frm_r18,g7_9,g71_9,g72_9,g73_9,Xo 7,go_sem]
  rintro t17_ _ ⟨rfl,g71_17,g72_17,g73_17, -⟩
  refine hK0 _ _ ?_
  refine WK.reg_g ?_
  have w19_:Value.int .i64 (wrapF .i64 (((j:Nat):Int)+(1:Int)))=.int .i64 (((j+1):Nat):Int):=wF (by omega)
  refine WOG.all (fun t' H'=>H=H'∧GT t' [(71,sC bq 0 (k) (cq)),(72,iN k),(73,iN ((j+1)))]) ?_ ?_
  ·simp +decide only [frm_r19,g71_17,g72_17,g73_17,w19_,Xo 7,go_sem]
  rintro t20_ _ ⟨rfl,g71_20,g72_20,g73_20, -⟩
  exact ⟨_,by omega,rfl,rfl,j+1,rfl,by omega,g71_20,g72_20,g73_20⟩
 case neg =>
  refine WK.reg_g ?_
  have d3_:decide (((j:Nat):Int)<((k:Nat):Int))=false:=decide_eq_false (by omega)
  refine WOG.all (fun t' H'=>H=H'∧GT t' [(71,sC bq 0 (k) (cq)),(72,iN k),(73,iN j),(74,.bool false)]) ?_ ?_
  ·simp +decide only [frm_r16,g71_l2,g72_l2,g73_l2,d3_,Xo 7,go_sem]
  rintro t4_ _ ⟨rfl,g71_4,g72_4,g73_4,g74_4, -⟩
  refine WK.seq ?_
  refine WK.cond (v:=false) (by rw [evalO_tmp,g74_4];rfl) ?_
  refine WK.exit ?_
  exact hK _
end
end Go.Proofs.RS
end
noncomputable section
namespace Go.Proofs.RS
open Go Go.Ev Go.Proofs
theorem spY_L:SpY spL:=⟨fun f h args H=>by rcases h with rfl | rfl | rfl <;> exact spL_k.no _ (by decide) args H⟩
theorem hS_eq {H:Hp} {k:Nat} {cs:List Value} (hf:H.isFn=true) (hn:H.nx=25+2*k) (hk:1≤k) (h5:H.blk 5=g5) (hlow:∀ b,13≤b→b<23→H.blk b=hD.blk b) (hc:H.blk (24+2*k)=blkL cs 3 2):∃ f,H=hS f k cs:=by
 cases H with
 | mk t n=>cases hf
 | fn f n =>
  have hn':n=25+2*k:=hn
  subst hn'
  have hb:∀ b,b<25+2*k→(Hp.fn f (25+2*k)).blk b=f b:=fun b h=>by
   show Bc (Nat.blt b (25+2*k)) (f b) .no=_
   rw [(blt_iff _ _).2 h];rfl
  refine ⟨f,?_⟩
  unfold hS
  congr 1
  funext b
  cases h1:Nat.beq b 5 with
  | true=>rw [Bc_t];have:=(beq_iff _ _).1 h1;subst this;rw [← h5,hb 5 (by omega)]
  | false =>
   rw [Bc_f]
   cases h2:Nat.beq b (24+2*k) with
   | true=>rw [Bc_t];have:=(beq_iff _ _).1 h2;subst this;rw [← hc,hb _ (by omega)]
   | false =>
    rw [Bc_f]
    cases h3:Nat.blt b 13 with
    | true=>rw [Bc_t]
    | false =>
     rw [Bc_f]
     cases h4:Nat.blt b 23 with
     | false=>rw [Bc_f]
     | true =>
      rw [Bc_t]
      have h4':=(blt_iff _ _).1 h4
      have h3':¬ b<13:=fun h=>by rw [(blt_iff _ _).2 h] at h3;cases h3
      rw [← hlow b (by omega) h4',hb b (by omega)]
structure NewS (H H':Hp) (k:Nat) (cs:List Value):Prop where
 fn:H'.isFn=true
 nx:H'.nx=105+2*k
 low:∀ b,b<13→H'.blk b=H.blk b
 b23:H'.blk 23=H.blk 23
 bct:H'.blk (24+2*k)=blkL cs 3 2
 pr:Row H' (75+2*k) 88 8 prL
 ac:Row H' (104+2*k) 128 11 acL0
 ct:Row H' (68+2*k) 3 2 cs
 gn:Row H' (77+2*k) 22 0 (List.replicate k (.slice none 0 0))
 st:Row H' (78+2*k) 104 0 (stS k)
 mem:ByU H' (76+2*k) 171 (fun _=>0) 65536
theorem look_inv {f:Nat→Blk} {k n5:Nat} {cs:List Value} {x:Option Ch} (h:lookS k x=expS f k n5 cs):∃ c,x=some c∧[c.s0.f,c.s1.f,c.s2.f,c.s3.f,c.s4.f]=[38,81,133,134,138]∧c.t5.get 71=ctlS k∧c.t5.get 72=vN k∧c.t5.get 73=vN 0∧c.H5.isFn=true∧c.H5.nx=n5∧c.H5.blk (24+2*k)=blkL cs 3 2 ∧
 c.r.1=.tuple #[.pointer (some ⟨78+2*k,0,none⟩),.int .i64 0]∧NewS (hS f k cs) c.r.2 k cs:=by
 cases x with
 | none=>cases h
 | some c =>
  have h:=Option.some.inj h
  simp only [Prod.mk.injEq,List.map_cons,List.map_nil,List.cons.injEq,and_true] at h
  obtain ⟨h1,⟨h2,h3,h4⟩,⟨h5,h6,h7⟩,⟨h8,h9,h10⟩,⟨h11,h12,h13⟩,⟨h14,h15,h16,h17,h18⟩,h19⟩:=h
  refine ⟨c,rfl,?_,h2,h3,h4,h5,h6,h7,h8,h10,h9,fun b hb=>map_range_eq h13 hb,h11,h12.trans ?_,rdB_row h14,rdB_row h15,rdB_row h16,rdB_row h17,rdB_row h18,?_⟩
  ·obtain ⟨a,b,c',d,e⟩:=h1
   rw [a,b,c',d,e]
  ·show Bc (Nat.blt (24+2*k) (25+2*k)) (Bc (Nat.beq (24+2*k) 5) g5 (Bc (Nat.beq (24+2*k) (24+2*k)) (blkL cs 3 2) _)) .no=_
   rw [(blt_iff _ _).2 (show 24+2*k<25+2*k by omega),Bc_t,beq_no (show 24+2*k≠5 by omega),Bc_f,(beq_iff _ _).2 rfl,Bc_t]
  ·refine ⟨_,by rw [h19,bys_len],fun i v hv=>?_⟩
   have hi:i<65536:=by
    rcases Nat.lt_or_ge i 65536 with h | h
    ·exact h
    ·rw [List.getElem?_eq_none (by rw [bys_len];exact h)] at hv;cases hv
   rw [bys_get hi] at hv
   exact Option.some.inj hv
theorem new_ok {H:Hp} {k:Nat} {l:List Int} (hf:H.isFn=true) (hn:H.nx=25+2*k) (hlk:l.length=k) (hk1:1≤k) (hk8:k≤8) (h5:H.blk 5=g5) (hlow:∀ b,13≤b→b<23→H.blk b=hD.blk b) (hc:H.blk (24+2*k)=blkL (l.map iV) 3 2)
 (hl:∀ x∈l,∃ m:Nat,x=((8*m:Nat):Int)∧1≤m∧m≤64) :
 EC Tb0 spL (envS 13) 8 [pS k,inV] H fun v H'=>v=.tuple #[.pointer (some ⟨78+2*k,0,none⟩),.int .i64 0]∧NewS H H' k (l.map iV):=by
 obtain ⟨f,rfl⟩:=hS_eq hf hn hk1 h5 hlow hc
 have hrun:=runS f l (by omega) (by omega)
 rw [hlk] at hrun
 obtain ⟨c,e0,e1,e2,e3,e4,e5,e6,e7,e8,e9⟩:=look_inv hrun
 refine (chain_ok e0 e1 fun {K} hK=>?_).mono fun v H' _ hh=>?_
 ·obtain ⟨t,ht1,ht2⟩:=blkL_eq (l.map iV) 3 2
  refine frm_ok spY_L e5 (by rw [e6];show 13≤_;omega) (bq:=24+2*k) (k:=k) (oq:=2) (C:=l.map iV) (by show 13≤_;omega) ⟨t,by rw [e7,ht1],ht2⟩ (fun i hi=>?_) hk8 e2 e3 e4 hK
  have hx:l[i]?=some l[i]:=List.getElem?_eq_getElem (by omega)
  obtain ⟨m,h1,h2,h3⟩:=hl _ (List.mem_of_getElem? hx)
  exact ⟨m,by rw [List.getElem?_map,hx,h1];rfl,h2,h3⟩
 ·obtain ⟨rfl,rfl⟩:=hh
  exact ⟨e8,e9⟩
def szm (x:Int):Nat:=1+((x.tmod 64+64).tmod 64).toNat
theorem szm_b (x:Int):1≤szm x∧szm x≤64:=by
 obtain ⟨m,h1,h2⟩:=modL x (L:=64) (by decide)
 have h2':(x.tmod (64:Int)+64).tmod 64=(m:Int):=h2
 unfold szm;rw [h2']
 have:((m:Nat):Int).toNat=m:=rfl
 omega
def csV (ss:List Int):List Value:=ss.map fun x=>iN (8*szm x)
def ctlV (j:Nat):Value:=if j=0 then .slice none 0 0 else ctlS j
structure Ctl (H:Hp) (j:Nat) (cs:List Value):Prop where
 len:cs.length=j
 blk:j≠0→H.blk (24+2*j)=blkL cs 3 2
theorem ctl_app {e:Env} {H:Hp} {j:Nat} {cs:List Value} {x:Value} (hf:H.isFn=true) (hn:H.nx=26+2*j) (he:e.n0≤13) (h:Ctl H j cs) (hx:Row H (25+2*j) 3 0 [x]) (hj:j≤8) :
 ∃ H1 r w,exApp 3 1 8 (ctlV j) (.slice (some ⟨25+2*j,0,none⟩) 1 (2*1)) H=.val (ctlV (j+1)) H1 r w∧e.ok r w H1∧H1.isFn=true∧H1.nx=27+2*j∧Ctl H1 (j+1) (cs++[x])∧∀ c,c<H.nx→(j=0∨c≠24+2*j)→H1.blk c=H.blk c:=by
 have hc:cellsOfV H 1 1 (.slice (some ⟨25+2*j,0,none⟩) 1 (2*1))=some ([x],bit (25+2*j)):=by
  rw [cellsOf_slice hx (by show 0+1*1≤1;decide)];rfl
 have hlv:lenV (.slice (some ⟨25+2*j,0,none⟩) 1 (2*1))=some 1:=rfl
 have hok1:e.ok (bit (25+2*j)) 0 H:=.read hx.lt fun h=>absurd h (by omega)
 have hby:∀ n:Nat,n≤10→okBytes n 8=true:=fun n hn=>okBytes_of (by omega) (by omega)
 have hv2:ctlV (j+1)=.slice (some ⟨26+2*j,0,none⟩) (j+1) (2*(j+1)+1):=by
  unfold ctlV;rw [if_neg (by omega)];show Value.slice (some ⟨24+2*(j+1),0,none⟩) _ _=_;rw [show 24+2*(j+1)=26+2*j by omega]
 by_cases h0:j=0
 ·subst h0
  have hcs:cs=[]:=List.length_eq_zero_iff.1 h.len
  subst hcs
  refine ⟨H.push (blkL [x] 3 2),_,_,(exApp_nil (fn_room hf) hlv (by decide) hc (hby 1 (by omega))).trans ?_,⟨hok1.rd,hok1.wr,fun c hcc=>by rw [nx_push];have:=hok1.lt c hcc;omega⟩,by rw [isFn_push];exact hf,by rw [nx_push,hn],⟨rfl,fun _=>?_⟩,fun c hcl _=>blk_push_old (fn_room hf) _ hcl⟩
  ·rw [hv2,hn]
  ·rw [blk_push _ (fn_room hf),if_pos (by omega)];rfl
 ·have hb:=h.blk h0
  have hr:Row H (24+2*j) 3 2 cs:=by
   obtain ⟨t,e1,e2⟩:=blkL_eq cs 3 2
   exact ⟨t,by rw [hb,e1],e2⟩
  have hv:ctlV j=.slice (some ⟨24+2*j,0,none⟩) j (2*j+1):=by unfold ctlV;rw [if_neg h0]
  have hlt:=hr.lt
  have hroom:(H.put (24+2*j) .no).room=true:=by rw [room_put];exact fn_room hf
  refine ⟨(H.put (24+2*j) .no).push (blkL (cs++[x]) 3 2),bit (25+2*j),bit (24+2*j),?_,?_,by rw [isFn_push,isFn_put];exact hf,by rw [nx_push,nx_put,hn];omega,⟨by simp [h.len],fun _=>?_⟩,fun c hcl hcn=>?_⟩
  ·rw [hv,hv2,exApp_open (ty:=3) (by_:=8) (fn_room hf) hr (m:=j) (by rw [h.len];omega) hlv (by decide) hc (hby (j+1) (by omega)),hn]
  ·have h3:=hok1.lor (Env.ok.write (e:=e) (b:=24+2*j) hlt (fun h=>absurd h (by omega))) (Nat.le_refl _)
   rw [lor_zero',zero_lor'] at h3
   exact ⟨h3.rd,h3.wr,fun c hcc=>by rw [nx_push,nx_put];have:=h3.lt c hcc;omega⟩
  ·rw [blk_push _ hroom,nx_put,if_pos (by omega)]
  ·rw [blk_push_old hroom _ (by rw [nx_put];omega),blk_put_ne (fn_wf hf) _ hlt (by omega)]
end Go.Proofs.RS
end
noncomputable section
namespace Go.Proofs.RS
open Go Go.Ev Go.Proofs Go.Ar
theorem ctlV_one (j:Nat):oneC (ctlV j)=true:=by unfold ctlV;split <;> rfl
theorem csV_take {ss:List Int} {j:Nat} {x:Int} (h:ss[j]?=some x):csV (ss.take (j+1))=csV (ss.take j)++[iN (8*szm x)]:=by
 unfold csV;rw [List.take_add_one,h,List.map_append];rfl
section
attribute [local go_sem] Bc_f Bc_t GT Ro_some Rv_eq WOG Yj Yk Yl Ym Yn and_self and_true binV_add binV_lss binV_mul dec_F dec_T evalO_const evalO_tmp exFa_ptr exLen_str if_false if_true ok_zero putT_none run true_and wants_none'
variable {sp:Nat→List Value→Hp→Option (Value×Hp×Nat×Nat)} {e:Env}
set_option maxRecDepth 10000 in
set_option maxHeartbeats 4000000 in
theorem sizes_ok (he0:e.n0≤13) {H:Hp} (hf:H.isFn=true) (hnx:H.nx=25) {ss:List Int} {sv:Value} {n:Nat} (hsn:ss.length=n) (hn8:n≤8) (hlen:∀ Hq:Hp,exLen 1 sv Hq=.val (vN ((n:Nat):Int)) Hq 0 0) (hl:∀ H':Hp,(∀ b,b<13→H'.blk b=H.blk b)→RowR e H' 1 (fun (x:Int) vs=>vs=[.int .i64 x]) sv ss)
 (hp:Row H 23 29 0 [.slice (some ⟨15,0,none⟩) 2 4,.int .i64 (32),.slice none 0 0,.slice (some ⟨16,0,none⟩) 2 4,.slice (some ⟨17,0,none⟩) 1 2,.slice none 0 0]) {t:T Value} (g0:t.get 0=sv) (g5:t.get 5=pA 23 0) {K:Ex→T Value→List Deferred→Hp→Prop}
 (hK:∀ t' H',t'.get 0=sv→t'.get 1=t.get 1→t'.get 5=pA 23 0→t'.get 6=t.get 6→H'.isFn=true→H'.nx=25+2*n→Ctl H' n (csV ss)→Row H' 23 29 0 [.slice (some ⟨15,0,none⟩) 2 4,.int .i64 (32),.slice none 0 0,.slice (some ⟨16,0,none⟩) 2 4,.slice (some ⟨17,0,none⟩) 1 2,ctlV n]→(∀ b,b<25→b≠23→H'.blk b=H.blk b)→K .normal t' [] H') :
 WK Tb0 sp e ⟨8,208,none,false⟩ (.seq (.reg stk_r7) (.block 0 (.loop stk_body.sr.sr.sr.sr.sr.sl.sr.bl.lp stk_l12))) t [] H K:=by
 obtain ⟨v1,g1⟩:∃ v,t.get 1=v:=⟨_,rfl⟩
 obtain ⟨v6,g6⟩:∃ v,t.get 6=v:=⟨_,rfl⟩
 rw [g1,g6] at hK
 have lt1_:=hp.lt
 refine WK.seq ?_
 refine WK.reg_g ?_
 have m2_:∀ Hq,exLen 1 sv Hq=.val (vN ((n:Nat):Int)) Hq 0 0:=hlen
 refine WOG.all (fun t' H'=>H=H'∧GT t' [(0,sv),(1,v1),(5,pA 23 0),(6,v6),(46,sv),(47,iN n),(48,.int .i64 (0))]) ?_ ?_
 ·simp +decide only [stk_r7,g0,g1,g5,g6,m2_,Xo 8,go_sem]
 rintro t3_ _ ⟨rfl,g0_3,g1_3,g5_3,g6_3,g46_3,g47_3,g48_3, -⟩
 refine WK.block (WK.loop_ind (fun m t' ds' H'=>ds'=[]∧∃ j:Nat,m=n-j∧j≤n∧H'.isFn=true∧H'.nx=25+2*j∧Ctl H' j (csV (ss.take j))∧Row H' 23 29 0 [.slice (some ⟨15,0,none⟩) 2 4,.int .i64 (32),.slice none 0 0,.slice (some ⟨16,0,none⟩) 2 4,.slice (some ⟨17,0,none⟩) 1 2,ctlV j]∧(∀ b,b<25→b≠23→H'.blk b=H.blk b)∧t'.get 0=sv∧t'.get 1=v1∧t'.get 5=pA 23 0∧t'.get 6=v6∧t'.get 46=sv∧t'.get 47=iN n∧t'.get 48=iN j) ?_ _ t3_ [] H ⟨rfl,0,rfl,by omega,hf,by omega,⟨rfl,fun h=>absurd rfl h⟩,hp,fun _ _ _=>rfl,g0_3,g1_3,g5_3,g6_3,g46_3,g47_3,g48_3⟩)
 rintro m_l5 t_l5 ds_ H_l5 ⟨rfl,j,rfl,hj,hf2,hn2,hc2,hp2,hold,g0_l5,g1_l5,g5_l5,g6_l5,g46_l5,g47_l5,g48_l5⟩
 have lt6_:=hp2.lt
 unfold stk_l12
 refine WK.seq ?_
 by_cases hlt:j<n
 case pos =>
  obtain ⟨x,hx⟩:∃ x,ss[j]?=some x:=⟨_,List.getElem?_eq_getElem (by omega)⟩
  obtain ⟨lb,lo,vs,hel,hvs⟩:=(hl H_l5 fun b hb=>hold b (by omega) (by omega)).el hx
  subst hvs
  refine WK.reg_g ?_
  have d7_:decide (((j:Nat):Int)<((n:Nat):Int))=true:=decide_eq_true (by omega)
  refine WOG.all (fun t' H'=>H_l5=H'∧GT t' [(0,sv),(1,v1),(5,pA 23 0),(6,v6),(46,sv),(47,iN n),(48,iN j),(49,.bool true)]) ?_ ?_
  ·simp +decide only [stk_r8,g0_l5,g1_l5,g5_l5,g6_l5,g46_l5,g47_l5,g48_l5,d7_,Xo 8,go_sem]
  rintro t8_ _ ⟨rfl,g0_8,g1_8,g5_8,g6_8,g46_8,g47_8,g48_8,g49_8, -⟩
  refine WK.seq ?_
  refine WK.cond (v:=true) (by rw [evalO_tmp,g49_8];rfl) ?_
  refine WK.skip ?_
  refine WK.seq ?_
  refine WK.block ?_
  refine WK.seq ?_
  refine WK.reg_g ?_
  have m10_:exIaS 1 sv (iN j) H_l5=.val (pA lb lo) H_l5 0 0:=hel.addr
  have m11_:exLd1 (pA lb lo) H_l5=.val (.int .i64 (x)) H_l5 (bit (lb)) 0:=hel.ld1 0 _ rfl
  have o12_:e.ok (bit (lb)) 0 H_l5:=hel.ok
  refine WOG.all (fun t' H'=>H_l5=H'∧GT t' [(0,sv),(1,v1),(5,pA 23 0),(6,v6),(8,.int .i64 (x)),(46,sv),(47,iN n),(48,iN j)]) ?_ ?_
  ·simp +decide only [stk_r9,g0_8,g1_8,g5_8,g6_8,g46_8,g47_8,g48_8,g49_8,m10_,m11_,o12_,Xo 8,go_sem]
  rintro t13_ _ ⟨rfl,g0_13,g1_13,g5_13,g6_13,g8_13,g46_13,g47_13,g48_13, -⟩
  obtain ⟨m,hm,hmm⟩:∃ m:Nat,m<64∧(x.tmod (64:Int)+(64:Int)).tmod (64:Int)=(m:Int):=modL x (L:=64) (by decide)
  obtain ⟨hb1_,hb2_⟩ : -(64:Int)<x.tmod (64:Int)∧x.tmod (64:Int)<(64:Int):=tmod_b x (L:=64) (by decide)
  have hszm:szm x=1+m:=by unfold szm;rw [hmm];rfl
  refine WK.reg_g ?_
  have m15_:exLd1 (pA 23 5) H_l5=.val (ctlV j) H_l5 (bit (23)) 0:=exLd1_row hp2 rfl
  have o16_:=okr (e:=e) hp2 (by omega)
  have m17_:∀ Hq,R.o (binV .rem (.int .i64 (x)) (.int .i64 (64))) Hq=.val (.int .i64 (x.tmod (64:Int))) Hq 0 0:=fun Hq=>remI (by decide) Hq
  have w18_:Value.int .i64 (wrapF .i64 (((x.tmod (64:Int)))+(64:Int)))=.int .i64 (((x.tmod (64:Int)))+(64:Int)):=congrArg _ (wrapF_i64 (by omega) (by omega))
  have m19_:∀ Hq,R.o (binV .rem (.int .i64 ((((x.tmod (64:Int)))+(64:Int)))) (.int .i64 (64))) Hq=.val (iN m) Hq 0 0:=fun Hq=>by rw [remI (by decide),hmm]
  have w20_:Value.int .i64 (wrapF .i64 ((8:Int)*((m:Nat):Int)))=.int .i64 (((8*m):Nat):Int):=wF (by omega)
  have m21_:Value.int .i64 (wrapF .i64 ((8:Int)+((8*m:Nat):Int)))=iN (8*szm x):=congrArg _ (by rw [wrapF_i64 (by omega) (by omega),hszm];omega)
  obtain ⟨H22_,nb23_⟩:=newSl hf2 [iN (8*szm x)] 3
  have m24_:∀ t:T Value,t.get 59=iN (8*szm x)→fillL t [.int .i64 (0)] [(0,1,.tmp 59)]=some [iN (8*szm x)]:=fun t h0=>by simp only [fillL,evalO_tmp,h0];rfl
  have m25_:alloc1 (blkL [iN (8*szm x)] 3 0) H_l5 (fun i=>mkSlV (some (i,0)) 1 1 false) 0 0=.val (.slice (some ⟨H_l5.nx,0,none⟩) (1) (2*1)) H22_ 0 0:=nb23_.al
  have hf26_:=nb23_.kept.fn
  have nx27_:H22_.nx=H_l5.nx+1:=nb23_.nx
  have m28_:H_l5.nx≤H22_.nx:=by omega
  have lt29_:=nb23_.row.lt
  have hrx:Row H22_ (25+2*j) 3 0 [iN (8*szm x)]:=by have h_:=nb23_.row;rw [show H_l5.nx=25+2*j by omega] at h_;exact h_
  have hcx:Ctl H22_ j (csV (ss.take j)):=⟨hc2.len,fun h0=>by rw [nb23_.kept.old _ (by omega)];exact hc2.blk h0⟩
  obtain ⟨H30_,r31_,w32_,e33_,o34_,hf35_,nx36_,hc37_,ho38_⟩:=ctl_app (e:=e) hf26_ (by omega) he0 hcx hrx (by omega)
  have m39_:exApp 3 1 8 (ctlV j) (sC H_l5.nx 0 (1) (2*1)) H22_=.val (ctlV (j+1)) H30_ r31_ w32_:=by rw [show H_l5.nx=25+2*j by omega];exact e33_
  have m40_:H22_.nx≤H30_.nx:=by omega
  have r41_:=hp2.mv nb23_.kept
  have r42_:=r41_.of_blk (ho38_ _ (by omega) (by omega))
  obtain ⟨H43_,e44_,wr45_⟩:=exSt1_at (o:=5) (v:=ctlV (j+1)) (ctlV_one _) hf35_ r42_ (by show 5+1≤6;decide)
  have m46_:exSt 1 (pA 23 5) (ctlV (j+1)) H30_=.val U H43_ 0 (bit (23)):=e44_
  have hf47_:=wr45_.fn
  have nx48_:H43_.nx=H30_.nx:=wr45_.nx
  have m49_:H30_.nx≤H43_.nx:=by omega
  have r50_:Row H43_ 23 29 0 [.slice (some ⟨15,0,none⟩) 2 4,.int .i64 (32),.slice none 0 0,.slice (some ⟨16,0,none⟩) 2 4,.slice (some ⟨17,0,none⟩) 1 2,ctlV (j+1)]:=wr45_.row
  have o51_:e.ok 0 (bit (23)) H43_:=.write r50_.lt (fun h=>absurd h (by omega))
  have hc52_:Ctl H43_ (j+1) _:=⟨hc37_.len,fun h0=>by rw [wr45_.else_ _ (by omega)];exact hc37_.blk h0⟩
  refine WOG.all (fun t' H'=>H43_=H'∧GT t' [(0,sv),(1,v1),(5,pA 23 0),(6,v6),(46,sv),(47,iN n),(48,iN j)]) ?_ ?_
  ·simp +decide only [stk_r10,g0_13,g1_13,g5_13,g6_13,g8_13,g46_13,g47_13,g48_13,m15_,o16_,m17_,w18_,m19_,w20_,m21_,m24_,exFill_some,m25_,m28_,m39_,o34_,m40_,m46_,m49_,o51_,Xo 8,go_sem]
  rintro t53_ _ ⟨rfl,g0_53,g1_53,g5_53,g6_53,g46_53,g47_53,g48_53, -⟩
  refine WK.reg_g ?_
  have w55_:Value.int .i64 (wrapF .i64 (((j:Nat):Int)+(1:Int)))=.int .i64 (((j+1):Nat):Int):=wF (by omega)
  refine WOG.all (fun t' H'=>H43_=H'∧GT t' [(0,sv),(1,v1),(5,pA 23 0),(6,v6),(46,sv),(47,iN n),(48,iN ((j+1)))]) ?_ ?_
  ·simp +decide only [stk_r11,g0_53,g1_53,g5_53,g6_53,g46_53,g47_53,g48_53,w55_,Xo 8,go_sem]
  rintro t56_ _ ⟨rfl,g0_56,g1_56,g5_56,g6_56,g46_56,g47_56,g48_56, -⟩
  exact ⟨_,by omega,rfl,j+1,rfl,by omega,hf47_,by omega,(by rw [csV_take hx];exact hc52_),r50_,(fun b h1 h2=>by rw [wr45_.else_ b h2,ho38_ b (by omega) (by omega),nb23_.kept.old b (by omega)];exact hold b h1 h2),g0_56,g1_56,g5_56,g6_56,g46_56,g47_56,g48_56⟩
 case neg =>
  have hjn:j=n:=by omega
  refine WK.reg_g ?_
  have d7_:decide (((j:Nat):Int)<((n:Nat):Int))=false:=decide_eq_false (by omega)
  refine WOG.all (fun t' H'=>H_l5=H'∧GT t' [(0,sv),(1,v1),(5,pA 23 0),(6,v6),(46,sv),(47,iN n),(48,iN j),(49,.bool false)]) ?_ ?_
  ·simp +decide only [stk_r8,g0_l5,g1_l5,g5_l5,g6_l5,g46_l5,g47_l5,g48_l5,d7_,Xo 8,go_sem]
  rintro t8_ _ ⟨rfl,g0_8,g1_8,g5_8,g6_8,g46_8,g47_8,g48_8,g49_8, -⟩
  refine WK.seq ?_
  refine WK.cond (v:=false) (by rw [evalO_tmp,g49_8];rfl) ?_
  refine WK.exit ?_
  exact hK _ _ g0_8 g1_8 g5_8 g6_8 hf2 (by omega) (by have h_:=hc2;rw [hjn,← hsn,List.take_length] at h_;rw [← hsn];exact h_) (hjn▸hp2) hold
end
theorem sit_len {n b:Nat} {H:Hp} {v:Value} {s:Stk} (h:Lst n 5 H b v (hcV s)) (Hq:Hp):exLen 1 v Hq=.val (vN ((s.2.length:Nat):Int)) Hq 0 0:=by
 rw [h.len];simp [hcV]
section
attribute [local go_sem] Bc_f Bc_t GT Ro_some Rv_eq WOG WOX Yj Yk Yl Ym Yn Yo Yp Yq Yr and_self and_true binV_add binV_lss binV_mul binV_sub callV_func dec_F dec_T evalL evalM evalO_const evalO_func evalO_tmp exEq_int exFa_ptr exLen_str exPick_f exPick_t if_false if_true no_bits ok_zero putT_none run true_and wantsV_U wantsV_ff wantsV_ft wantsV_tf wantsV_tt wants_none' wants_some
variable {sp:Nat→List Value→Hp→Option (Value×Hp×Nat×Nat)} {e:Env}
set_option maxRecDepth 10000 in
set_option maxHeartbeats 4000000 in
theorem look_ok (S:SpX sp) {HL:Hp} {q k cq i len:Nat} {szs:List Nat} {L Lp Pc:List Value} {sv lv:Value} (c:StcS HL q k szs L Lp Pc cq) (he0:e.n0≤23) (hlen0:∀ Hq:Hp,exLen 1 sv Hq=.val (vN ((k:Nat):Int)) Hq 0 0) (hlen:∀ Hq:Hp,exLen 1 lv Hq=.val (vN ((len:Nat):Int)) Hq 0 0) {F:By} {gs hs:List Value} {bl:Nat→Nat} {ss:List Stk} {us:List U} {H:Hp} (hs0:SitS HL H q F gs hs bl ss ss szs) (hP:Ps F us ss) (hln:∀ s∈ss,s.2.length≤1000) {d:Code} {t:T Value} (g0:t.get 0=sv) (g1:t.get 1=lv) (g5:t.get 5=pA 23 0) (g9:t.get 9=pA (105+q) 0) (g11:t.get 11=pA (106+q) 0) (g12:t.get 12=sC (107+q) 0 (k) (2*k)) (g13:t.get 13=.func (.func 9) #[] #[pA (105+q) 0,pA 23 0,pA (106+q) 0]) (g81:t.get 81=lv) (g82:t.get 82=iN len) (g83:t.get 83=iN i) (g148:t.get 148=iN k) (g147:t.get 147=sC (107+q) 0 (k) (2*k)) (g149:t.get 149=iN 0)
 {K:Ex→T Value→List Deferred→Hp→Prop} (hK:∀ t' H',SitS HL H' q F gs hs bl ss ss szs→t'.get 0=sv→t'.get 1=lv→t'.get 5=pA 23 0→t'.get 9=pA (105+q) 0→t'.get 11=pA (106+q) 0→t'.get 12=sC (107+q) 0 (k) (2*k)→t'.get 13=.func (.func 9) #[] #[pA (105+q) 0,pA 23 0,pA (106+q) 0]→t'.get 81=lv→t'.get 82=iN len→t'.get 83=iN i→K .normal t' [] H') :
 WK Tb0 sp e ⟨8,208,none,false⟩ (.block 4 (.loop d stk_l49)) t [] H K:=by
 have cnx:=c.nx
 have ck8:=c.k8
 have csl:=c.sl
 have hf_1:=hs0.fn
 have nx_1:=hs0.nx
 have hk_1:Kept H H:=.refl hf_1
 refine WK.block (WK.loop_ind (fun m t' ds' H'=>ds'=[]∧∃ i2:Nat,m=k-i2∧i2≤k∧SitS HL H' q F gs hs bl ss ss szs∧t'.get 0=sv∧t'.get 1=lv∧t'.get 5=pA 23 0∧t'.get 9=pA (105+q) 0∧t'.get 11=pA (106+q) 0∧t'.get 12=sC (107+q) 0 (k) (2*k)∧t'.get 13=.func (.func 9) #[] #[pA (105+q) 0,pA 23 0,pA (106+q) 0]∧t'.get 81=lv∧t'.get 82=iN len∧t'.get 83=iN i∧t'.get 147=sC (107+q) 0 (k) (2*k)∧t'.get 148=iN k∧t'.get 149=iN i2) ?_ _ t [] H ⟨rfl,0,rfl,by omega,hs0,g0,g1,g5,g9,g11,g12,g13,g81,g82,g83,g147,g148,g149⟩)
 rintro m_l2 t_l2 ds_ H_l2 ⟨rfl,i2,rfl,hi2,hs2,g0_l2,g1_l2,g5_l2,g9_l2,g11_l2,g12_l2,g13_l2,g81_l2,g82_l2,g83_l2,g147_l2,g148_l2,g149_l2⟩
 have hf_3:=hs2.fn
 have nx_3:=hs2.nx
 have hk_3:Kept H_l2 H_l2:=.refl hf_3
 unfold stk_l49
 refine WK.seq ?_
 by_cases hlt:i2<k
 case pos =>
  obtain ⟨s2,hss⟩:∃ s2,ss[i2]?=some s2:=⟨_,List.getElem?_eq_getElem (by rw [hs2.len_g];omega)⟩
  obtain ⟨v2,hv⟩:∃ v,hs[i2]?=some v:=⟨_,List.getElem?_eq_getElem (by rw [hs2.lh];omega)⟩
  obtain ⟨hz,hi2k,hz1,hz2⟩:=hs2.size c hss
  refine WK.reg_g ?_
  have d4_:decide (((i2:Nat):Int)<((k:Nat):Int))=true:=decide_eq_true (by omega)
  refine WOG.all (fun t' H'=>H_l2=H'∧GT t' [(0,sv),(1,lv),(5,pA 23 0),(9,pA (105+q) 0),(11,pA (106+q) 0),(12,sC (107+q) 0 (k) (2*k)),(13,.func (.func 9) #[] #[pA (105+q) 0,pA 23 0,pA (106+q) 0]),(81,lv),(82,iN len),(83,iN i),(147,sC (107+q) 0 (k) (2*k)),(148,iN k),(149,iN i2),(150,.bool true)]) ?_ ?_
  ·simp +decide only [stk_r34,g0_l2,g1_l2,g5_l2,g9_l2,g11_l2,g12_l2,g13_l2,g81_l2,g82_l2,g83_l2,g147_l2,g148_l2,g149_l2,d4_,Xo 8,go_sem]
  rintro t5_ _ ⟨rfl,g0_5,g1_5,g5_5,g9_5,g11_5,g12_5,g13_5,g81_5,g82_5,g83_5,g147_5,g148_5,g149_5,g150_5, -⟩
  refine WK.seq ?_
  refine WK.cond (v:=true) (by rw [evalO_tmp,g150_5];rfl) ?_
  refine WK.skip ?_
  refine WK.seq ?_
  refine WK.block ?_
  refine WK.seq ?_
  refine WK.reg_g ?_
  have m7_:∀ Hq,exIaS 1 (sC (107+q) 0 (k) (2*k)) (iN i2) Hq=.val (pA (107+q) i2) Hq 0 0:=fun Hq=>by rw [exIaS_int (by omega) (by omega)];simp
  have m8_:exLd1 (pA (107+q) i2) H_l2=.val (v2) H_l2 (bit (107+q)) 0:=exLd1_row hs2.rh hv
  have o9_:e.ok (bit (107+q)) 0 H_l2:=.read hs2.rh.lt (fun h=>absurd h (by omega))
  refine WOG.all (fun t' H'=>H_l2=H'∧GT t' [(0,sv),(1,lv),(5,pA 23 0),(9,pA (105+q) 0),(11,pA (106+q) 0),(12,sC (107+q) 0 (k) (2*k)),(13,.func (.func 9) #[] #[pA (105+q) 0,pA 23 0,pA (106+q) 0]),(19,iN i2),(20,v2),(81,lv),(82,iN len),(83,iN i),(147,sC (107+q) 0 (k) (2*k)),(148,iN k),(149,iN i2)]) ?_ ?_
  ·simp +decide only [stk_r35,g0_5,g1_5,g5_5,g9_5,g11_5,g12_5,g13_5,g81_5,g82_5,g83_5,g147_5,g148_5,g149_5,g150_5,m7_,m8_,o9_,Xo 8,go_sem]
  rintro t10_ _ ⟨rfl,g0_10,g1_10,g5_10,g9_10,g11_10,g12_10,g13_10,g19_10,g20_10,g81_10,g82_10,g83_10,g147_10,g148_10,g149_10, -⟩
  refine WK.seq ?_
  refine WK.seq ?_
  refine WK.reg_g ?_
  refine WOG.hide fun K0 hK0=>?_
  have m12_:exLd1 (pA (105+q) 0) H_l2=.val (pA (78+q) 0) H_l2 (bit (105+q)) 0:=exLd1_row (c.at hs2 c.ps (by omega) (by omega) (by omega)) rfl
  have o13_:=okr (e:=e) (c.at hs2 c.ps (by omega) (by omega) (by omega)) (by omega)
  have hs14_:=hs2.kept c hk_3
  simp +decide only [stk_r36,g9_10,g19_10,m12_,o13_,Xo 8,go_sem]
  refine EC.mono (hs14_.gens c S he0 hss) fun v H15_ _ hv16_=>?_
  obtain ⟨rfl,hh17_⟩:=hv16_
  rw [hh17_];clear hh17_
  rw [WOGk]
  have m18_:∀ Hq,exLen 1 v2 Hq=.val (vN ((s2.2.length:Nat):Int)) Hq 0 0:=fun Hq=>sit_len (hs2.hl _ _ _ hv hss) Hq
  have d19_:decide (((s2.2.length:Nat):Int)=((s2.2.length:Nat):Int))=true:=decide_eq_true (by omega)
  refine WOG.all (fun t' H'=>H_l2=H'∧GT t' [(0,sv),(1,lv),(5,pA 23 0),(9,pA (105+q) 0),(11,pA (106+q) 0),(12,sC (107+q) 0 (k) (2*k)),(13,.func (.func 9) #[] #[pA (105+q) 0,pA 23 0,pA (106+q) 0]),(19,iN i2),(20,v2),(81,lv),(82,iN len),(83,iN i),(147,sC (107+q) 0 (k) (2*k)),(148,iN k),(149,iN i2),(159,.bool false)]) ?_ ?_
  ·simp +decide only [stk_r36,g0_10,g1_10,g5_10,g9_10,g11_10,g12_10,g13_10,g19_10,g20_10,g81_10,g82_10,g83_10,g147_10,g148_10,g149_10,m18_,d19_,Xo 8,go_sem]
  rintro t20_ _ ⟨rfl,g0_20,g1_20,g5_20,g9_20,g11_20,g12_20,g13_20,g19_20,g20_20,g81_20,g82_20,g83_20,g147_20,g148_20,g149_20,g159_20, -⟩
  refine hK0 _ _ ?_
  refine WK.cond (v:=false) (by rw [evalO_tmp,g159_20];rfl) ?_
  refine WK.skip ?_
  refine WK.seq ?_
  refine WK.seq ?_
  by_cases hne:s2.2.length=0
  case pos =>
   refine WK.reg_g ?_
   have m22_:∀ Hq,exLen 1 v2 Hq=.val (vN ((s2.2.length:Nat):Int)) Hq 0 0:=fun Hq=>sit_len (hs2.hl _ _ _ hv hss) Hq
   have d23_:decide (((s2.2.length:Nat):Int)=(0:Int))=true:=decide_eq_true (by omega)
   refine WOG.all (fun t' H'=>H_l2=H'∧GT t' [(0,sv),(1,lv),(5,pA 23 0),(9,pA (105+q) 0),(11,pA (106+q) 0),(12,sC (107+q) 0 (k) (2*k)),(13,.func (.func 9) #[] #[pA (105+q) 0,pA 23 0,pA (106+q) 0]),(19,iN i2),(20,v2),(81,lv),(82,iN len),(83,iN i),(147,sC (107+q) 0 (k) (2*k)),(148,iN k),(149,iN i2),(162,.bool true)]) ?_ ?_
   ·simp +decide only [stk_r38,g0_20,g1_20,g5_20,g9_20,g11_20,g12_20,g13_20,g19_20,g20_20,g81_20,g82_20,g83_20,g147_20,g148_20,g149_20,g159_20,m22_,d23_,Xo 8,go_sem]
   rintro t24_ _ ⟨rfl,g0_24,g1_24,g5_24,g9_24,g11_24,g12_24,g13_24,g19_24,g20_24,g81_24,g82_24,g83_24,g147_24,g148_24,g149_24,g162_24, -⟩
   refine WK.cond (v:=true) (by rw [evalO_tmp,g162_24];rfl) ?_
   refine WK.exit ?_
   refine WK.reg_g ?_
   have w26_:Value.int .i64 (wrapF .i64 (((i2:Nat):Int)+(1:Int)))=.int .i64 (((i2+1):Nat):Int):=wF (by omega)
   refine WOG.all (fun t' H'=>H_l2=H'∧GT t' [(0,sv),(1,lv),(5,pA 23 0),(9,pA (105+q) 0),(11,pA (106+q) 0),(12,sC (107+q) 0 (k) (2*k)),(13,.func (.func 9) #[] #[pA (105+q) 0,pA 23 0,pA (106+q) 0]),(19,iN i2),(20,v2),(81,lv),(82,iN len),(83,iN i),(147,sC (107+q) 0 (k) (2*k)),(148,iN k),(149,iN ((i2+1)))]) ?_ ?_
   ·simp +decide only [stk_r48,g0_24,g1_24,g5_24,g9_24,g11_24,g12_24,g13_24,g19_24,g20_24,g81_24,g82_24,g83_24,g147_24,g148_24,g149_24,g162_24,w26_,Xo 8,go_sem]
   rintro t27_ _ ⟨rfl,g0_27,g1_27,g5_27,g9_27,g11_27,g12_27,g13_27,g19_27,g20_27,g81_27,g82_27,g83_27,g147_27,g148_27,g149_27, -⟩
   have hs29_:=hs2.kept c hk_3
   exact ⟨_,by omega,rfl,i2+1,rfl,by omega,hs29_,g0_27,g1_27,g5_27,g9_27,g11_27,g12_27,g13_27,g81_27,g82_27,g83_27,g147_27,g148_27,g149_27⟩
  case neg =>
   obtain ⟨st0,e0,hst⟩:∃ st0 e0,s2.2=st0++[e0]:=by
    rcases List.eq_nil_or_concat s2.2 with h_ | ⟨a,b,h_⟩
    ·rw [h_] at hne;exact absurd rfl hne
    ·exact ⟨a,b,by rw [h_];simp⟩
   have hse:s2=(s2.1,st0++[e0]):=by rw [← hst]
   obtain ⟨A,B,hsp, -⟩:=set_split hss
   have hP2:=hP
   rw [hsp,hse] at hP2
   have hin:=hP2.in_
   have hval:=fun j hj=>hP2.val (j:=j) hj
   have hls:s2.2.length=st0.length+1:=by rw [hst];simp
   have hl1:=hln s2 (List.mem_of_getElem? hss)
   refine WK.reg_g ?_
   have m22_:∀ Hq,exLen 1 v2 Hq=.val (vN ((s2.2.length:Nat):Int)) Hq 0 0:=fun Hq=>sit_len (hs2.hl _ _ _ hv hss) Hq
   have d23_:decide (((s2.2.length:Nat):Int)=(0:Int))=false:=decide_eq_false (by omega)
   refine WOG.all (fun t' H'=>H_l2=H'∧GT t' [(0,sv),(1,lv),(5,pA 23 0),(9,pA (105+q) 0),(11,pA (106+q) 0),(12,sC (107+q) 0 (k) (2*k)),(13,.func (.func 9) #[] #[pA (105+q) 0,pA 23 0,pA (106+q) 0]),(19,iN i2),(20,v2),(81,lv),(82,iN len),(83,iN i),(147,sC (107+q) 0 (k) (2*k)),(148,iN k),(149,iN i2),(162,.bool false)]) ?_ ?_
   ·simp +decide only [stk_r38,g0_20,g1_20,g5_20,g9_20,g11_20,g12_20,g13_20,g19_20,g20_20,g81_20,g82_20,g83_20,g147_20,g148_20,g149_20,g159_20,m22_,d23_,Xo 8,go_sem]
   rintro t24_ _ ⟨rfl,g0_24,g1_24,g5_24,g9_24,g11_24,g12_24,g13_24,g19_24,g20_24,g81_24,g82_24,g83_24,g147_24,g148_24,g149_24,g162_24, -⟩
   refine WK.cond (v:=false) (by rw [evalO_tmp,g162_24];rfl) ?_
   refine WK.skip ?_
   refine WK.seq ?_
   refine WK.reg_g ?_
   refine WOG.hide fun K0 hK0=>?_
   have m26_:exLd1 (pA (105+q) 0) H_l2=.val (pA (78+q) 0) H_l2 (bit (105+q)) 0:=exLd1_row (c.at hs2 c.ps (by omega) (by omega) (by omega)) rfl
   have o27_:=okr (e:=e) (c.at hs2 c.ps (by omega) (by omega) (by omega)) (by omega)
   have hs28_:=hs2.kept c hk_3
   simp +decide only [stk_r39,g9_24,g19_24,m26_,o27_,Xo 8,go_sem]
   refine EC.mono (hs28_.base c S he0 hss hst (hln _ (List.mem_of_getElem? hss))) fun v H29_ _ hv30_=>?_
   obtain ⟨rfl,hk31_⟩:=hv30_
   have hf32_:=hk31_.fn
   have nx33_:=hk31_.nx
   have k34_:=hk_3.trans hk31_
   rw [WOGk]
   have m35_:∀ Hq,exExt (.tuple #[iN (8*57344+8*e0.1),.int .i64 (0)]) 0 Hq=.val (iN (8*57344+8*e0.1)) Hq 0 0:=fun _=>rfl
   have m36_:∀ Hq,exExt (.tuple #[iN (8*57344+8*e0.1),.int .i64 (0)]) 1 Hq=.val (.int .i64 (0)) Hq 0 0:=fun _=>rfl
   refine WOG.all (fun t' H'=>H29_=H'∧GT t' [(0,sv),(1,lv),(5,pA 23 0),(9,pA (105+q) 0),(11,pA (106+q) 0),(12,sC (107+q) 0 (k) (2*k)),(13,.func (.func 9) #[] #[pA (105+q) 0,pA 23 0,pA (106+q) 0]),(19,iN i2),(20,v2),(21,iN (8*57344+8*e0.1)),(22,.int .i64 (0)),(81,lv),(82,iN len),(83,iN i),(147,sC (107+q) 0 (k) (2*k)),(148,iN k),(149,iN i2)]) ?_ ?_
   ·simp +decide only [stk_r39,g0_24,g1_24,g5_24,g9_24,g11_24,g12_24,g13_24,g19_24,g20_24,g81_24,g82_24,g83_24,g147_24,g148_24,g149_24,g162_24,m35_,m36_,Xo 8,go_sem]
   rintro t37_ _ ⟨rfl,g0_37,g1_37,g5_37,g9_37,g11_37,g12_37,g13_37,g19_37,g20_37,g21_37,g22_37,g81_37,g82_37,g83_37,g147_37,g148_37,g149_37, -⟩
   refine hK0 _ _ ?_
   refine WK.seq ?_
   refine WK.reg_g ?_
   have r39_:=((c.at hs2 c.pb (by omega) (by omega) (by omega))).mv hk31_
   have m40_:exLd1 (pA 23 5) H29_=.val (sC (24+q) 0 (k) (cq)) H29_ (bit (23)) 0:=exLd1_row r39_ c.p5
   have o41_:=okr (e:=e) r39_ (by omega)
   have m42_:∀ Hq,exIaS 1 (sC (24+q) 0 (k) (cq)) (iN i2) Hq=.val (pA (24+q) i2) Hq 0 0:=fun Hq=>by rw [exIaS_int (by omega) (by omega)];simp
   have r43_:=((c.at hs2 c.cb (by omega) (by omega) (by omega))).mv hk31_
   have m44_:exLd1 (pA (24+q) i2) H29_=.val (iN (8*s2.1)) H29_ (bit (24+q)) 0:=exLd1_row r43_ (by rw [List.getElem?_map,hz];rfl)
   have o45_:e.ok (bit (24+q)) 0 H29_:=.read r43_.lt (fun h=>absurd h (by omega))
   have m46_:∀ Hq,R.o (binV .quo (iN (8*s2.1)) (.int .i64 8)) Hq=.val (iN (s2.1)) Hq 0 0:=fun Hq=>quo8 (by omega) (by omega) _
   refine WOG.all (fun t' H'=>H29_=H'∧GT t' [(0,sv),(1,lv),(5,pA 23 0),(9,pA (105+q) 0),(11,pA (106+q) 0),(12,sC (107+q) 0 (k) (2*k)),(13,.func (.func 9) #[] #[pA (105+q) 0,pA 23 0,pA (106+q) 0]),(20,v2),(21,iN (8*57344+8*e0.1)),(22,.int .i64 (0)),(81,lv),(82,iN len),(83,iN i),(147,sC (107+q) 0 (k) (2*k)),(148,iN k),(149,iN i2),(174,iN (s2.1)),(175,.int .i64 (0))]) ?_ ?_
   ·simp +decide only [stk_r40,g0_37,g1_37,g5_37,g9_37,g11_37,g12_37,g13_37,g19_37,g20_37,g21_37,g22_37,g81_37,g82_37,g83_37,g147_37,g148_37,g149_37,m40_,o41_,m42_,m44_,o45_,m46_,Xo 8,go_sem]
   rintro t47_ _ ⟨rfl,g0_47,g1_47,g5_47,g9_47,g11_47,g12_47,g13_47,g20_47,g21_47,g22_47,g81_47,g82_47,g83_47,g147_47,g148_47,g149_47,g174_47,g175_47, -⟩
   have hs49_:=hs2.kept c k34_
   refine WK.block (WK.loop_ind (fun m t' ds' H'=>ds'=[]∧∃ j:Nat,m=s2.1-j∧j≤s2.1∧SitS HL H' q F gs hs bl ss ss szs∧t'.get 0=sv∧t'.get 1=lv∧t'.get 5=pA 23 0∧t'.get 9=pA (105+q) 0∧t'.get 11=pA (106+q) 0∧t'.get 12=sC (107+q) 0 (k) (2*k)∧t'.get 13=.func (.func 9) #[] #[pA (105+q) 0,pA 23 0,pA (106+q) 0]∧t'.get 20=v2∧t'.get 21=iN (8*57344+8*e0.1)∧t'.get 22=.int .i64 (0)∧t'.get 81=lv∧t'.get 82=iN len∧t'.get 83=iN i∧t'.get 147=sC (107+q) 0 (k) (2*k)∧t'.get 148=iN k∧t'.get 149=iN i2∧t'.get 174=iN (s2.1)∧t'.get 175=iN j) ?_ _ t47_ [] H29_ ⟨rfl,0,rfl,by omega,hs49_,g0_47,g1_47,g5_47,g9_47,g11_47,g12_47,g13_47,g20_47,g21_47,g22_47,g81_47,g82_47,g83_47,g147_47,g148_47,g149_47,g174_47,g175_47⟩)
   rintro m_l50 t_l50 ds_ H_l50 ⟨rfl,j,rfl,hj,hs3,g0_l50,g1_l50,g5_l50,g9_l50,g11_l50,g12_l50,g13_l50,g20_l50,g21_l50,g22_l50,g81_l50,g82_l50,g83_l50,g147_l50,g148_l50,g149_l50,g174_l50,g175_l50⟩
   have hf_51:=hs3.fn
   have nx_51:=hs3.nx
   have hk_51:Kept H_l50 H_l50:=.refl hf_51
   unfold stk_l47
   refine WK.seq ?_
   by_cases hlt2:j<s2.1
   case pos =>
    have hz3:=hval j hlt2
    refine WK.reg_g ?_
    have d52_:decide (((j:Nat):Int)<((s2.1:Nat):Int))=true:=decide_eq_true (by omega)
    refine WOG.all (fun t' H'=>H_l50=H'∧GT t' [(0,sv),(1,lv),(5,pA 23 0),(9,pA (105+q) 0),(11,pA (106+q) 0),(12,sC (107+q) 0 (k) (2*k)),(13,.func (.func 9) #[] #[pA (105+q) 0,pA 23 0,pA (106+q) 0]),(20,v2),(21,iN (8*57344+8*e0.1)),(22,.int .i64 (0)),(81,lv),(82,iN len),(83,iN i),(147,sC (107+q) 0 (k) (2*k)),(148,iN k),(149,iN i2),(174,iN (s2.1)),(175,iN j),(176,.bool true)]) ?_ ?_
    ·simp +decide only [stk_r41,g0_l50,g1_l50,g5_l50,g9_l50,g11_l50,g12_l50,g13_l50,g20_l50,g21_l50,g22_l50,g81_l50,g82_l50,g83_l50,g147_l50,g148_l50,g149_l50,g174_l50,g175_l50,d52_,Xo 8,go_sem]
    rintro t53_ _ ⟨rfl,g0_53,g1_53,g5_53,g9_53,g11_53,g12_53,g13_53,g20_53,g21_53,g22_53,g81_53,g82_53,g83_53,g147_53,g148_53,g149_53,g174_53,g175_53,g176_53, -⟩
    refine WK.seq ?_
    refine WK.cond (v:=true) (by rw [evalO_tmp,g176_53];rfl) ?_
    refine WK.skip ?_
    refine WK.seq ?_
    refine WK.block ?_
    refine WK.seq ?_
    refine WK.reg_g ?_
    refine WOG.all (fun t' H'=>H_l50=H'∧GT t' [(0,sv),(1,lv),(5,pA 23 0),(9,pA (105+q) 0),(11,pA (106+q) 0),(12,sC (107+q) 0 (k) (2*k)),(13,.func (.func 9) #[] #[pA (105+q) 0,pA 23 0,pA (106+q) 0]),(20,v2),(21,iN (8*57344+8*e0.1)),(22,.int .i64 (0)),(23,iN j),(81,lv),(82,iN len),(83,iN i),(147,sC (107+q) 0 (k) (2*k)),(148,iN k),(149,iN i2),(174,iN (s2.1)),(175,iN j)]) ?_ ?_
    ·simp +decide only [stk_r42,g0_53,g1_53,g5_53,g9_53,g11_53,g12_53,g13_53,g20_53,g21_53,g22_53,g81_53,g82_53,g83_53,g147_53,g148_53,g149_53,g174_53,g175_53,g176_53,Xo 8,go_sem]
    rintro t55_ _ ⟨rfl,g0_55,g1_55,g5_55,g9_55,g11_55,g12_55,g13_55,g20_55,g21_55,g22_55,g23_55,g81_55,g82_55,g83_55,g147_55,g148_55,g149_55,g174_55,g175_55, -⟩
    refine WK.seq ?_
    refine WK.reg_g ?_
    refine WOG.hide fun K0 hK0=>?_
    have m57_:exLd1 (pA (105+q) 0) H_l50=.val (pA (78+q) 0) H_l50 (bit (105+q)) 0:=exLd1_row (c.at hs3 c.ps (by omega) (by omega) (by omega)) rfl
    have o58_:=okr (e:=e) (c.at hs3 c.ps (by omega) (by omega) (by omega)) (by omega)
    have m59_:binV .mul (.int .i64 (8)) (iN j)=some (iN (8*j)):=congrArg (fun z=>some (Value.int .i64 z)) (by rw [show Int.mul _ _=(((8*j:Nat):Int)) from by show ((_:Int)*_)=_;omega];exact wrapF_nat (by omega))
    have m60_:binV .add (iN (8*57344+8*e0.1)) (iN (8*j))=some (iN (8*(57344+e0.1+j))):=congrArg (fun z=>some (Value.int .i64 z)) (by rw [show Int.add _ _=(((8*(57344+e0.1+j):Nat):Int)) from by show ((_:Int)+_)=_;omega];exact wrapF_nat (by omega))
    have m61_:exLdN 5 (pA (106+q) 0) H_l50=.val (.agg ⟨[.int .i64 (3),.int .i64 (1),.int .i64 (0),.bool false,vS []]⟩) H_l50 (bit (106+q)) 0:=exLdN_row (c.at hs3 c.pc (by omega) (by omega) (by omega)) (by show 0+5≤5;decide)
    have o62_:=okr (e:=e) (c.at hs3 c.pc (by omega) (by omega) (by omega)) (by omega)
    have hs63_:=hs3.kept c hk_51
    simp +decide only [stk_r43,g9_55,g11_55,g21_55,g23_55,m57_,o58_,m59_,m60_,m61_,o62_,Xo 8,go_sem]
    refine EC.mono ((hs63_.load c S he0 (p:=57344+e0.1+j) (by omega)).mono fun v H1 _ h_=>by rwa [hz3] at h_) fun v H64_ _ hv65_=>?_
    obtain ⟨rfl,hk66_⟩:=hv65_
    have hf67_:=hk66_.fn
    have nx68_:=hk66_.nx
    have k69_:=hk_51.trans hk66_
    rw [WOGk]
    have m70_:∀ Hq,exExt (.tuple #[.agg ⟨[.int .i64 (0),vS [e0.2]]⟩,.int .i64 (0)]) 0 Hq=.val (.agg ⟨[.int .i64 (0),vS [e0.2]]⟩) Hq 0 0:=fun _=>rfl
    have m71_:∀ Hq,exExt (.tuple #[.agg ⟨[.int .i64 (0),vS [e0.2]]⟩,.int .i64 (0)]) 1 Hq=.val (.int .i64 (0)) Hq 0 0:=fun _=>rfl
    obtain ⟨H72_,nb73_⟩:=newB hf67_ [.int .i64 (0),.string ⟨#[]⟩] 47
    have m74_:alloc1 (blkL [.int .i64 (0),.string ⟨#[]⟩] 47 0) H64_ ptrTo 0 0=.val (.pointer (some ⟨H64_.nx,0,none⟩)) H72_ 0 0:=nb73_.al
    have hf75_:=nb73_.kept.fn
    have nx76_:H72_.nx=H64_.nx+1:=nb73_.nx
    have m77_:H64_.nx≤H72_.nx:=by omega
    have lt78_:=nb73_.row.lt
    have k79_:=k69_.trans nb73_.kept
    obtain ⟨H80_,e81_,wr82_⟩:=exStN_at (o:=0) (vs:=[.int .i64 (0),vS [e0.2]]) hf75_ nb73_.row (by show 0+2≤2;decide)
    have m83_:exSt 2 (pA H64_.nx 0) (.agg ⟨[.int .i64 (0),vS [e0.2]]⟩) H72_=.val U H80_ 0 (bit (H64_.nx)):=e81_
    have hf84_:=wr82_.fn
    have nx85_:H80_.nx=H72_.nx:=wr82_.nx
    have m86_:H72_.nx≤H80_.nx:=by omega
    have r87_:Row H80_ (H64_.nx) 47 0 [.int .i64 (0),vS [e0.2]]:=wr82_.row
    have o88_:e.ok 0 (bit (H64_.nx)) H80_:=.write r87_.lt (fun h=>absurd h (by omega))
    have k89_:Kept H_l50 H80_:=⟨wr82_.fn,by have:=k79_.nx;omega,fun c hc=>(wr82_.else_ c (by omega)).trans (k79_.old c hc)⟩
    refine WOG.all (fun t' H'=>H80_=H'∧GT t' [(0,sv),(1,lv),(5,pA 23 0),(9,pA (105+q) 0),(11,pA (106+q) 0),(12,sC (107+q) 0 (k) (2*k)),(13,.func (.func 9) #[] #[pA (105+q) 0,pA 23 0,pA (106+q) 0]),(20,v2),(21,iN (8*57344+8*e0.1)),(22,.int .i64 (0)),(24,pA H64_.nx 0),(25,.int .i64 (0)),(81,lv),(82,iN len),(83,iN i),(147,sC (107+q) 0 (k) (2*k)),(148,iN k),(149,iN i2),(174,iN (s2.1)),(175,iN j)]) ?_ ?_
    ·simp +decide only [stk_r43,g0_55,g1_55,g5_55,g9_55,g11_55,g12_55,g13_55,g20_55,g21_55,g22_55,g23_55,g81_55,g82_55,g83_55,g147_55,g148_55,g149_55,g174_55,g175_55,m70_,m71_,m74_,m77_,m83_,m86_,o88_,Xo 8,go_sem]
    rintro t90_ _ ⟨rfl,g0_90,g1_90,g5_90,g9_90,g11_90,g12_90,g13_90,g20_90,g21_90,g22_90,g24_90,g25_90,g81_90,g82_90,g83_90,g147_90,g148_90,g149_90,g174_90,g175_90, -⟩
    refine hK0 _ _ ?_
    refine WK.seq ?_
    have hl_:=hs3.hl _ _ _ hv hss
    rw [hse,hcV_snoc] at hl_
    have hs92_:=hs3.kept c k89_
    have hl_:=hs92_.hl _ _ _ hv hss
    rw [hse,hcV_snoc] at hl_
    obtain ⟨vT,rT,hT1,hT2,hT3,hT4,hT5,hT6⟩:=hl_.tail (e:=e) (by omega)
    have hblt_:=(hs92_.bh c hv).2
    refine WK.draw_xx (fun _=>False) [.p,.p,.p,.p,.p,.p,.p,.p,.q,.p,.p,.p,.p,.q,.q,.p,.p] (by omega) rfl ?_
    have d93_:decide ((0:Int)=(0:Int))=true:=decide_eq_true (by omega)
    have d94_:decide ((0:Int)=(0:Int))=true:=decide_eq_true (by omega)
    have m95_:exLd1 (pA H64_.nx 1) H80_=.val (vS [e0.2]) H80_ (bit (H64_.nx)) 0:=exLd1_row r87_ rfl
    have o96_:=okr (e:=e) r87_ (by omega)
    have o97_:∀ cq,(bit (H64_.nx)).testBit cq=true→cq<H80_.nx:=the_bit (P:=fun cq=>cq<H80_.nx) (by have:=r87_.lt;omega)
    have m98_:∀ Hq,exLen 1 v2 Hq=.val (vN ((s2.2.length:Nat):Int)) Hq 0 0:=fun Hq=>sit_len (hs2.hl _ _ _ hv hss) Hq
    have m99_:Value.int .i64 (wrapF .i64 (((s2.2.length:Nat):Int)-(1:Int)))=iN (st0.length):=wF (by omega)
    have m100_:exSlL 1 v2 (some (iN (st0.length))) none none H80_=.val vT H80_ rT 0:=hT1 _ (congrArg _ (by simp [hcV]))
    have o101_:e.ok rT 0 H80_:=hT2
    have o102_:∀ cq,rT.testBit cq=true→cq<H80_.nx:=hT6
    have m103_:exToS vT H80_=.val (vS [e0.2]) H80_ (bit (bl (2*i2+1))) 0:=hT3
    have o104_:e.ok (bit (bl (2*i2+1))) 0 H80_:=.read hT5 (fun h=>absurd h (by omega))
    have o105_:∀ cq,(bit (bl (2*i2+1))).testBit cq=true→cq<H80_.nx:=the_bit (P:=fun cq=>cq<H80_.nx) hT5
    have m106_:∀ Hq,exEq true (.one .s) (vS [e0.2]) (vS [e0.2]) Hq=.val (.bool false) Hq 0 0:=fun Hq=>eq_str _ Hq
    refine WOX.all (fun t' H'=>H80_=H'∧GT t' [(0,sv),(1,lv),(5,pA 23 0),(9,pA (105+q) 0),(11,pA (106+q) 0),(12,sC (107+q) 0 (k) (2*k)),(13,.func (.func 9) #[] #[pA (105+q) 0,pA 23 0,pA (106+q) 0]),(20,v2),(21,iN (8*57344+8*e0.1)),(22,.int .i64 (0)),(81,lv),(82,iN len),(83,iN i),(147,sC (107+q) 0 (k) (2*k)),(148,iN k),(149,iN i2),(174,iN (s2.1)),(175,iN j),(204,.bool false)]) ?_ ?_
    ·simp +decide only [stk_r44,g0_90,g1_90,g5_90,g9_90,g11_90,g12_90,g13_90,g20_90,g21_90,g22_90,g24_90,g25_90,g81_90,g82_90,g83_90,g147_90,g148_90,g149_90,g174_90,g175_90,d93_,d94_,m95_,o96_,o97_,m98_,m99_,m100_,o101_,o102_,m103_,o104_,o105_,m106_,Xo 8,go_sem]
     all_goals ((repeat' apply And.intro) <;> assumption)
    rintro t107_ _ ⟨rfl,g0_107,g1_107,g5_107,g9_107,g11_107,g12_107,g13_107,g20_107,g21_107,g22_107,g81_107,g82_107,g83_107,g147_107,g148_107,g149_107,g174_107,g175_107,g204_107, -⟩
    refine WK.cond (v:=false) (by rw [evalO_tmp,g204_107];rfl) ?_
    refine WK.skip ?_
    refine WK.reg_g ?_
    have w109_:Value.int .i64 (wrapF .i64 (((j:Nat):Int)+(1:Int)))=.int .i64 (((j+1):Nat):Int):=wF (by omega)
    refine WOG.all (fun t' H'=>H80_=H'∧GT t' [(0,sv),(1,lv),(5,pA 23 0),(9,pA (105+q) 0),(11,pA (106+q) 0),(12,sC (107+q) 0 (k) (2*k)),(13,.func (.func 9) #[] #[pA (105+q) 0,pA 23 0,pA (106+q) 0]),(20,v2),(21,iN (8*57344+8*e0.1)),(22,.int .i64 (0)),(81,lv),(82,iN len),(83,iN i),(147,sC (107+q) 0 (k) (2*k)),(148,iN k),(149,iN i2),(174,iN (s2.1)),(175,iN ((j+1)))]) ?_ ?_
    ·simp +decide only [stk_r46,g0_107,g1_107,g5_107,g9_107,g11_107,g12_107,g13_107,g20_107,g21_107,g22_107,g81_107,g82_107,g83_107,g147_107,g148_107,g149_107,g174_107,g175_107,g204_107,w109_,Xo 8,go_sem]
    rintro t110_ _ ⟨rfl,g0_110,g1_110,g5_110,g9_110,g11_110,g12_110,g13_110,g20_110,g21_110,g22_110,g81_110,g82_110,g83_110,g147_110,g148_110,g149_110,g174_110,g175_110, -⟩
    have hs112_:=hs3.kept c k89_
    exact ⟨_,by omega,rfl,j+1,rfl,by omega,hs112_,g0_110,g1_110,g5_110,g9_110,g11_110,g12_110,g13_110,g20_110,g21_110,g22_110,g81_110,g82_110,g83_110,g147_110,g148_110,g149_110,g174_110,g175_110⟩
   case neg =>
    refine WK.reg_g ?_
    have d52_:decide (((j:Nat):Int)<((s2.1:Nat):Int))=false:=decide_eq_false (by omega)
    refine WOG.all (fun t' H'=>H_l50=H'∧GT t' [(0,sv),(1,lv),(5,pA 23 0),(9,pA (105+q) 0),(11,pA (106+q) 0),(12,sC (107+q) 0 (k) (2*k)),(13,.func (.func 9) #[] #[pA (105+q) 0,pA 23 0,pA (106+q) 0]),(20,v2),(21,iN (8*57344+8*e0.1)),(22,.int .i64 (0)),(81,lv),(82,iN len),(83,iN i),(147,sC (107+q) 0 (k) (2*k)),(148,iN k),(149,iN i2),(174,iN (s2.1)),(175,iN j),(176,.bool false)]) ?_ ?_
    ·simp +decide only [stk_r41,g0_l50,g1_l50,g5_l50,g9_l50,g11_l50,g12_l50,g13_l50,g20_l50,g21_l50,g22_l50,g81_l50,g82_l50,g83_l50,g147_l50,g148_l50,g149_l50,g174_l50,g175_l50,d52_,Xo 8,go_sem]
    rintro t53_ _ ⟨rfl,g0_53,g1_53,g5_53,g9_53,g11_53,g12_53,g13_53,g20_53,g21_53,g22_53,g81_53,g82_53,g83_53,g147_53,g148_53,g149_53,g174_53,g175_53,g176_53, -⟩
    refine WK.seq ?_
    refine WK.cond (v:=false) (by rw [evalO_tmp,g176_53];rfl) ?_
    refine WK.exit ?_
    refine WK.reg_g ?_
    have w55_:Value.int .i64 (wrapF .i64 (((i2:Nat):Int)+(1:Int)))=.int .i64 (((i2+1):Nat):Int):=wF (by omega)
    refine WOG.all (fun t' H'=>H_l50=H'∧GT t' [(0,sv),(1,lv),(5,pA 23 0),(9,pA (105+q) 0),(11,pA (106+q) 0),(12,sC (107+q) 0 (k) (2*k)),(13,.func (.func 9) #[] #[pA (105+q) 0,pA 23 0,pA (106+q) 0]),(20,v2),(21,iN (8*57344+8*e0.1)),(22,.int .i64 (0)),(81,lv),(82,iN len),(83,iN i),(147,sC (107+q) 0 (k) (2*k)),(148,iN k),(149,iN ((i2+1))),(174,iN (s2.1)),(175,iN j)]) ?_ ?_
    ·simp +decide only [stk_r48,g0_53,g1_53,g5_53,g9_53,g11_53,g12_53,g13_53,g20_53,g21_53,g22_53,g81_53,g82_53,g83_53,g147_53,g148_53,g149_53,g174_53,g175_53,g176_53,w55_,Xo 8,go_sem]
    rintro t56_ _ ⟨rfl,g0_56,g1_56,g5_56,g9_56,g11_56,g12_56,g13_56,g20_56,g21_56,g22_56,g81_56,g82_56,g83_56,g147_56,g148_56,g149_56,g174_56,g175_56, -⟩
    have hs58_:=hs3.kept c hk_51
    exact ⟨_,by omega,rfl,i2+1,rfl,by omega,hs58_,g0_56,g1_56,g5_56,g9_56,g11_56,g12_56,g13_56,g81_56,g82_56,g83_56,g147_56,g148_56,g149_56⟩
 case neg =>
  refine WK.reg_g ?_
  have d4_:decide (((i2:Nat):Int)<((k:Nat):Int))=false:=decide_eq_false (by omega)
  refine WOG.all (fun t' H'=>H_l2=H'∧GT t' [(0,sv),(1,lv),(5,pA 23 0),(9,pA (105+q) 0),(11,pA (106+q) 0),(12,sC (107+q) 0 (k) (2*k)),(13,.func (.func 9) #[] #[pA (105+q) 0,pA 23 0,pA (106+q) 0]),(81,lv),(82,iN len),(83,iN i),(147,sC (107+q) 0 (k) (2*k)),(148,iN k),(149,iN i2),(150,.bool false)]) ?_ ?_
  ·simp +decide only [stk_r34,g0_l2,g1_l2,g5_l2,g9_l2,g11_l2,g12_l2,g13_l2,g81_l2,g82_l2,g83_l2,g147_l2,g148_l2,g149_l2,d4_,Xo 8,go_sem]
  rintro t5_ _ ⟨rfl,g0_5,g1_5,g5_5,g9_5,g11_5,g12_5,g13_5,g81_5,g82_5,g83_5,g147_5,g148_5,g149_5,g150_5, -⟩
  refine WK.seq ?_
  refine WK.cond (v:=false) (by rw [evalO_tmp,g150_5];rfl) ?_
  refine WK.exit ?_
  exact hK _ _ hs2 g0_5 g1_5 g5_5 g9_5 g11_5 g12_5 g13_5 g81_5 g82_5 g83_5
end
end Go.Proofs.RS
end
