/-
 A part of the proof that pliantlaw15.RtsStacks returns true and leaves its arguments alone. Conditions: those of the card in the last text.
-/
import Derived.Test.YtgdejggelcpokaaGreatDoorG12
import Derived.Test.YtgdejggelcpokaaGreatDoorG26
set_option linter.unusedSimpArgs false
set_option linter.unusedVariables false
set_option linter.unusedSectionVars false
noncomputable section
namespace Go.Proofs.RS
open Go Go.Ev Go.Proofs Go.Ar
section
attribute [local go_sem] Bc_f Bc_t GT Ro_some Rv_eq WOG WOX Yj Yk Yl Ym Yn Yo Yp Yq Yr and_self and_true binV_add binV_geq binV_gtr binV_leq binV_lss binV_mul binV_sub callV_func dec_F dec_T evalL evalM evalO_const evalO_func evalO_tmp exEq_int exFa_ptr exLen_str exPick_f exPick_t exUn_not if_false if_true no_bits ok_zero putT_none run true_and wantsV_U wantsV_ff wantsV_ft wantsV_tf wantsV_tt wants_none' wants_some
variable {sp:Nat→List Value→Hp→Option (Value×Hp×Nat×Nat)} {e:Env}
set_option maxRecDepth 10000 in
set_option maxHeartbeats 4000000 in
theorem fits_ok (S:SpX sp) {H:Hp} (hf:H.isFn=true) (he:e.n0≤H.nx) {at_ k:Nat} (h:at_+k≤524288):EC Tb0 sp e 113 [iN at_,iN k] H fun v H'=>v=.bool true∧H'=H:=by
 refine EC.i2 (by rfl) fits_some fits_comp (S.no 113 (by decide) _ _) (by show 2≤21;decide) fun t0 g0 g1=>?_
 show WK Tb0 sp e ⟨5,21,none,false⟩ fits_k t0 [] H _
 unfold fits_k
 refine WK.seq ?_
 refine WK.reg_g ?_
 refine WOG.all (fun t' H'=>H=H'∧GT t' [(0,iN at_),(1,iN k),(4,.bool false)]) ?_ ?_
 ·simp +decide only [fits_r0,g0,g1,Xo 5,go_sem]
 rintro t1_ _ ⟨rfl,g0_1,g1_1,g4_1, -⟩
 refine WK.seq ?_
 refine WK.reg_g ?_
 have d3_:decide (((at_:Nat):Int)<(0:Int))=false:=decide_eq_false (by omega)
 have d4_:decide (((k:Nat):Int)<(0:Int))=false:=decide_eq_false (by omega)
 have d5_:decide ((524288:Int)<((at_:Nat):Int))=false:=decide_eq_false (by omega)
 have w6_:Value.int .i64 (wrapF .i64 ((524288:Int)-((at_:Nat):Int)))=.int .i64 (((524288-at_):Nat):Int):=wF (by omega)
 have d7_:decide ((((524288-at_):Nat):Int)<((k:Nat):Int))=false:=decide_eq_false (by omega)
 refine WOG.all (fun t' H'=>H=H'∧t'.get 4=.bool true) ?_ ?_
 ·simp +decide only [fits_r1,g0_1,g1_1,g4_1,d3_,d4_,d5_,w6_,d7_,Xo 5,go_sem]
 rintro t8_ _ ⟨rfl,g4_8⟩
 refine WK.ret ⟨.inr rfl,rfl,[.bool true],0,?_,.zero _ _,rfl,rfl⟩
 show resL Tb0 21 t8_ _ [.tmp 4]=_
 simp only [resL,g4_8];rfl
set_option maxRecDepth 10000 in
set_option maxHeartbeats 4000000 in
theorem lcode_ok (S:SpX sp) {H:Hp} (hf:H.isFn=true) (he:e.n0≤H.nx) {p:Nat} (hp:p<65536):EC Tb0 sp e 90 [iN (8*p),.agg ⟨[.int .i64 (3),.int .i64 (1),.int .i64 (0),.bool false,vS []]⟩] H fun v H'=>v=vN 0∧Kept H H':=by
 refine EC.i2 (by rfl) lcode_some lcode_comp (S.no 90 (by decide) _ _) (by show 2≤18;decide) fun t0 g0 g1=>?_
 show WK Tb0 sp e ⟨5,18,none,false⟩ lcode_k t0 [] H _
 unfold lcode_k
 have k0_:Kept H H:=.refl hf
 refine WK.seq ?_
 refine WK.reg_g ?_
 obtain ⟨H1_,nb2_⟩:=newB hf [.int .i64 (3),.int .i64 (1),.int .i64 (0),.bool false,vS []] 40
 have m3_:exFill (cellsO (.agg ⟨[.int .i64 (3),.int .i64 (1),.int .i64 (0),.bool false,vS []]⟩)) (fun l=>alloc1 (blkL l 40 0) H ptrTo 0 0)=.val (.pointer (some ⟨H.nx,0,none⟩)) H1_ 0 0:=nb2_.al
 have hf4_:=nb2_.kept.fn
 have nx5_:H1_.nx=H.nx+1:=nb2_.nx
 have m6_:H.nx≤H1_.nx:=by omega
 have lt7_:=nb2_.row.lt
 have k8_:=k0_.trans nb2_.kept
 refine WOG.all (fun t' H'=>H1_=H'∧GT t' [(0,iN (8*p)),(3,pA H.nx 0),(4,.int .i64 (0))]) ?_ ?_
 ·simp +decide only [lcode_r0,g0,g1,m3_,m6_,Xo 5,go_sem]
 rintro t9_ _ ⟨rfl,g0_9,g3_9,g4_9, -⟩
 refine WK.seq ?_
 refine WK.seq ?_
 refine WK.reg_g ?_
 refine WOG.hide fun K0 hK0=>?_
 have m11_:exLdN 5 (pA H.nx 0) H1_=.val (.agg ⟨[.int .i64 (3),.int .i64 (1),.int .i64 (0),.bool false,vS []]⟩) H1_ (bit (H.nx)) 0:=exLdN_row nb2_.row (by show 0+5≤5;decide)
 have o12_:=okr (e:=e) nb2_.row (by omega)
 simp +decide only [lcode_r1,g0_9,g3_9,m11_,o12_,Xo 5,go_sem]
 refine EC.mono (cl_ok S (.sz)) fun v H13_ _ hv14_=>?_
 obtain ⟨rfl,hh15_⟩:=hv14_
 rw [hh15_];clear hh15_
 rw [WOGk]
 simp +decide only [lcode_r1,Xo 5,go_sem]
 refine EC.mono (fits_ok S hf4_ (by omega) (at_:=8*p) (k:=8) (by omega)) fun v H16_ _ hv17_=>?_
 obtain ⟨rfl,hh18_⟩:=hv17_
 rw [hh18_];clear hh18_
 rw [WOGk]
 refine WOG.all (fun t' H'=>H1_=H'∧GT t' [(0,iN (8*p)),(3,pA H.nx 0),(4,.int .i64 (0)),(9,.bool false)]) ?_ ?_
 ·simp +decide only [lcode_r1,g0_9,g3_9,g4_9,Xo 5,go_sem]
 rintro t19_ _ ⟨rfl,g0_19,g3_19,g4_19,g9_19, -⟩
 refine hK0 _ _ ?_
 refine WK.cond (v:=false) (by rw [evalO_tmp,g9_19];rfl) ?_
 refine WK.skip ?_
 refine WK.seq ?_
 refine WK.seq ?_
 refine WK.reg_g ?_
 have m21_:exLd1 (pA H.nx 0) H1_=.val (.int .i64 (3)) H1_ (bit (H.nx)) 0:=exLd1_row nb2_.row rfl
 have o22_:=okr (e:=e) nb2_.row (by omega)
 have d23_:decide ((3:Int)=(4:Int))=false:=decide_eq_false (by omega)
 have m24_:∀ Hq,R.o (binV .rem (iN (8*p)) (.int .i64 8)) Hq=.val (.int .i64 (0)) Hq 0 0:=fun Hq=>rem8 (by omega)
 have d25_:decide ((0:Int)=(0:Int))=true:=decide_eq_true (by omega)
 refine WOG.all (fun t' H'=>H1_=H'∧GT t' [(4,.int .i64 (0)),(17,.bool false)]) ?_ ?_
 ·simp +decide only [lcode_r3,g0_19,g3_19,g4_19,g9_19,m21_,o22_,d23_,m24_,d25_,Xo 5,go_sem]
 rintro t26_ _ ⟨rfl,g4_26,g17_26, -⟩
 refine WK.cond (v:=false) (by rw [evalO_tmp,g17_26];rfl) ?_
 refine WK.skip ?_
 refine WK.seq ?_
 refine WK.reg_g ?_
 refine WOG.all (fun t' H'=>H1_=H'∧t'.get 4=.int .i64 (0)) ?_ ?_
 ·simp +decide only [lcode_r5,g4_26,g17_26,Xo 5,go_sem]
 rintro t28_ _ ⟨rfl,g4_28⟩
 refine WK.ret ⟨.inr rfl,rfl,[.int .i64 (0)],0,?_,.zero _ _,rfl,k8_⟩
 show resL Tb0 18 t28_ _ [.tmp 4]=_
 simp only [resL,g4_28];rfl
set_option maxRecDepth 10000 in
set_option maxHeartbeats 4000000 in
theorem mget_ok (S:SpX sp) {H:Hp} (hf:H.isFn=true) (he:e.n0≤H.nx) {bm p:Nat} {fm:By} (hr:ByU H bm 171 fm 65536) (hp:p<65536) (hpm:bm<e.n0→e.Rd bm):EC Tb0 sp e 101 [pA bm 0,iN (8*p),.int .i64 (8)] H fun v H'=>v=vS (bitsOf (fm p))∧Kept H H':=by
 refine EC.i3 (by rfl) mget_some mget_comp (S.no 101 (by decide) _ _) (by show 3≤39;decide) fun t0 g0 g1 g2=>?_
 show WK Tb0 sp e ⟨6,39,none,false⟩ mget_k t0 [] H _
 unfold mget_k
 have lt1_:=hr.lt
 have k0_:Kept H H:=.refl hf
 refine WK.seq ?_
 refine WK.reg_g ?_
 refine WOG.all (fun t' H'=>H=H'∧GT t' [(0,pA bm 0),(1,iN (8*p)),(2,.int .i64 (8)),(6,.string ⟨#[]⟩)]) ?_ ?_
 ·simp +decide only [mget_r0,g0,g1,g2,Xo 6,go_sem]
 rintro t2_ _ ⟨rfl,g0_2,g1_2,g2_2,g6_2, -⟩
 refine WK.seq ?_
 refine WK.reg_g ?_
 obtain ⟨H4_,ns5_⟩:=newS hf (n:=8) (by omega)
 have m6_:exMkSl 5 1 [.int .u8 0] (.int .i64 (8)) (.int .i64 (8)) H=.val (.slice (some ⟨H.nx,0,none⟩) (8) (2*(8))) H4_ 0 0:=ns5_.made
 have hf7_:=ns5_.kept.fn
 have nx8_:H4_.nx=H.nx+1:=ns5_.nx
 have m9_:H.nx≤H4_.nx:=by omega
 have lt10_:=ns5_.row.lt
 have k11_:=k0_.trans ns5_.kept
 refine WOG.all (fun t' H'=>H4_=H'∧GT t' [(0,pA bm 0),(1,iN (8*p)),(6,.string ⟨#[]⟩),(7,sC H.nx 0 (8) (2*(8)))]) ?_ ?_
 ·simp +decide only [mget_r1,g0_2,g1_2,g2_2,g6_2,m6_,m9_,Xo 6,go_sem]
 rintro t12_ _ ⟨rfl,g0_12,g1_12,g6_12,g7_12, -⟩
 have r14_:ByU H4_ (H.nx) 5 (bitsP (fm p) 0) (8):=ByU.congr ns5_.row (fun i hi=>congrFun (bitsP_zero _) i)
 refine WK.seq ?_
 refine WK.seq ?_
 refine WK.reg_g ?_
 have m15_:∀ Hq,exLen 1 (sC H.nx 0 (8) (2*(8))) Hq=.val (vN ((8:Nat))) Hq 0 0:=fun _=>rfl
 refine WOG.all (fun t' H'=>H4_=H'∧GT t' [(0,pA bm 0),(1,iN (8*p)),(6,.string ⟨#[]⟩),(7,sC H.nx 0 (8) (2*(8))),(13,iN 8),(14,.int .i64 (0))]) ?_ ?_
 ·simp +decide only [mget_r2,g0_12,g1_12,g6_12,g7_12,m15_,Xo 6,go_sem]
 rintro t16_ _ ⟨rfl,g0_16,g1_16,g6_16,g7_16,g13_16,g14_16, -⟩
 refine WK.block (WK.loop_ind (fun m t' ds' H'=>ds'=[]∧∃ i:Nat,m=8-i∧i≤8∧Kept H H'∧ByU H' H.nx 5 (bitsP (fm p) i) 8∧t'.get 0=pA bm 0∧t'.get 1=iN (8*p)∧t'.get 7=sC H.nx 0 (8) (2*(8))∧t'.get 13=iN 8∧t'.get 14=iN i) ?_ _ t16_ [] H4_ ⟨rfl,0,rfl,by omega,k11_,r14_,g0_16,g1_16,g7_16,g13_16,g14_16⟩)
 rintro m_l18 t_l18 ds_ H_l18 ⟨rfl,i,rfl,hi8,hkl,hol,g0_l18,g1_l18,g7_l18,g13_l18,g14_l18⟩
 have hfl:=hkl.fn
 have nxl:=hkl.nx
 have r19_:=hr.mv ns5_.kept
 have hm_l:ByU H_l18 (bm) 171 fm (65536):=hr.of_blk (hkl.old _ hr.lt)
 have ltol:=hol.lt
 unfold mget_l8
 refine WK.seq ?_
 by_cases hlt:i<8
 case pos =>
  refine WK.reg_g ?_
  have d20_:decide (((i:Nat):Int)<((8:Nat):Int))=true:=decide_eq_true (by omega)
  refine WOG.all (fun t' H'=>H_l18=H'∧GT t' [(0,pA bm 0),(1,iN (8*p)),(7,sC H.nx 0 (8) (2*(8))),(13,iN 8),(14,iN i),(15,.bool true)]) ?_ ?_
  ·simp +decide only [mget_r3,g0_l18,g1_l18,g7_l18,g13_l18,g14_l18,d20_,Xo 6,go_sem]
  rintro t21_ _ ⟨rfl,g0_21,g1_21,g7_21,g13_21,g14_21,g15_21, -⟩
  refine WK.seq ?_
  refine WK.cond (v:=true) (by rw [evalO_tmp,g15_21];rfl) ?_
  refine WK.skip ?_
  refine WK.seq ?_
  refine WK.block ?_
  refine WK.seq ?_
  refine WK.reg_g ?_
  refine WOG.all (fun t' H'=>H_l18=H'∧GT t' [(0,pA bm 0),(1,iN (8*p)),(7,sC H.nx 0 (8) (2*(8))),(8,iN i),(13,iN 8),(14,iN i)]) ?_ ?_
  ·simp +decide only [mget_r4,g0_21,g1_21,g7_21,g13_21,g14_21,g15_21,Xo 6,go_sem]
  rintro t23_ _ ⟨rfl,g0_23,g1_23,g7_23,g8_23,g13_23,g14_23, -⟩
  refine WK.seq ?_
  refine WK.reg_g ?_
  have w25_:Value.int .i64 (wrapF .i64 (((8*p:Nat):Int)+((i:Nat):Int)))=.int .i64 ((((8*p)+i):Nat):Int):=wF (by omega)
  refine WOG.all (fun t' H'=>H_l18=H'∧GT t' [(0,pA bm 0),(1,iN (8*p)),(7,sC H.nx 0 (8) (2*(8))),(8,iN i),(9,iN (((8*p)+i))),(13,iN 8),(14,iN i)]) ?_ ?_
  ·simp +decide only [mget_r5,g0_23,g1_23,g7_23,g8_23,g13_23,g14_23,w25_,Xo 6,go_sem]
  rintro t26_ _ ⟨rfl,g0_26,g1_26,g7_26,g8_26,g9_26,g13_26,g14_26, -⟩
  refine WK.reg_g ?_
  have m28_:∀ Hq,R.o (binV .quo (iN (((8*p)+i))) (.int .i64 8)) Hq=.val (iN p) Hq 0 0:=fun Hq=>quo8 (by omega) (by omega) _
  have m29_:∀ Hq,exNil (pA bm 0) Hq=.val (pA bm 0) Hq 0 0:=fun _=>rfl
  have m30_:∀ Hq,exIaA 65536 1 (pA bm 0) (iN p) Hq=.val (pA bm p) Hq 0 0:=fun Hq=>by rw [exIaA_int (by omega) (by omega)];simp
  have m31_:exLd1 (pA bm p) H_l18=.val (uB (fm p)) H_l18 (bit (bm)) 0:=ByU.ld hm_l (by omega)
  have o32_:e.ok (bit (bm)) 0 H_l18:=.read hm_l.lt hpm
  have m33_:∀ Hq,R.o (binV .rem (iN (((8*p)+i))) (.int .i64 8)) Hq=.val (iN i) Hq 0 0:=fun Hq=>rem8q (by omega) _
  have w34_:Value.int .i64 (wrapF .i64 ((7:Int)-((i:Nat):Int)))=.int .i64 (((7-i):Nat):Int):=wF (by omega)
  have m35_:binV .shr (uB (fm p)) (iN ((7-i)))=some (nB ((fm p).toNat / 2 ^ (7-i))):=shr8u (by omega)
  have m36_:binV .and (nB ((fm p).toNat / 2 ^ (7-i))) (.int .u8 (1))=some (nB ((fm p).toNat / 2 ^ (7-i) % 2)):=and1 (Nat.lt_of_le_of_lt (Nat.div_le_self _ _) (fm p).toNat_lt)
  have m37_:binV .add (.int .u8 (48)) (nB ((fm p).toNat / 2 ^ (7-i) % 2))=some (uB (bitU (fm p) i)):=bit_add (fm p) i
  have m38_:∀ Hq,exIaS 1 (sC H.nx 0 (8) (2*(8))) (iN i) Hq=.val (pA H.nx i) Hq 0 0:=fun Hq=>by rw [exIaS_int (by omega) (by omega)];simp
  obtain ⟨H39_,e40_,wr41_⟩:=ByU.st (i:=i) (u:=bitU (fm p) i) hfl hol (by omega)
  have m42_:exSt 1 (pA H.nx i) (uB (bitU (fm p) i)) H_l18=.val U H39_ 0 (bit (H.nx)):=e40_
  have hf43_:=wr41_.fn
  have nx44_:H39_.nx=H_l18.nx:=wr41_.nx
  have m45_:H_l18.nx≤H39_.nx:=by omega
  have o46_:e.ok 0 (bit (H.nx)) H39_:=.write wr41_.row.lt (fun h=>absurd h (by omega))
  have k47_:Kept H H39_:=⟨wr41_.fn,by have:=hkl.nx;omega,fun c hc=>(wr41_.else_ c (by omega)).trans (hkl.old c hc)⟩
  refine WOG.all (fun t' H'=>H39_=H'∧GT t' [(0,pA bm 0),(1,iN (8*p)),(7,sC H.nx 0 (8) (2*(8))),(13,iN 8),(14,iN i)]) ?_ ?_
  ·simp +decide only [mget_r6,g0_26,g1_26,g7_26,g8_26,g9_26,g13_26,g14_26,m28_,m29_,m30_,m31_,o32_,m33_,w34_,m35_,m36_,m37_,m38_,m42_,m45_,o46_,Xo 6,go_sem]
  rintro t48_ _ ⟨rfl,g0_48,g1_48,g7_48,g13_48,g14_48, -⟩
  refine WK.reg_g ?_
  have w50_:Value.int .i64 (wrapF .i64 (((i:Nat):Int)+(1:Int)))=.int .i64 (((i+1):Nat):Int):=wF (by omega)
  refine WOG.all (fun t' H'=>H39_=H'∧GT t' [(0,pA bm 0),(1,iN (8*p)),(7,sC H.nx 0 (8) (2*(8))),(13,iN 8),(14,iN ((i+1)))]) ?_ ?_
  ·simp +decide only [mget_r7,g0_48,g1_48,g7_48,g13_48,g14_48,w50_,Xo 6,go_sem]
  rintro t51_ _ ⟨rfl,g0_51,g1_51,g7_51,g13_51,g14_51, -⟩
  have r53_:ByU H39_ (H.nx) 5 (bitsP (fm p) (i+1)) (8):=ByU.congr wr41_.row (fun j hj=>bitsP_next j)
  exact ⟨_,by omega,rfl,i+1,rfl,by omega,k47_,r53_,g0_51,g1_51,g7_51,g13_51,g14_51⟩
 case neg =>
  obtain rfl:i=8:=by omega
  refine WK.reg_g ?_
  have d20_:decide (((8:Nat):Int)<((8:Nat):Int))=false:=decide_eq_false (by omega)
  refine WOG.all (fun t' H'=>H_l18=H'∧GT t' [(0,pA bm 0),(1,iN (8*p)),(7,sC H.nx 0 (8) (2*(8))),(13,iN 8),(14,iN 8),(15,.bool false)]) ?_ ?_
  ·simp +decide only [mget_r3,g0_l18,g1_l18,g7_l18,g13_l18,g14_l18,d20_,Xo 6,go_sem]
  rintro t21_ _ ⟨rfl,g0_21,g1_21,g7_21,g13_21,g14_21,g15_21, -⟩
  refine WK.seq ?_
  refine WK.cond (v:=false) (by rw [evalO_tmp,g15_21];rfl) ?_
  refine WK.exit ?_
  refine WK.seq ?_
  refine WK.reg_g ?_
  have m23_:exToS (sC H.nx 0 (8) (2*(8))) H_l18=.val (vS (strF (bitsP (fm p) 8) (8))) H_l18 (bit (H.nx)) 0:=ByU.toS0 hol (by omega)
  have o24_:=okr (e:=e) hol (by omega)
  refine WOG.all (fun t' H'=>H_l18=H'∧GT t' [(0,pA bm 0),(1,iN (8*p)),(6,vS (strF (bitsP (fm p) 8) (8))),(7,sC H.nx 0 (8) (2*(8))),(13,iN 8),(14,iN 8)]) ?_ ?_
  ·simp +decide only [mget_r9,g0_21,g1_21,g7_21,g13_21,g14_21,g15_21,m23_,o24_,Xo 6,go_sem]
  rintro t25_ _ ⟨rfl,g0_25,g1_25,g6_25,g7_25,g13_25,g14_25, -⟩
  have g27_:t25_.get 6=vS (bitsOf (fm p)):=by rw [← bitsP_all];exact g6_25
  refine WK.ret ⟨.inr rfl,rfl,[vS (bitsOf (fm p))],0,?_,.zero _ _,rfl,hkl⟩
  show resL Tb0 39 t25_ _ [.tmp 6]=_
  simp only [resL,g27_];rfl
set_option maxRecDepth 10000 in
set_option maxHeartbeats 4000000 in
theorem mset_ok (S:SpX sp) {H:Hp} (hf:H.isFn=true) (he:e.n0≤H.nx) {u:UInt8} {bm p:Nat} {fm:By} (hr:ByU H bm 171 fm 65536) (hp:p<65536) (hpm:bm<e.n0→e.Wr bm) (hpr:bm<e.n0→e.Rd bm):EC Tb0 sp e 91 [pA bm 0,iN (8*p),vS (bitsOf u)] H fun v H'=>v=.tuple #[]∧OvB H bm 171 (over fm p 1 fun _=>u) 65536 H':=by
 refine EC.i3 (by rfl) mset_some mset_comp (S.no 91 (by decide) _ _) (by show 3≤49;decide) fun t0 g0 g1 g2=>?_
 show WK Tb0 sp e ⟨6,49,none,false⟩ mset_k t0 [] H _
 unfold mset_k
 have lt1_:=hr.lt
 refine WK.seq ?_
 refine WK.reg_g ?_
 have m2_:∀ Hq,exLen 0 (vS (bitsOf u)) Hq=.val (vN ((8:Nat))) Hq 0 0:=fun _=>len_bits _ _
 refine WOG.all (fun t' H'=>H=H'∧GT t' [(0,pA bm 0),(1,iN (8*p)),(2,vS (bitsOf u)),(10,iN 8),(11,.int .i64 (0))]) ?_ ?_
 ·simp +decide only [mset_r0,g0,g1,g2,m2_,Xo 6,go_sem]
 rintro t3_ _ ⟨rfl,g0_3,g1_3,g2_3,g10_3,g11_3, -⟩
 refine WK.block (WK.loop_ind (fun m t' ds' H'=>ds'=[]∧∃ i:Nat,m=8-i∧i≤8∧OvB H bm 171 (memF fm p (mixU (fm p).toNat u.toNat i)) 65536 H'∧t'.get 0=pA bm 0∧t'.get 1=iN (8*p)∧t'.get 2=vS (bitsOf u)∧t'.get 10=iN 8∧t'.get 11=iN i) ?_ _ t3_ [] H ⟨rfl,0,rfl,by omega,(OvB.refl hf hr).as (memF_zero _ _ _),g0_3,g1_3,g2_3,g10_3,g11_3⟩)
 rintro m_l5 t_l5 ds_ H_l5 ⟨rfl,i,rfl,hi8,hov,g0_l5,g1_l5,g2_l5,g10_l5,g11_l5⟩
 have hfl:=hov.fn
 have nxl:=hov.nx
 unfold mset_l9
 refine WK.seq ?_
 by_cases hlt:i<8
 case pos =>
  refine WK.reg_g ?_
  have d6_:decide (((i:Nat):Int)<((8:Nat):Int))=true:=decide_eq_true (by omega)
  refine WOG.all (fun t' H'=>H_l5=H'∧GT t' [(0,pA bm 0),(1,iN (8*p)),(2,vS (bitsOf u)),(10,iN 8),(11,iN i),(12,.bool true)]) ?_ ?_
  ·simp +decide only [mset_r1,g0_l5,g1_l5,g2_l5,g10_l5,g11_l5,d6_,Xo 6,go_sem]
  rintro t7_ _ ⟨rfl,g0_7,g1_7,g2_7,g10_7,g11_7,g12_7, -⟩
  refine WK.seq ?_
  refine WK.cond (v:=true) (by rw [evalO_tmp,g12_7];rfl) ?_
  refine WK.skip ?_
  refine WK.seq ?_
  refine WK.block ?_
  refine WK.seq ?_
  refine WK.reg_g ?_
  refine WOG.all (fun t' H'=>H_l5=H'∧GT t' [(0,pA bm 0),(1,iN (8*p)),(2,vS (bitsOf u)),(6,iN i),(10,iN 8),(11,iN i)]) ?_ ?_
  ·simp +decide only [mset_r2,g0_7,g1_7,g2_7,g10_7,g11_7,g12_7,Xo 6,go_sem]
  rintro t9_ _ ⟨rfl,g0_9,g1_9,g2_9,g6_9,g10_9,g11_9, -⟩
  refine WK.seq ?_
  refine WK.reg_g ?_
  have w11_:Value.int .i64 (wrapF .i64 (((8*p:Nat):Int)+((i:Nat):Int)))=.int .i64 ((((8*p)+i):Nat):Int):=wF (by omega)
  refine WOG.all (fun t' H'=>H_l5=H'∧GT t' [(0,pA bm 0),(1,iN (8*p)),(2,vS (bitsOf u)),(6,iN i),(7,iN (((8*p)+i))),(10,iN 8),(11,iN i)]) ?_ ?_
  ·simp +decide only [mset_r3,g0_9,g1_9,g2_9,g6_9,g10_9,g11_9,w11_,Xo 6,go_sem]
  rintro t12_ _ ⟨rfl,g0_12,g1_12,g2_12,g6_12,g7_12,g10_12,g11_12, -⟩
  refine WK.seq ?_
  refine WK.reg_g ?_
  have m14_:∀ Hq,R.o (binV .rem (iN (((8*p)+i))) (.int .i64 8)) Hq=.val (iN i) Hq 0 0:=fun Hq=>rem8q (by omega) _
  have m15_:binV .shr (.int .u8 (128)) (iN i)=some (nB (2 ^ (7-i))):=shr128 (by omega)
  refine WOG.all (fun t' H'=>H_l5=H'∧GT t' [(0,pA bm 0),(1,iN (8*p)),(2,vS (bitsOf u)),(6,iN i),(7,iN (((8*p)+i))),(8,nB (2 ^ (7-i))),(10,iN 8),(11,iN i)]) ?_ ?_
  ·simp +decide only [mset_r4,g0_12,g1_12,g2_12,g6_12,g7_12,g10_12,g11_12,m14_,m15_,Xo 6,go_sem]
  rintro t16_ _ ⟨rfl,g0_16,g1_16,g2_16,g6_16,g7_16,g8_16,g10_16,g11_16, -⟩
  refine WK.seq ?_
  by_cases hb:u.toNat / 2 ^ (7-i) % 2=1
  case pos =>
   refine WK.reg_g ?_
   have m18_:∀ Hq,exIxS (vS (bitsOf u)) (iN i) Hq=.val (uB (bitU u i)) Hq 0 0:=fun Hq=>ixS_bits (by omega) Hq
   have m19_:∀ Hq,exEq false (.one .i) (uB (bitU u i)) (.int .u8 (49)) Hq=.val (.bool true) Hq 0 0:=fun Hq=>eq49_t hb Hq
   refine WOG.all (fun t' H'=>H_l5=H'∧GT t' [(0,pA bm 0),(1,iN (8*p)),(2,vS (bitsOf u)),(7,iN (((8*p)+i))),(8,nB (2 ^ (7-i))),(10,iN 8),(11,iN i),(23,.bool true)]) ?_ ?_
   ·simp +decide only [mset_r5,g0_16,g1_16,g2_16,g6_16,g7_16,g8_16,g10_16,g11_16,m18_,m19_,Xo 6,go_sem]
   rintro t20_ _ ⟨rfl,g0_20,g1_20,g2_20,g7_20,g8_20,g10_20,g11_20,g23_20, -⟩
   refine WK.cond (v:=true) (by rw [evalO_tmp,g23_20];rfl) ?_
   refine WK.draw_xx (fun _=>False) [.p,.p,.p,.p,.p,.p,.q,.p,.p,.p,.p,.p,.x] (by omega) rfl ?_
   have m22_:∀ Hq,R.o (binV .quo (iN (((8*p)+i))) (.int .i64 8)) Hq=.val (iN p) Hq 0 0:=fun Hq=>quo8 (by omega) (by omega) _
   have m23_:∀ Hq,exNil (pA bm 0) Hq=.val (pA bm 0) Hq 0 0:=fun _=>rfl
   have m24_:∀ Hq,exIaA 65536 1 (pA bm 0) (iN p) Hq=.val (pA bm p) Hq 0 0:=fun Hq=>by rw [exIaA_int (by omega) (by omega)];simp
   have m25_:exLd1 (pA bm p) H_l5=.val (uB ((memF fm p (mixU (fm p).toNat u.toNat i)) p)) H_l5 (bit (bm)) 0:=ByU.ld hov.row (by omega)
   have o26_:e.ok (bit (bm)) 0 H_l5:=.read hov.row.lt hpr
   have o27_:∀ cq,(bit (bm)).testBit cq=true→cq<H_l5.nx:=the_bit (P:=fun cq=>cq<H_l5.nx) (by have:=hov.row.lt;omega)
   have m28_:binV .or (uB ((memF fm p (mixU (fm p).toNat u.toNat i)) p)) (nB (2 ^ (7-i)))=some (uB (UInt8.ofNat (mixU (fm p).toNat u.toNat (i+1)))):=mem_or (by omega) hb
   have m29_:∀ Hq,exNil (pA bm 0) Hq=.val (pA bm 0) Hq 0 0:=fun _=>rfl
   have m30_:∀ Hq,exIaA 65536 1 (pA bm 0) (iN p) Hq=.val (pA bm p) Hq 0 0:=fun Hq=>by rw [exIaA_int (by omega) (by omega)];simp
   obtain ⟨H31_,e32_,wr33_⟩:=ByU.st (i:=p) (u:=UInt8.ofNat (mixU (fm p).toNat u.toNat (i+1))) hfl hov.row (by omega)
   have m34_:exSt 1 (pA bm p) (uB (UInt8.ofNat (mixU (fm p).toNat u.toNat (i+1)))) H_l5=.val U H31_ 0 (bit (bm)):=e32_
   have hf35_:=wr33_.fn
   have nx36_:H31_.nx=H_l5.nx:=wr33_.nx
   have m37_:H_l5.nx≤H31_.nx:=by omega
   have o38_:e.ok 0 (bit (bm)) H31_:=.write wr33_.row.lt hpm
   refine WOX.all (fun t' H'=>H31_=H'∧GT t' [(0,pA bm 0),(1,iN (8*p)),(2,vS (bitsOf u)),(7,iN (((8*p)+i))),(8,nB (2 ^ (7-i))),(10,iN 8),(11,iN i)]) ?_ ?_
   ·simp +decide only [mset_r6,g0_20,g1_20,g2_20,g7_20,g8_20,g10_20,g11_20,g23_20,m22_,m23_,m24_,m25_,o26_,o27_,m28_,m29_,m30_,m34_,m37_,o38_,Xo 6,go_sem]
    all_goals ((repeat' apply And.intro) <;> assumption)
   rintro t39_ _ ⟨rfl,g0_39,g1_39,g2_39,g7_39,g8_39,g10_39,g11_39, -⟩
   refine WK.reg_g ?_
   have w41_:Value.int .i64 (wrapF .i64 (((i:Nat):Int)+(1:Int)))=.int .i64 (((i+1):Nat):Int):=wF (by omega)
   refine WOG.all (fun t' H'=>H31_=H'∧GT t' [(0,pA bm 0),(1,iN (8*p)),(2,vS (bitsOf u)),(7,iN (((8*p)+i))),(8,nB (2 ^ (7-i))),(10,iN 8),(11,iN ((i+1)))]) ?_ ?_
   ·simp +decide only [mset_r8,g0_39,g1_39,g2_39,g7_39,g8_39,g10_39,g11_39,w41_,Xo 6,go_sem]
   rintro t42_ _ ⟨rfl,g0_42,g1_42,g2_42,g7_42,g8_42,g10_42,g11_42, -⟩
   have hov2:OvB H bm 171 (memF fm p (mixU (fm p).toNat u.toNat (i+1))) 65536 H31_:=(hov.trans wr33_).as (funext fun j=>memF_over j)
   exact ⟨_,by omega,rfl,i+1,rfl,by omega,hov2,g0_42,g1_42,g2_42,g10_42,g11_42⟩
  case neg =>
   have hb:u.toNat / 2 ^ (7-i) % 2=0:=by omega
   refine WK.reg_g ?_
   have m18_:∀ Hq,exIxS (vS (bitsOf u)) (iN i) Hq=.val (uB (bitU u i)) Hq 0 0:=fun Hq=>ixS_bits (by omega) Hq
   have m19_:∀ Hq,exEq false (.one .i) (uB (bitU u i)) (.int .u8 (49)) Hq=.val (.bool false) Hq 0 0:=fun Hq=>eq49_f hb Hq
   refine WOG.all (fun t' H'=>H_l5=H'∧GT t' [(0,pA bm 0),(1,iN (8*p)),(2,vS (bitsOf u)),(7,iN (((8*p)+i))),(8,nB (2 ^ (7-i))),(10,iN 8),(11,iN i),(23,.bool false)]) ?_ ?_
   ·simp +decide only [mset_r5,g0_16,g1_16,g2_16,g6_16,g7_16,g8_16,g10_16,g11_16,m18_,m19_,Xo 6,go_sem]
   rintro t20_ _ ⟨rfl,g0_20,g1_20,g2_20,g7_20,g8_20,g10_20,g11_20,g23_20, -⟩
   refine WK.cond (v:=false) (by rw [evalO_tmp,g23_20];rfl) ?_
   refine WK.draw_xx (fun _=>False) [.p,.p,.p,.p,.p,.p,.q,.p,.p,.p,.p,.p,.x] (by omega) rfl ?_
   have m22_:∀ Hq,R.o (binV .quo (iN (((8*p)+i))) (.int .i64 8)) Hq=.val (iN p) Hq 0 0:=fun Hq=>quo8 (by omega) (by omega) _
   have m23_:∀ Hq,exNil (pA bm 0) Hq=.val (pA bm 0) Hq 0 0:=fun _=>rfl
   have m24_:∀ Hq,exIaA 65536 1 (pA bm 0) (iN p) Hq=.val (pA bm p) Hq 0 0:=fun Hq=>by rw [exIaA_int (by omega) (by omega)];simp
   have m25_:exLd1 (pA bm p) H_l5=.val (uB ((memF fm p (mixU (fm p).toNat u.toNat i)) p)) H_l5 (bit (bm)) 0:=ByU.ld hov.row (by omega)
   have o26_:e.ok (bit (bm)) 0 H_l5:=.read hov.row.lt hpr
   have o27_:∀ cq,(bit (bm)).testBit cq=true→cq<H_l5.nx:=the_bit (P:=fun cq=>cq<H_l5.nx) (by have:=hov.row.lt;omega)
   have m28_:binV .andNot (uB ((memF fm p (mixU (fm p).toNat u.toNat i)) p)) (nB (2 ^ (7-i)))=some (uB (UInt8.ofNat (mixU (fm p).toNat u.toNat (i+1)))):=mem_and (by omega) hb
   have m29_:∀ Hq,exNil (pA bm 0) Hq=.val (pA bm 0) Hq 0 0:=fun _=>rfl
   have m30_:∀ Hq,exIaA 65536 1 (pA bm 0) (iN p) Hq=.val (pA bm p) Hq 0 0:=fun Hq=>by rw [exIaA_int (by omega) (by omega)];simp
   obtain ⟨H31_,e32_,wr33_⟩:=ByU.st (i:=p) (u:=UInt8.ofNat (mixU (fm p).toNat u.toNat (i+1))) hfl hov.row (by omega)
   have m34_:exSt 1 (pA bm p) (uB (UInt8.ofNat (mixU (fm p).toNat u.toNat (i+1)))) H_l5=.val U H31_ 0 (bit (bm)):=e32_
   have hf35_:=wr33_.fn
   have nx36_:H31_.nx=H_l5.nx:=wr33_.nx
   have m37_:H_l5.nx≤H31_.nx:=by omega
   have o38_:e.ok 0 (bit (bm)) H31_:=.write wr33_.row.lt hpm
   refine WOX.all (fun t' H'=>H31_=H'∧GT t' [(0,pA bm 0),(1,iN (8*p)),(2,vS (bitsOf u)),(7,iN (((8*p)+i))),(8,nB (2 ^ (7-i))),(10,iN 8),(11,iN i)]) ?_ ?_
   ·simp +decide only [mset_r7,g0_20,g1_20,g2_20,g7_20,g8_20,g10_20,g11_20,g23_20,m22_,m23_,m24_,m25_,o26_,o27_,m28_,m29_,m30_,m34_,m37_,o38_,Xo 6,go_sem]
    all_goals ((repeat' apply And.intro) <;> assumption)
   rintro t39_ _ ⟨rfl,g0_39,g1_39,g2_39,g7_39,g8_39,g10_39,g11_39, -⟩
   refine WK.reg_g ?_
   have w41_:Value.int .i64 (wrapF .i64 (((i:Nat):Int)+(1:Int)))=.int .i64 (((i+1):Nat):Int):=wF (by omega)
   refine WOG.all (fun t' H'=>H31_=H'∧GT t' [(0,pA bm 0),(1,iN (8*p)),(2,vS (bitsOf u)),(7,iN (((8*p)+i))),(8,nB (2 ^ (7-i))),(10,iN 8),(11,iN ((i+1)))]) ?_ ?_
   ·simp +decide only [mset_r8,g0_39,g1_39,g2_39,g7_39,g8_39,g10_39,g11_39,w41_,Xo 6,go_sem]
   rintro t42_ _ ⟨rfl,g0_42,g1_42,g2_42,g7_42,g8_42,g10_42,g11_42, -⟩
   have hov2:OvB H bm 171 (memF fm p (mixU (fm p).toNat u.toNat (i+1))) 65536 H31_:=(hov.trans wr33_).as (funext fun j=>memF_over j)
   exact ⟨_,by omega,rfl,i+1,rfl,by omega,hov2,g0_42,g1_42,g2_42,g10_42,g11_42⟩
 case neg =>
  have hi8e:i=8:=by omega
  refine WK.reg_g ?_
  have d6_:decide (((i:Nat):Int)<((8:Nat):Int))=false:=decide_eq_false (by omega)
  refine WOG.all (fun t' H'=>H_l5=H'∧GT t' [(0,pA bm 0),(1,iN (8*p)),(2,vS (bitsOf u)),(10,iN 8),(11,iN i),(12,.bool false)]) ?_ ?_
  ·simp +decide only [mset_r1,g0_l5,g1_l5,g2_l5,g10_l5,g11_l5,d6_,Xo 6,go_sem]
  rintro t7_ _ ⟨rfl,g0_7,g1_7,g2_7,g10_7,g11_7,g12_7, -⟩
  refine WK.seq ?_
  refine WK.cond (v:=false) (by rw [evalO_tmp,g12_7];rfl) ?_
  refine WK.exit ?_
  exact ⟨.inl rfl,rfl,[],0,rfl,.zero _ _,rfl,hov.as (by rw [hi8e];exact memF_all _ _ _)⟩
set_option maxRecDepth 10000 in
set_option maxHeartbeats 4000000 in
theorem mload_ok (S:SpX sp) {H:Hp} (hf:H.isFn=true) (he:e.n0≤H.nx) {bm p:Nat} {fm:By} (hr:ByU H bm 171 fm 65536) (hp:p<65536) (hpm:bm<e.n0→e.Rd bm):EC Tb0 sp e 52 [pA bm 0,iN (8*p),.agg ⟨[.int .i64 (3),.int .i64 (1),.int .i64 (0),.bool false,vS []]⟩] H fun v H'=>v=.tuple #[valV [fm p],vN 0]∧Kept H H':=by
 refine EC.i3 (by rfl) mload_some mload_comp (S.no 52 (by decide) _ _) (by show 3≤39;decide) fun t0 g0 g1 g2=>?_
 show WK Tb0 sp e ⟨6,39,none,false⟩ mload_k t0 [] H _
 unfold mload_k
 have lt1_:=hr.lt
 have k0_:Kept H H:=.refl hf
 refine WK.seq ?_
 refine WK.reg_g ?_
 obtain ⟨H2_,nb3_⟩:=newB hf [.int .i64 (3),.int .i64 (1),.int .i64 (0),.bool false,vS []] 40
 have m4_:exFill (cellsO (.agg ⟨[.int .i64 (3),.int .i64 (1),.int .i64 (0),.bool false,vS []]⟩)) (fun l=>alloc1 (blkL l 40 0) H ptrTo 0 0)=.val (.pointer (some ⟨H.nx,0,none⟩)) H2_ 0 0:=nb3_.al
 have hf5_:=nb3_.kept.fn
 have nx6_:H2_.nx=H.nx+1:=nb3_.nx
 have m7_:H.nx≤H2_.nx:=by omega
 have lt8_:=nb3_.row.lt
 have k9_:=k0_.trans nb3_.kept
 obtain ⟨H10_,nb11_⟩:=newB hf5_ [.int .i64 (0),.string ⟨#[]⟩] 47
 have m12_:alloc1 (blkL [.int .i64 (0),.string ⟨#[]⟩] 47 0) H2_ ptrTo 0 0=.val (.pointer (some ⟨H2_.nx,0,none⟩)) H10_ 0 0:=nb11_.al
 have hf13_:=nb11_.kept.fn
 have nx14_:H10_.nx=H2_.nx+1:=nb11_.nx
 have m15_:H2_.nx≤H10_.nx:=by omega
 have lt16_:=nb11_.row.lt
 have k17_:=k9_.trans nb11_.kept
 refine WOG.all (fun t' H'=>H10_=H'∧GT t' [(0,pA bm 0),(1,iN (8*p)),(5,pA H.nx 0),(6,pA H2_.nx 0),(7,.int .i64 (0))]) ?_ ?_
 ·simp +decide only [mload_r0,g0,g1,g2,m4_,m7_,m12_,m15_,Xo 6,go_sem]
 rintro t18_ _ ⟨rfl,g0_18,g1_18,g5_18,g6_18,g7_18, -⟩
 refine WK.seq ?_
 refine WK.seq ?_
 refine WK.reg_g ?_
 have m20_:∀ Hq,exEq false (.one .p) (pA bm 0) (.pointer none) Hq=.val (.bool false) Hq 0 0:=fun Hq=>rfl
 refine WOG.all (fun t' H'=>H10_=H'∧GT t' [(0,pA bm 0),(1,iN (8*p)),(5,pA H.nx 0),(6,pA H2_.nx 0),(7,.int .i64 (0)),(12,.bool false)]) ?_ ?_
 ·simp +decide only [mload_r1,g0_18,g1_18,g5_18,g6_18,g7_18,m20_,Xo 6,go_sem]
 rintro t21_ _ ⟨rfl,g0_21,g1_21,g5_21,g6_21,g7_21,g12_21, -⟩
 refine WK.cond (v:=false) (by rw [evalO_tmp,g12_21];rfl) ?_
 refine WK.skip ?_
 refine WK.seq ?_
 refine WK.seq ?_
 refine WK.reg_g ?_
 refine WOG.hide fun K0 hK0=>?_
 have r23_:=nb3_.row.mv nb11_.kept
 have m24_:exLdN 5 (pA H.nx 0) H10_=.val (.agg ⟨[.int .i64 (3),.int .i64 (1),.int .i64 (0),.bool false,vS []]⟩) H10_ (bit (H.nx)) 0:=exLdN_row r23_ (by show 0+5≤5;decide)
 have o25_:=okr (e:=e) r23_ (by omega)
 simp +decide only [mload_r3,g5_21,m24_,o25_,Xo 6,go_sem]
 refine EC.mono (cl_ok S (.sc)) fun v H26_ _ hv27_=>?_
 obtain ⟨rfl,hh28_⟩:=hv27_
 rw [hh28_];clear hh28_
 rw [WOGk]
 refine WOG.all (fun t' H'=>H10_=H'∧GT t' [(0,pA bm 0),(1,iN (8*p)),(5,pA H.nx 0),(6,pA H2_.nx 0),(7,.int .i64 (0)),(16,.bool false)]) ?_ ?_
 ·simp +decide only [mload_r3,g0_21,g1_21,g5_21,g6_21,g7_21,g12_21,Xo 6,go_sem]
 rintro t29_ _ ⟨rfl,g0_29,g1_29,g5_29,g6_29,g7_29,g16_29, -⟩
 refine hK0 _ _ ?_
 refine WK.cond (v:=false) (by rw [evalO_tmp,g16_29];rfl) ?_
 refine WK.skip ?_
 refine WK.seq ?_
 refine WK.seq ?_
 refine WK.reg_g ?_
 refine WOG.hide fun K0 hK0=>?_
 have m31_:exLdN 5 (pA H.nx 0) H10_=.val (.agg ⟨[.int .i64 (3),.int .i64 (1),.int .i64 (0),.bool false,vS []]⟩) H10_ (bit (H.nx)) 0:=exLdN_row r23_ (by show 0+5≤5;decide)
 have o32_:=okr (e:=e) r23_ (by omega)
 simp +decide only [mload_r5,g1_29,g5_29,m31_,o32_,Xo 6,go_sem]
 refine EC.mono (lcode_ok S hf13_ (by omega) (p:=p) hp) fun v H33_ _ hv34_=>?_
 obtain ⟨rfl,hk35_⟩:=hv34_
 have hf36_:=hk35_.fn
 have nx37_:=hk35_.nx
 have k38_:=k17_.trans hk35_
 rw [WOGk]
 refine WOG.all (fun t' H'=>H33_=H'∧GT t' [(0,pA bm 0),(1,iN (8*p)),(5,pA H.nx 0),(6,pA H2_.nx 0),(7,.int .i64 (0)),(8,.int .i64 (0))]) ?_ ?_
 ·simp +decide only [mload_r5,g0_29,g1_29,g5_29,g6_29,g7_29,g16_29,Xo 6,go_sem]
 rintro t39_ _ ⟨rfl,g0_39,g1_39,g5_39,g6_39,g7_39,g8_39, -⟩
 refine hK0 _ _ ?_
 refine WK.seq ?_
 refine WK.reg_g ?_
 have d41_:decide ((0:Int)=(0:Int))=true:=decide_eq_true (by omega)
 refine WOG.all (fun t' H'=>H33_=H'∧GT t' [(0,pA bm 0),(1,iN (8*p)),(5,pA H.nx 0),(6,pA H2_.nx 0),(7,.int .i64 (0)),(8,.int .i64 (0)),(22,.bool false)]) ?_ ?_
 ·simp +decide only [mload_r6,g0_39,g1_39,g5_39,g6_39,g7_39,g8_39,d41_,Xo 6,go_sem]
 rintro t42_ _ ⟨rfl,g0_42,g1_42,g5_42,g6_42,g7_42,g8_42,g22_42, -⟩
 refine WK.cond (v:=false) (by rw [evalO_tmp,g22_42];rfl) ?_
 refine WK.skip ?_
 refine WK.seq ?_
 refine WK.draw_xx (fun _=>False) [.q,.p,.p,.q,.q,.q,.q,.p,.p,.p,.q,.l,.p] (by omega) rfl ?_
 refine WOX.hide fun K0 hK0=>?_
 have r44_:=r23_.mv hk35_
 have m45_:exLdN 5 (pA H.nx 0) H33_=.val (.agg ⟨[.int .i64 (3),.int .i64 (1),.int .i64 (0),.bool false,vS []]⟩) H33_ (bit (H.nx)) 0:=exLdN_row r44_ (by show 0+5≤5;decide)
 have o46_:=okr (e:=e) r44_ (by omega)
 have o47_:∀ cq,(bit (H.nx)).testBit cq=true→cq<H33_.nx:=the_bit (P:=fun cq=>cq<H33_.nx) (by have:=r23_.lt;omega)
 have m48_:exLdN 5 (pA H.nx 0) H33_=.val (.agg ⟨[.int .i64 (3),.int .i64 (1),.int .i64 (0),.bool false,vS []]⟩) H33_ (bit (H.nx)) 0:=exLdN_row r44_ (by show 0+5≤5;decide)
 simp +decide only [mload_r8,g0_42,g1_42,g5_42,m45_,o46_,o47_,m48_,o46_,o47_,Xo 6,go_sem]
 repeat (refine And.intro (by assumption) ?_)
 refine EC.mono (cl_ok S (.sz)) fun v H49_ _ hv50_=>?_
 obtain ⟨rfl,hh51_⟩:=hv50_
 rw [hh51_];clear hh51_
 rw [WOXk]
 have r52_:=((hr.mv nb3_.kept).mv nb11_.kept).mv hk35_
 simp +decide only [mload_r8,Xo 6,go_sem]
 repeat (refine And.intro (by assumption) ?_)
 refine EC.mono (mget_ok S hf36_ (Nat.le_refl _) (p:=p) r52_ hp (show bm<(e.sub H33_.nx H33_.nx).n0→(e.sub H33_.nx H33_.nx).Rd (bm) from fun _=>⟨by have:=hr.lt;omega,hpm⟩)) fun v H53_ _ hv54_=>?_
 obtain ⟨rfl,hk55_⟩:=hv54_
 have hf56_:=hk55_.fn
 have nx57_:=hk55_.nx
 have k58_:=k38_.trans hk55_
 rw [WOXk]
 simp +decide only [mload_r8,Xo 6,go_sem]
 repeat (refine And.intro (by assumption) ?_)
 refine EC.mono (cl_ok S (.de (fm p))) fun v H59_ _ hv60_=>?_
 obtain ⟨rfl,hh61_⟩:=hv60_
 rw [hh61_];clear hh61_
 rw [WOXk]
 have m62_:∀ Hq,exExt (.tuple #[.agg ⟨[.int .i64 (0),vS [fm p]]⟩,.int .i64 (0)]) 0 Hq=.val (.agg ⟨[.int .i64 (0),vS [fm p]]⟩) Hq 0 0:=fun _=>rfl
 have m63_:∀ Hq,exExt (.tuple #[.agg ⟨[.int .i64 (0),vS [fm p]]⟩,.int .i64 (0)]) 1 Hq=.val (.int .i64 (0)) Hq 0 0:=fun _=>rfl
 obtain ⟨H64_,nb65_⟩:=newB hf56_ [.int .i64 (0),.string ⟨#[]⟩] 47
 have m66_:alloc1 (blkL [.int .i64 (0),.string ⟨#[]⟩] 47 0) H53_ ptrTo 0 0=.val (.pointer (some ⟨H53_.nx,0,none⟩)) H64_ 0 0:=nb65_.al
 have hf67_:=nb65_.kept.fn
 have nx68_:H64_.nx=H53_.nx+1:=nb65_.nx
 have m69_:H53_.nx≤H64_.nx:=by omega
 have lt70_:=nb65_.row.lt
 have k71_:=k58_.trans nb65_.kept
 obtain ⟨H72_,e73_,wr74_⟩:=exStN_at (o:=0) (vs:=[.int .i64 (0),vS [fm p]]) hf67_ nb65_.row (by show 0+2≤2;decide)
 have m75_:exSt 2 (pA H53_.nx 0) (.agg ⟨[.int .i64 (0),vS [fm p]]⟩) H64_=.val U H72_ 0 (bit (H53_.nx)):=e73_
 have hf76_:=wr74_.fn
 have nx77_:H72_.nx=H64_.nx:=wr74_.nx
 have m78_:H64_.nx≤H72_.nx:=by omega
 have r79_:Row H72_ (H53_.nx) 47 0 [.int .i64 (0),vS [fm p]]:=wr74_.row
 have o80_:e.ok 0 (bit (H53_.nx)) H72_:=.write r79_.lt (fun h=>absurd h (by omega))
 have o81_:∀ cq,(bit (H53_.nx)).testBit cq=true→H33_.nx≤cq:=the_bit (P:=fun cq=>H33_.nx≤cq) (by omega)
 have k82_:Kept H H72_:=⟨wr74_.fn,by have:=k71_.nx;omega,fun c hc=>(wr74_.else_ c (by omega)).trans (k71_.old c hc)⟩
 refine WOX.all (fun t' H'=>H72_=H'∧GT t' [(6,pA H2_.nx 0),(7,.int .i64 (0)),(8,.int .i64 (0)),(9,pA H53_.nx 0),(10,.int .i64 (0))]) ?_ ?_
 ·simp +decide only [mload_r8,g0_42,g1_42,g5_42,g6_42,g7_42,g8_42,g22_42,m62_,m63_,m66_,m69_,m75_,m78_,o80_,o81_,Xo 6,go_sem]
  all_goals ((repeat' apply And.intro) <;> assumption)
 rintro t83_ _ ⟨rfl,g6_83,g7_83,g8_83,g9_83,g10_83, -⟩
 refine hK0 _ _ ?_
 refine WK.seq ?_
 refine WK.seq ?_
 refine WK.reg_g ?_
 have d85_:decide ((0:Int)=(0:Int))=true:=decide_eq_true (by omega)
 refine WOG.all (fun t' H'=>H72_=H'∧GT t' [(6,pA H2_.nx 0),(7,.int .i64 (0)),(8,.int .i64 (0)),(9,pA H53_.nx 0),(36,.bool false)]) ?_ ?_
 ·simp +decide only [mload_r9,g6_83,g7_83,g8_83,g9_83,g10_83,d85_,Xo 6,go_sem]
 rintro t86_ _ ⟨rfl,g6_86,g7_86,g8_86,g9_86,g36_86, -⟩
 refine WK.cond (v:=false) (by rw [evalO_tmp,g36_86];rfl) ?_
 refine WK.skip ?_
 refine WK.seq ?_
 refine WK.reg_g ?_
 have m88_:exLdN 2 (pA H53_.nx 0) H72_=.val (.agg ⟨[.int .i64 (0),vS [fm p]]⟩) H72_ (bit (H53_.nx)) 0:=exLdN_row r79_ (by show 0+2≤2;decide)
 have o89_:=okr (e:=e) r79_ (by omega)
 have r90_:=(((nb11_.row.mv hk35_).mv hk55_).mv nb65_.kept).ot wr74_.else_ (by omega)
 obtain ⟨H91_,e92_,wr93_⟩:=exStN_at (o:=0) (vs:=[.int .i64 (0),vS [fm p]]) hf76_ r90_ (by show 0+2≤2;decide)
 have m94_:exSt 2 (pA H2_.nx 0) (.agg ⟨[.int .i64 (0),vS [fm p]]⟩) H72_=.val U H91_ 0 (bit (H2_.nx)):=e92_
 have hf95_:=wr93_.fn
 have nx96_:H91_.nx=H72_.nx:=wr93_.nx
 have m97_:H72_.nx≤H91_.nx:=by omega
 have r98_:Row H91_ (H2_.nx) 47 0 [.int .i64 (0),vS [fm p]]:=wr93_.row
 have o99_:e.ok 0 (bit (H2_.nx)) H91_:=.write r98_.lt (fun h=>absurd h (by omega))
 have k100_:Kept H H91_:=⟨wr93_.fn,by have:=k82_.nx;omega,fun c hc=>(wr93_.else_ c (by omega)).trans (k82_.old c hc)⟩
 refine WOG.all (fun t' H'=>H91_=H'∧GT t' [(6,pA H2_.nx 0),(7,.int .i64 (0)),(8,.int .i64 (0))]) ?_ ?_
 ·simp +decide only [mload_r11,g6_86,g7_86,g8_86,g9_86,g36_86,m88_,o89_,m94_,m97_,o99_,Xo 6,go_sem]
 rintro t101_ _ ⟨rfl,g6_101,g7_101,g8_101, -⟩
 have rd104_:rdN H91_ (H2_.nx) 0 2=some [.int .i64 (0),vS [fm p]]:=rdN_row (o:=0) (k:=2) r98_ (by show 0+2≤2;decide)
 have rs103_:resL Tb0 39 t101_ H91_ [.cell 6 47,.tmp 7]=some ([.agg ⟨[.int .i64 (0),vS [fm p]]⟩,.int .i64 (0)],Nat.lor (bit (H2_.nx)) (0)):=(resL_cellA rfl g6_101 rd104_ (resL_tmp rfl g7_101 resL_nil))
 refine WK.ret ⟨.inr rfl,rfl,_,_,rs103_,(ok_lorR (.read r98_.lt (fun h=>absurd h (by omega))) (.zero _ _)),rfl,k100_⟩
set_option maxRecDepth 10000 in
set_option maxHeartbeats 4000000 in
theorem mstore_ok (S:SpX sp) {H:Hp} (hf:H.isFn=true) (he:e.n0≤H.nx) {u:UInt8} {bm p:Nat} {fm:By} (hr:ByU H bm 171 fm 65536) (hp:p<65536) (hpm:bm<e.n0→e.Wr bm) (hpr:bm<e.n0→e.Rd bm):EC Tb0 sp e 45 [pA bm 0,iN (8*p),.agg ⟨[.int .i64 (3),.int .i64 (1),.int .i64 (0),.bool false,vS []]⟩,.agg ⟨[.int .i64 (0),vS [u]]⟩] H fun v H'=>v=vN 0∧OvK H bm 171 (over fm p 1 fun _=>u) 65536 H':=by
 refine EC.i4 (by rfl) mstore_some mstore_comp (S.no 45 (by decide) _ _) (by show 4≤33;decide) fun t0 g0 g1 g2 g3=>?_
 show WK Tb0 sp e ⟨6,33,none,false⟩ mstore_k t0 [] H _
 unfold mstore_k
 have lt1_:=hr.lt
 have hlb:=hr.lt
 have q0:=OvK.refl hf hr
 refine WK.seq ?_
 refine WK.reg_g ?_
 obtain ⟨H2_,nb3_⟩:=newB hf [.int .i64 (3),.int .i64 (1),.int .i64 (0),.bool false,vS []] 40
 have m4_:exFill (cellsO (.agg ⟨[.int .i64 (3),.int .i64 (1),.int .i64 (0),.bool false,vS []]⟩)) (fun l=>alloc1 (blkL l 40 0) H ptrTo 0 0)=.val (.pointer (some ⟨H.nx,0,none⟩)) H2_ 0 0:=nb3_.al
 have hf5_:=nb3_.kept.fn
 have nx6_:H2_.nx=H.nx+1:=nb3_.nx
 have m7_:H.nx≤H2_.nx:=by omega
 have lt8_:=nb3_.row.lt
 have q9_:=q0.kept hlb nb3_.kept
 obtain ⟨H10_,nb11_⟩:=newB hf5_ [.int .i64 (0),vS [u]] 47
 have m12_:exFill (cellsO (.agg ⟨[.int .i64 (0),vS [u]]⟩)) (fun l=>alloc1 (blkL l 47 0) H2_ ptrTo 0 0)=.val (.pointer (some ⟨H2_.nx,0,none⟩)) H10_ 0 0:=nb11_.al
 have hf13_:=nb11_.kept.fn
 have nx14_:H10_.nx=H2_.nx+1:=nb11_.nx
 have m15_:H2_.nx≤H10_.nx:=by omega
 have lt16_:=nb11_.row.lt
 have q17_:=q9_.kept hlb nb11_.kept
 refine WOG.all (fun t' H'=>H10_=H'∧GT t' [(0,pA bm 0),(1,iN (8*p)),(6,pA H.nx 0),(7,pA H2_.nx 0),(8,.int .i64 (0))]) ?_ ?_
 ·simp +decide only [mstore_r0,g0,g1,g2,g3,m4_,m7_,m12_,m15_,Xo 6,go_sem]
 rintro t18_ _ ⟨rfl,g0_18,g1_18,g6_18,g7_18,g8_18, -⟩
 refine WK.seq ?_
 refine WK.seq ?_
 refine WK.reg_g ?_
 have m20_:∀ Hq,exEq false (.one .p) (pA bm 0) (.pointer none) Hq=.val (.bool false) Hq 0 0:=fun Hq=>rfl
 refine WOG.all (fun t' H'=>H10_=H'∧GT t' [(0,pA bm 0),(1,iN (8*p)),(6,pA H.nx 0),(7,pA H2_.nx 0),(8,.int .i64 (0)),(13,.bool false)]) ?_ ?_
 ·simp +decide only [mstore_r1,g0_18,g1_18,g6_18,g7_18,g8_18,m20_,Xo 6,go_sem]
 rintro t21_ _ ⟨rfl,g0_21,g1_21,g6_21,g7_21,g8_21,g13_21, -⟩
 refine WK.cond (v:=false) (by rw [evalO_tmp,g13_21];rfl) ?_
 refine WK.skip ?_
 refine WK.seq ?_
 refine WK.reg_g ?_
 refine WOG.hide fun K0 hK0=>?_
 have r23_:=nb3_.row.mv nb11_.kept
 have m24_:exLdN 5 (pA H.nx 0) H10_=.val (.agg ⟨[.int .i64 (3),.int .i64 (1),.int .i64 (0),.bool false,vS []]⟩) H10_ (bit (H.nx)) 0:=exLdN_row r23_ (by show 0+5≤5;decide)
 have o25_:=okr (e:=e) r23_ (by omega)
 have m26_:exLdN 2 (pA H2_.nx 0) H10_=.val (.agg ⟨[.int .i64 (0),vS [u]]⟩) H10_ (bit (H2_.nx)) 0:=exLdN_row nb11_.row (by show 0+2≤2;decide)
 have o27_:=okr (e:=e) nb11_.row (by omega)
 simp +decide only [mstore_r3,g6_21,g7_21,m24_,o25_,m26_,o27_,Xo 6,go_sem]
 refine EC.mono (cl_ok S (.en u)) fun v H28_ _ hv29_=>?_
 obtain ⟨rfl,hh30_⟩:=hv29_
 rw [hh30_];clear hh30_
 rw [WOGk]
 have m31_:∀ Hq,exExt (.tuple #[vS (bitsOf u),.int .i64 (0)]) 0 Hq=.val (vS (bitsOf u)) Hq 0 0:=fun _=>rfl
 have m32_:∀ Hq,exExt (.tuple #[vS (bitsOf u),.int .i64 (0)]) 1 Hq=.val (.int .i64 (0)) Hq 0 0:=fun _=>rfl
 refine WOG.all (fun t' H'=>H10_=H'∧GT t' [(0,pA bm 0),(1,iN (8*p)),(6,pA H.nx 0),(8,.int .i64 (0)),(9,vS (bitsOf u)),(10,.int .i64 (0))]) ?_ ?_
 ·simp +decide only [mstore_r3,g0_21,g1_21,g6_21,g7_21,g8_21,g13_21,m31_,m32_,Xo 6,go_sem]
 rintro t33_ _ ⟨rfl,g0_33,g1_33,g6_33,g8_33,g9_33,g10_33, -⟩
 refine hK0 _ _ ?_
 refine WK.seq ?_
 refine WK.seq ?_
 refine WK.reg_g ?_
 have d35_:decide ((0:Int)=(0:Int))=true:=decide_eq_true (by omega)
 refine WOG.all (fun t' H'=>H10_=H'∧GT t' [(0,pA bm 0),(1,iN (8*p)),(6,pA H.nx 0),(8,.int .i64 (0)),(9,vS (bitsOf u)),(22,.bool false)]) ?_ ?_
 ·simp +decide only [mstore_r4,g0_33,g1_33,g6_33,g8_33,g9_33,g10_33,d35_,Xo 6,go_sem]
 rintro t36_ _ ⟨rfl,g0_36,g1_36,g6_36,g8_36,g9_36,g22_36, -⟩
 refine WK.cond (v:=false) (by rw [evalO_tmp,g22_36];rfl) ?_
 refine WK.skip ?_
 refine WK.seq ?_
 refine WK.seq ?_
 refine WK.reg_g ?_
 refine WOG.hide fun K0 hK0=>?_
 have m38_:exLdN 5 (pA H.nx 0) H10_=.val (.agg ⟨[.int .i64 (3),.int .i64 (1),.int .i64 (0),.bool false,vS []]⟩) H10_ (bit (H.nx)) 0:=exLdN_row r23_ (by show 0+5≤5;decide)
 have o39_:=okr (e:=e) r23_ (by omega)
 simp +decide only [mstore_r6,g1_36,g6_36,m38_,o39_,Xo 6,go_sem]
 refine EC.mono (lcode_ok S hf13_ (by omega) (p:=p) hp) fun v H40_ _ hv41_=>?_
 obtain ⟨rfl,hk42_⟩:=hv41_
 have hf43_:=hk42_.fn
 have nx44_:=hk42_.nx
 have q45_:=q17_.kept hlb hk42_
 rw [WOGk]
 refine WOG.all (fun t' H'=>H40_=H'∧GT t' [(0,pA bm 0),(1,iN (8*p)),(8,.int .i64 (0)),(9,vS (bitsOf u)),(11,.int .i64 (0))]) ?_ ?_
 ·simp +decide only [mstore_r6,g0_36,g1_36,g6_36,g8_36,g9_36,g22_36,Xo 6,go_sem]
 rintro t46_ _ ⟨rfl,g0_46,g1_46,g8_46,g9_46,g11_46, -⟩
 refine hK0 _ _ ?_
 refine WK.seq ?_
 refine WK.reg_g ?_
 have d48_:decide ((0:Int)=(0:Int))=true:=decide_eq_true (by omega)
 refine WOG.all (fun t' H'=>H40_=H'∧GT t' [(0,pA bm 0),(1,iN (8*p)),(8,.int .i64 (0)),(9,vS (bitsOf u)),(11,.int .i64 (0)),(27,.bool false)]) ?_ ?_
 ·simp +decide only [mstore_r7,g0_46,g1_46,g8_46,g9_46,g11_46,d48_,Xo 6,go_sem]
 rintro t49_ _ ⟨rfl,g0_49,g1_49,g8_49,g9_49,g11_49,g27_49, -⟩
 refine WK.cond (v:=false) (by rw [evalO_tmp,g27_49];rfl) ?_
 refine WK.skip ?_
 refine WK.seq ?_
 refine WK.reg_g ?_
 refine WOG.hide fun K0 hK0=>?_
 have r51_:=((hr.mv nb3_.kept).mv nb11_.kept).mv hk42_
 simp +decide only [mstore_r9,g0_49,g1_49,g9_49,Xo 6,go_sem]
 refine EC.mono (mset_ok S hf43_ (by omega) (p:=p) (u:=u) r51_ hp hpm hpr) fun v H52_ _ hv53_=>?_
 obtain ⟨rfl,ov54_⟩:=hv53_
 have hf55_:=ov54_.fn
 have nx56_:H52_.nx=H40_.nx:=ov54_.nx
 have q57_:=q45_.ov ov54_
 rw [WOGk]
 refine WOG.all (fun t' H'=>H52_=H'∧GT t' [(8,.int .i64 (0)),(11,.int .i64 (0))]) ?_ ?_
 ·simp +decide only [mstore_r9,g0_49,g1_49,g8_49,g9_49,g11_49,g27_49,Xo 6,go_sem]
 rintro t58_ _ ⟨rfl,g8_58,g11_58, -⟩
 refine hK0 _ _ ?_
 refine WK.seq ?_
 refine WK.reg_g ?_
 refine WOG.all (fun t' H'=>H52_=H'∧GT t' [(8,.int .i64 (0)),(11,.int .i64 (0))]) ?_ ?_
 ·simp +decide only [mstore_r10,g8_58,g11_58,Xo 6,go_sem]
 rintro t60_ _ ⟨rfl,g8_60,g11_60, -⟩
 refine WK.ret ⟨.inr rfl,rfl,[.int .i64 (0)],0,?_,.zero _ _,rfl,q57_⟩
 show resL Tb0 33 t60_ _ [.tmp 8]=_
 simp only [resL,g8_60];rfl
set_option maxRecDepth 10000 in
set_option maxHeartbeats 4000000 in
theorem mbytes_ok (S:SpX sp) {H:Hp} (hf:H.isFn=true) (he:e.n0≤H.nx) {bm p n:Nat} {fm:By} (hr:ByU H bm 171 fm 65536) (hn:p+n≤65536) (hp:p<65536) (hpm:bm<e.n0→e.Rd bm):EC Tb0 sp e 103 [pA bm 0,iN (8*p),iN n] H fun v H'=>v=.tuple #[vS (strF (fun i=>fm (p+i)) n),vN 0]∧H'=H:=by
 refine EC.i3 (by rfl) mbytes_some mbytes_comp (S.no 103 (by decide) _ _) (by show 3≤38;decide) fun t0 g0 g1 g2=>?_
 show WK Tb0 sp e ⟨6,38,none,false⟩ mbytes_k t0 [] H _
 unfold mbytes_k
 have lt1_:=hr.lt
 refine WK.seq ?_
 refine WK.reg_g ?_
 refine WOG.all (fun t' H'=>H=H'∧GT t' [(0,pA bm 0),(1,iN (8*p)),(2,iN n),(6,.string ⟨#[]⟩),(7,.int .i64 (0))]) ?_ ?_
 ·simp +decide only [mbytes_r0,g0,g1,g2,Xo 6,go_sem]
 rintro t2_ _ ⟨rfl,g0_2,g1_2,g2_2,g6_2,g7_2, -⟩
 refine WK.seq ?_
 refine WK.seq ?_
 refine WK.reg_g ?_
 have m4_:∀ Hq,exEq false (.one .p) (pA bm 0) (.pointer none) Hq=.val (.bool false) Hq 0 0:=fun Hq=>rfl
 refine WOG.all (fun t' H'=>H=H'∧GT t' [(0,pA bm 0),(1,iN (8*p)),(2,iN n),(6,.string ⟨#[]⟩),(7,.int .i64 (0)),(9,.bool false)]) ?_ ?_
 ·simp +decide only [mbytes_r1,g0_2,g1_2,g2_2,g6_2,g7_2,m4_,Xo 6,go_sem]
 rintro t5_ _ ⟨rfl,g0_5,g1_5,g2_5,g6_5,g7_5,g9_5, -⟩
 refine WK.cond (v:=false) (by rw [evalO_tmp,g9_5];rfl) ?_
 refine WK.skip ?_
 refine WK.seq ?_
 refine WK.seq ?_
 refine WK.reg_g ?_
 refine WOG.hide fun K0 hK0=>?_
 have d7_:decide (((n:Nat):Int)<(0:Int))=false:=decide_eq_false (by omega)
 have d8_:decide ((65536:Int)<((n:Nat):Int))=false:=decide_eq_false (by omega)
 have w9_:Value.int .i64 (wrapF .i64 ((8:Int)*((n:Nat):Int)))=.int .i64 (((8*n):Nat):Int):=wF (by omega)
 simp +decide only [mbytes_r3,g1_5,g2_5,d7_,d8_,w9_,Xo 6,go_sem]
 refine EC.mono (fits_ok S hf (by omega) (at_:=8*p) (k:=(8*n)) (by omega)) fun v H10_ _ hv11_=>?_
 obtain ⟨rfl,hh12_⟩:=hv11_
 rw [hh12_];clear hh12_
 rw [WOGk]
 refine WOG.all (fun t' H'=>H=H'∧GT t' [(0,pA bm 0),(1,iN (8*p)),(2,iN n),(6,.string ⟨#[]⟩),(7,.int .i64 (0)),(23,.bool false)]) ?_ ?_
 ·simp +decide only [mbytes_r3,g0_5,g1_5,g2_5,g6_5,g7_5,g9_5,Xo 6,go_sem]
 rintro t13_ _ ⟨rfl,g0_13,g1_13,g2_13,g6_13,g7_13,g23_13, -⟩
 refine hK0 _ _ ?_
 refine WK.cond (v:=false) (by rw [evalO_tmp,g23_13];rfl) ?_
 refine WK.skip ?_
 refine WK.seq ?_
 refine WK.seq ?_
 refine WK.reg_g ?_
 have m15_:∀ Hq,R.o (binV .rem (iN (8*p)) (.int .i64 8)) Hq=.val (.int .i64 (0)) Hq 0 0:=fun Hq=>rem8 (by omega)
 have d16_:decide ((0:Int)=(0:Int))=true:=decide_eq_true (by omega)
 refine WOG.all (fun t' H'=>H=H'∧GT t' [(0,pA bm 0),(1,iN (8*p)),(2,iN n),(6,.string ⟨#[]⟩),(7,.int .i64 (0)),(26,.bool false)]) ?_ ?_
 ·simp +decide only [mbytes_r5,g0_13,g1_13,g2_13,g6_13,g7_13,g23_13,m15_,d16_,Xo 6,go_sem]
 rintro t17_ _ ⟨rfl,g0_17,g1_17,g2_17,g6_17,g7_17,g26_17, -⟩
 refine WK.cond (v:=false) (by rw [evalO_tmp,g26_17];rfl) ?_
 refine WK.skip ?_
 refine WK.seq ?_
 refine WK.reg_g ?_
 have m19_:∀ Hq,exNil (pA bm 0) Hq=.val (pA bm 0) Hq 0 0:=fun _=>rfl
 have m20_:∀ Hq,R.o (binV .quo (iN (8*p)) (.int .i64 8)) Hq=.val (iN p) Hq 0 0:=fun Hq=>quo8 (by omega) (by omega) _
 have m21_:∀ Hq,R.o (binV .quo (iN (8*p)) (.int .i64 8)) Hq=.val (iN p) Hq 0 0:=fun Hq=>quo8 (by omega) (by omega) _
 have w22_:Value.int .i64 (wrapF .i64 (((p:Nat):Int)+((n:Nat):Int)))=.int .i64 (((p+n):Nat):Int):=wF (by omega)
 have m23_:∀ Hq,exSlA 65536 1 (pA bm 0) (some (iN p)) (some (iN ((p+n)))) none Hq=.val (sC bm p (n) (2*(65536-p))) Hq 0 0:=fun Hq=>slA_n Hq (by omega) (by omega)
 have m24_:exToS (sC bm p (n) (2*(65536-p))) H=.val (vS (strF (fun i=>fm (p+i)) (n))) H (bit (bm)) 0:=ByU.toS hr (by omega)
 have o25_:e.ok (bit (bm)) 0 H:=.read hr.lt hpm
 refine WOG.all (fun t' H'=>H=H'∧GT t' [(6,vS (strF (fun i=>fm (p+i)) (n))),(7,.int .i64 (0))]) ?_ ?_
 ·simp +decide only [mbytes_r7,g0_17,g1_17,g2_17,g6_17,g7_17,g26_17,m19_,m20_,m21_,w22_,m23_,m24_,o25_,Xo 6,go_sem]
 rintro t26_ _ ⟨rfl,g6_26,g7_26, -⟩
 refine WK.ret ⟨.inr rfl,rfl,[vS (strF (fun i=>fm (p+i)) (n)),.int .i64 (0)],0,?_,.zero _ _,rfl,rfl⟩
 show resL Tb0 38 t26_ _ [.tmp 6,.tmp 7]=_
 simp only [resL,g6_26,g7_26];rfl
set_option maxRecDepth 10000 in
set_option maxHeartbeats 4000000 in
theorem mput_ok (S:SpX sp) {H:Hp} (hf:H.isFn=true) (he:e.n0≤H.nx) {bm p n:Nat} {fm f1:By} (hr:ByU H bm 171 fm 65536) (hn:p+n≤65536) (hp:p<65536) (hpm:bm<e.n0→e.Wr bm):EC Tb0 sp e 55 [pA bm 0,iN (8*p),vS (strF f1 n)] H fun v H'=>v=vN 0∧OvB H bm 171 (over fm p n f1) 65536 H':=by
 refine EC.i3 (by rfl) mput_some mput_comp (S.no 55 (by decide) _ _) (by show 3≤32;decide) fun t0 g0 g1 g2=>?_
 show WK Tb0 sp e ⟨6,32,none,false⟩ mput_k t0 [] H _
 unfold mput_k
 have lt1_:=hr.lt
 refine WK.seq ?_
 refine WK.reg_g ?_
 refine WOG.all (fun t' H'=>H=H'∧GT t' [(0,pA bm 0),(1,iN (8*p)),(2,vS (strF f1 n)),(6,.int .i64 (0))]) ?_ ?_
 ·simp +decide only [mput_r0,g0,g1,g2,Xo 6,go_sem]
 rintro t2_ _ ⟨rfl,g0_2,g1_2,g2_2,g6_2, -⟩
 refine WK.seq ?_
 refine WK.seq ?_
 refine WK.reg_g ?_
 have m4_:∀ Hq,exEq false (.one .p) (pA bm 0) (.pointer none) Hq=.val (.bool false) Hq 0 0:=fun Hq=>rfl
 refine WOG.all (fun t' H'=>H=H'∧GT t' [(0,pA bm 0),(1,iN (8*p)),(2,vS (strF f1 n)),(6,.int .i64 (0)),(8,.bool false)]) ?_ ?_
 ·simp +decide only [mput_r1,g0_2,g1_2,g2_2,g6_2,m4_,Xo 6,go_sem]
 rintro t5_ _ ⟨rfl,g0_5,g1_5,g2_5,g6_5,g8_5, -⟩
 refine WK.cond (v:=false) (by rw [evalO_tmp,g8_5];rfl) ?_
 refine WK.skip ?_
 refine WK.seq ?_
 refine WK.seq ?_
 refine WK.reg_g ?_
 refine WOG.hide fun K0 hK0=>?_
 have m7_:∀ Hq,exLen 0 (vS (strF f1 n)) Hq=.val (vN ((n:Nat))) Hq 0 0:=fun _=>len_strF _ _ _
 have d8_:decide ((65536:Int)<((n:Nat):Int))=false:=decide_eq_false (by omega)
 have m9_:∀ Hq,exLen 0 (vS (strF f1 n)) Hq=.val (vN ((n:Nat))) Hq 0 0:=fun _=>len_strF _ _ _
 have w10_:Value.int .i64 (wrapF .i64 ((8:Int)*((n:Nat):Int)))=.int .i64 (((8*n):Nat):Int):=wF (by omega)
 simp +decide only [mput_r3,g1_5,g2_5,m7_,d8_,m9_,w10_,Xo 6,go_sem]
 refine EC.mono (fits_ok S hf (by omega) (at_:=8*p) (k:=(8*n)) (by omega)) fun v H11_ _ hv12_=>?_
 obtain ⟨rfl,hh13_⟩:=hv12_
 rw [hh13_];clear hh13_
 rw [WOGk]
 refine WOG.all (fun t' H'=>H=H'∧GT t' [(0,pA bm 0),(1,iN (8*p)),(2,vS (strF f1 n)),(6,.int .i64 (0)),(20,.bool false)]) ?_ ?_
 ·simp +decide only [mput_r3,g0_5,g1_5,g2_5,g6_5,g8_5,Xo 6,go_sem]
 rintro t14_ _ ⟨rfl,g0_14,g1_14,g2_14,g6_14,g20_14, -⟩
 refine hK0 _ _ ?_
 refine WK.cond (v:=false) (by rw [evalO_tmp,g20_14];rfl) ?_
 refine WK.skip ?_
 refine WK.seq ?_
 refine WK.seq ?_
 refine WK.reg_g ?_
 have m16_:∀ Hq,R.o (binV .rem (iN (8*p)) (.int .i64 8)) Hq=.val (.int .i64 (0)) Hq 0 0:=fun Hq=>rem8 (by omega)
 have d17_:decide ((0:Int)=(0:Int))=true:=decide_eq_true (by omega)
 refine WOG.all (fun t' H'=>H=H'∧GT t' [(0,pA bm 0),(1,iN (8*p)),(2,vS (strF f1 n)),(6,.int .i64 (0)),(23,.bool false)]) ?_ ?_
 ·simp +decide only [mput_r5,g0_14,g1_14,g2_14,g6_14,g20_14,m16_,d17_,Xo 6,go_sem]
 rintro t18_ _ ⟨rfl,g0_18,g1_18,g2_18,g6_18,g23_18, -⟩
 refine WK.cond (v:=false) (by rw [evalO_tmp,g23_18];rfl) ?_
 refine WK.skip ?_
 refine WK.seq ?_
 refine WK.reg_g ?_
 have m20_:∀ Hq,exNil (pA bm 0) Hq=.val (pA bm 0) Hq 0 0:=fun _=>rfl
 have m21_:∀ Hq,R.o (binV .quo (iN (8*p)) (.int .i64 8)) Hq=.val (iN p) Hq 0 0:=fun Hq=>quo8 (by omega) (by omega) _
 have m22_:∀ Hq,exSlA 65536 1 (pA bm 0) (some (iN p)) none none Hq=.val (sC bm p (65536-p) (2*(65536-p))) Hq 0 0:=fun Hq=>slA_l Hq (by omega)
 obtain ⟨H23_,e24_,wr25_⟩:=copyT (o:=p) (m:=65536-p) (c:=2*(65536-p)) (k:=n) (g:=f1) hf hr (by omega) (by omega)
 have m26_:exCopy 1 (sC bm p (65536-p) (2*(65536-p))) (vS (strF f1 n)) H=.val (vN ((n:Nat):Int)) H23_ 0 (bit (bm)):=e24_
 have hf27_:=wr25_.fn
 have nx28_:H23_.nx=H.nx:=wr25_.nx
 have m29_:H.nx≤H23_.nx:=by omega
 have o30_:e.ok 0 (bit (bm)) H23_:=.write wr25_.row.lt hpm
 refine WOG.all (fun t' H'=>H23_=H'∧t'.get 6=.int .i64 (0)) ?_ ?_
 ·simp +decide only [mput_r7,g0_18,g1_18,g2_18,g6_18,g23_18,m20_,m21_,m22_,m26_,m29_,o30_,Xo 6,go_sem]
 rintro t31_ _ ⟨rfl,g6_31⟩
 refine WK.seq ?_
 refine WK.reg_g ?_
 refine WOG.all (fun t' H'=>H23_=H'∧t'.get 6=.int .i64 (0)) ?_ ?_
 ·simp +decide only [mput_r8,g6_31,Xo 6,go_sem]
 rintro t33_ _ ⟨rfl,g6_33⟩
 refine WK.ret ⟨.inr rfl,rfl,[.int .i64 (0)],0,?_,.zero _ _,rfl,wr25_⟩
 show resL Tb0 32 t33_ _ [.tmp 6]=_
 simp only [resL,g6_33];rfl
end
end Go.Proofs.RS
end
