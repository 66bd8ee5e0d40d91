/-
 A part of the proof that pliantlaw15.RtsAreas returns true and leaves its arguments alone. Conditions: those of the card in the last text.
-/
import Derived.Test.YtgdejggelcpokaaGreatDoorG38
set_option linter.unusedSimpArgs false
set_option linter.unusedVariables false
set_option linter.unusedSectionVars false
noncomputable section
namespace Go.Proofs.RS
open Go Go.Ev Go.Proofs Go.Ar
section
attribute [local go_sem] Bc_f Bc_t GT Ro_some Rv_eq WOG Yj Yk Yl Ym Yn Yo Yp Yq Yr and_self and_true binV_add binV_lss binV_mul binV_sub callV_func dec_F dec_T evalL evalO_const evalO_func evalO_tmp exEq_int exFa_ptr exLen_str exPick_f exPick_t exUn_not if_false if_true ok_zero putT_none run true_and wantsV_U wantsV_ff wantsV_ft wantsV_tf wantsV_tt wants_none' wants_some
variable {sp:Nat→List Value→Hp→Option (Value×Hp×Nat×Nat)} {e:Env}
set_option maxRecDepth 10000 in
set_option maxHeartbeats 4000000 in
theorem tail_ok (S:SpX sp) {HL:Hp} {n i len ba:Nat} {us us2:List U} {bl:List Bk} {lv va:Value} {F:By} (he0:e.n0≤76) (hHL:HL.nx=107) (hn:n≤512) (h16:16≤n) (hlen:∀ Hq:Hp,exLen 1 lv Hq=.val (vN ((len:Nat):Int)) Hq 0 0) (hP:Pr F n us us2 bl) (hi:i≤40) (hbl:bl.length≤40) {t:T Value} {H:Hp} (hs:Sit HL H F ba va bl) (ga:GA t n i len lv va)
 {K:Ex→T Value→List Deferred→Hp→Prop} (hK:∀ t' H' F' us2',Sit HL H' F' ba va bl→Pr F' n us us2' bl→GA t' n i len lv va→K .normal t' [] H') :
 WK Tb0 sp e ⟨9,305,none,false⟩ (.seq (.seq (.reg areas_r48) (.seq (.reg areas_r49) (.cond (.tmp 244) (.seq (.reg areas_r50) .ret) .skip))) (.seq (.reg areas_r51) (.block 6 (.loop areas_body.sr.sr.sr.sr.sr.sr.sr.sr.sr.sr.sr.sr.sr.sl.sr.bl.lp.sr.sr.sl.bl.sr.sr.sr.sr.bl.lp areas_l64)))) t [] H K:=by
 have hle1:=hP.is1.le
 have hm3:i % 3<3:=Nat.mod_lt _ (by decide)
 have hf_1:=hs.fn
 have nx_1:=hs.nx
 have hba_1:=hs.hba
 have hst_1:Row H (78) 104 0 stA:=hs.st
 have lt2_:=hst_1.lt
 have htc_1:Row H (106) 40 0 [.int .i64 (3),.int .i64 (1),.int .i64 (0),.bool false,vS []]:=hs.tc
 have lt3_:=htc_1.lt
 have hmem_1:ByU H (76) 171 F (65536):=hs.mem
 have lt4_:=hmem_1.lt
 have hall_1:AllB H (ba) va bl:=hs.all
 have lt5_:=hall_1.lt
 have hX_1:=hs.hX
 obtain ⟨g0_6,g7_6,g9_6,g11_6,g12_6,g13_6,g14_6,g73_6,g74_6,g75_6⟩:=ga
 refine WK.seq ?_
 refine WK.seq ?_
 refine WK.reg_g ?_
 refine WOG.hide fun K0 hK0=>?_
 have m7_:∀ Hq,R.o (binV .rem (iN i) (.int .i64 (3))) Hq=.val (iN ((i % 3))) Hq 0 0:=fun Hq=>remK (k:=3) (by decide) rfl Hq
 have w8_:Value.int .i64 (wrapF .i64 ((((i % 3):Nat):Int)+(3:Int)))=.int .i64 (((((i % 3))+3):Nat):Int):=wF (by omega)
 have m9_:∀ Hq,R.o (binV .rem (iN ((((i % 3))+3))) (.int .i64 (3))) Hq=.val (iN ((i % 3))) Hq 0 0:=fun Hq=>remK (k:=3) (by decide) (by omega) Hq
 have w10_:Value.int .i64 (wrapF .i64 ((8:Int)*(((i % 3):Nat):Int)))=.int .i64 (((8*((i % 3))):Nat):Int):=wF (by omega)
 have w11_:Value.int .i64 (wrapF .i64 (((n:Nat):Int)+(((8*((i % 3))):Nat):Int)))=.int .i64 (((n+((8*((i % 3))))):Nat):Int):=wF (by omega)
 simp +decide only [areas_r48,g0_6,g7_6,g9_6,g11_6,g14_6,m7_,w8_,m9_,w10_,w11_,Xo 9,go_sem]
 refine EC.mono (copya_ok S hf_1 (by omega) hst_1 rfl rfl hmem_1 (fun h=>absurd h (by omega)) (fun h=>absurd h (by omega)) (fun h=>absurd h (by omega)) (p1:=1040) (n1:=n+8*(i % 3)) (p2:=16) (n2:=n) (us1:=us2) (us2:=us) (by decide) (hP.to (by omega) (by omega)) (by omega) (by omega) (by omega) hP.is1 h16 (by omega) (by omega) (by omega)) fun v H12_ _ hv13_=>?_
 obtain ⟨rfl,ov14_⟩:=hv13_
 have hf15_:=ov14_.fn
 have nx16_:=ov14_.nx
 have k17_:=hX_1.upd ov14_.fn ov14_.nx ov14_.old (.inl (.inl rfl))
 rw [WOGk]
 have m18_:∀ Hq,exExt (.tuple #[.bool true,.int .i64 (0)]) 0 Hq=.val (.bool true) Hq 0 0:=fun _=>rfl
 have m19_:∀ Hq,exExt (.tuple #[.bool true,.int .i64 (0)]) 1 Hq=.val (.int .i64 (0)) Hq 0 0:=fun _=>rfl
 refine WOG.all (fun t' H'=>H12_=H'∧GT t' [(0,iN n),(7,pA 78 0),(9,iN (8*16)),(11,iN (8*1040)),(12,pA 106 0),(13,va),(14,iN i),(26,.bool true),(27,.int .i64 (0)),(73,lv),(74,iN len),(75,iN i)]) ?_ ?_
 ·simp +decide only [areas_r48,g0_6,g7_6,g9_6,g11_6,g12_6,g13_6,g14_6,g73_6,g74_6,g75_6,m18_,m19_,Xo 9,go_sem]
 rintro t20_ _ ⟨rfl,g0_20,g7_20,g9_20,g11_20,g12_20,g13_20,g14_20,g26_20,g27_20,g73_20,g74_20,g75_20, -⟩
 refine hK0 _ _ ?_
 obtain ⟨hcp1,hcp2⟩:=hP.copy (m:=n+8*(i % 3)) hn (by omega) (by omega)
 obtain ⟨F2,hF2⟩:∃ F2:By,F2=over F 1040 (n+8*(i % 3)) (cut (fun i=>F (16+i)) (fin 8 us)):=⟨_,rfl⟩
 rw [← hF2] at hcp1 hcp2
 have r22_:ByU H12_ (76) 171 F2 (65536):=ByU.congr ov14_.row (fun i_ _=>by rw [hF2])
 refine WK.seq ?_
 refine WK.reg_g ?_
 have d23_:decide ((0:Int)=(0:Int))=true:=decide_eq_true (by omega)
 refine WOG.all (fun t' H'=>H12_=H'∧GT t' [(0,iN n),(7,pA 78 0),(9,iN (8*16)),(11,iN (8*1040)),(12,pA 106 0),(13,va),(14,iN i),(73,lv),(74,iN len),(75,iN i),(244,.bool false)]) ?_ ?_
 ·simp +decide only [areas_r49,g0_20,g7_20,g9_20,g11_20,g12_20,g13_20,g14_20,g26_20,g27_20,g73_20,g74_20,g75_20,d23_,Xo 9,go_sem]
 rintro t24_ _ ⟨rfl,g0_24,g7_24,g9_24,g11_24,g12_24,g13_24,g14_24,g73_24,g74_24,g75_24,g244_24, -⟩
 refine WK.cond (v:=false) (by rw [evalO_tmp,g244_24];rfl) ?_
 refine WK.skip ?_
 refine WK.seq ?_
 refine WK.reg_g ?_
 have r26_:=hst_1.mo ov14_.old (by omega)
 have r27_:=htc_1.mo ov14_.old (by omega)
 have r28_:=hall_1.mo ov14_.old (by omega)
 have m29_:∀ Hq,exLen 1 va Hq=.val (vN ((bl.length:Nat):Int)) Hq 0 0:=fun Hq=>r28_.len Hq
 refine WOG.all (fun t' H'=>H12_=H'∧GT t' [(0,iN n),(7,pA 78 0),(9,iN (8*16)),(11,iN (8*1040)),(12,pA 106 0),(13,va),(14,iN i),(73,lv),(74,iN len),(75,iN i),(245,va),(246,iN (bl.length)),(247,.int .i64 (0))]) ?_ ?_
 ·simp +decide only [areas_r51,g0_24,g7_24,g9_24,g11_24,g12_24,g13_24,g14_24,g73_24,g74_24,g75_24,g244_24,m29_,Xo 9,go_sem]
 rintro t30_ _ ⟨rfl,g0_30,g7_30,g9_30,g11_30,g12_30,g13_30,g14_30,g73_30,g74_30,g75_30,g245_30,g246_30,g247_30, -⟩
 refine WK.block (WK.loop_ind (fun m t' ds' H'=>ds'=[]∧∃ q:Nat,m=bl.length-q∧q≤bl.length∧Sit HL H' F2 ba va bl∧t'.get 0=iN n∧t'.get 7=pA 78 0∧t'.get 9=iN (8*16)∧t'.get 11=iN (8*1040)∧t'.get 12=pA 106 0∧t'.get 13=va∧t'.get 14=iN i∧t'.get 73=lv∧t'.get 74=iN len∧t'.get 75=iN i∧t'.get 245=va∧t'.get 246=iN (bl.length)∧t'.get 247=iN q) ?_ _ t30_ [] H12_ ⟨rfl,0,rfl,by omega,⟨hf15_,by omega,k17_,r26_,r27_,r22_,r28_,by omega⟩,g0_30,g7_30,g9_30,g11_30,g12_30,g13_30,g14_30,g73_30,g74_30,g75_30,g245_30,g246_30,g247_30⟩)
 rintro m_l32 t_l32 ds_ H_l32 ⟨rfl,q,rfl,hq,hs2,g0_l32,g7_l32,g9_l32,g11_l32,g12_l32,g13_l32,g14_l32,g73_l32,g74_l32,g75_l32,g245_l32,g246_l32,g247_l32⟩
 have hf_33:=hs2.fn
 have nx_33:=hs2.nx
 have hba_33:=hs2.hba
 have hst_33:Row H_l32 (78) 104 0 stA:=hs2.st
 have lt34_:=hst_33.lt
 have htc_33:Row H_l32 (106) 40 0 [.int .i64 (3),.int .i64 (1),.int .i64 (0),.bool false,vS []]:=hs2.tc
 have lt35_:=htc_33.lt
 have hmem_33:ByU H_l32 (76) 171 F2 (65536):=hs2.mem
 have lt36_:=hmem_33.lt
 have hall_33:AllB H_l32 (ba) va bl:=hs2.all
 have lt37_:=hall_33.lt
 have hX_33:=hs2.hX
 unfold areas_l64
 refine WK.seq ?_
 by_cases hlt:q<bl.length
 case pos =>
  obtain ⟨x,hx⟩:∃ x,bl[q]?=some x:=⟨_,List.getElem?_eq_getElem hlt⟩
  have hxm:x∈bl:=List.mem_of_getElem? hx
  obtain ⟨hxi1,hxi2,hxi3⟩:=hcp1.in_ hxm
  refine WK.reg_g ?_
  have d38_:decide (((q:Nat):Int)<((bl.length:Nat):Int))=true:=decide_eq_true (by omega)
  refine WOG.all (fun t' H'=>H_l32=H'∧GT t' [(0,iN n),(7,pA 78 0),(9,iN (8*16)),(11,iN (8*1040)),(12,pA 106 0),(13,va),(14,iN i),(73,lv),(74,iN len),(75,iN i),(245,va),(246,iN (bl.length)),(247,iN q),(248,.bool true)]) ?_ ?_
  ·simp +decide only [areas_r52,g0_l32,g7_l32,g9_l32,g11_l32,g12_l32,g13_l32,g14_l32,g73_l32,g74_l32,g75_l32,g245_l32,g246_l32,g247_l32,d38_,Xo 9,go_sem]
  rintro t39_ _ ⟨rfl,g0_39,g7_39,g9_39,g11_39,g12_39,g13_39,g14_39,g73_39,g74_39,g75_39,g245_39,g246_39,g247_39,g248_39, -⟩
  refine WK.seq ?_
  refine WK.cond (v:=true) (by rw [evalO_tmp,g248_39];rfl) ?_
  refine WK.skip ?_
  refine WK.seq ?_
  refine WK.block ?_
  refine WK.seq ?_
  refine WK.reg_g ?_
  have m41_:∀ Hq,exIaS 3 va (iN q) Hq=.val (pA ba (q*3)) Hq 0 0:=fun Hq=>iaS_all hall_33 (by omega) Hq
  have m42_:exLdN 3 (pA ba (q*3)) H_l32=.val (.agg ⟨[iN (8*16+8*x.1),iN (x.2.1),uB x.2.2]⟩) H_l32 (bit (ba)) 0:=ldN_all hall_33 hx
  have o43_:e.ok (bit (ba)) 0 H_l32:=.read hall_33.lt (fun h=>absurd h (by omega))
  obtain ⟨H44_,nb45_⟩:=newB hf_33 [.int .i64 (0),.int .i64 (0),.int .u8 (0)] 56
  have m46_:alloc1 (blkL [.int .i64 (0),.int .i64 (0),.int .u8 (0)] 56 0) H_l32 ptrTo 0 0=.val (.pointer (some ⟨H_l32.nx,0,none⟩)) H44_ 0 0:=nb45_.al
  have hf47_:=nb45_.kept.fn
  have nx48_:H44_.nx=H_l32.nx+1:=nb45_.nx
  have m49_:H_l32.nx≤H44_.nx:=by omega
  have lt50_:=nb45_.row.lt
  have k51_:=hX_33.kept nb45_.kept
  obtain ⟨H52_,e53_,wr54_⟩:=exStN_at (o:=0) (vs:=[iN (8*16+8*x.1),iN (x.2.1),uB x.2.2]) hf47_ nb45_.row (by show 0+3≤3;decide)
  have m55_:exSt 3 (pA H_l32.nx 0) (.agg ⟨[iN (8*16+8*x.1),iN (x.2.1),uB x.2.2]⟩) H44_=.val U H52_ 0 (bit (H_l32.nx)):=e53_
  have hf56_:=wr54_.fn
  have nx57_:H52_.nx=H44_.nx:=wr54_.nx
  have m58_:H44_.nx≤H52_.nx:=by omega
  have r59_:Row H52_ (H_l32.nx) 56 0 [iN (8*16+8*x.1),iN (x.2.1),uB x.2.2]:=wr54_.row
  have o60_:e.ok 0 (bit (H_l32.nx)) H52_:=.write r59_.lt (fun h=>absurd h (by omega))
  have k61_:=k51_.wr (b:=H_l32.nx) wr54_.fn wr54_.nx wr54_.else_ (.inr (by omega))
  refine WOG.all (fun t' H'=>H52_=H'∧GT t' [(0,iN n),(7,pA 78 0),(9,iN (8*16)),(11,iN (8*1040)),(12,pA 106 0),(13,va),(14,iN i),(29,pA H_l32.nx 0),(73,lv),(74,iN len),(75,iN i),(245,va),(246,iN (bl.length)),(247,iN q)]) ?_ ?_
  ·simp +decide only [areas_r53,g0_39,g7_39,g9_39,g11_39,g12_39,g13_39,g14_39,g73_39,g74_39,g75_39,g245_39,g246_39,g247_39,g248_39,m41_,m42_,o43_,m46_,m49_,m55_,m58_,o60_,Xo 9,go_sem]
  rintro t62_ _ ⟨rfl,g0_62,g7_62,g9_62,g11_62,g12_62,g13_62,g14_62,g29_62,g73_62,g74_62,g75_62,g245_62,g246_62,g247_62, -⟩
  refine WK.seq ?_
  refine WK.reg_g ?_
  have m64_:exLd1 (pA H_l32.nx 1) H52_=.val (iN (x.2.1)) H52_ (bit (H_l32.nx)) 0:=exLd1_row r59_ rfl
  have o65_:=okr (e:=e) r59_ (by omega)
  refine WOG.all (fun t' H'=>H52_=H'∧GT t' [(0,iN n),(7,pA 78 0),(9,iN (8*16)),(11,iN (8*1040)),(12,pA 106 0),(13,va),(14,iN i),(29,pA H_l32.nx 0),(73,lv),(74,iN len),(75,iN i),(245,va),(246,iN (bl.length)),(247,iN q),(252,iN (x.2.1)),(253,.int .i64 (0))]) ?_ ?_
  ·simp +decide only [areas_r54,g0_62,g7_62,g9_62,g11_62,g12_62,g13_62,g14_62,g29_62,g73_62,g74_62,g75_62,g245_62,g246_62,g247_62,m64_,o65_,Xo 9,go_sem]
  rintro t66_ _ ⟨rfl,g0_66,g7_66,g9_66,g11_66,g12_66,g13_66,g14_66,g29_66,g73_66,g74_66,g75_66,g245_66,g246_66,g247_66,g252_66,g253_66, -⟩
  have r68_:=(hst_33.mv nb45_.kept).ot wr54_.else_ (by omega)
  have r69_:=(htc_33.mv nb45_.kept).ot wr54_.else_ (by omega)
  have r70_:=(hmem_33.mv nb45_.kept).ot wr54_.else_ (by omega)
  have r71_:=(hall_33.mv nb45_.kept).ot wr54_.else_ (by omega)
  refine WK.block (WK.loop_ind (fun m t' ds' H'=>ds'=[]∧∃ j:Nat,m=x.2.1-j∧j≤x.2.1∧Sit HL H' F2 ba va bl∧Row H' (H_l32.nx) 56 0 [iN (8*16+8*x.1),iN (x.2.1),uB x.2.2]∧t'.get 0=iN n∧t'.get 7=pA 78 0∧t'.get 9=iN (8*16)∧t'.get 11=iN (8*1040)∧t'.get 12=pA 106 0∧t'.get 13=va∧t'.get 14=iN i∧t'.get 29=pA H_l32.nx 0∧t'.get 73=lv∧t'.get 74=iN len∧t'.get 75=iN i∧t'.get 245=va∧t'.get 246=iN (bl.length)∧t'.get 247=iN q∧t'.get 252=iN (x.2.1)∧t'.get 253=iN j) ?_ _ t66_ [] H52_ ⟨rfl,0,rfl,by omega,⟨hf56_,by omega,k61_,r68_,r69_,r70_,r71_,by omega⟩,r59_,g0_66,g7_66,g9_66,g11_66,g12_66,g13_66,g14_66,g29_66,g73_66,g74_66,g75_66,g245_66,g246_66,g247_66,g252_66,g253_66⟩)
  rintro m_l72 t_l72 ds_ H_l72 ⟨rfl,j,rfl,hj,hs3,hy,g0_l72,g7_l72,g9_l72,g11_l72,g12_l72,g13_l72,g14_l72,g29_l72,g73_l72,g74_l72,g75_l72,g245_l72,g246_l72,g247_l72,g252_l72,g253_l72⟩
  have hf_73:=hs3.fn
  have nx_73:=hs3.nx
  have hba_73:=hs3.hba
  have hst_73:Row H_l72 (78) 104 0 stA:=hs3.st
  have lt74_:=hst_73.lt
  have htc_73:Row H_l72 (106) 40 0 [.int .i64 (3),.int .i64 (1),.int .i64 (0),.bool false,vS []]:=hs3.tc
  have lt75_:=htc_73.lt
  have hmem_73:ByU H_l72 (76) 171 F2 (65536):=hs3.mem
  have lt76_:=hmem_73.lt
  have hall_73:AllB H_l72 (ba) va bl:=hs3.all
  have lt77_:=hall_73.lt
  have hX_73:=hs3.hX
  have lty:=hy.lt
  unfold areas_l62
  refine WK.seq ?_
  by_cases hj2:j<x.2.1
  case pos =>
   have hz1:=hcp1.val x hxm j hj2
   have hz2:=hcp2 x hxm j hj2
   refine WK.reg_g ?_
   have d78_:decide (((j:Nat):Int)<((x.2.1:Nat):Int))=true:=decide_eq_true (by omega)
   refine WOG.all (fun t' H'=>H_l72=H'∧GT t' [(0,iN n),(7,pA 78 0),(9,iN (8*16)),(11,iN (8*1040)),(12,pA 106 0),(13,va),(14,iN i),(29,pA H_l32.nx 0),(73,lv),(74,iN len),(75,iN i),(245,va),(246,iN (bl.length)),(247,iN q),(252,iN (x.2.1)),(253,iN j),(254,.bool true)]) ?_ ?_
   ·simp +decide only [areas_r55,g0_l72,g7_l72,g9_l72,g11_l72,g12_l72,g13_l72,g14_l72,g29_l72,g73_l72,g74_l72,g75_l72,g245_l72,g246_l72,g247_l72,g252_l72,g253_l72,d78_,Xo 9,go_sem]
   rintro t79_ _ ⟨rfl,g0_79,g7_79,g9_79,g11_79,g12_79,g13_79,g14_79,g29_79,g73_79,g74_79,g75_79,g245_79,g246_79,g247_79,g252_79,g253_79,g254_79, -⟩
   refine WK.seq ?_
   refine WK.cond (v:=true) (by rw [evalO_tmp,g254_79];rfl) ?_
   refine WK.skip ?_
   refine WK.seq ?_
   refine WK.block ?_
   refine WK.seq ?_
   refine WK.reg_g ?_
   refine WOG.all (fun t' H'=>H_l72=H'∧GT t' [(0,iN n),(7,pA 78 0),(9,iN (8*16)),(11,iN (8*1040)),(12,pA 106 0),(13,va),(14,iN i),(29,pA H_l32.nx 0),(30,iN j),(73,lv),(74,iN len),(75,iN i),(245,va),(246,iN (bl.length)),(247,iN q),(252,iN (x.2.1)),(253,iN j)]) ?_ ?_
   ·simp +decide only [areas_r56,g0_79,g7_79,g9_79,g11_79,g12_79,g13_79,g14_79,g29_79,g73_79,g74_79,g75_79,g245_79,g246_79,g247_79,g252_79,g253_79,g254_79,Xo 9,go_sem]
   rintro t81_ _ ⟨rfl,g0_81,g7_81,g9_81,g11_81,g12_81,g13_81,g14_81,g29_81,g30_81,g73_81,g74_81,g75_81,g245_81,g246_81,g247_81,g252_81,g253_81, -⟩
   refine WK.seq ?_
   refine WK.reg_g ?_
   refine WOG.hide fun K0 hK0=>?_
   have m83_:exLd1 (pA H_l32.nx 0) H_l72=.val (iN (8*16+8*x.1)) H_l72 (bit (H_l32.nx)) 0:=exLd1_row hy rfl
   have o84_:=okr (e:=e) hy (by omega)
   have w85_:Value.int .i64 (wrapF .i64 ((8:Int)*((j:Nat):Int)))=.int .i64 (((8*j):Nat):Int):=wF (by omega)
   have m86_:binV .add (iN (8*16+8*x.1)) (iN ((8*j)))=some (iN (8*(16+x.1+j))):=congrArg (fun z=>some (Value.int .i64 z)) (by rw [show Int.add _ _=(((8*(16+x.1+j):Nat):Int)) from by show ((_:Int)+_)=_;omega];exact wrapF_nat (by omega))
   have m87_:exLdN 5 (pA 106 0) H_l72=.val (.agg ⟨[.int .i64 (3),.int .i64 (1),.int .i64 (0),.bool false,vS []]⟩) H_l72 (bit (106)) 0:=exLdN_row htc_73 (by show 0+5≤5;decide)
   have o88_:=okr (e:=e) htc_73 (by omega)
   simp +decide only [areas_r57,g7_81,g12_81,g29_81,g30_81,m83_,o84_,w85_,m86_,m87_,o88_,Xo 9,go_sem]
   refine EC.mono ((rload_ok S hf_73 (by omega) hst_73 rfl rfl hmem_73 (fun h=>absurd h (by omega)) (fun h=>absurd h (by omega)) (p:=16+x.1+j) (by omega)).mono fun v H1 _ h_=>by rwa [hz1] at h_) fun v H89_ _ hv90_=>?_
   obtain ⟨rfl,hk91_⟩:=hv90_
   have hf92_:=hk91_.fn
   have nx93_:=hk91_.nx
   have k94_:=hX_73.kept hk91_
   rw [WOGk]
   have m95_:∀ Hq,exExt (.tuple #[.agg ⟨[.int .i64 (0),vS [x.2.2]]⟩,.int .i64 (0)]) 0 Hq=.val (.agg ⟨[.int .i64 (0),vS [x.2.2]]⟩) Hq 0 0:=fun _=>rfl
   have m96_:∀ Hq,exExt (.tuple #[.agg ⟨[.int .i64 (0),vS [x.2.2]]⟩,.int .i64 (0)]) 1 Hq=.val (.int .i64 (0)) Hq 0 0:=fun _=>rfl
   obtain ⟨H97_,nb98_⟩:=newB hf92_ [.int .i64 (0),.string ⟨#[]⟩] 47
   have m99_:alloc1 (blkL [.int .i64 (0),.string ⟨#[]⟩] 47 0) H89_ ptrTo 0 0=.val (.pointer (some ⟨H89_.nx,0,none⟩)) H97_ 0 0:=nb98_.al
   have hf100_:=nb98_.kept.fn
   have nx101_:H97_.nx=H89_.nx+1:=nb98_.nx
   have m102_:H89_.nx≤H97_.nx:=by omega
   have lt103_:=nb98_.row.lt
   have k104_:=k94_.kept nb98_.kept
   obtain ⟨H105_,e106_,wr107_⟩:=exStN_at (o:=0) (vs:=[.int .i64 (0),vS [x.2.2]]) hf100_ nb98_.row (by show 0+2≤2;decide)
   have m108_:exSt 2 (pA H89_.nx 0) (.agg ⟨[.int .i64 (0),vS [x.2.2]]⟩) H97_=.val U H105_ 0 (bit (H89_.nx)):=e106_
   have hf109_:=wr107_.fn
   have nx110_:H105_.nx=H97_.nx:=wr107_.nx
   have m111_:H97_.nx≤H105_.nx:=by omega
   have r112_:Row H105_ (H89_.nx) 47 0 [.int .i64 (0),vS [x.2.2]]:=wr107_.row
   have o113_:e.ok 0 (bit (H89_.nx)) H105_:=.write r112_.lt (fun h=>absurd h (by omega))
   have k114_:=k104_.wr (b:=H89_.nx) wr107_.fn wr107_.nx wr107_.else_ (.inr (by omega))
   refine WOG.all (fun t' H'=>H105_=H'∧GT t' [(0,iN n),(7,pA 78 0),(9,iN (8*16)),(11,iN (8*1040)),(12,pA 106 0),(13,va),(14,iN i),(29,pA H_l32.nx 0),(30,iN j),(31,pA H89_.nx 0),(32,.int .i64 (0)),(73,lv),(74,iN len),(75,iN i),(245,va),(246,iN (bl.length)),(247,iN q),(252,iN (x.2.1)),(253,iN j)]) ?_ ?_
   ·simp +decide only [areas_r57,g0_81,g7_81,g9_81,g11_81,g12_81,g13_81,g14_81,g29_81,g30_81,g73_81,g74_81,g75_81,g245_81,g246_81,g247_81,g252_81,g253_81,m95_,m96_,m99_,m102_,m108_,m111_,o113_,Xo 9,go_sem]
   rintro t115_ _ ⟨rfl,g0_115,g7_115,g9_115,g11_115,g12_115,g13_115,g14_115,g29_115,g30_115,g31_115,g32_115,g73_115,g74_115,g75_115,g245_115,g246_115,g247_115,g252_115,g253_115, -⟩
   refine hK0 _ _ ?_
   refine WK.seq ?_
   refine WK.reg_g ?_
   refine WOG.hide fun K0 hK0=>?_
   have r117_:=((hy.mv hk91_).mv nb98_.kept).ot wr107_.else_ (by omega)
   have m118_:exLd1 (pA H_l32.nx 0) H105_=.val (iN (8*16+8*x.1)) H105_ (bit (H_l32.nx)) 0:=exLd1_row r117_ rfl
   have o119_:=okr (e:=e) r117_ (by omega)
   have w120_:Value.int .i64 (wrapF .i64 ((8:Int)*((j:Nat):Int)))=.int .i64 (((8*j):Nat):Int):=wF (by omega)
   have m121_:binV .add (iN (8*16+8*x.1)) (iN ((8*j)))=some (iN (8*(16+x.1+j))):=congrArg (fun z=>some (Value.int .i64 z)) (by rw [show Int.add _ _=(((8*(16+x.1+j):Nat):Int)) from by show ((_:Int)+_)=_;omega];exact wrapF_nat (by omega))
   have w122_:Value.int .i64 (wrapF .i64 (((8*(16+x.1+j):Nat):Int)+((8*1040:Nat):Int)))=.int .i64 ((((8*(16+x.1+j))+(8*1040)):Nat):Int):=wF (by omega)
   have m123_:binV .sub (iN (((8*(16+x.1+j))+(8*1040)))) (iN (8*16))=some (iN (8*(1040+x.1+j))):=congrArg (fun z=>some (Value.int .i64 z)) (by rw [show Int.sub _ _=(((8*(1040+x.1+j):Nat):Int)) from by show ((_:Int)-_)=_;omega];exact wrapF_nat (by omega))
   have r124_:=((htc_73.mv hk91_).mv nb98_.kept).ot wr107_.else_ (by omega)
   have m125_:exLdN 5 (pA 106 0) H105_=.val (.agg ⟨[.int .i64 (3),.int .i64 (1),.int .i64 (0),.bool false,vS []]⟩) H105_ (bit (106)) 0:=exLdN_row r124_ (by show 0+5≤5;decide)
   have o126_:=okr (e:=e) r124_ (by omega)
   have r127_:=((hst_73.mv hk91_).mv nb98_.kept).ot wr107_.else_ (by omega)
   have r128_:=((hmem_73.mv hk91_).mv nb98_.kept).ot wr107_.else_ (by omega)
   simp +decide only [areas_r58,g7_115,g9_115,g11_115,g12_115,g29_115,g30_115,m118_,o119_,w120_,m121_,w122_,m123_,m125_,o126_,Xo 9,go_sem]
   refine EC.mono ((rload_ok S hf109_ (by omega) r127_ rfl rfl r128_ (fun h=>absurd h (by omega)) (fun h=>absurd h (by omega)) (p:=1040+x.1+j) (by omega)).mono fun v H1 _ h_=>by rwa [hz2] at h_) fun v H129_ _ hv130_=>?_
   obtain ⟨rfl,hk131_⟩:=hv130_
   have hf132_:=hk131_.fn
   have nx133_:=hk131_.nx
   have k134_:=k114_.kept hk131_
   rw [WOGk]
   have m135_:∀ Hq,exExt (.tuple #[.agg ⟨[.int .i64 (0),vS [x.2.2]]⟩,.int .i64 (0)]) 0 Hq=.val (.agg ⟨[.int .i64 (0),vS [x.2.2]]⟩) Hq 0 0:=fun _=>rfl
   have m136_:∀ Hq,exExt (.tuple #[.agg ⟨[.int .i64 (0),vS [x.2.2]]⟩,.int .i64 (0)]) 1 Hq=.val (.int .i64 (0)) Hq 0 0:=fun _=>rfl
   obtain ⟨H137_,nb138_⟩:=newB hf132_ [.int .i64 (0),.string ⟨#[]⟩] 47
   have m139_:alloc1 (blkL [.int .i64 (0),.string ⟨#[]⟩] 47 0) H129_ ptrTo 0 0=.val (.pointer (some ⟨H129_.nx,0,none⟩)) H137_ 0 0:=nb138_.al
   have hf140_:=nb138_.kept.fn
   have nx141_:H137_.nx=H129_.nx+1:=nb138_.nx
   have m142_:H129_.nx≤H137_.nx:=by omega
   have lt143_:=nb138_.row.lt
   have k144_:=k134_.kept nb138_.kept
   obtain ⟨H145_,e146_,wr147_⟩:=exStN_at (o:=0) (vs:=[.int .i64 (0),vS [x.2.2]]) hf140_ nb138_.row (by show 0+2≤2;decide)
   have m148_:exSt 2 (pA H129_.nx 0) (.agg ⟨[.int .i64 (0),vS [x.2.2]]⟩) H137_=.val U H145_ 0 (bit (H129_.nx)):=e146_
   have hf149_:=wr147_.fn
   have nx150_:H145_.nx=H137_.nx:=wr147_.nx
   have m151_:H137_.nx≤H145_.nx:=by omega
   have r152_:Row H145_ (H129_.nx) 47 0 [.int .i64 (0),vS [x.2.2]]:=wr147_.row
   have o153_:e.ok 0 (bit (H129_.nx)) H145_:=.write r152_.lt (fun h=>absurd h (by omega))
   have k154_:=k144_.wr (b:=H129_.nx) wr147_.fn wr147_.nx wr147_.else_ (.inr (by omega))
   refine WOG.all (fun t' H'=>H145_=H'∧GT t' [(0,iN n),(7,pA 78 0),(9,iN (8*16)),(11,iN (8*1040)),(12,pA 106 0),(13,va),(14,iN i),(29,pA H_l32.nx 0),(31,pA H89_.nx 0),(32,.int .i64 (0)),(33,pA H129_.nx 0),(34,.int .i64 (0)),(73,lv),(74,iN len),(75,iN i),(245,va),(246,iN (bl.length)),(247,iN q),(252,iN (x.2.1)),(253,iN j)]) ?_ ?_
   ·simp +decide only [areas_r58,g0_115,g7_115,g9_115,g11_115,g12_115,g13_115,g14_115,g29_115,g30_115,g31_115,g32_115,g73_115,g74_115,g75_115,g245_115,g246_115,g247_115,g252_115,g253_115,m135_,m136_,m139_,m142_,m148_,m151_,o153_,Xo 9,go_sem]
   rintro t155_ _ ⟨rfl,g0_155,g7_155,g9_155,g11_155,g12_155,g13_155,g14_155,g29_155,g31_155,g32_155,g33_155,g34_155,g73_155,g74_155,g75_155,g245_155,g246_155,g247_155,g252_155,g253_155, -⟩
   refine hK0 _ _ ?_
   refine WK.seq ?_
   refine WK.reg_g ?_
   have d157_:decide ((0:Int)=(0:Int))=true:=decide_eq_true (by omega)
   have d158_:decide ((0:Int)=(0:Int))=true:=decide_eq_true (by omega)
   have r159_:=((r112_.mv hk131_).mv nb138_.kept).ot wr147_.else_ (by omega)
   have m160_:exLd1 (pA H89_.nx 1) H145_=.val (vS [x.2.2]) H145_ (bit (H89_.nx)) 0:=exLd1_row r159_ rfl
   have o161_:=okr (e:=e) r159_ (by omega)
   have r162_:=((r117_.mv hk131_).mv nb138_.kept).ot wr147_.else_ (by omega)
   have m163_:exLd1 (pA H_l32.nx 2) H145_=.val (uB x.2.2) H145_ (bit (H_l32.nx)) 0:=exLd1_row r162_ rfl
   have o164_:=okr (e:=e) r162_ (by omega)
   obtain ⟨H165_,e166_,rw167_,kp168_,nx169_⟩:=bsl_one hf149_ (x.2.2)
   have m170_:∀ t:T Value,t.get 292=uB x.2.2→fillL t [.int .u8 (0)] [(0,1,.tmp 292)]=some [uB (x.2.2)]:=fun t h0=>by simp only [fillL,evalO_tmp,h0];rfl
   have m171_:alloc1 (blkL [uB (x.2.2)] 5 0) H145_ (fun i=>mkSlV (some (i,0)) 1 1 false) 0 0=.val (.slice (some ⟨H145_.nx,0,none⟩) (1) (2*1)) H165_ 0 0:=e166_
   have hf172_:=kp168_.fn
   have m173_:H145_.nx≤H165_.nx:=by omega
   have k174_:=k154_.kept kp168_
   have lt175_:=rw167_.lt
   have m176_:exToS (sC H145_.nx 0 (1) (2*1)) H165_=.val (vS [x.2.2]) H165_ (bit (H145_.nx)) 0:=ByU.toS0 rw167_ (by omega)
   have o177_:=okr (e:=e) rw167_ (by omega)
   have m178_:∀ Hq,exEq true (.one .s) (vS [x.2.2]) (vS [x.2.2]) Hq=.val (.bool false) Hq 0 0:=fun Hq=>eq_str _ Hq
   have r179_:=r152_.mv kp168_
   have m180_:exLdN 2 (pA H129_.nx 0) H165_=.val (.agg ⟨[.int .i64 (0),vS [x.2.2]]⟩) H165_ (bit (H129_.nx)) 0:=exLdN_row r179_ (by show 0+2≤2;decide)
   have o181_:=okr (e:=e) r179_ (by omega)
   have r182_:=r159_.mv kp168_
   have m183_:exLdN 2 (pA H89_.nx 0) H165_=.val (.agg ⟨[.int .i64 (0),vS [x.2.2]]⟩) H165_ (bit (H89_.nx)) 0:=exLdN_row r182_ (by show 0+2≤2;decide)
   have o184_:=okr (e:=e) r182_ (by omega)
   have m185_:∀ Hq,exEq true (.many 2 [(0,.i),(1,.s)]) (.agg ⟨[.int .i64 (0),vS [x.2.2]]⟩) (.agg ⟨[.int .i64 (0),vS [x.2.2]]⟩) Hq=.val (.bool false) Hq 0 0:=fun Hq=>eq_val _ Hq
   refine WOG.all (fun t' H'=>H165_=H'∧GT t' [(0,iN n),(7,pA 78 0),(9,iN (8*16)),(11,iN (8*1040)),(12,pA 106 0),(13,va),(14,iN i),(29,pA H_l32.nx 0),(73,lv),(74,iN len),(75,iN i),(245,va),(246,iN (bl.length)),(247,iN q),(252,iN (x.2.1)),(253,iN j),(301,.bool false)]) ?_ ?_
   ·simp +decide only [areas_r59,g0_155,g7_155,g9_155,g11_155,g12_155,g13_155,g14_155,g29_155,g31_155,g32_155,g33_155,g34_155,g73_155,g74_155,g75_155,g245_155,g246_155,g247_155,g252_155,g253_155,d157_,d158_,m160_,o161_,m163_,o164_,m170_,exFill_some,m171_,m173_,m176_,o177_,m178_,m180_,o181_,m183_,o184_,m185_,Xo 9,go_sem]
   rintro t186_ _ ⟨rfl,g0_186,g7_186,g9_186,g11_186,g12_186,g13_186,g14_186,g29_186,g73_186,g74_186,g75_186,g245_186,g246_186,g247_186,g252_186,g253_186,g301_186, -⟩
   refine WK.cond (v:=false) (by rw [evalO_tmp,g301_186];rfl) ?_
   refine WK.skip ?_
   refine WK.reg_g ?_
   have w188_:Value.int .i64 (wrapF .i64 (((j:Nat):Int)+(1:Int)))=.int .i64 (((j+1):Nat):Int):=wF (by omega)
   refine WOG.all (fun t' H'=>H165_=H'∧GT t' [(0,iN n),(7,pA 78 0),(9,iN (8*16)),(11,iN (8*1040)),(12,pA 106 0),(13,va),(14,iN i),(29,pA H_l32.nx 0),(73,lv),(74,iN len),(75,iN i),(245,va),(246,iN (bl.length)),(247,iN q),(252,iN (x.2.1)),(253,iN ((j+1)))]) ?_ ?_
   ·simp +decide only [areas_r61,g0_186,g7_186,g9_186,g11_186,g12_186,g13_186,g14_186,g29_186,g73_186,g74_186,g75_186,g245_186,g246_186,g247_186,g252_186,g253_186,g301_186,w188_,Xo 9,go_sem]
   rintro t189_ _ ⟨rfl,g0_189,g7_189,g9_189,g11_189,g12_189,g13_189,g14_189,g29_189,g73_189,g74_189,g75_189,g245_189,g246_189,g247_189,g252_189,g253_189, -⟩
   have r191_:=(((r127_.mv hk131_).mv nb138_.kept).ot wr147_.else_ (by omega)).mv kp168_
   have r192_:=(((r124_.mv hk131_).mv nb138_.kept).ot wr147_.else_ (by omega)).mv kp168_
   have r193_:=(((r128_.mv hk131_).mv nb138_.kept).ot wr147_.else_ (by omega)).mv kp168_
   have r194_:=((((((hall_73.mv hk91_).mv nb98_.kept).ot wr107_.else_ (by omega)).mv hk131_).mv nb138_.kept).ot wr147_.else_ (by omega)).mv kp168_
   have r195_:=r162_.mv kp168_
   exact ⟨_,by omega,rfl,j+1,rfl,by omega,⟨hf172_,by omega,k174_,r191_,r192_,r193_,r194_,by omega⟩,r195_,g0_189,g7_189,g9_189,g11_189,g12_189,g13_189,g14_189,g29_189,g73_189,g74_189,g75_189,g245_189,g246_189,g247_189,g252_189,g253_189⟩
  case neg =>
   refine WK.reg_g ?_
   have d78_:decide (((j:Nat):Int)<((x.2.1:Nat):Int))=false:=decide_eq_false (by omega)
   refine WOG.all (fun t' H'=>H_l72=H'∧GT t' [(0,iN n),(7,pA 78 0),(9,iN (8*16)),(11,iN (8*1040)),(12,pA 106 0),(13,va),(14,iN i),(29,pA H_l32.nx 0),(73,lv),(74,iN len),(75,iN i),(245,va),(246,iN (bl.length)),(247,iN q),(252,iN (x.2.1)),(253,iN j),(254,.bool false)]) ?_ ?_
   ·simp +decide only [areas_r55,g0_l72,g7_l72,g9_l72,g11_l72,g12_l72,g13_l72,g14_l72,g29_l72,g73_l72,g74_l72,g75_l72,g245_l72,g246_l72,g247_l72,g252_l72,g253_l72,d78_,Xo 9,go_sem]
   rintro t79_ _ ⟨rfl,g0_79,g7_79,g9_79,g11_79,g12_79,g13_79,g14_79,g29_79,g73_79,g74_79,g75_79,g245_79,g246_79,g247_79,g252_79,g253_79,g254_79, -⟩
   refine WK.seq ?_
   refine WK.cond (v:=false) (by rw [evalO_tmp,g254_79];rfl) ?_
   refine WK.exit ?_
   refine WK.reg_g ?_
   have w81_:Value.int .i64 (wrapF .i64 (((q:Nat):Int)+(1:Int)))=.int .i64 (((q+1):Nat):Int):=wF (by omega)
   refine WOG.all (fun t' H'=>H_l72=H'∧GT t' [(0,iN n),(7,pA 78 0),(9,iN (8*16)),(11,iN (8*1040)),(12,pA 106 0),(13,va),(14,iN i),(29,pA H_l32.nx 0),(73,lv),(74,iN len),(75,iN i),(245,va),(246,iN (bl.length)),(247,iN ((q+1))),(252,iN (x.2.1)),(253,iN j)]) ?_ ?_
   ·simp +decide only [areas_r63,g0_79,g7_79,g9_79,g11_79,g12_79,g13_79,g14_79,g29_79,g73_79,g74_79,g75_79,g245_79,g246_79,g247_79,g252_79,g253_79,g254_79,w81_,Xo 9,go_sem]
   rintro t82_ _ ⟨rfl,g0_82,g7_82,g9_82,g11_82,g12_82,g13_82,g14_82,g29_82,g73_82,g74_82,g75_82,g245_82,g246_82,g247_82,g252_82,g253_82, -⟩
   exact ⟨_,by omega,rfl,q+1,rfl,by omega,⟨hf_73,by omega,hX_73,hst_73,htc_73,hmem_73,hall_73,by omega⟩,g0_82,g7_82,g9_82,g11_82,g12_82,g13_82,g14_82,g73_82,g74_82,g75_82,g245_82,g246_82,g247_82⟩
 case neg =>
  refine WK.reg_g ?_
  have d38_:decide (((q:Nat):Int)<((bl.length:Nat):Int))=false:=decide_eq_false (by omega)
  refine WOG.all (fun t' H'=>H_l32=H'∧GT t' [(0,iN n),(7,pA 78 0),(9,iN (8*16)),(11,iN (8*1040)),(12,pA 106 0),(13,va),(14,iN i),(73,lv),(74,iN len),(75,iN i),(245,va),(246,iN (bl.length)),(247,iN q),(248,.bool false)]) ?_ ?_
  ·simp +decide only [areas_r52,g0_l32,g7_l32,g9_l32,g11_l32,g12_l32,g13_l32,g14_l32,g73_l32,g74_l32,g75_l32,g245_l32,g246_l32,g247_l32,d38_,Xo 9,go_sem]
  rintro t39_ _ ⟨rfl,g0_39,g7_39,g9_39,g11_39,g12_39,g13_39,g14_39,g73_39,g74_39,g75_39,g245_39,g246_39,g247_39,g248_39, -⟩
  refine WK.seq ?_
  refine WK.cond (v:=false) (by rw [evalO_tmp,g248_39];rfl) ?_
  refine WK.exit ?_
  exact hK _ _ _ _ ⟨hf_33,by omega,hX_33,hst_33,htc_33,hmem_33,hall_33,by omega⟩ hcp1 ⟨g0_39,g7_39,g9_39,g11_39,g12_39,g13_39,g14_39,g73_39,g74_39,g75_39⟩
end
end Go.Proofs.RS
end
