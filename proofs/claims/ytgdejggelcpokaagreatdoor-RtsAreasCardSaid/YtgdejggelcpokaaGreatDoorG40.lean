/-
 A part of the proof that pliantlaw15.RtsAreas returns true and leaves its arguments alone. Conditions: those of the card in the last text.
-/
import Derived.Test.YtgdejggelcpokaaGreatDoorG38
import Derived.Test.YtgdejggelcpokaaGreatDoorG39
set_option linter.unusedSimpArgs false
set_option linter.unusedVariables false
set_option linter.unusedSectionVars false
noncomputable section
namespace Go.Proofs.RS
open Go Go.Ev Go.Proofs Go.Ar
section
attribute [local go_sem] Bc_f Bc_t GT Ro_some Rv_eq WOG Yj Yk Yl Ym Yn Yo Yp Yq Yr and_self and_true binV_add binV_gtr binV_lss binV_mul callV_func dec_F dec_T evalL evalO_const evalO_func evalO_tmp exEq_int exFa_ptr exLen_str exPick_f exPick_t exUn_not if_false if_true ok_zero run true_and wantsV_U wantsV_ff wantsV_ft wantsV_tf wantsV_tt wants_none' wants_some
variable {sp:Nat→List Value→Hp→Option (Value×Hp×Nat×Nat)} {e:Env}
set_option maxRecDepth 10000 in
set_option maxHeartbeats 4000000 in
theorem loop_ok (S:SpX sp) (Sd:∀ args H,sp 17 args H=spDelB args H) {HL:Hp} {n len:Nat} {lv:Value} {l:List Int} (he0:e.n0≤76) (hHL:HL.nx=107) (hn:n≤512) (h16:16≤n) (hlen:∀ Hq:Hp,exLen 1 lv Hq=.val (vN ((len:Nat):Int)) Hq 0 0) (hll:l.length=len) (hl30:len≤30) (hl:∀ H':Hp,(∀ b,b<13→H'.blk b=HL.blk b)→RowR e H' 1 (fun (x:Int) vs=>vs=[.int .i64 x]) lv l) {d:Code} {t:T Value} {H:Hp} (hs:Sit HL H (fun _=>0) 104 (.slice none 0 0) []) (g0:t.get 0=vN ((n:Nat):Int)) (g7:t.get 7=.pointer (some ⟨78,0,none⟩)) (g9:t.get 9=vN ((8*16:Nat):Int)) (g11:t.get 11=vN ((8*1040:Nat):Int)) (g12:t.get 12=.pointer (some ⟨106,0,none⟩)) (g13:t.get 13=.slice none 0 0) (g73:t.get 73=lv) (g74:t.get 74=vN ((len:Nat):Int)) (g75:t.get 75=vN ((0:Nat):Int))
 {K:Ex→T Value→List Deferred→Hp→Prop} (hK:∀ t' H',K .normal t' [] H') :
 WK Tb0 sp e ⟨9,305,none,false⟩ (.block 0 (.loop d areas_l66)) t [] H K:=by
 have hf_1:=hs.fn
 have nx_1:=hs.nx
 have hba_1:=hs.hba
 have hst_1:Row H (78) 104 0 stA:=hs.st
 have lt2_:=hst_1.lt
 have htc_1:Row H (106) 40 0 [.int .i64 (3),.int .i64 (1),.int .i64 (0),.bool false,vS []]:=hs.tc
 have lt3_:=htc_1.lt
 have hmem_1:ByU H (76) 171 (fun _=>0) (65536):=hs.mem
 have lt4_:=hmem_1.lt
 have hall_1:AllB H (104) (.slice none 0 0) ([]):=hs.all
 have lt5_:=hall_1.lt
 have hX_1:=hs.hX
 refine WK.block (WK.loop_ind (fun m t' ds' H'=>ds'=[]∧∃ i:Nat,∃ F:By,∃ us:List U,∃ us2:List U,∃ bl:List Bk,∃ va:Value,∃ ba:Nat,m=len-i∧i≤len∧bl.length≤i∧Sit HL H' F ba va bl∧Pr F n us us2 bl∧t'.get 0=iN n∧t'.get 7=pA 78 0∧t'.get 9=iN (8*16)∧t'.get 11=iN (8*1040)∧t'.get 12=pA 106 0∧t'.get 13=va∧t'.get 73=lv∧t'.get 74=iN len∧t'.get 75=iN i) ?_ _ t [] H ⟨rfl,0,fun _=>0,[],[],[],.slice none 0 0,104,rfl,by omega,by simp,hs,Pr.start hn h16,g0,g7,g9,g11,g12,g13,g73,g74,g75⟩)
 rintro m_l6 t_l6 ds_ H_l6 ⟨rfl,i,F,us,us2,bl,va,ba,rfl,hi,hbl,hs2,hP,g0_l6,g7_l6,g9_l6,g11_l6,g12_l6,g13_l6,g73_l6,g74_l6,g75_l6⟩
 have hf_7:=hs2.fn
 have nx_7:=hs2.nx
 have hba_7:=hs2.hba
 have hst_7:Row H_l6 (78) 104 0 stA:=hs2.st
 have lt8_:=hst_7.lt
 have htc_7:Row H_l6 (106) 40 0 [.int .i64 (3),.int .i64 (1),.int .i64 (0),.bool false,vS []]:=hs2.tc
 have lt9_:=htc_7.lt
 have hmem_7:ByU H_l6 (76) 171 F (65536):=hs2.mem
 have lt10_:=hmem_7.lt
 have hall_7:AllB H_l6 (ba) va bl:=hs2.all
 have lt11_:=hall_7.lt
 have hX_7:=hs2.hX
 unfold areas_l66
 refine WK.seq ?_
 by_cases hlt:i<len
 case pos =>
  obtain ⟨x,hx⟩:∃ x,l[i]?=some x:=⟨_,List.getElem?_eq_getElem (by omega)⟩
  obtain ⟨lb,lo,vs,hel,hvs⟩:=(hl H_l6 fun b hb=>hX_7.old b (by omega) (by omega)).el hx
  subst hvs
  refine WK.reg_g ?_
  have d12_:decide (((i:Nat):Int)<((len:Nat):Int))=true:=decide_eq_true (by omega)
  refine WOG.all (fun t' H'=>H_l6=H'∧GT t' [(0,iN n),(7,pA 78 0),(9,iN (8*16)),(11,iN (8*1040)),(12,pA 106 0),(13,va),(73,lv),(74,iN len),(75,iN i),(76,.bool true)]) ?_ ?_
  ·simp +decide only [areas_r18,g0_l6,g7_l6,g9_l6,g11_l6,g12_l6,g13_l6,g73_l6,g74_l6,g75_l6,d12_,Xo 9,go_sem]
  rintro t13_ _ ⟨rfl,g0_13,g7_13,g9_13,g11_13,g12_13,g13_13,g73_13,g74_13,g75_13,g76_13, -⟩
  refine WK.seq ?_
  refine WK.cond (v:=true) (by rw [evalO_tmp,g76_13];rfl) ?_
  refine WK.skip ?_
  refine WK.seq ?_
  refine WK.block ?_
  refine WK.seq ?_
  refine WK.reg_g ?_
  have m15_:exIaS 1 lv (iN i) H_l6=.val (pA lb lo) H_l6 0 0:=hel.addr
  have m16_:exLd1 (pA lb lo) H_l6=.val (.int .i64 (x)) H_l6 (bit (lb)) 0:=hel.ld1 0 _ rfl
  have o17_:e.ok (bit (lb)) 0 H_l6:=hel.ok
  refine WOG.all (fun t' H'=>H_l6=H'∧GT t' [(0,iN n),(7,pA 78 0),(9,iN (8*16)),(11,iN (8*1040)),(12,pA 106 0),(13,va),(14,iN i),(15,.int .i64 (x)),(73,lv),(74,iN len),(75,iN i)]) ?_ ?_
  ·simp +decide only [areas_r19,g0_13,g7_13,g9_13,g11_13,g12_13,g13_13,g73_13,g74_13,g75_13,g76_13,m15_,m16_,o17_,Xo 9,go_sem]
  rintro t18_ _ ⟨rfl,g0_18,g7_18,g9_18,g11_18,g12_18,g13_18,g14_18,g15_18,g73_18,g74_18,g75_18, -⟩
  refine WK.seq ?_
  refine WK.seq ?_
  by_cases hneg:x<0
  case pos =>
   by_cases hne:0<bl.length
   case pos =>
    refine WK.reg_g ?_
    have d20_:decide (x<(0:Int))=true:=decide_eq_true (by omega)
    have m21_:∀ Hq,exLen 1 va Hq=.val (vN ((bl.length:Nat):Int)) Hq 0 0:=fun Hq=>hall_7.len Hq
    have d22_:decide ((0:Int)<((bl.length:Nat):Int))=true:=decide_eq_true (by omega)
    refine WOG.all (fun t' H'=>H_l6=H'∧GT t' [(0,iN n),(7,pA 78 0),(9,iN (8*16)),(11,iN (8*1040)),(12,pA 106 0),(13,va),(14,iN i),(15,.int .i64 (x)),(73,lv),(74,iN len),(75,iN i),(86,.bool true)]) ?_ ?_
    ·simp +decide only [areas_r20,g0_18,g7_18,g9_18,g11_18,g12_18,g13_18,g14_18,g15_18,g73_18,g74_18,g75_18,d20_,m21_,d22_,Xo 9,go_sem]
    rintro t23_ _ ⟨rfl,g0_23,g7_23,g9_23,g11_23,g12_23,g13_23,g14_23,g15_23,g73_23,g74_23,g75_23,g86_23, -⟩
    refine WK.cond (v:=true) (by rw [evalO_tmp,g86_23];rfl) ?_
    refine WK.seq ?_
    obtain ⟨kk,hkk,hkm⟩:=modL x hne
    obtain ⟨hb1_,hb2_⟩:=tmod_b x hne
    obtain ⟨y,hy⟩:∃ y,bl[kk]?=some y:=⟨_,List.getElem?_eq_getElem hkk⟩
    have hym:y∈bl:=List.mem_of_getElem? hy
    obtain ⟨hyi1,hyi2,hyi3⟩:=hP.in_ hym
    obtain ⟨b1,b2,hsplit,hb1⟩:∃ b1 b2,bl=b1++y::b2∧b1.length=kk:=split_at hy
    have hbl2:(b1++b2).length+1=bl.length:=by rw [hsplit,List.length_append,List.length_append,List.length_cons];omega
    refine WK.reg_g ?_
    have m25_:∀ Hq,exLen 1 va Hq=.val (vN ((bl.length:Nat):Int)) Hq 0 0:=fun Hq=>hall_7.len Hq
    have m26_:∀ Hq,R.o (binV .rem (.int .i64 (x)) (iN (bl.length))) Hq=.val (.int .i64 (x.tmod ((bl.length:Nat):Int))) Hq 0 0:=fun Hq=>remI (by omega) Hq
    have m27_:∀ Hq,exLen 1 va Hq=.val (vN ((bl.length:Nat):Int)) Hq 0 0:=fun Hq=>hall_7.len Hq
    have w28_:Value.int .i64 (wrapF .i64 (((x.tmod ((bl.length:Nat):Int)))+((bl.length:Nat):Int)))=.int .i64 (((x.tmod ((bl.length:Nat):Int)))+((bl.length:Nat):Int)):=congrArg _ (wrapF_i64 (by omega) (by omega))
    have m29_:∀ Hq,exLen 1 va Hq=.val (vN ((bl.length:Nat):Int)) Hq 0 0:=fun Hq=>hall_7.len Hq
    have m30_:∀ Hq,R.o (binV .rem (.int .i64 ((((x.tmod ((bl.length:Nat):Int)))+((bl.length:Nat):Int)))) (iN (bl.length))) Hq=.val (iN kk) Hq 0 0:=fun Hq=>by rw [remI (by omega),hkm]
    refine WOG.all (fun t' H'=>H_l6=H'∧GT t' [(0,iN n),(7,pA 78 0),(9,iN (8*16)),(11,iN (8*1040)),(12,pA 106 0),(13,va),(14,iN i),(15,.int .i64 (x)),(16,iN kk),(73,lv),(74,iN len),(75,iN i)]) ?_ ?_
    ·simp +decide only [areas_r21,g0_23,g7_23,g9_23,g11_23,g12_23,g13_23,g14_23,g15_23,g73_23,g74_23,g75_23,g86_23,m25_,m26_,m27_,w28_,m29_,m30_,Xo 9,go_sem]
    rintro t31_ _ ⟨rfl,g0_31,g7_31,g9_31,g11_31,g12_31,g13_31,g14_31,g15_31,g16_31,g73_31,g74_31,g75_31, -⟩
    refine WK.seq ?_
    refine WK.seq ?_
    refine WK.reg_g ?_
    refine WOG.hide fun K0 hK0=>?_
    have m33_:∀ Hq,exIaS 3 va (iN kk) Hq=.val (pA ba (kk*3)) Hq 0 0:=fun Hq=>iaS_all hall_7 (by omega) Hq
    have m34_:exLd1 (pA ba (kk*3)) H_l6=.val (iN (8*16+8*y.1)) H_l6 (bit (ba)) 0:=ld1_all hall_7 hy
    have o35_:e.ok (bit (ba)) 0 H_l6:=.read hall_7.lt (fun h=>absurd h (by omega))
    simp +decide only [areas_r22,g0_31,g7_31,g9_31,g13_31,g16_31,m33_,m34_,o35_,Xo 9,go_sem]
    refine EC.mono (rfree_ok S hf_7 (by omega) hst_7 rfl rfl hmem_7 (fun h=>absurd h (by omega)) (fun h=>absurd h (by omega)) (fun h=>absurd h (by omega)) (k:=y.2.1) (off:=y.1) (p:=16) (n:=n) (us:=us) (by decide) hP.is1 h16 (by omega) (by omega) (hP.mem hym)) fun v H36_ _ hv37_=>?_
    obtain ⟨rfl,f1,us1,hfr,hovF⟩:=hv37_
    have hf38_:=hovF.fn
    have nx39_:=hovF.nx
    have k40_:=hX_7.upd hovF.fn hovF.nx hovF.old (.inl (.inl rfl))
    rw [WOGk]
    have d41_:decide ((0:Int)=(0:Int))=true:=decide_eq_true (by omega)
    refine WOG.all (fun t' H'=>H36_=H'∧GT t' [(0,iN n),(7,pA 78 0),(9,iN (8*16)),(11,iN (8*1040)),(12,pA 106 0),(13,va),(14,iN i),(15,.int .i64 (x)),(16,iN kk),(73,lv),(74,iN len),(75,iN i),(106,.bool false)]) ?_ ?_
    ·simp +decide only [areas_r22,g0_31,g7_31,g9_31,g11_31,g12_31,g13_31,g14_31,g15_31,g16_31,g73_31,g74_31,g75_31,d41_,Xo 9,go_sem]
    rintro t42_ _ ⟨rfl,g0_42,g7_42,g9_42,g11_42,g12_42,g13_42,g14_42,g15_42,g16_42,g73_42,g74_42,g75_42,g106_42, -⟩
    refine hK0 _ _ ?_
    obtain ⟨F1,hF1⟩:∃ F1:By,F1=over F 16 n f1:=⟨_,rfl⟩
    have hP1:Pr F1 n us1 us2 (b1++b2):=by rw [hF1];exact Pr.free (u:=y.2.2) (hsplit▸hP) hn hfr
    have r44_:ByU H36_ (76) 171 F1 (65536):=ByU.congr hovF.row (fun i_ _=>by rw [hF1])
    refine WK.cond (v:=false) (by rw [evalO_tmp,g106_42];rfl) ?_
    refine WK.skip ?_
    refine WK.reg_g ?_
    refine WOG.hide fun K0 hK0=>?_
    have w45_:Value.int .i64 (wrapF .i64 (((kk:Nat):Int)+(1:Int)))=.int .i64 (((kk+1):Nat):Int):=wF (by omega)
    have r46_:=hall_7.mo hovF.old (by omega)
    have hdel:=AllB.del (tb:=Tb0) (sp:=sp) (e:=e) Sd hf38_ (hsplit▸r46_:AllB H36_ ba va (b1++y::b2)) (by omega) (by rw [← hsplit];omega)
    rw [hb1] at hdel
    simp +decide only [areas_r24,g13_42,g16_42,w45_,Xo 9,go_sem]
    refine EC.mono (hdel) fun vD H47_ _ hv48_=>?_
    obtain ⟨hfD,hnD,haD,hkD⟩:=hv48_
    have r49_:=hst_7.mo hovF.old (by omega)
    have r50_:=htc_7.mo hovF.old (by omega)
    have r51_:=r49_.mo hkD (by omega)
    have r52_:=r50_.mo hkD (by omega)
    have r53_:=r44_.mo hkD (by omega)
    have k54_:=k40_.upd hfD (by omega) hkD (show (ba=76∨ba=104)∨HL.nx≤ba by omega)
    have ltD:=haD.lt
    rw [WOGk]
    refine WOG.all (fun t' H'=>H47_=H'∧GT t' [(0,iN n),(7,pA 78 0),(9,iN (8*16)),(11,iN (8*1040)),(12,pA 106 0),(13,vD),(14,iN i),(15,.int .i64 (x)),(73,lv),(74,iN len),(75,iN i)]) ?_ ?_
    ·simp +decide only [areas_r24,g0_42,g7_42,g9_42,g11_42,g12_42,g13_42,g14_42,g15_42,g16_42,g73_42,g74_42,g75_42,g106_42,Xo 9,go_sem]
    rintro t55_ _ ⟨rfl,g0_55,g7_55,g9_55,g11_55,g12_55,g13_55,g14_55,g15_55,g73_55,g74_55,g75_55, -⟩
    refine hK0 _ _ ?_
    have hblT:(b1++b2).length≤i+1:=by simp only [List.length_append,List.length_cons,List.length_nil] at *;omega
    refine tail_ok S he0 hHL hn h16 hlen (bl:=(b1++b2)) (us2:=us2) hP1 (by omega) (by omega) ⟨hfD,by omega,k54_,r51_,r52_,r53_,haD,by omega⟩ ⟨g0_55,g7_55,g9_55,g11_55,g12_55,g13_55,g14_55,g73_55,g74_55,g75_55⟩ fun t4 H4 F4 us4 hs5 hP4 ga4=>?_
    have hf_57:=hs5.fn
    have nx_57:=hs5.nx
    have hba_57:=hs5.hba
    have hst_57:Row H4 (78) 104 0 stA:=hs5.st
    have lt58_:=hst_57.lt
    have htc_57:Row H4 (106) 40 0 [.int .i64 (3),.int .i64 (1),.int .i64 (0),.bool false,vS []]:=hs5.tc
    have lt59_:=htc_57.lt
    have hmem_57:ByU H4 (76) 171 F4 (65536):=hs5.mem
    have lt60_:=hmem_57.lt
    have hall_57:AllB H4 (H36_.nx) vD ((b1++b2)):=hs5.all
    have lt61_:=hall_57.lt
    have hX_57:=hs5.hX
    obtain ⟨g0_62,g7_62,g9_62,g11_62,g12_62,g13_62,g14_62,g73_62,g74_62,g75_62⟩:=ga4
    refine WK.reg_g ?_
    have w63_:Value.int .i64 (wrapF .i64 (((i:Nat):Int)+(1:Int)))=.int .i64 (((i+1):Nat):Int):=wF (by omega)
    refine WOG.all (fun t' H'=>H4=H'∧GT t' [(0,iN n),(7,pA 78 0),(9,iN (8*16)),(11,iN (8*1040)),(12,pA 106 0),(13,vD),(14,iN i),(73,lv),(74,iN len),(75,iN ((i+1)))]) ?_ ?_
    ·simp +decide only [areas_r65,g0_62,g7_62,g9_62,g11_62,g12_62,g13_62,g14_62,g73_62,g74_62,g75_62,w63_,Xo 9,go_sem]
    rintro t64_ _ ⟨rfl,g0_64,g7_64,g9_64,g11_64,g12_64,g13_64,g14_64,g73_64,g74_64,g75_64, -⟩
    exact ⟨_,by omega,rfl,i+1,F4,us1,us4,((b1++b2)),vD,H36_.nx,rfl,by omega,hblT,⟨hf_57,by omega,hX_57,hst_57,htc_57,hmem_57,hall_57,by omega⟩,hP4,g0_64,g7_64,g9_64,g11_64,g12_64,g13_64,g73_64,g74_64,g75_64⟩
   case neg =>
    refine WK.reg_g ?_
    have d20_:decide (x<(0:Int))=true:=decide_eq_true (by omega)
    have m21_:∀ Hq,exLen 1 va Hq=.val (vN ((bl.length:Nat):Int)) Hq 0 0:=fun Hq=>hall_7.len Hq
    have d22_:decide ((0:Int)<((bl.length:Nat):Int))=false:=decide_eq_false (by omega)
    refine WOG.all (fun t' H'=>H_l6=H'∧GT t' [(0,iN n),(7,pA 78 0),(9,iN (8*16)),(11,iN (8*1040)),(12,pA 106 0),(13,va),(14,iN i),(15,.int .i64 (x)),(73,lv),(74,iN len),(75,iN i),(86,.bool false)]) ?_ ?_
    ·simp +decide only [areas_r20,g0_18,g7_18,g9_18,g11_18,g12_18,g13_18,g14_18,g15_18,g73_18,g74_18,g75_18,d20_,m21_,d22_,Xo 9,go_sem]
    rintro t23_ _ ⟨rfl,g0_23,g7_23,g9_23,g11_23,g12_23,g13_23,g14_23,g15_23,g73_23,g74_23,g75_23,g86_23, -⟩
    refine WK.cond (v:=false) (by rw [evalO_tmp,g86_23];rfl) ?_
    refine WK.seq ?_
    obtain ⟨m,hm,hmm⟩:∃ m:Nat,m<64∧(x.tmod (64:Int)+(64:Int)).tmod (64:Int)=(m:Int):=modL x (L:=64) (by decide)
    obtain ⟨hb1_,hb2_⟩ : -(64:Int)<x.tmod (64:Int)∧x.tmod (64:Int)<(64:Int):=tmod_b x (L:=64) (by decide)
    refine WK.reg_g ?_
    have m25_:∀ Hq,R.o (binV .rem (.int .i64 (x)) (.int .i64 (64))) Hq=.val (.int .i64 (x.tmod (64:Int))) Hq 0 0:=fun Hq=>remI (by decide) Hq
    have w26_:Value.int .i64 (wrapF .i64 (((x.tmod (64:Int)))+(64:Int)))=.int .i64 (((x.tmod (64:Int)))+(64:Int)):=congrArg _ (wrapF_i64 (by omega) (by omega))
    have m27_:∀ Hq,R.o (binV .rem (.int .i64 ((((x.tmod (64:Int)))+(64:Int)))) (.int .i64 (64))) Hq=.val (iN m) Hq 0 0:=fun Hq=>by rw [remI (by decide),hmm]
    have w28_:Value.int .i64 (wrapF .i64 ((1:Int)+((m:Nat):Int)))=.int .i64 (((1+m):Nat):Int):=wF (by omega)
    refine WOG.all (fun t' H'=>H_l6=H'∧GT t' [(0,iN n),(7,pA 78 0),(9,iN (8*16)),(11,iN (8*1040)),(12,pA 106 0),(13,va),(14,iN i),(15,.int .i64 (x)),(17,iN ((1+m))),(73,lv),(74,iN len),(75,iN i)]) ?_ ?_
    ·simp +decide only [areas_r25,g0_23,g7_23,g9_23,g11_23,g12_23,g13_23,g14_23,g15_23,g73_23,g74_23,g75_23,g86_23,m25_,w26_,m27_,w28_,Xo 9,go_sem]
    rintro t29_ _ ⟨rfl,g0_29,g7_29,g9_29,g11_29,g12_29,g13_29,g14_29,g15_29,g17_29,g73_29,g74_29,g75_29, -⟩
    obtain ⟨k,hk⟩:∃ k:Nat,k=1+m:=⟨_,rfl⟩
    have g31_:t29_.get 17=iN k:=by rw [g17_29,hk]
    refine WK.seq ?_
    refine WK.reg_g ?_
    refine WOG.hide fun K0 hK0=>?_
    have w32_:Value.int .i64 (wrapF .i64 ((8:Int)*((k:Nat):Int)))=.int .i64 (((8*k):Nat):Int):=wF (by omega)
    simp +decide only [areas_r26,g0_29,g7_29,g9_29,g31_,w32_,Xo 9,go_sem]
    refine EC.mono (ralloc_ok S hf_7 (by omega) hst_7 rfl rfl hmem_7 (fun h=>absurd h (by omega)) (fun h=>absurd h (by omega)) (fun h=>absurd h (by omega)) (k:=k) (p:=16) (n:=n) (us:=us) (by decide) hP.is1 h16 (by omega) (by omega) (by omega) (by omega)) fun v H33_ _ hv34_=>?_
    rcases hv34_ with ⟨rfl,hovA⟩ | ⟨f1,us1,off,rfl,hall_,hovA⟩
    ·
     have hf35_:=hovA.fn
     have nx36_:=hovA.nx
     have k37_:=hX_7.upd hovA.fn hovA.nx hovA.old (.inl (.inl rfl))
     rw [WOGk]
     have m38_:∀ Hq,exExt (.tuple #[.int .i64 (0),.bool false,.int .i64 (0)]) 0 Hq=.val (.int .i64 (0)) Hq 0 0:=fun _=>rfl
     have m39_:∀ Hq,exExt (.tuple #[.int .i64 (0),.bool false,.int .i64 (0)]) 1 Hq=.val (.bool false) Hq 0 0:=fun _=>rfl
     have m40_:∀ Hq,exExt (.tuple #[.int .i64 (0),.bool false,.int .i64 (0)]) 2 Hq=.val (.int .i64 (0)) Hq 0 0:=fun _=>rfl
     refine WOG.all (fun t' H'=>H33_=H'∧GT t' [(0,iN n),(7,pA 78 0),(9,iN (8*16)),(11,iN (8*1040)),(12,pA 106 0),(13,va),(14,iN i),(15,.int .i64 (x)),(17,iN k),(18,.int .i64 (0)),(19,.bool false),(20,.int .i64 (0)),(73,lv),(74,iN len),(75,iN i)]) ?_ ?_
     ·simp +decide only [areas_r26,g0_29,g7_29,g9_29,g11_29,g12_29,g13_29,g14_29,g15_29,g31_,g73_29,g74_29,g75_29,m38_,m39_,m40_,Xo 9,go_sem]
     rintro t41_ _ ⟨rfl,g0_41,g7_41,g9_41,g11_41,g12_41,g13_41,g14_41,g15_41,g17_41,g18_41,g19_41,g20_41,g73_41,g74_41,g75_41, -⟩
     refine hK0 _ _ ?_
     refine WK.seq ?_
     refine WK.seq ?_
     refine WK.reg_g ?_
     have d43_:decide ((0:Int)=(0:Int))=true:=decide_eq_true (by omega)
     have d44_:decide ((0:Int)=(0:Int))=true:=decide_eq_true (by omega)
     refine WOG.all (fun t' H'=>H33_=H'∧GT t' [(0,iN n),(7,pA 78 0),(9,iN (8*16)),(11,iN (8*1040)),(12,pA 106 0),(13,va),(14,iN i),(15,.int .i64 (x)),(17,iN k),(18,.int .i64 (0)),(19,.bool false),(73,lv),(74,iN len),(75,iN i),(136,.bool false)]) ?_ ?_
     ·simp +decide only [areas_r27,g0_41,g7_41,g9_41,g11_41,g12_41,g13_41,g14_41,g15_41,g17_41,g18_41,g19_41,g20_41,g73_41,g74_41,g75_41,d43_,d44_,Xo 9,go_sem]
     rintro t45_ _ ⟨rfl,g0_45,g7_45,g9_45,g11_45,g12_45,g13_45,g14_45,g15_45,g17_45,g18_45,g19_45,g73_45,g74_45,g75_45,g136_45, -⟩
     refine WK.cond (v:=false) (by rw [evalO_tmp,g136_45];rfl) ?_
     refine WK.skip ?_
     refine WK.seq ?_
     refine WK.seq ?_
     refine WK.reg_g ?_
     refine WOG.all (fun t' H'=>H33_=H'∧GT t' [(0,iN n),(7,pA 78 0),(9,iN (8*16)),(11,iN (8*1040)),(12,pA 106 0),(13,va),(14,iN i),(15,.int .i64 (x)),(17,iN k),(18,.int .i64 (0)),(73,lv),(74,iN len),(75,iN i),(138,.bool true)]) ?_ ?_
     ·simp +decide only [areas_r29,g0_45,g7_45,g9_45,g11_45,g12_45,g13_45,g14_45,g15_45,g17_45,g18_45,g19_45,g73_45,g74_45,g75_45,g136_45,Xo 9,go_sem]
     rintro t47_ _ ⟨rfl,g0_47,g7_47,g9_47,g11_47,g12_47,g13_47,g14_47,g15_47,g17_47,g18_47,g73_47,g74_47,g75_47,g138_47, -⟩
     refine WK.cond (v:=true) (by rw [evalO_tmp,g138_47];rfl) ?_
     refine WK.exit ?_
     refine WK.reg_g ?_
     have w49_:Value.int .i64 (wrapF .i64 (((i:Nat):Int)+(1:Int)))=.int .i64 (((i+1):Nat):Int):=wF (by omega)
     refine WOG.all (fun t' H'=>H33_=H'∧GT t' [(0,iN n),(7,pA 78 0),(9,iN (8*16)),(11,iN (8*1040)),(12,pA 106 0),(13,va),(14,iN i),(15,.int .i64 (x)),(17,iN k),(18,.int .i64 (0)),(73,lv),(74,iN len),(75,iN ((i+1)))]) ?_ ?_
     ·simp +decide only [areas_r65,g0_47,g7_47,g9_47,g11_47,g12_47,g13_47,g14_47,g15_47,g17_47,g18_47,g73_47,g74_47,g75_47,g138_47,w49_,Xo 9,go_sem]
     rintro t50_ _ ⟨rfl,g0_50,g7_50,g9_50,g11_50,g12_50,g13_50,g14_50,g15_50,g17_50,g18_50,g73_50,g74_50,g75_50, -⟩
     have r52_:=hst_7.mo hovA.old (by omega)
     have r53_:=htc_7.mo hovA.old (by omega)
     have r54_:=hall_7.mo hovA.old (by omega)
     exact ⟨_,by omega,rfl,i+1,F,us,us2,bl,va,ba,rfl,by omega,(by omega),⟨hf35_,by omega,k37_,r52_,r53_,hovA.row,r54_,by omega⟩,hP,g0_50,g7_50,g9_50,g11_50,g12_50,g13_50,g73_50,g74_50,g75_50⟩
    ·
     have hf35_:=hovA.fn
     have nx36_:=hovA.nx
     have k37_:=hX_7.upd hovA.fn hovA.nx hovA.old (.inl (.inl rfl))
     rw [WOGk]
     have m38_:∀ Hq,exExt (.tuple #[iN (8*16+8*off),.bool true,.int .i64 (0)]) 0 Hq=.val (iN (8*16+8*off)) Hq 0 0:=fun _=>rfl
     have m39_:∀ Hq,exExt (.tuple #[iN (8*16+8*off),.bool true,.int .i64 (0)]) 1 Hq=.val (.bool true) Hq 0 0:=fun _=>rfl
     have m40_:∀ Hq,exExt (.tuple #[iN (8*16+8*off),.bool true,.int .i64 (0)]) 2 Hq=.val (.int .i64 (0)) Hq 0 0:=fun _=>rfl
     refine WOG.all (fun t' H'=>H33_=H'∧GT t' [(0,iN n),(7,pA 78 0),(9,iN (8*16)),(11,iN (8*1040)),(12,pA 106 0),(13,va),(14,iN i),(15,.int .i64 (x)),(17,iN k),(18,iN (8*16+8*off)),(19,.bool true),(20,.int .i64 (0)),(73,lv),(74,iN len),(75,iN i)]) ?_ ?_
     ·simp +decide only [areas_r26,g0_29,g7_29,g9_29,g11_29,g12_29,g13_29,g14_29,g15_29,g31_,g73_29,g74_29,g75_29,m38_,m39_,m40_,Xo 9,go_sem]
     rintro t41_ _ ⟨rfl,g0_41,g7_41,g9_41,g11_41,g12_41,g13_41,g14_41,g15_41,g17_41,g18_41,g19_41,g20_41,g73_41,g74_41,g75_41, -⟩
     refine hK0 _ _ ?_
     obtain ⟨F1,hF1⟩:∃ F1:By,F1=over F 16 n f1:=⟨_,rfl⟩
     have hN:PrN F1 n us1 us2 bl off k:=by rw [hF1];exact hP.alloc hn hall_
     have hlo:=hN.lo
     have hhi:=hN.hi
     have r43_:ByU H33_ (76) 171 F1 (65536):=ByU.congr hovA.row (fun i_ _=>by rw [hF1])
     refine WK.seq ?_
     refine WK.seq ?_
     refine WK.reg_g ?_
     have d44_:decide ((0:Int)=(0:Int))=true:=decide_eq_true (by omega)
     refine WOG.all (fun t' H'=>H33_=H'∧GT t' [(0,iN n),(7,pA 78 0),(9,iN (8*16)),(11,iN (8*1040)),(12,pA 106 0),(13,va),(14,iN i),(15,.int .i64 (x)),(17,iN k),(18,iN (8*16+8*off)),(19,.bool true),(73,lv),(74,iN len),(75,iN i),(136,.bool false)]) ?_ ?_
     ·simp +decide only [areas_r27,g0_41,g7_41,g9_41,g11_41,g12_41,g13_41,g14_41,g15_41,g17_41,g18_41,g19_41,g20_41,g73_41,g74_41,g75_41,d44_,Xo 9,go_sem]
     rintro t45_ _ ⟨rfl,g0_45,g7_45,g9_45,g11_45,g12_45,g13_45,g14_45,g15_45,g17_45,g18_45,g19_45,g73_45,g74_45,g75_45,g136_45, -⟩
     refine WK.cond (v:=false) (by rw [evalO_tmp,g136_45];rfl) ?_
     refine WK.skip ?_
     refine WK.seq ?_
     refine WK.seq ?_
     refine WK.reg_g ?_
     refine WOG.all (fun t' H'=>H33_=H'∧GT t' [(0,iN n),(7,pA 78 0),(9,iN (8*16)),(11,iN (8*1040)),(12,pA 106 0),(13,va),(14,iN i),(15,.int .i64 (x)),(17,iN k),(18,iN (8*16+8*off)),(73,lv),(74,iN len),(75,iN i),(138,.bool false)]) ?_ ?_
     ·simp +decide only [areas_r29,g0_45,g7_45,g9_45,g11_45,g12_45,g13_45,g14_45,g15_45,g17_45,g18_45,g19_45,g73_45,g74_45,g75_45,g136_45,Xo 9,go_sem]
     rintro t47_ _ ⟨rfl,g0_47,g7_47,g9_47,g11_47,g12_47,g13_47,g14_47,g15_47,g17_47,g18_47,g73_47,g74_47,g75_47,g138_47, -⟩
     refine WK.cond (v:=false) (by rw [evalO_tmp,g138_47];rfl) ?_
     refine WK.skip ?_
     refine WK.seq ?_
     refine WK.seq ?_
     refine WK.reg_g ?_
     have d49_:decide (((8*16+8*off:Nat):Int)<((8*16:Nat):Int))=false:=decide_eq_false (by omega)
     have w50_:Value.int .i64 (wrapF .i64 ((8:Int)*((k:Nat):Int)))=.int .i64 (((8*k):Nat):Int):=wF (by omega)
     have w51_:Value.int .i64 (wrapF .i64 (((8*16+8*off:Nat):Int)+(((8*k):Nat):Int)))=.int .i64 ((((8*16+8*off)+((8*k))):Nat):Int):=wF (by omega)
     have w52_:Value.int .i64 (wrapF .i64 ((8:Int)*((n:Nat):Int)))=.int .i64 (((8*n):Nat):Int):=wF (by omega)
     have w53_:Value.int .i64 (wrapF .i64 (((8*16:Nat):Int)+(((8*n):Nat):Int)))=.int .i64 ((((8*16)+((8*n))):Nat):Int):=wF (by omega)
     have d54_:decide (((((8*16)+((8*n))):Nat):Int)<((((8*16+8*off)+((8*k))):Nat):Int))=false:=decide_eq_false (by omega)
     refine WOG.all (fun t' H'=>H33_=H'∧GT t' [(0,iN n),(7,pA 78 0),(9,iN (8*16)),(11,iN (8*1040)),(12,pA 106 0),(13,va),(14,iN i),(15,.int .i64 (x)),(17,iN k),(18,iN (8*16+8*off)),(73,lv),(74,iN len),(75,iN i),(152,.bool false)]) ?_ ?_
     ·simp +decide only [areas_r30,g0_47,g7_47,g9_47,g11_47,g12_47,g13_47,g14_47,g15_47,g17_47,g18_47,g73_47,g74_47,g75_47,g138_47,d49_,w50_,w51_,w52_,w53_,d54_,Xo 9,go_sem]
     rintro t55_ _ ⟨rfl,g0_55,g7_55,g9_55,g11_55,g12_55,g13_55,g14_55,g15_55,g17_55,g18_55,g73_55,g74_55,g75_55,g152_55, -⟩
     refine WK.cond (v:=false) (by rw [evalO_tmp,g152_55];rfl) ?_
     refine WK.skip ?_
     refine WK.seq ?_
     refine WK.seq ?_
     refine WK.reg_g ?_
     have r57_:=hst_7.mo hovA.old (by omega)
     have r58_:=htc_7.mo hovA.old (by omega)
     have r59_:=hall_7.mo hovA.old (by omega)
     have m60_:∀ Hq,exLen 1 va Hq=.val (vN ((bl.length:Nat):Int)) Hq 0 0:=fun Hq=>r59_.len Hq
     refine WOG.all (fun t' H'=>H33_=H'∧GT t' [(0,iN n),(7,pA 78 0),(9,iN (8*16)),(11,iN (8*1040)),(12,pA 106 0),(13,va),(14,iN i),(15,.int .i64 (x)),(17,iN k),(18,iN (8*16+8*off)),(73,lv),(74,iN len),(75,iN i),(153,va),(154,iN (bl.length)),(155,.int .i64 (0))]) ?_ ?_
     ·simp +decide only [areas_r32,g0_55,g7_55,g9_55,g11_55,g12_55,g13_55,g14_55,g15_55,g17_55,g18_55,g73_55,g74_55,g75_55,g152_55,m60_,Xo 9,go_sem]
     rintro t61_ _ ⟨rfl,g0_61,g7_61,g9_61,g11_61,g12_61,g13_61,g14_61,g15_61,g17_61,g18_61,g73_61,g74_61,g75_61,g153_61,g154_61,g155_61, -⟩
     refine l38_ok S he0 hHL hn hN (by omega) (by omega) ⟨hf35_,by omega,k37_,r57_,r58_,r43_,r59_,by omega⟩ ⟨g0_61,g7_61,g9_61,g11_61,g12_61,g13_61,g14_61,g73_61,g74_61,g75_61⟩ g17_61 g18_61 g153_61 g154_61 g155_61 fun t2 H2 hs3 ga2 g17b g18b=>?_
     have hf_63:=hs3.fn
     have nx_63:=hs3.nx
     have hba_63:=hs3.hba
     have hst_63:Row H2 (78) 104 0 stA:=hs3.st
     have lt64_:=hst_63.lt
     have htc_63:Row H2 (106) 40 0 [.int .i64 (3),.int .i64 (1),.int .i64 (0),.bool false,vS []]:=hs3.tc
     have lt65_:=htc_63.lt
     have hmem_63:ByU H2 (76) 171 F1 (65536):=hs3.mem
     have lt66_:=hmem_63.lt
     have hall_63:AllB H2 (ba) va bl:=hs3.all
     have lt67_:=hall_63.lt
     have hX_63:=hs3.hX
     obtain ⟨g0_68,g7_68,g9_68,g11_68,g12_68,g13_68,g14_68,g73_68,g74_68,g75_68⟩:=ga2
     refine WK.seq ?_
     refine WK.seq ?_
     refine WK.reg_g ?_
     refine WOG.all (fun t' H'=>H2=H'∧GT t' [(0,iN n),(7,pA 78 0),(9,iN (8*16)),(11,iN (8*1040)),(12,pA 106 0),(13,va),(14,iN i),(17,iN k),(18,iN (8*16+8*off)),(73,lv),(74,iN len),(75,iN i),(177,iN k),(178,.int .i64 (0))]) ?_ ?_
     ·simp +decide only [areas_r39,g0_68,g7_68,g9_68,g11_68,g12_68,g13_68,g14_68,g17b,g18b,g73_68,g74_68,g75_68,Xo 9,go_sem]
     rintro t69_ _ ⟨rfl,g0_69,g7_69,g9_69,g11_69,g12_69,g13_69,g14_69,g17_69,g18_69,g73_69,g74_69,g75_69,g177_69,g178_69, -⟩
     refine l46_ok S he0 hHL hn hN (by omega) ⟨hf_63,by omega,hX_63,hst_63,htc_63,hmem_63,hall_63,by omega⟩ ⟨g0_69,g7_69,g9_69,g11_69,g12_69,g13_69,g14_69,g73_69,g74_69,g75_69⟩ g17_69 g18_69 g177_69 g178_69 fun t3 H3 hs4 ga3 g17c g18c=>?_
     have hP1:=hN.fill hn (by omega) (UInt8.ofNat (33+i))
     have hf_71:=hs4.fn
     have nx_71:=hs4.nx
     have hba_71:=hs4.hba
     have hst_71:Row H3 (78) 104 0 stA:=hs4.st
     have lt72_:=hst_71.lt
     have htc_71:Row H3 (106) 40 0 [.int .i64 (3),.int .i64 (1),.int .i64 (0),.bool false,vS []]:=hs4.tc
     have lt73_:=htc_71.lt
     have hmem_71:ByU H3 (76) 171 (fill F1 (16+off) k (UInt8.ofNat (33+i))) (65536):=hs4.mem
     have lt74_:=hmem_71.lt
     have hall_71:AllB H3 (ba) va bl:=hs4.all
     have lt75_:=hall_71.lt
     have hX_71:=hs4.hX
     obtain ⟨g0_76,g7_76,g9_76,g11_76,g12_76,g13_76,g14_76,g73_76,g74_76,g75_76⟩:=ga3
     refine WK.reg_g ?_
     have w77_:Value.int .i64 (wrapF .i64 ((33:Int)+((i:Nat):Int)))=.int .i64 (((33+i):Nat):Int):=wF (by omega)
     have m78_:∀ Hq,exCInt .u8 (iN ((33+i))) Hq=.val (uB (UInt8.ofNat ((33+i)))) Hq 0 0:=cU8 _
     have m79_:∀ t:T Value,t.get 216=iN (8*16+8*off)→t.get 217=iN k→t.get 220=uB (UInt8.ofNat ((33+i)))→fillL t [.int .i64 (0),.int .i64 (0),.int .u8 (0)] [(0,1,(.tmp 216)),(1,1,(.tmp 217)),(2,1,(.tmp 220))]=some [iN (8*16+8*off),iN k,uB (UInt8.ofNat ((33+i)))]:=fun t h0 h1 h2=>by simp only [fillL,evalO_tmp,evalO_const,h0,h1,h2];rfl
     obtain ⟨H80_,e81_,rw82_,kp83_,nx84_⟩:=bsl_blk hf_71 ((off,k,UInt8.ofNat (33+i)))
     have m85_:∀ t:T Value,t.get 221=.agg ⟨[iN (8*16+8*off),iN k,uB (UInt8.ofNat ((33+i)))]⟩→fillL t [.int .i64 (0),.int .i64 (0),.int .u8 (0)] [(0,3,.tmp 221)]=some (blkV ((off,k,UInt8.ofNat (33+i)))):=fun t h0=>by simp only [fillL,evalO_tmp,h0];rfl
     have m86_:alloc1 (blkL (blkV ((off,k,UInt8.ofNat (33+i)))) 56 0) H3 (fun i=>mkSlV (some (i,0)) 1 1 false) 0 0=.val (.slice (some ⟨H3.nx,0,none⟩) (1) (2*1)) H80_ 0 0:=e81_
     have hf87_:=kp83_.fn
     have m88_:H3.nx≤H80_.nx:=by omega
     have k89_:=hX_71.kept kp83_
     have lt90_:=rw82_.lt
     have r91_:=hst_71.mv kp83_
     have r92_:=htc_71.mv kp83_
     have r93_:=hmem_71.mv kp83_
     have r94_:=hall_71.mv kp83_
     obtain ⟨va95_,H96_,rH96_,wH96_,e97_,o98_,hf99_,nx100_,ha101_,hk102_⟩:=r94_.app (e:=e) hf87_ (by omega) rw82_ (by omega) (by omega)
     have m103_:H80_.nx≤H96_.nx:=by omega
     have r104_:=r91_.mo hk102_ (by omega)
     have r105_:=r92_.mo hk102_ (by omega)
     have r106_:=r93_.mo hk102_ (by omega)
     have k107_:=k89_.upd hf99_ (by omega) hk102_ (show (ba=76∨ba=104)∨HL.nx≤ba by omega)
     have lt108_:=ha101_.lt
     refine WOG.all (fun t' H'=>H96_=H'∧GT t' [(0,iN n),(7,pA 78 0),(9,iN (8*16)),(11,iN (8*1040)),(12,pA 106 0),(13,va95_),(14,iN i),(17,iN k),(18,iN (8*16+8*off)),(73,lv),(74,iN len),(75,iN i)]) ?_ ?_
     ·simp +decide only [areas_r47,g0_76,g7_76,g9_76,g11_76,g12_76,g13_76,g14_76,g17c,g18c,g73_76,g74_76,g75_76,w77_,m78_,m79_,exFill_some,m85_,exFill_some,m86_,m88_,e97_,o98_,m103_,Xo 9,go_sem]
     rintro t109_ _ ⟨rfl,g0_109,g7_109,g9_109,g11_109,g12_109,g13_109,g14_109,g17_109,g18_109,g73_109,g74_109,g75_109, -⟩
     have hblT:(bl++[(off,k,UInt8.ofNat (33+i))]).length≤i+1:=by simp only [List.length_append,List.length_cons,List.length_nil] at *;omega
     refine tail_ok S he0 hHL hn h16 hlen (bl:=(bl++[(off,k,UInt8.ofNat (33+i))])) (us2:=us2) hP1 (by omega) (by omega) ⟨hf99_,by omega,k107_,r104_,r105_,r106_,ha101_,by omega⟩ ⟨g0_109,g7_109,g9_109,g11_109,g12_109,g13_109,g14_109,g73_109,g74_109,g75_109⟩ fun t4 H4 F4 us4 hs5 hP4 ga4=>?_
     have hf_111:=hs5.fn
     have nx_111:=hs5.nx
     have hba_111:=hs5.hba
     have hst_111:Row H4 (78) 104 0 stA:=hs5.st
     have lt112_:=hst_111.lt
     have htc_111:Row H4 (106) 40 0 [.int .i64 (3),.int .i64 (1),.int .i64 (0),.bool false,vS []]:=hs5.tc
     have lt113_:=htc_111.lt
     have hmem_111:ByU H4 (76) 171 F4 (65536):=hs5.mem
     have lt114_:=hmem_111.lt
     have hall_111:AllB H4 (H80_.nx) va95_ ((bl++[(off,k,UInt8.ofNat (33+i))])):=hs5.all
     have lt115_:=hall_111.lt
     have hX_111:=hs5.hX
     obtain ⟨g0_116,g7_116,g9_116,g11_116,g12_116,g13_116,g14_116,g73_116,g74_116,g75_116⟩:=ga4
     refine WK.reg_g ?_
     have w117_:Value.int .i64 (wrapF .i64 (((i:Nat):Int)+(1:Int)))=.int .i64 (((i+1):Nat):Int):=wF (by omega)
     refine WOG.all (fun t' H'=>H4=H'∧GT t' [(0,iN n),(7,pA 78 0),(9,iN (8*16)),(11,iN (8*1040)),(12,pA 106 0),(13,va95_),(14,iN i),(73,lv),(74,iN len),(75,iN ((i+1)))]) ?_ ?_
     ·simp +decide only [areas_r65,g0_116,g7_116,g9_116,g11_116,g12_116,g13_116,g14_116,g73_116,g74_116,g75_116,w117_,Xo 9,go_sem]
     rintro t118_ _ ⟨rfl,g0_118,g7_118,g9_118,g11_118,g12_118,g13_118,g14_118,g73_118,g74_118,g75_118, -⟩
     exact ⟨_,by omega,rfl,i+1,F4,us1,us4,((bl++[(off,k,UInt8.ofNat (33+i))])),va95_,H80_.nx,rfl,by omega,hblT,⟨hf_111,by omega,hX_111,hst_111,htc_111,hmem_111,hall_111,by omega⟩,hP4,g0_118,g7_118,g9_118,g11_118,g12_118,g13_118,g73_118,g74_118,g75_118⟩
  case neg =>
   refine WK.reg_g ?_
   have d20_:decide (x<(0:Int))=false:=decide_eq_false (by omega)
   refine WOG.all (fun t' H'=>H_l6=H'∧GT t' [(0,iN n),(7,pA 78 0),(9,iN (8*16)),(11,iN (8*1040)),(12,pA 106 0),(13,va),(14,iN i),(15,.int .i64 (x)),(73,lv),(74,iN len),(75,iN i),(86,.bool false)]) ?_ ?_
   ·simp +decide only [areas_r20,g0_18,g7_18,g9_18,g11_18,g12_18,g13_18,g14_18,g15_18,g73_18,g74_18,g75_18,d20_,Xo 9,go_sem]
   rintro t21_ _ ⟨rfl,g0_21,g7_21,g9_21,g11_21,g12_21,g13_21,g14_21,g15_21,g73_21,g74_21,g75_21,g86_21, -⟩
   refine WK.cond (v:=false) (by rw [evalO_tmp,g86_21];rfl) ?_
   refine WK.seq ?_
   obtain ⟨m,hm,hmm⟩:∃ m:Nat,m<64∧(x.tmod (64:Int)+(64:Int)).tmod (64:Int)=(m:Int):=modL x (L:=64) (by decide)
   obtain ⟨hb1_,hb2_⟩ : -(64:Int)<x.tmod (64:Int)∧x.tmod (64:Int)<(64:Int):=tmod_b x (L:=64) (by decide)
   refine WK.reg_g ?_
   have m23_:∀ Hq,R.o (binV .rem (.int .i64 (x)) (.int .i64 (64))) Hq=.val (.int .i64 (x.tmod (64:Int))) Hq 0 0:=fun Hq=>remI (by decide) Hq
   have w24_:Value.int .i64 (wrapF .i64 (((x.tmod (64:Int)))+(64:Int)))=.int .i64 (((x.tmod (64:Int)))+(64:Int)):=congrArg _ (wrapF_i64 (by omega) (by omega))
   have m25_:∀ Hq,R.o (binV .rem (.int .i64 ((((x.tmod (64:Int)))+(64:Int)))) (.int .i64 (64))) Hq=.val (iN m) Hq 0 0:=fun Hq=>by rw [remI (by decide),hmm]
   have w26_:Value.int .i64 (wrapF .i64 ((1:Int)+((m:Nat):Int)))=.int .i64 (((1+m):Nat):Int):=wF (by omega)
   refine WOG.all (fun t' H'=>H_l6=H'∧GT t' [(0,iN n),(7,pA 78 0),(9,iN (8*16)),(11,iN (8*1040)),(12,pA 106 0),(13,va),(14,iN i),(15,.int .i64 (x)),(17,iN ((1+m))),(73,lv),(74,iN len),(75,iN i)]) ?_ ?_
   ·simp +decide only [areas_r25,g0_21,g7_21,g9_21,g11_21,g12_21,g13_21,g14_21,g15_21,g73_21,g74_21,g75_21,g86_21,m23_,w24_,m25_,w26_,Xo 9,go_sem]
   rintro t27_ _ ⟨rfl,g0_27,g7_27,g9_27,g11_27,g12_27,g13_27,g14_27,g15_27,g17_27,g73_27,g74_27,g75_27, -⟩
   obtain ⟨k,hk⟩:∃ k:Nat,k=1+m:=⟨_,rfl⟩
   have g29_:t27_.get 17=iN k:=by rw [g17_27,hk]
   refine WK.seq ?_
   refine WK.reg_g ?_
   refine WOG.hide fun K0 hK0=>?_
   have w30_:Value.int .i64 (wrapF .i64 ((8:Int)*((k:Nat):Int)))=.int .i64 (((8*k):Nat):Int):=wF (by omega)
   simp +decide only [areas_r26,g0_27,g7_27,g9_27,g29_,w30_,Xo 9,go_sem]
   refine EC.mono (ralloc_ok S hf_7 (by omega) hst_7 rfl rfl hmem_7 (fun h=>absurd h (by omega)) (fun h=>absurd h (by omega)) (fun h=>absurd h (by omega)) (k:=k) (p:=16) (n:=n) (us:=us) (by decide) hP.is1 h16 (by omega) (by omega) (by omega) (by omega)) fun v H31_ _ hv32_=>?_
   rcases hv32_ with ⟨rfl,hovA⟩ | ⟨f1,us1,off,rfl,hall_,hovA⟩
   ·
    have hf33_:=hovA.fn
    have nx34_:=hovA.nx
    have k35_:=hX_7.upd hovA.fn hovA.nx hovA.old (.inl (.inl rfl))
    rw [WOGk]
    have m36_:∀ Hq,exExt (.tuple #[.int .i64 (0),.bool false,.int .i64 (0)]) 0 Hq=.val (.int .i64 (0)) Hq 0 0:=fun _=>rfl
    have m37_:∀ Hq,exExt (.tuple #[.int .i64 (0),.bool false,.int .i64 (0)]) 1 Hq=.val (.bool false) Hq 0 0:=fun _=>rfl
    have m38_:∀ Hq,exExt (.tuple #[.int .i64 (0),.bool false,.int .i64 (0)]) 2 Hq=.val (.int .i64 (0)) Hq 0 0:=fun _=>rfl
    refine WOG.all (fun t' H'=>H31_=H'∧GT t' [(0,iN n),(7,pA 78 0),(9,iN (8*16)),(11,iN (8*1040)),(12,pA 106 0),(13,va),(14,iN i),(15,.int .i64 (x)),(17,iN k),(18,.int .i64 (0)),(19,.bool false),(20,.int .i64 (0)),(73,lv),(74,iN len),(75,iN i)]) ?_ ?_
    ·simp +decide only [areas_r26,g0_27,g7_27,g9_27,g11_27,g12_27,g13_27,g14_27,g15_27,g29_,g73_27,g74_27,g75_27,m36_,m37_,m38_,Xo 9,go_sem]
    rintro t39_ _ ⟨rfl,g0_39,g7_39,g9_39,g11_39,g12_39,g13_39,g14_39,g15_39,g17_39,g18_39,g19_39,g20_39,g73_39,g74_39,g75_39, -⟩
    refine hK0 _ _ ?_
    refine WK.seq ?_
    refine WK.seq ?_
    refine WK.reg_g ?_
    have d41_:decide ((0:Int)=(0:Int))=true:=decide_eq_true (by omega)
    have d42_:decide ((0:Int)=(0:Int))=true:=decide_eq_true (by omega)
    refine WOG.all (fun t' H'=>H31_=H'∧GT t' [(0,iN n),(7,pA 78 0),(9,iN (8*16)),(11,iN (8*1040)),(12,pA 106 0),(13,va),(14,iN i),(15,.int .i64 (x)),(17,iN k),(18,.int .i64 (0)),(19,.bool false),(73,lv),(74,iN len),(75,iN i),(136,.bool false)]) ?_ ?_
    ·simp +decide only [areas_r27,g0_39,g7_39,g9_39,g11_39,g12_39,g13_39,g14_39,g15_39,g17_39,g18_39,g19_39,g20_39,g73_39,g74_39,g75_39,d41_,d42_,Xo 9,go_sem]
    rintro t43_ _ ⟨rfl,g0_43,g7_43,g9_43,g11_43,g12_43,g13_43,g14_43,g15_43,g17_43,g18_43,g19_43,g73_43,g74_43,g75_43,g136_43, -⟩
    refine WK.cond (v:=false) (by rw [evalO_tmp,g136_43];rfl) ?_
    refine WK.skip ?_
    refine WK.seq ?_
    refine WK.seq ?_
    refine WK.reg_g ?_
    refine WOG.all (fun t' H'=>H31_=H'∧GT t' [(0,iN n),(7,pA 78 0),(9,iN (8*16)),(11,iN (8*1040)),(12,pA 106 0),(13,va),(14,iN i),(15,.int .i64 (x)),(17,iN k),(18,.int .i64 (0)),(73,lv),(74,iN len),(75,iN i),(138,.bool true)]) ?_ ?_
    ·simp +decide only [areas_r29,g0_43,g7_43,g9_43,g11_43,g12_43,g13_43,g14_43,g15_43,g17_43,g18_43,g19_43,g73_43,g74_43,g75_43,g136_43,Xo 9,go_sem]
    rintro t45_ _ ⟨rfl,g0_45,g7_45,g9_45,g11_45,g12_45,g13_45,g14_45,g15_45,g17_45,g18_45,g73_45,g74_45,g75_45,g138_45, -⟩
    refine WK.cond (v:=true) (by rw [evalO_tmp,g138_45];rfl) ?_
    refine WK.exit ?_
    refine WK.reg_g ?_
    have w47_:Value.int .i64 (wrapF .i64 (((i:Nat):Int)+(1:Int)))=.int .i64 (((i+1):Nat):Int):=wF (by omega)
    refine WOG.all (fun t' H'=>H31_=H'∧GT t' [(0,iN n),(7,pA 78 0),(9,iN (8*16)),(11,iN (8*1040)),(12,pA 106 0),(13,va),(14,iN i),(15,.int .i64 (x)),(17,iN k),(18,.int .i64 (0)),(73,lv),(74,iN len),(75,iN ((i+1)))]) ?_ ?_
    ·simp +decide only [areas_r65,g0_45,g7_45,g9_45,g11_45,g12_45,g13_45,g14_45,g15_45,g17_45,g18_45,g73_45,g74_45,g75_45,g138_45,w47_,Xo 9,go_sem]
    rintro t48_ _ ⟨rfl,g0_48,g7_48,g9_48,g11_48,g12_48,g13_48,g14_48,g15_48,g17_48,g18_48,g73_48,g74_48,g75_48, -⟩
    have r50_:=hst_7.mo hovA.old (by omega)
    have r51_:=htc_7.mo hovA.old (by omega)
    have r52_:=hall_7.mo hovA.old (by omega)
    exact ⟨_,by omega,rfl,i+1,F,us,us2,bl,va,ba,rfl,by omega,(by omega),⟨hf33_,by omega,k35_,r50_,r51_,hovA.row,r52_,by omega⟩,hP,g0_48,g7_48,g9_48,g11_48,g12_48,g13_48,g73_48,g74_48,g75_48⟩
   ·
    have hf33_:=hovA.fn
    have nx34_:=hovA.nx
    have k35_:=hX_7.upd hovA.fn hovA.nx hovA.old (.inl (.inl rfl))
    rw [WOGk]
    have m36_:∀ Hq,exExt (.tuple #[iN (8*16+8*off),.bool true,.int .i64 (0)]) 0 Hq=.val (iN (8*16+8*off)) Hq 0 0:=fun _=>rfl
    have m37_:∀ Hq,exExt (.tuple #[iN (8*16+8*off),.bool true,.int .i64 (0)]) 1 Hq=.val (.bool true) Hq 0 0:=fun _=>rfl
    have m38_:∀ Hq,exExt (.tuple #[iN (8*16+8*off),.bool true,.int .i64 (0)]) 2 Hq=.val (.int .i64 (0)) Hq 0 0:=fun _=>rfl
    refine WOG.all (fun t' H'=>H31_=H'∧GT t' [(0,iN n),(7,pA 78 0),(9,iN (8*16)),(11,iN (8*1040)),(12,pA 106 0),(13,va),(14,iN i),(15,.int .i64 (x)),(17,iN k),(18,iN (8*16+8*off)),(19,.bool true),(20,.int .i64 (0)),(73,lv),(74,iN len),(75,iN i)]) ?_ ?_
    ·simp +decide only [areas_r26,g0_27,g7_27,g9_27,g11_27,g12_27,g13_27,g14_27,g15_27,g29_,g73_27,g74_27,g75_27,m36_,m37_,m38_,Xo 9,go_sem]
    rintro t39_ _ ⟨rfl,g0_39,g7_39,g9_39,g11_39,g12_39,g13_39,g14_39,g15_39,g17_39,g18_39,g19_39,g20_39,g73_39,g74_39,g75_39, -⟩
    refine hK0 _ _ ?_
    obtain ⟨F1,hF1⟩:∃ F1:By,F1=over F 16 n f1:=⟨_,rfl⟩
    have hN:PrN F1 n us1 us2 bl off k:=by rw [hF1];exact hP.alloc hn hall_
    have hlo:=hN.lo
    have hhi:=hN.hi
    have r41_:ByU H31_ (76) 171 F1 (65536):=ByU.congr hovA.row (fun i_ _=>by rw [hF1])
    refine WK.seq ?_
    refine WK.seq ?_
    refine WK.reg_g ?_
    have d42_:decide ((0:Int)=(0:Int))=true:=decide_eq_true (by omega)
    refine WOG.all (fun t' H'=>H31_=H'∧GT t' [(0,iN n),(7,pA 78 0),(9,iN (8*16)),(11,iN (8*1040)),(12,pA 106 0),(13,va),(14,iN i),(15,.int .i64 (x)),(17,iN k),(18,iN (8*16+8*off)),(19,.bool true),(73,lv),(74,iN len),(75,iN i),(136,.bool false)]) ?_ ?_
    ·simp +decide only [areas_r27,g0_39,g7_39,g9_39,g11_39,g12_39,g13_39,g14_39,g15_39,g17_39,g18_39,g19_39,g20_39,g73_39,g74_39,g75_39,d42_,Xo 9,go_sem]
    rintro t43_ _ ⟨rfl,g0_43,g7_43,g9_43,g11_43,g12_43,g13_43,g14_43,g15_43,g17_43,g18_43,g19_43,g73_43,g74_43,g75_43,g136_43, -⟩
    refine WK.cond (v:=false) (by rw [evalO_tmp,g136_43];rfl) ?_
    refine WK.skip ?_
    refine WK.seq ?_
    refine WK.seq ?_
    refine WK.reg_g ?_
    refine WOG.all (fun t' H'=>H31_=H'∧GT t' [(0,iN n),(7,pA 78 0),(9,iN (8*16)),(11,iN (8*1040)),(12,pA 106 0),(13,va),(14,iN i),(15,.int .i64 (x)),(17,iN k),(18,iN (8*16+8*off)),(73,lv),(74,iN len),(75,iN i),(138,.bool false)]) ?_ ?_
    ·simp +decide only [areas_r29,g0_43,g7_43,g9_43,g11_43,g12_43,g13_43,g14_43,g15_43,g17_43,g18_43,g19_43,g73_43,g74_43,g75_43,g136_43,Xo 9,go_sem]
    rintro t45_ _ ⟨rfl,g0_45,g7_45,g9_45,g11_45,g12_45,g13_45,g14_45,g15_45,g17_45,g18_45,g73_45,g74_45,g75_45,g138_45, -⟩
    refine WK.cond (v:=false) (by rw [evalO_tmp,g138_45];rfl) ?_
    refine WK.skip ?_
    refine WK.seq ?_
    refine WK.seq ?_
    refine WK.reg_g ?_
    have d47_:decide (((8*16+8*off:Nat):Int)<((8*16:Nat):Int))=false:=decide_eq_false (by omega)
    have w48_:Value.int .i64 (wrapF .i64 ((8:Int)*((k:Nat):Int)))=.int .i64 (((8*k):Nat):Int):=wF (by omega)
    have w49_:Value.int .i64 (wrapF .i64 (((8*16+8*off:Nat):Int)+(((8*k):Nat):Int)))=.int .i64 ((((8*16+8*off)+((8*k))):Nat):Int):=wF (by omega)
    have w50_:Value.int .i64 (wrapF .i64 ((8:Int)*((n:Nat):Int)))=.int .i64 (((8*n):Nat):Int):=wF (by omega)
    have w51_:Value.int .i64 (wrapF .i64 (((8*16:Nat):Int)+(((8*n):Nat):Int)))=.int .i64 ((((8*16)+((8*n))):Nat):Int):=wF (by omega)
    have d52_:decide (((((8*16)+((8*n))):Nat):Int)<((((8*16+8*off)+((8*k))):Nat):Int))=false:=decide_eq_false (by omega)
    refine WOG.all (fun t' H'=>H31_=H'∧GT t' [(0,iN n),(7,pA 78 0),(9,iN (8*16)),(11,iN (8*1040)),(12,pA 106 0),(13,va),(14,iN i),(15,.int .i64 (x)),(17,iN k),(18,iN (8*16+8*off)),(73,lv),(74,iN len),(75,iN i),(152,.bool false)]) ?_ ?_
    ·simp +decide only [areas_r30,g0_45,g7_45,g9_45,g11_45,g12_45,g13_45,g14_45,g15_45,g17_45,g18_45,g73_45,g74_45,g75_45,g138_45,d47_,w48_,w49_,w50_,w51_,d52_,Xo 9,go_sem]
    rintro t53_ _ ⟨rfl,g0_53,g7_53,g9_53,g11_53,g12_53,g13_53,g14_53,g15_53,g17_53,g18_53,g73_53,g74_53,g75_53,g152_53, -⟩
    refine WK.cond (v:=false) (by rw [evalO_tmp,g152_53];rfl) ?_
    refine WK.skip ?_
    refine WK.seq ?_
    refine WK.seq ?_
    refine WK.reg_g ?_
    have r55_:=hst_7.mo hovA.old (by omega)
    have r56_:=htc_7.mo hovA.old (by omega)
    have r57_:=hall_7.mo hovA.old (by omega)
    have m58_:∀ Hq,exLen 1 va Hq=.val (vN ((bl.length:Nat):Int)) Hq 0 0:=fun Hq=>r57_.len Hq
    refine WOG.all (fun t' H'=>H31_=H'∧GT t' [(0,iN n),(7,pA 78 0),(9,iN (8*16)),(11,iN (8*1040)),(12,pA 106 0),(13,va),(14,iN i),(15,.int .i64 (x)),(17,iN k),(18,iN (8*16+8*off)),(73,lv),(74,iN len),(75,iN i),(153,va),(154,iN (bl.length)),(155,.int .i64 (0))]) ?_ ?_
    ·simp +decide only [areas_r32,g0_53,g7_53,g9_53,g11_53,g12_53,g13_53,g14_53,g15_53,g17_53,g18_53,g73_53,g74_53,g75_53,g152_53,m58_,Xo 9,go_sem]
    rintro t59_ _ ⟨rfl,g0_59,g7_59,g9_59,g11_59,g12_59,g13_59,g14_59,g15_59,g17_59,g18_59,g73_59,g74_59,g75_59,g153_59,g154_59,g155_59, -⟩
    refine l38_ok S he0 hHL hn hN (by omega) (by omega) ⟨hf33_,by omega,k35_,r55_,r56_,r41_,r57_,by omega⟩ ⟨g0_59,g7_59,g9_59,g11_59,g12_59,g13_59,g14_59,g73_59,g74_59,g75_59⟩ g17_59 g18_59 g153_59 g154_59 g155_59 fun t2 H2 hs3 ga2 g17b g18b=>?_
    have hf_61:=hs3.fn
    have nx_61:=hs3.nx
    have hba_61:=hs3.hba
    have hst_61:Row H2 (78) 104 0 stA:=hs3.st
    have lt62_:=hst_61.lt
    have htc_61:Row H2 (106) 40 0 [.int .i64 (3),.int .i64 (1),.int .i64 (0),.bool false,vS []]:=hs3.tc
    have lt63_:=htc_61.lt
    have hmem_61:ByU H2 (76) 171 F1 (65536):=hs3.mem
    have lt64_:=hmem_61.lt
    have hall_61:AllB H2 (ba) va bl:=hs3.all
    have lt65_:=hall_61.lt
    have hX_61:=hs3.hX
    obtain ⟨g0_66,g7_66,g9_66,g11_66,g12_66,g13_66,g14_66,g73_66,g74_66,g75_66⟩:=ga2
    refine WK.seq ?_
    refine WK.seq ?_
    refine WK.reg_g ?_
    refine WOG.all (fun t' H'=>H2=H'∧GT t' [(0,iN n),(7,pA 78 0),(9,iN (8*16)),(11,iN (8*1040)),(12,pA 106 0),(13,va),(14,iN i),(17,iN k),(18,iN (8*16+8*off)),(73,lv),(74,iN len),(75,iN i),(177,iN k),(178,.int .i64 (0))]) ?_ ?_
    ·simp +decide only [areas_r39,g0_66,g7_66,g9_66,g11_66,g12_66,g13_66,g14_66,g17b,g18b,g73_66,g74_66,g75_66,Xo 9,go_sem]
    rintro t67_ _ ⟨rfl,g0_67,g7_67,g9_67,g11_67,g12_67,g13_67,g14_67,g17_67,g18_67,g73_67,g74_67,g75_67,g177_67,g178_67, -⟩
    refine l46_ok S he0 hHL hn hN (by omega) ⟨hf_61,by omega,hX_61,hst_61,htc_61,hmem_61,hall_61,by omega⟩ ⟨g0_67,g7_67,g9_67,g11_67,g12_67,g13_67,g14_67,g73_67,g74_67,g75_67⟩ g17_67 g18_67 g177_67 g178_67 fun t3 H3 hs4 ga3 g17c g18c=>?_
    have hP1:=hN.fill hn (by omega) (UInt8.ofNat (33+i))
    have hf_69:=hs4.fn
    have nx_69:=hs4.nx
    have hba_69:=hs4.hba
    have hst_69:Row H3 (78) 104 0 stA:=hs4.st
    have lt70_:=hst_69.lt
    have htc_69:Row H3 (106) 40 0 [.int .i64 (3),.int .i64 (1),.int .i64 (0),.bool false,vS []]:=hs4.tc
    have lt71_:=htc_69.lt
    have hmem_69:ByU H3 (76) 171 (fill F1 (16+off) k (UInt8.ofNat (33+i))) (65536):=hs4.mem
    have lt72_:=hmem_69.lt
    have hall_69:AllB H3 (ba) va bl:=hs4.all
    have lt73_:=hall_69.lt
    have hX_69:=hs4.hX
    obtain ⟨g0_74,g7_74,g9_74,g11_74,g12_74,g13_74,g14_74,g73_74,g74_74,g75_74⟩:=ga3
    refine WK.reg_g ?_
    have w75_:Value.int .i64 (wrapF .i64 ((33:Int)+((i:Nat):Int)))=.int .i64 (((33+i):Nat):Int):=wF (by omega)
    have m76_:∀ Hq,exCInt .u8 (iN ((33+i))) Hq=.val (uB (UInt8.ofNat ((33+i)))) Hq 0 0:=cU8 _
    have m77_:∀ t:T Value,t.get 216=iN (8*16+8*off)→t.get 217=iN k→t.get 220=uB (UInt8.ofNat ((33+i)))→fillL t [.int .i64 (0),.int .i64 (0),.int .u8 (0)] [(0,1,(.tmp 216)),(1,1,(.tmp 217)),(2,1,(.tmp 220))]=some [iN (8*16+8*off),iN k,uB (UInt8.ofNat ((33+i)))]:=fun t h0 h1 h2=>by simp only [fillL,evalO_tmp,evalO_const,h0,h1,h2];rfl
    obtain ⟨H78_,e79_,rw80_,kp81_,nx82_⟩:=bsl_blk hf_69 ((off,k,UInt8.ofNat (33+i)))
    have m83_:∀ t:T Value,t.get 221=.agg ⟨[iN (8*16+8*off),iN k,uB (UInt8.ofNat ((33+i)))]⟩→fillL t [.int .i64 (0),.int .i64 (0),.int .u8 (0)] [(0,3,.tmp 221)]=some (blkV ((off,k,UInt8.ofNat (33+i)))):=fun t h0=>by simp only [fillL,evalO_tmp,h0];rfl
    have m84_:alloc1 (blkL (blkV ((off,k,UInt8.ofNat (33+i)))) 56 0) H3 (fun i=>mkSlV (some (i,0)) 1 1 false) 0 0=.val (.slice (some ⟨H3.nx,0,none⟩) (1) (2*1)) H78_ 0 0:=e79_
    have hf85_:=kp81_.fn
    have m86_:H3.nx≤H78_.nx:=by omega
    have k87_:=hX_69.kept kp81_
    have lt88_:=rw80_.lt
    have r89_:=hst_69.mv kp81_
    have r90_:=htc_69.mv kp81_
    have r91_:=hmem_69.mv kp81_
    have r92_:=hall_69.mv kp81_
    obtain ⟨va93_,H94_,rH94_,wH94_,e95_,o96_,hf97_,nx98_,ha99_,hk100_⟩:=r92_.app (e:=e) hf85_ (by omega) rw80_ (by omega) (by omega)
    have m101_:H78_.nx≤H94_.nx:=by omega
    have r102_:=r89_.mo hk100_ (by omega)
    have r103_:=r90_.mo hk100_ (by omega)
    have r104_:=r91_.mo hk100_ (by omega)
    have k105_:=k87_.upd hf97_ (by omega) hk100_ (show (ba=76∨ba=104)∨HL.nx≤ba by omega)
    have lt106_:=ha99_.lt
    refine WOG.all (fun t' H'=>H94_=H'∧GT t' [(0,iN n),(7,pA 78 0),(9,iN (8*16)),(11,iN (8*1040)),(12,pA 106 0),(13,va93_),(14,iN i),(17,iN k),(18,iN (8*16+8*off)),(73,lv),(74,iN len),(75,iN i)]) ?_ ?_
    ·simp +decide only [areas_r47,g0_74,g7_74,g9_74,g11_74,g12_74,g13_74,g14_74,g17c,g18c,g73_74,g74_74,g75_74,w75_,m76_,m77_,exFill_some,m83_,exFill_some,m84_,m86_,e95_,o96_,m101_,Xo 9,go_sem]
    rintro t107_ _ ⟨rfl,g0_107,g7_107,g9_107,g11_107,g12_107,g13_107,g14_107,g17_107,g18_107,g73_107,g74_107,g75_107, -⟩
    have hblT:(bl++[(off,k,UInt8.ofNat (33+i))]).length≤i+1:=by simp only [List.length_append,List.length_cons,List.length_nil] at *;omega
    refine tail_ok S he0 hHL hn h16 hlen (bl:=(bl++[(off,k,UInt8.ofNat (33+i))])) (us2:=us2) hP1 (by omega) (by omega) ⟨hf97_,by omega,k105_,r102_,r103_,r104_,ha99_,by omega⟩ ⟨g0_107,g7_107,g9_107,g11_107,g12_107,g13_107,g14_107,g73_107,g74_107,g75_107⟩ fun t4 H4 F4 us4 hs5 hP4 ga4=>?_
    have hf_109:=hs5.fn
    have nx_109:=hs5.nx
    have hba_109:=hs5.hba
    have hst_109:Row H4 (78) 104 0 stA:=hs5.st
    have lt110_:=hst_109.lt
    have htc_109:Row H4 (106) 40 0 [.int .i64 (3),.int .i64 (1),.int .i64 (0),.bool false,vS []]:=hs5.tc
    have lt111_:=htc_109.lt
    have hmem_109:ByU H4 (76) 171 F4 (65536):=hs5.mem
    have lt112_:=hmem_109.lt
    have hall_109:AllB H4 (H78_.nx) va93_ ((bl++[(off,k,UInt8.ofNat (33+i))])):=hs5.all
    have lt113_:=hall_109.lt
    have hX_109:=hs5.hX
    obtain ⟨g0_114,g7_114,g9_114,g11_114,g12_114,g13_114,g14_114,g73_114,g74_114,g75_114⟩:=ga4
    refine WK.reg_g ?_
    have w115_:Value.int .i64 (wrapF .i64 (((i:Nat):Int)+(1:Int)))=.int .i64 (((i+1):Nat):Int):=wF (by omega)
    refine WOG.all (fun t' H'=>H4=H'∧GT t' [(0,iN n),(7,pA 78 0),(9,iN (8*16)),(11,iN (8*1040)),(12,pA 106 0),(13,va93_),(14,iN i),(73,lv),(74,iN len),(75,iN ((i+1)))]) ?_ ?_
    ·simp +decide only [areas_r65,g0_114,g7_114,g9_114,g11_114,g12_114,g13_114,g14_114,g73_114,g74_114,g75_114,w115_,Xo 9,go_sem]
    rintro t116_ _ ⟨rfl,g0_116,g7_116,g9_116,g11_116,g12_116,g13_116,g14_116,g73_116,g74_116,g75_116, -⟩
    exact ⟨_,by omega,rfl,i+1,F4,us1,us4,((bl++[(off,k,UInt8.ofNat (33+i))])),va93_,H78_.nx,rfl,by omega,hblT,⟨hf_109,by omega,hX_109,hst_109,htc_109,hmem_109,hall_109,by omega⟩,hP4,g0_116,g7_116,g9_116,g11_116,g12_116,g13_116,g73_116,g74_116,g75_116⟩
 case neg =>
  refine WK.reg_g ?_
  have d12_:decide (((i:Nat):Int)<((len:Nat):Int))=false:=decide_eq_false (by omega)
  refine WOG.all (fun t' H'=>H_l6=H'∧GT t' [(0,iN n),(7,pA 78 0),(9,iN (8*16)),(11,iN (8*1040)),(12,pA 106 0),(13,va),(73,lv),(74,iN len),(75,iN i),(76,.bool false)]) ?_ ?_
  ·simp +decide only [areas_r18,g0_l6,g7_l6,g9_l6,g11_l6,g12_l6,g13_l6,g73_l6,g74_l6,g75_l6,d12_,Xo 9,go_sem]
  rintro t13_ _ ⟨rfl,g0_13,g7_13,g9_13,g11_13,g12_13,g13_13,g73_13,g74_13,g75_13,g76_13, -⟩
  refine WK.seq ?_
  refine WK.cond (v:=false) (by rw [evalO_tmp,g76_13];rfl) ?_
  refine WK.exit ?_
  exact hK _ _
end
end Go.Proofs.RS
end
