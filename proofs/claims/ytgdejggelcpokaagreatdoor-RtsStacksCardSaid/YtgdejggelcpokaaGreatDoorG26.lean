/-
 A part of the proof that pliantlaw15.RtsStacks returns true and leaves its arguments alone. Conditions: those of the card in the last text.
-/
import Derived.Test.YtgdejggelcpokaaGreatDoorG12
import Derived.Test.YtgdejggelcpokaaGreatDoorG21
import Derived.Test.YtgdejggelcpokaaGreatDoorG25
set_option linter.unusedSimpArgs false
set_option linter.unusedVariables false
set_option linter.unusedSectionVars false
noncomputable section
namespace Go.Proofs.RS
open Go Go.Ev Go.Proofs Go.Ar
section
attribute [local go_sem] Bc_f Bc_t GT Ro_some Rv_eq WOG Yj Yk Yl Ym Yn Yo Yp Yq Yr and_self and_true binV_add binV_gtr binV_lss callV_func dec_F dec_T evalL evalM evalO_const evalO_func evalO_tmp exEq_int exFa_ptr exLen_str exPick_f exPick_t exUn_not if_false if_true ok_zero putT_none run true_and wantsV_U wantsV_ff wantsV_ft wantsV_tf wantsV_tt wants_none' wants_some
variable {sp:Nat→List Value→Hp→Option (Value×Hp×Nat×Nat)} {e:Env}
set_option maxRecDepth 10000 in
set_option maxHeartbeats 4000000 in
theorem opn_ok (S:SpX sp) {H:Hp} (hf:H.isFn=true) (he:e.n0≤H.nx) {n:Nat} {fb:By} {us:List U} (h:Is fb n us) (h16:16≤n) (hn:n≤8192):EC Tb0 sp e 105 [vS (strF fb n)] H fun v H'=>v=.tuple #[.slice (some ⟨H.nx,0,none⟩) (n) (2*(n)),.bool true]∧Kept H H'∧ByU H' H.nx 5 fb n:=by
 refine EC.i1 (by rfl) opn_some opn_comp (S.no 105 (by decide) _ _) (by show 1≤69;decide) fun t0 g0=>?_
 show WK Tb0 sp e ⟨7,69,none,false⟩ opn_k t0 [] H _
 unfold opn_k
 have k0_:Kept H H:=.refl hf
 have hle:=h.le
 have hb0:=h.fin_
 have hb4:=h.cnt
 have h8:=fin_ge 8 us
 refine WK.seq ?_
 refine WK.reg_g ?_
 refine WOG.all (fun t' H'=>H=H'∧GT t' [(0,vS (strF fb n)),(2,.slice none 0 0),(3,.bool false)]) ?_ ?_
 ·simp +decide only [opn_r0,g0,Xo 7,go_sem]
 rintro t1_ _ ⟨rfl,g0_1,g2_1,g3_1, -⟩
 refine WK.seq ?_
 refine WK.seq ?_
 refine WK.reg_g ?_
 have m3_:∀ Hq,exLen 0 (vS (strF fb n)) Hq=.val (vN ((n:Nat))) Hq 0 0:=fun _=>len_strF _ _ _
 have d4_:decide (((n:Nat):Int)<(16:Int))=false:=decide_eq_false (by omega)
 have m5_:∀ Hq,exLen 0 (vS (strF fb n)) Hq=.val (vN ((n:Nat))) Hq 0 0:=fun _=>len_strF _ _ _
 have d6_:decide ((8192:Int)<((n:Nat):Int))=false:=decide_eq_false (by omega)
 refine WOG.all (fun t' H'=>H=H'∧GT t' [(0,vS (strF fb n)),(2,.slice none 0 0),(3,.bool false),(18,.bool false)]) ?_ ?_
 ·simp +decide only [opn_r1,g0_1,g2_1,g3_1,m3_,d4_,m5_,d6_,Xo 7,go_sem]
 rintro t7_ _ ⟨rfl,g0_7,g2_7,g3_7,g18_7, -⟩
 refine WK.cond (v:=false) (by rw [evalO_tmp,g18_7];rfl) ?_
 refine WK.skip ?_
 refine WK.seq ?_
 refine WK.reg_g ?_
 have m9_:∀ Hq,exLen 0 (vS (strF fb n)) Hq=.val (vN ((n:Nat))) Hq 0 0:=fun _=>len_strF _ _ _
 obtain ⟨H10_,ns11_⟩:=newS hf (n:=n) (by omega)
 have m12_:exMkSl 5 1 [.int .u8 0] (iN n) (iN n) H=.val (.slice (some ⟨H.nx,0,none⟩) (n) (2*(n))) H10_ 0 0:=ns11_.made
 have hf13_:=ns11_.kept.fn
 have nx14_:H10_.nx=H.nx+1:=ns11_.nx
 have m15_:H.nx≤H10_.nx:=by omega
 have lt16_:=ns11_.row.lt
 have k17_:=k0_.trans ns11_.kept
 refine WOG.all (fun t' H'=>H10_=H'∧GT t' [(0,vS (strF fb n)),(2,.slice none 0 0),(3,.bool false),(4,sC H.nx 0 (n) (2*(n)))]) ?_ ?_
 ·simp +decide only [opn_r3,g0_7,g2_7,g3_7,g18_7,m9_,m12_,m15_,Xo 7,go_sem]
 rintro t18_ _ ⟨rfl,g0_18,g2_18,g3_18,g4_18, -⟩
 refine WK.seq ?_
 refine WK.reg_g ?_
 obtain ⟨H20_,e21_,wr22_⟩:=copyT (o:=0) (m:=n) (c:=2*(n)) (k:=n) (g:=fb) hf13_ ns11_.row (by omega) (by omega)
 have m23_:exCopy 1 (sC H.nx 0 (n) (2*(n))) (vS (strF fb n)) H10_=.val (vN ((n:Nat):Int)) H20_ 0 (bit (H.nx)):=e21_
 have hf24_:=wr22_.fn
 have nx25_:H20_.nx=H10_.nx:=wr22_.nx
 have m26_:H10_.nx≤H20_.nx:=by omega
 have o27_:e.ok 0 (bit (H.nx)) H20_:=.write wr22_.row.lt (fun h=>absurd h (by omega))
 have k28_:Kept H H20_:=⟨wr22_.fn,by have:=k17_.nx;omega,fun c hc=>(wr22_.else_ c (by omega)).trans (k17_.old c hc)⟩
 refine WOG.all (fun t' H'=>H20_=H'∧GT t' [(2,.slice none 0 0),(3,.bool false),(4,sC H.nx 0 (n) (2*(n)))]) ?_ ?_
 ·simp +decide only [opn_r4,g0_18,g2_18,g3_18,g4_18,m23_,m26_,o27_,Xo 7,go_sem]
 rintro t29_ _ ⟨rfl,g2_29,g3_29,g4_29, -⟩
 have r31_:ByU H20_ (H.nx) 5 fb (n):=ByU.congr wr22_.row (fun i hi=>over_all hi)
 refine WK.seq ?_
 refine WK.reg_g ?_
 refine WOG.hide fun K0 hK0=>?_
 simp +decide only [opn_r5,g4_29,Xo 7,go_sem]
 refine EC.mono (hend_ok S hf24_ (by omega) r31_ (by omega) (by omega) (fun h=>absurd h (by omega))) fun v H33_ _ hv34_=>?_
 obtain ⟨rfl,hh35_⟩:=hv34_
 rw [hh35_];clear hh35_
 have be32_:=be_lt fb 0
 have he8:8+be fb 0=fin 8 us:=by omega
 rw [WOGk]
 refine WOG.all (fun t' H'=>H20_=H'∧GT t' [(2,.slice none 0 0),(3,.bool false),(4,sC H.nx 0 (n) (2*(n))),(5,iN (8+be fb 0))]) ?_ ?_
 ·simp +decide only [opn_r5,g2_29,g3_29,g4_29,Xo 7,go_sem]
 rintro t36_ _ ⟨rfl,g2_36,g3_36,g4_36,g5_36, -⟩
 refine hK0 _ _ ?_
 have g38_:t36_.get 5=iN (fin 8 us):=by rw [g5_36,he8]
 refine WK.seq ?_
 refine WK.seq ?_
 refine WK.reg_g ?_
 refine WOG.hide fun K0 hK0=>?_
 have m39_:∀ Hq,exLen 1 (sC H.nx 0 (n) (2*(n))) Hq=.val (vN ((n:Nat))) Hq 0 0:=fun _=>rfl
 have d40_:decide (((n:Nat):Int)<((fin 8 us:Nat):Int))=false:=decide_eq_false (by omega)
 have m41_:∀ H_,exSlL 1 (sC H.nx 0 (n) (2*(n))) (some (iN (fin 8 us))) none none H_=.val (tailV (H.nx) 0 n (fin 8 us)) H_ 0 0:=fun H_=>slL_tail (by omega) H_
 simp +decide only [opn_r6,g4_36,g38_,m39_,d40_,m41_,Xo 7,go_sem]
 refine EC.mono (zt_ok S r31_ (o:=0) (m:=n) (k:=fin 8 us) (by omega) (by omega) (by omega) (fun i h1 h2=>h.zero i (by omega) (by omega)) (fun h=>absurd h (by omega))) fun v H42_ _ hv43_=>?_
 obtain ⟨rfl,hh44_⟩:=hv43_
 rw [hh44_];clear hh44_
 rw [WOGk]
 refine WOG.all (fun t' H'=>H20_=H'∧GT t' [(2,.slice none 0 0),(3,.bool false),(4,sC H.nx 0 (n) (2*(n))),(5,iN (fin 8 us)),(37,.bool false)]) ?_ ?_
 ·simp +decide only [opn_r6,g2_36,g3_36,g4_36,g38_,Xo 7,go_sem]
 rintro t45_ _ ⟨rfl,g2_45,g3_45,g4_45,g5_45,g37_45, -⟩
 refine hK0 _ _ ?_
 refine WK.cond (v:=false) (by rw [evalO_tmp,g37_45];rfl) ?_
 refine WK.skip ?_
 refine WK.seq ?_
 refine WK.reg_g ?_
 refine WOG.all (fun t' H'=>H20_=H'∧GT t' [(2,.slice none 0 0),(3,.bool false),(4,sC H.nx 0 (n) (2*(n))),(5,iN (fin 8 us)),(6,.bool false),(7,.int .i64 (0))]) ?_ ?_
 ·simp +decide only [opn_r8,g2_45,g3_45,g4_45,g5_45,g37_45,Xo 7,go_sem]
 rintro t47_ _ ⟨rfl,g2_47,g3_47,g4_47,g5_47,g6_47,g7_47, -⟩
 refine WK.seq ?_
 refine WK.seq ?_
 refine WK.reg_g ?_
 refine WOG.all (fun t' H'=>H20_=H'∧GT t' [(2,.slice none 0 0),(3,.bool false),(4,sC H.nx 0 (n) (2*(n))),(5,iN (fin 8 us)),(6,.bool false),(7,.int .i64 (0)),(8,.int .i64 (8))]) ?_ ?_
 ·simp +decide only [opn_r9,g2_47,g3_47,g4_47,g5_47,g6_47,g7_47,Xo 7,go_sem]
 rintro t49_ _ ⟨rfl,g2_49,g3_49,g4_49,g5_49,g6_49,g7_49,g8_49, -⟩
 refine WK.block (WK.loop_ind (fun m t' ds' H'=>ds'=[]∧∃ A:List U,∃ B:List U,m=B.length∧us=A++B∧Kept H20_ H'∧t'.get 4=sC H.nx 0 (n) (2*(n))∧t'.get 5=iN (fin 8 us)∧t'.get 6=.bool (gapB false A)∧t'.get 7=iN ((places 8 A).length)∧t'.get 8=iN (fin 8 A)) ?_ _ t49_ [] H20_ ⟨rfl,[],us,rfl,rfl,.refl hf24_,g4_49,g5_49,g6_49,g7_49,g8_49⟩)
 rintro m_l51 t_l51 ds_ H_l51 ⟨rfl,A,B,rfl,hus,hk_l51,g4_l51,g5_l51,g6_l51,g7_l51,g8_l51⟩
 have hf_l51:=hk_l51.fn
 have nx_l51:=hk_l51.nx
 have k52_:=k28_.trans hk_l51
 unfold opn_l18
 refine WK.seq ?_
 refine WK.seq ?_
 by_cases hB:B=[]
 case pos =>
  subst hB
  have hAu:A=us:=by rw [hus,List.append_nil]
  have hAf:fin 8 A=fin 8 us:=by rw [hAu]
  have hAg:gapB false A=false:=by rw [hAu];exact h.shut
  have hAp:(places 8 A).length=be fb 4:=by rw [hAu];exact h.cnt.symm
  refine WK.reg_g ?_
  have d53_:decide (((fin 8 A:Nat):Int)<((fin 8 us:Nat):Int))=false:=decide_eq_false (by omega)
  refine WOG.all (fun t' H'=>H_l51=H'∧GT t' [(4,sC H.nx 0 (n) (2*(n))),(5,iN (fin 8 us)),(6,.bool (gapB false A)),(7,iN ((places 8 A).length)),(8,iN (fin 8 A)),(40,.bool false)]) ?_ ?_
  ·simp +decide only [opn_r10,g4_l51,g5_l51,g6_l51,g7_l51,g8_l51,d53_,Xo 7,go_sem]
  rintro t54_ _ ⟨rfl,g4_54,g5_54,g6_54,g7_54,g8_54,g40_54, -⟩
  refine WK.cond (v:=false) (by rw [evalO_tmp,g40_54];rfl) ?_
  refine WK.exit ?_
  refine WK.seq ?_
  have g56_:t54_.get 6=.bool false:=by rw [g6_54,hAg]
  refine WK.reg_g ?_
  refine WOG.hide fun K0 hK0=>?_
  have r57_:=r31_.mv hk_l51
  simp +decide only [opn_r19,g4_54,g56_,g7_54,Xo 7,go_sem]
  refine EC.mono (get_ok S hf_l51 (by omega) (p:=4) r57_ (by omega) (by omega) (fun h=>absurd h (by omega))) fun v H59_ _ hv60_=>?_
  obtain ⟨rfl,hh61_⟩:=hv60_
  rw [hh61_];clear hh61_
  have be58_:=be_lt fb 4
  rw [WOGk]
  have d62_:decide ((((places 8 A).length:Nat):Int)=((be fb 4:Nat):Int))=true:=decide_eq_true (by omega)
  refine WOG.all (fun t' H'=>H_l51=H'∧GT t' [(2,sC H.nx 0 (n) (2*(n))),(3,.bool true),(4,sC H.nx 0 (n) (2*(n))),(5,iN (fin 8 us)),(6,.bool false),(7,iN ((places 8 A).length)),(8,iN (fin 8 A))]) ?_ ?_
  ·simp +decide only [opn_r19,g4_54,g5_54,g56_,g7_54,g8_54,g40_54,d62_,Xo 7,go_sem]
  rintro t63_ _ ⟨rfl,g2_63,g3_63,g4_63,g5_63,g6_63,g7_63,g8_63, -⟩
  refine hK0 _ _ ?_
  refine WK.ret ⟨.inr rfl,rfl,[sC H.nx 0 (n) (2*(n)),.bool true],0,?_,.zero _ _,rfl,k52_,r57_⟩
  show resL Tb0 69 t63_ _ [.tmp 2,.tmp 3]=_
  simp only [resL,g2_63,g3_63];rfl
 case neg =>
  obtain ⟨u,B,rfl⟩:∃ u B_,B=u::B_:=by
   cases B with
   | nil=>exact absurd rfl hB
   | cons u B=>exact ⟨u,B,rfl⟩
  have hat:=h.at hus
  have hsp:=hat.span
  have hst:=hat.stop
  have hplA:=places_len 8 A
  have hul:=up_le u.size
  refine WK.reg_g ?_
  have d53_:decide (((fin 8 A:Nat):Int)<((fin 8 us:Nat):Int))=true:=decide_eq_true (by omega)
  refine WOG.all (fun t' H'=>H_l51=H'∧GT t' [(4,sC H.nx 0 (n) (2*(n))),(5,iN (fin 8 us)),(6,.bool (gapB false A)),(7,iN ((places 8 A).length)),(8,iN (fin 8 A)),(40,.bool true)]) ?_ ?_
  ·simp +decide only [opn_r10,g4_l51,g5_l51,g6_l51,g7_l51,g8_l51,d53_,Xo 7,go_sem]
  rintro t54_ _ ⟨rfl,g4_54,g5_54,g6_54,g7_54,g8_54,g40_54, -⟩
  refine WK.cond (v:=true) (by rw [evalO_tmp,g40_54];rfl) ?_
  refine WK.skip ?_
  refine WK.block ?_
  refine WK.seq ?_
  refine WK.reg_g ?_
  refine WOG.hide fun K0 hK0=>?_
  have r56_:=r31_.mv hk_l51
  simp +decide only [opn_r11,g4_54,g5_54,g6_54,g8_54,Xo 7,go_sem]
  refine EC.mono (who_ok S hf_l51 (by omega) (a:=fin 8 A) (E:=fin 8 us) (g:=gapB false A) (u:=u) r56_ hat.ok hat.ge hat.stop hat.le hn hat.gap (fun h=>absurd h (by omega))) fun v H57_ _ hv58_=>?_
  obtain ⟨rfl,hk59_⟩:=hv58_
  have hf60_:=hk59_.fn
  have nx61_:=hk59_.nx
  have k62_:=k52_.trans hk59_
  have k63_:=hk_l51.trans hk59_
  rw [WOGk]
  have m64_:∀ Hq,exExt (.tuple #[.agg ⟨[iN (fin 8 A),iN (u.size),iN (u.mark)]⟩,.bool true]) 0 Hq=.val (.agg ⟨[iN (fin 8 A),iN (u.size),iN (u.mark)]⟩) Hq 0 0:=fun _=>rfl
  have m65_:∀ Hq,exExt (.tuple #[.agg ⟨[iN (fin 8 A),iN (u.size),iN (u.mark)]⟩,.bool true]) 1 Hq=.val (.bool true) Hq 0 0:=fun _=>rfl
  obtain ⟨H66_,nb67_⟩:=newB hf60_ [.int .i64 (0),.int .i64 (0),.int .i64 (0)] 195
  have m68_:alloc1 (blkL [.int .i64 (0),.int .i64 (0),.int .i64 (0)] 195 0) H57_ ptrTo 0 0=.val (.pointer (some ⟨H57_.nx,0,none⟩)) H66_ 0 0:=nb67_.al
  have hf69_:=nb67_.kept.fn
  have nx70_:H66_.nx=H57_.nx+1:=nb67_.nx
  have m71_:H57_.nx≤H66_.nx:=by omega
  have lt72_:=nb67_.row.lt
  have k73_:=k62_.trans nb67_.kept
  have k74_:=k63_.trans nb67_.kept
  obtain ⟨H75_,e76_,wr77_⟩:=exStN_at (o:=0) (vs:=[iN (fin 8 A),iN (u.size),iN (u.mark)]) hf69_ nb67_.row (by show 0+3≤3;decide)
  have m78_:exSt 3 (pA H57_.nx 0) (.agg ⟨[iN (fin 8 A),iN (u.size),iN (u.mark)]⟩) H66_=.val U H75_ 0 (bit (H57_.nx)):=e76_
  have hf79_:=wr77_.fn
  have nx80_:H75_.nx=H66_.nx:=wr77_.nx
  have m81_:H66_.nx≤H75_.nx:=by omega
  have r82_:Row H75_ (H57_.nx) 195 0 [iN (fin 8 A),iN (u.size),iN (u.mark)]:=wr77_.row
  have o83_:e.ok 0 (bit (H57_.nx)) H75_:=.write r82_.lt (fun h=>absurd h (by omega))
  have k84_:Kept H H75_:=⟨wr77_.fn,by have:=k73_.nx;omega,fun c hc=>(wr77_.else_ c (by omega)).trans (k73_.old c hc)⟩
  have k85_:Kept H20_ H75_:=⟨wr77_.fn,by have:=k74_.nx;omega,fun c hc=>(wr77_.else_ c (by omega)).trans (k74_.old c hc)⟩
  refine WOG.all (fun t' H'=>H75_=H'∧GT t' [(4,sC H.nx 0 (n) (2*(n))),(5,iN (fin 8 us)),(6,.bool (gapB false A)),(7,iN ((places 8 A).length)),(8,iN (fin 8 A)),(9,pA H57_.nx 0),(10,.bool true)]) ?_ ?_
  ·simp +decide only [opn_r11,g4_54,g5_54,g6_54,g7_54,g8_54,g40_54,m64_,m65_,m68_,m71_,m78_,m81_,o83_,Xo 7,go_sem]
  rintro t86_ _ ⟨rfl,g4_86,g5_86,g6_86,g7_86,g8_86,g9_86,g10_86, -⟩
  refine hK0 _ _ ?_
  refine WK.seq ?_
  refine WK.seq ?_
  refine WK.reg_g ?_
  refine WOG.all (fun t' H'=>H75_=H'∧GT t' [(4,sC H.nx 0 (n) (2*(n))),(5,iN (fin 8 us)),(6,.bool (gapB false A)),(7,iN ((places 8 A).length)),(8,iN (fin 8 A)),(9,pA H57_.nx 0),(50,.bool false)]) ?_ ?_
  ·simp +decide only [opn_r12,g4_86,g5_86,g6_86,g7_86,g8_86,g9_86,g10_86,Xo 7,go_sem]
  rintro t88_ _ ⟨rfl,g4_88,g5_88,g6_88,g7_88,g8_88,g9_88,g50_88, -⟩
  refine WK.cond (v:=false) (by rw [evalO_tmp,g50_88];rfl) ?_
  refine WK.skip ?_
  refine WK.seq ?_
  cases hu:u.used with
  | true =>
   have hmk:=U.mark_t hu
   refine WK.reg_g ?_
   have m90_:exLd1 (pA H57_.nx 2) H75_=.val (iN (u.mark)) H75_ (bit (H57_.nx)) 0:=exLd1_row r82_ rfl
   have o91_:=okr (e:=e) r82_ (by omega)
   have d92_:decide (((u.mark:Nat):Int)=(2:Int))=false:=decide_eq_false (by omega)
   refine WOG.all (fun t' H'=>H75_=H'∧GT t' [(4,sC H.nx 0 (n) (2*(n))),(5,iN (fin 8 us)),(6,.bool false),(7,iN ((places 8 A).length)),(8,iN (fin 8 A)),(9,pA H57_.nx 0)]) ?_ ?_
   ·simp +decide only [opn_r14,g4_88,g5_88,g6_88,g7_88,g8_88,g9_88,g50_88,m90_,o91_,d92_,Xo 7,go_sem]
   rintro t93_ _ ⟨rfl,g4_93,g5_93,g6_93,g7_93,g8_93,g9_93, -⟩
   refine WK.seq ?_
   refine WK.seq ?_
   refine WK.reg_g ?_
   refine WOG.all (fun t' H'=>H75_=H'∧GT t' [(4,sC H.nx 0 (n) (2*(n))),(5,iN (fin 8 us)),(6,.bool false),(7,iN ((places 8 A).length)),(8,iN (fin 8 A)),(9,pA H57_.nx 0),(55,.bool true)]) ?_ ?_
   ·simp +decide only [opn_r15,g4_93,g5_93,g6_93,g7_93,g8_93,g9_93,Xo 7,go_sem]
   rintro t95_ _ ⟨rfl,g4_95,g5_95,g6_95,g7_95,g8_95,g9_95,g55_95, -⟩
   refine WK.cond (v:=true) (by rw [evalO_tmp,g55_95];rfl) ?_
   refine WK.reg_g ?_
   have w97_:Value.int .i64 (wrapF .i64 ((((places 8 A).length:Nat):Int)+(1:Int)))=.int .i64 (((((places 8 A).length)+1):Nat):Int):=wF (by omega)
   refine WOG.all (fun t' H'=>H75_=H'∧GT t' [(4,sC H.nx 0 (n) (2*(n))),(5,iN (fin 8 us)),(6,.bool false),(7,iN ((((places 8 A).length)+1))),(8,iN (fin 8 A)),(9,pA H57_.nx 0)]) ?_ ?_
   ·simp +decide only [opn_r16,g4_95,g5_95,g6_95,g7_95,g8_95,g9_95,g55_95,w97_,Xo 7,go_sem]
   rintro t98_ _ ⟨rfl,g4_98,g5_98,g6_98,g7_98,g8_98,g9_98, -⟩
   refine WK.reg_g ?_
   refine WOG.hide fun K0 hK0=>?_
   have m100_:exLdN 3 (pA H57_.nx 0) H75_=.val (.agg ⟨[iN (fin 8 A),iN (u.size),iN (u.mark)]⟩) H75_ (bit (H57_.nx)) 0:=exLdN_row r82_ (by show 0+3≤3;decide)
   have o101_:=okr (e:=e) r82_ (by omega)
   simp +decide only [opn_r17,g9_98,m100_,o101_,Xo 7,go_sem]
   refine EC.mono (uend_ok S hf79_ (by omega) (a:=fin 8 A) (s:=u.size) (m:=u.mark) (by omega) (by omega)) fun v H104_ _ hv105_=>?_
   obtain ⟨rfl,hk106_⟩:=hv105_
   have hf107_:=hk106_.fn
   have nx108_:=hk106_.nx
   have k109_:=k84_.trans hk106_
   have k110_:=k85_.trans hk106_
   have ul102_:=up_lt u.size
   have uk103_:=up_le u.size
   rw [WOGk]
   refine WOG.all (fun t' H'=>H104_=H'∧GT t' [(4,sC H.nx 0 (n) (2*(n))),(5,iN (fin 8 us)),(6,.bool false),(7,iN ((((places 8 A).length)+1))),(8,iN (fin 8 A+8+up u.size))]) ?_ ?_
   ·simp +decide only [opn_r17,g4_98,g5_98,g6_98,g7_98,g8_98,g9_98,Xo 7,go_sem]
   rintro t111_ _ ⟨rfl,g4_111,g5_111,g6_111,g7_111,g8_111, -⟩
   refine hK0 _ _ ?_
   have e6:t111_.get 6=.bool (gapB false (A++[u])):=by rw [gapB_snoc,hu];exact g6_111
   have e7:t111_.get 7=vN (((places 8 (A++[u])).length:Nat):Int):=by rw [places_snoc,hu];exact g7_111
   have e8:t111_.get 8=vN ((fin 8 (A++[u]):Nat):Int):=by rw [hat.next];exact g8_111
   exact ⟨_,by simp,rfl,A++[u],B,rfl,hat.add,k110_,g4_111,g5_111,e6,e7,e8⟩
  | false =>
   have hmk:=U.mark_f hu
   refine WK.reg_g ?_
   have m90_:exLd1 (pA H57_.nx 2) H75_=.val (iN (u.mark)) H75_ (bit (H57_.nx)) 0:=exLd1_row r82_ rfl
   have o91_:=okr (e:=e) r82_ (by omega)
   have d92_:decide (((u.mark:Nat):Int)=(2:Int))=true:=decide_eq_true (by omega)
   refine WOG.all (fun t' H'=>H75_=H'∧GT t' [(4,sC H.nx 0 (n) (2*(n))),(5,iN (fin 8 us)),(6,.bool true),(7,iN ((places 8 A).length)),(8,iN (fin 8 A)),(9,pA H57_.nx 0)]) ?_ ?_
   ·simp +decide only [opn_r14,g4_88,g5_88,g6_88,g7_88,g8_88,g9_88,g50_88,m90_,o91_,d92_,Xo 7,go_sem]
   rintro t93_ _ ⟨rfl,g4_93,g5_93,g6_93,g7_93,g8_93,g9_93, -⟩
   refine WK.seq ?_
   refine WK.seq ?_
   refine WK.reg_g ?_
   refine WOG.all (fun t' H'=>H75_=H'∧GT t' [(4,sC H.nx 0 (n) (2*(n))),(5,iN (fin 8 us)),(6,.bool true),(7,iN ((places 8 A).length)),(8,iN (fin 8 A)),(9,pA H57_.nx 0),(55,.bool false)]) ?_ ?_
   ·simp +decide only [opn_r15,g4_93,g5_93,g6_93,g7_93,g8_93,g9_93,Xo 7,go_sem]
   rintro t95_ _ ⟨rfl,g4_95,g5_95,g6_95,g7_95,g8_95,g9_95,g55_95, -⟩
   refine WK.cond (v:=false) (by rw [evalO_tmp,g55_95];rfl) ?_
   refine WK.skip ?_
   refine WK.reg_g ?_
   refine WOG.hide fun K0 hK0=>?_
   have m97_:exLdN 3 (pA H57_.nx 0) H75_=.val (.agg ⟨[iN (fin 8 A),iN (u.size),iN (u.mark)]⟩) H75_ (bit (H57_.nx)) 0:=exLdN_row r82_ (by show 0+3≤3;decide)
   have o98_:=okr (e:=e) r82_ (by omega)
   simp +decide only [opn_r17,g9_95,m97_,o98_,Xo 7,go_sem]
   refine EC.mono (uend_ok S hf79_ (by omega) (a:=fin 8 A) (s:=u.size) (m:=u.mark) (by omega) (by omega)) fun v H101_ _ hv102_=>?_
   obtain ⟨rfl,hk103_⟩:=hv102_
   have hf104_:=hk103_.fn
   have nx105_:=hk103_.nx
   have k106_:=k84_.trans hk103_
   have k107_:=k85_.trans hk103_
   have ul99_:=up_lt u.size
   have uk100_:=up_le u.size
   rw [WOGk]
   refine WOG.all (fun t' H'=>H101_=H'∧GT t' [(4,sC H.nx 0 (n) (2*(n))),(5,iN (fin 8 us)),(6,.bool true),(7,iN ((places 8 A).length)),(8,iN (fin 8 A+8+up u.size))]) ?_ ?_
   ·simp +decide only [opn_r17,g4_95,g5_95,g6_95,g7_95,g8_95,g9_95,g55_95,Xo 7,go_sem]
   rintro t108_ _ ⟨rfl,g4_108,g5_108,g6_108,g7_108,g8_108, -⟩
   refine hK0 _ _ ?_
   have e6:t108_.get 6=.bool (gapB false (A++[u])):=by rw [gapB_snoc,hu];exact g6_108
   have e7:t108_.get 7=vN (((places 8 (A++[u])).length:Nat):Int):=by rw [places_snoc,hu];exact g7_108
   have e8:t108_.get 8=vN ((fin 8 (A++[u]):Nat):Int):=by rw [hat.next];exact g8_108
   exact ⟨_,by simp,rfl,A++[u],B,rfl,hat.add,k107_,g4_108,g5_108,e6,e7,e8⟩
end
end Go.Proofs.RS
end
noncomputable section
namespace Go.Ev
open Go.Ar (By)
structure IsB (H:Hp) (b:Nat) (x:Blk):Prop where
 eq:H.blk b=x
 ne:x≠.no
theorem IsB.lt {H:Hp} {b:Nat} {x:Blk} (h:IsB H b x):b<H.nx:=((alive_iff H b).2 (by rw [h.eq];exact h.ne)).1
theorem IsB.of_blk {H H':Hp} {b:Nat} {x:Blk} (h:IsB H b x) (e:H'.blk b=H.blk b):IsB H' b x:=⟨e.trans h.eq,h.ne⟩
theorem IsB.mv {H H':Hp} {b:Nat} {x:Blk} (h:IsB H b x) (k:Kept H H'):IsB H' b x:=h.of_blk (k.old _ h.lt)
theorem IsB.ot {H H':Hp} {b b2:Nat} {x:Blk} (h:IsB H b x) (he:∀ c,c≠b2→H'.blk c=H.blk c) (hn:b≠b2):IsB H' b x:=h.of_blk (he _ hn)
theorem IsB.mo {H H':Hp} {b b2:Nat} {x:Blk} (h:IsB H b x) (he:∀ c,c<H.nx→c≠b2→H'.blk c=H.blk c) (hn:b≠b2):IsB H' b x:=h.of_blk (he _ h.lt hn)
structure PutB (H:Hp) (b:Nat) (x:Blk) (H1:Hp):Prop where
 fn:H1.isFn=true
 nx:H1.nx=H.nx
 else_:∀ c,c≠b→H1.blk c=H.blk c
 at_:H1.blk b=x
theorem putB {H:Hp} (hf:H.isFn=true) {b:Nat} (hb:b<H.nx) (x:Blk):∃ H1,H.put b x=H1∧PutB H b x H1 :=
 ⟨_,rfl,by rw [isFn_put];exact hf,nx_put _ _ _,fun c hc=>blk_put_ne (fn_wf hf) _ hb hc,by rw [blk_put _ (fn_wf hf) hb,if_pos rfl]⟩
section
variable {tb:Tb} {sp:Nat→List Value→Hp→Option (Value×Hp×Nat×Nat)} {e:Env}
variable {cx:Cx} {t:T Value} {ds:List Deferred} {H:Hp}
theorem WO.app_wog {K:T Value→List Deferred→Hp→Prop} {K1:T Value→Hp→Prop} {C:List CO}:∀ {A:List CO} {t:T Value} {H:Hp},WOG tb sp e cx.d K1 A t H→(∀ t' H',K1 t' H'→WO tb sp e cx C t' ds H' K)→WO tb sp e cx (A++C) t ds H K:=by
 intro A
 induction A with
 | nil=>intro t H h hk;rw [WOG] at h;exact hk t H h
 | cons o A ih =>
  intro t H h hk
  rw [List.cons_append]
  rw [WOG] at h
  cases hg:wants t o.guard with
  | true =>
   rw [hg] at h
   refine WO.cons hg ?_
   revert h
   cases run o.op t H with
   | val v H1 r w=>exact fun h=>⟨h.1,h.2.1,ih h.2.2 hk⟩
   | call f args=>exact fun h=>EC.mono h fun v H1 _ hh=>ih (by rw [WOGk] at hh;exact hh) hk
   | _=>exact fun h=>h.elim
  | false =>
   rw [hg] at h
   exact WO.skip hg (ih h hk)
theorem WK.reg_round {cos:List CO} {K:Ex→T Value→List Deferred→Hp→Prop} (k:Nat) (K1:T Value→Hp→Prop) (h:WOG tb sp e cx.d K1 (cos.take k) t H)
 (hk:∀ t' H',K1 t' H'→∃ o rest l args,cos.drop k=o::rest∧wants t' o.guard=true∧run o.op t' H'=.round l args∧ER tb sp e l args H' fun v H1=>WOG tb sp e cx.d (fun t2 H2=>K .normal t2 ds H2) rest (putT cx.d t' o.dst v) H1):WK tb sp e cx (.reg cos) t ds H K:=by
 have:=WO.app_wog (ds:=ds) (K:=K .normal) (C:=cos.drop k) h fun t' H' h1=>by
  obtain ⟨o,rest,l,args,e1,e2,e3,e4⟩:=hk t' H' h1
  rw [e1]
  exact WO.round e2 e3 (e4.mono fun v H1 _ h2=>(WO.of_wog h2).mono fun t2 ds2 H2 _ h3=>by obtain ⟨rfl,h3⟩:=h3;exact h3)
 rw [List.take_append_drop] at this
 exact WK.reg this
end
structure KeptX (X:Nat→Prop) (H H':Hp):Prop where
 fn:H'.isFn=true
 nx:H.nx≤H'.nx
 old:∀ c,c<H.nx→¬ X c→H'.blk c=H.blk c
theorem KeptX.refl {X:Nat→Prop} {H:Hp} (hf:H.isFn=true):KeptX X H H:=⟨hf,Nat.le_refl _,fun _ _ _=>rfl⟩
theorem KeptX.kept {X:Nat→Prop} {H H1 H2:Hp} (h:KeptX X H H1) (k:Kept H1 H2):KeptX X H H2:=⟨k.fn,Nat.le_trans h.nx k.nx,fun c hc hx=>by rw [k.old c (Nat.lt_of_lt_of_le hc h.nx),h.old c hc hx]⟩
theorem KeptX.wr {X:Nat→Prop} {H H1 H2:Hp} {b:Nat} (h:KeptX X H H1) (hf:H2.isFn=true) (hn:H2.nx=H1.nx) (he:∀ c,c≠b→H2.blk c=H1.blk c) (hb:X b∨H.nx≤b):KeptX X H H2 :=
 ⟨hf,by rw [hn];exact h.nx,fun c hc hx=>by
  have hcb:c≠b:=by
   rintro rfl
   rcases hb with hb | hb
   ·exact hx hb
   ·omega
  rw [he c hcb,h.old c hc hx]⟩
theorem KeptX.all {X:Nat→Prop} {H H':Hp} (h:KeptX X H H') (hs:∀ c,c<H.nx→X c→H'.blk c=H.blk c):Kept H H':=by
 refine ⟨h.fn,h.nx,fun c hc=>?_⟩
 by_cases hx:X c
 ·exact hs c hc hx
 ·exact h.old c hc hx
theorem Kept.ofX {X:Nat→Prop} {H H0 H1:Hp} (k:Kept H H0) (h:KeptX X H0 H1) (hx:∀ c,X c→H.nx≤c):Kept H H1 :=
 ⟨h.fn,Nat.le_trans k.nx h.nx,fun c hc=>by rw [h.old c (Nat.lt_of_lt_of_le hc k.nx) fun h'=>by have:=hx c h';omega,k.old c hc]⟩
theorem over_clr {f:By} {a b i:Nat} (h:a≤b):over f a (b-a) (fun _=>0) i=Go.Ar.clr f a b i:=by
 unfold over Go.Ar.clr
 by_cases h1:a≤i∧i<b
 ·rw [if_pos ⟨h1.1,by omega⟩,if_pos h1]
 ·rw [if_neg (by omega),if_neg h1]
theorem loop_ne {rd:Bool} {pd:Option Code} {nt:Nat} {t:T Value} {ps:List Tmp} {a b:Code} {db:Nat}:Blk.loop rd pd nt t ps a b db≠.no:=by intro h;cases h
section
variable {tb:Tb} {sp:Nat→List Value→Hp→Option (Value×Hp×Nat×Nat)} {e:Env}
variable {cx:Cx} {t:T Value} {ds:List Deferred} {H:Hp} {K:Ex→T Value→List Deferred→Hp→Prop}
theorem WK.rangef2 {f:Operand} {ps:Array Tmp} {a b:Code} {ka kb:KC} {g:FuncId} {args:List Value} (hrn:cx.rnd=none) (hok:(okO tb cx.nt f && ps.toList.all (fun p=>Nat.blt p cx.nt))=true) (hf:H.isFn=true)
 (hcall:callV (evalO t f) [.func (.yield (H.nx+1)) #[] #[]]=.call g args) (hb:hasBody tb g=true) (hn:e.n0≤H.nx)
 (h:kcomp tb cx.nt a=ka→kcomp tb cx.nt b=kb→∀ Hr,Kept H Hr→Hr.nx=H.nx+2→IsB Hr H.nx (.obj (.deferred (some [])))→IsB Hr (H.nx+1) (.loop true none cx.nt t ps.toList a b H.nx)→EC tb sp e g args Hr fun _ H1 =>
  ∃ rd pd nt' t' ps' a' b' db' ex,H1.blk (H.nx+1)=.loop rd pd nt' t' ps' a' b' db'∧exOf rd pd=some ex∧K ex t ({ target:=.collected H.nx,args:=#[] }::ds) (H1.put (H.nx+1) .no)) :
 WK tb sp e cx (.rangef f ps a b ka kb) t ds H K:=by
 intro c hc
 have hc':=hc
 obtain ⟨rfl,h1,h2⟩:=kcomp_rangef hc'
 have hr1:=fn_room hf
 have hr2:(H.push (.obj (.deferred (some [])))).room=true:=fn_room (by rw [isFn_push];exact hf)
 have:=WK.rangef (sp:=sp) (e:=e) (ds:=ds) (K:=K) (ka:=ka) (kb:=kb) hrn hok hf hcall hb hn (h h1 h2 _ ⟨by rw [isFn_push,isFn_push];exact hf,by rw [nx_push,nx_push];omega,fun c hc=>by rw [blk_push_old hr2 _ (by rw [nx_push];omega),blk_push_old hr1 _ hc]⟩ (by rw [nx_push,nx_push])
  ⟨by rw [blk_push_old hr2 _ (by rw [nx_push];omega),blk_push _ hr1,if_pos rfl],by intro h;cases h⟩ ⟨by rw [blk_push _ hr2,nx_push,if_pos rfl],loop_ne⟩)
 exact this _ hc
end
end Go.Ev
end
noncomputable section
namespace Go.Ev
open Go.Ar (By)
theorem slA_lh {b l h:Nat} (H:Hp) (h1:l≤h) (h2:h≤65536) (h3:l<65536):exSlA 65536 1 (.pointer (some ⟨b,0,none⟩)) (some (vN ((l:Nat):Int))) (some (vN ((h:Nat):Int))) none H=.val (.slice (some ⟨b,l,none⟩) (h-l) (2*(65536-l))) H 0 0:=by
 have:bounds 65536 65536 (some (vN (l:Int))) (some (vN (h:Int))) none=some (l,h,65536):=by
  unfold bounds
  rw [show Bc ((none:Option Value).isSome && (some (vN (h:Int))).isNone) none (bnd none 65536 65536)=some 65536 from rfl]
  simp only []
  rw [bnd_some h2]
  simp only []
  rw [bnd_some h1]
 show (match bounds 65536 65536 (some (vN (l:Int))) (some (vN (h:Int))) none with
  | none=>R.fail
  | some (l,h,m)=>Bc (Nat.beq m l) (R.v (mkSlV (some (b,0)) (h-l) (m-l) false) H) (R.v (mkSlV (some (b,0+l*1)) (h-l) (m-l) false) H))=_
 rw [this]
 simp only []
 have e:Nat.beq 65536 l=false:=by
  cases hh:Nat.beq 65536 l with
  | false=>rfl
  | true=>have:=(beq_iff _ _).1 hh;omega
 rw [e,Bc_f,Nat.mul_one,Nat.zero_add]
 rfl
theorem slA_l {b l:Nat} (H:Hp) (h3:l<65536):exSlA 65536 1 (.pointer (some ⟨b,0,none⟩)) (some (vN ((l:Nat):Int))) none none H=.val (.slice (some ⟨b,l,none⟩) (65536-l) (2*(65536-l))) H 0 0:=by
 have:bounds 65536 65536 (some (vN (l:Int))) none none=some (l,65536,65536):=by
  unfold bounds
  rw [show Bc ((none:Option Value).isSome && (none:Option Value).isNone) none (bnd none 65536 65536)=some 65536 from rfl]
  simp only [bnd_none]
  rw [bnd_some (by omega)]
 show (match bounds 65536 65536 (some (vN (l:Int))) none none with
  | none=>R.fail
  | some (l,h,m)=>Bc (Nat.beq m l) (R.v (mkSlV (some (b,0)) (h-l) (m-l) false) H) (R.v (mkSlV (some (b,0+l*1)) (h-l) (m-l) false) H))=_
 rw [this]
 simp only []
 have e:Nat.beq 65536 l=false:=by
  cases hh:Nat.beq 65536 l with
  | false=>rfl
  | true=>have:=(beq_iff _ _).1 hh;omega
 rw [e,Bc_f,Nat.mul_one,Nat.zero_add]
 rfl
theorem quo8 {n q:Nat} (h:n / 8=q) (hn:n<9223372036854775808) (H:Hp):R.o (binV .quo (vN ((n:Nat):Int)) (.int .i64 8)) H=.val (vN ((q:Nat):Int)) H 0 0:=by
 have:binV .quo (vN ((n:Nat):Int)) (.int .i64 8)=some (vN ((q:Nat):Int)):=by
  show Bc (eqI 8 0) none (some (Value.int .i64 (wrapF .i64 (((n:Nat):Int).tdiv 8))))=_
  rw [show eqI 8 0=false from rfl,Bc_f]
  have:((n:Nat):Int).tdiv 8=((q:Nat):Int):=by rw [Int.tdiv_eq_ediv_of_nonneg (Int.natCast_nonneg _)];omega
  rw [this,wrapF_nat (by omega)]
 rw [this];rfl
theorem remK {n q k:Nat} (hk:0<k) (h:n % k=q) (H:Hp):R.o (binV .rem (vN ((n:Nat):Int)) (.int .i64 ((k:Nat):Int))) H=.val (vN ((q:Nat):Int)) H 0 0:=by
 have:binV .rem (vN ((n:Nat):Int)) (.int .i64 ((k:Nat):Int))=some (vN ((q:Nat):Int)):=by
  show Bc (eqI ((k:Nat):Int) 0) none (some (Value.int .i64 (((n:Nat):Int).tmod ((k:Nat):Int))))=_
  have e:eqI ((k:Nat):Int) 0=false:=by
   rw [eqI_dec];exact decide_eq_false (by omega)
  rw [e,Bc_f]
  have:((n:Nat):Int).tmod ((k:Nat):Int)=((q:Nat):Int):=by
   rw [Int.tmod_eq_emod_of_nonneg (Int.natCast_nonneg _),← h];rfl
  rw [this]
 rw [this];rfl
theorem rem8q {n q:Nat} (h:n % 8=q) (H:Hp):R.o (binV .rem (vN ((n:Nat):Int)) (.int .i64 8)) H=.val (vN ((q:Nat):Int)) H 0 0:=remK (k:=8) (by decide) h H
abbrev nB (n:Nat):Value:=.int .u8 ((n:Nat):Int)
theorem nB_uB {n:Nat} (h:n<256):nB n=uB (UInt8.ofNat n):=by
 show Value.int .u8 (.ofNat n)=Value.int .u8 (.ofNat (UInt8.ofNat n).toNat)
 rw [Go.Ar.ofNat_toNat,Nat.mod_eq_of_lt h]
theorem shr8u {n k:Nat} (hk:k<8):binV .shr (nB n) (vN ((k:Nat):Int))=some (nB (n / 2 ^ k)):=by
 show Bc (ltI (k:Int) 0) none (some (Value.int .u8 (((n:Nat):Int).fdiv (2 ^ (min ((k:Int)).toNat IntKind.u8.bits)))))=_
 rw [show ltI (k:Int) 0=false from by rw [ltI_dec];exact decide_eq_false (by omega),Bc_f]
 have e:min ((k:Int)).toNat IntKind.u8.bits=k:=by
  rw [Int.toNat_natCast];exact Nat.min_eq_left (by show k≤8;omega)
 rw [e]
 have:((2:Int) ^ k)=((2 ^ k:Nat):Int):=by simp
 rw [this,Int.fdiv_eq_ediv_of_nonneg _ (by exact Int.natCast_nonneg _)]
 congr 2
theorem wrap8 {n:Nat} (h:n<256):wrapF .u8 ((n:Nat):Int)=((n:Nat):Int):=by
 show Bc (Nat.ble n (kmax .u8)) (Int.ofNat n) _=_
 rw [(ble_iff _ _).2 (by show n≤255;omega),Bc_t];rfl
theorem and1 {n:Nat} (h:n<256):binV .and (nB n) (.int .u8 1)=some (nB (n % 2)):=by
 show some (Value.int .u8 (wrapF .u8 (.ofNat (Nat.land n 1))))=_
 have:Nat.land n 1=n % 2:=Nat.and_one_is_mod n
 rw [this]
 show some (Value.int .u8 (wrapF .u8 ((n % 2:Nat):Int)))=_
 rw [wrap8 (by omega)]
theorem add48 {n:Nat} (h:n<2):binV .add (.int .u8 48) (nB n)=some (nB (48+n)):=by
 show some (Value.int .u8 (wrapF .u8 (48+((n:Nat):Int))))=_
 rw [show (48+((n:Nat):Int))=((48+n:Nat):Int) by omega,wrap8 (by omega)]
def mixU (a u i:Nat):Nat:=2 ^ (8-i)*(u / 2 ^ (8-i))+a % 2 ^ (8-i)
theorem mix_bit {a u i:Nat} (hu:u<256) (j:Nat):(mixU a u i).testBit j=if j<8-i then a.testBit j else u.testBit j:=by
 unfold mixU
 rw [Nat.testBit_two_pow_mul_add _ (Nat.mod_lt _ (Nat.two_pow_pos _))]
 by_cases h:j<8-i
 ·rw [if_pos h,if_pos h,Nat.testBit_mod_two_pow];simp [h]
 ·rw [if_neg h,if_neg h,Nat.testBit_div_two_pow];congr 1;omega
theorem mix_lt {a u i:Nat} (ha:a<256) (hu:u<256):mixU a u i<256:=by
 have:mixU a u i<2 ^ 8:=Nat.lt_pow_two_of_testBit _ fun j hj=>by
  rw [mix_bit hu]
  have e1:a.testBit j=false:=Nat.testBit_lt_two_pow (Nat.lt_of_lt_of_le ha (show 256≤2 ^ j from Nat.pow_le_pow_right (n:=2) (by decide) hj))
  have e2:u.testBit j=false:=Nat.testBit_lt_two_pow (Nat.lt_of_lt_of_le hu (show 256≤2 ^ j from Nat.pow_le_pow_right (n:=2) (by decide) hj))
  rw [e1,e2];simp
 exact this
theorem mix_zero {a u:Nat} (ha:a<256) (hu:u<256):mixU a u 0=a:=by
 unfold mixU
 have e1:u / 2 ^ (8-0)=0:=Nat.div_eq_of_lt hu
 have e2:a % 2 ^ (8-0)=a:=Nat.mod_eq_of_lt ha
 rw [e1,e2];omega
theorem mix_all (a u:Nat):mixU a u 8=u:=by
 unfold mixU;simp [Nat.mod_one]
theorem shr128 {i:Nat} (h:i<8):binV .shr (.int .u8 128) (vN ((i:Nat):Int))=some (nB (2 ^ (7-i))):=by
 have:=shr8u (n:=128) h
 rw [show (128:Nat)=2 ^ 7 from rfl,Nat.pow_div (by omega) (by decide)] at this
 exact this
theorem mix_or {a u i:Nat} (ha:a<256) (hu:u<256) (hi:i<8) (hb:u / 2 ^ (7-i) % 2=1):binV .or (nB (mixU a u i)) (nB (2 ^ (7-i)))=some (nB (mixU a u (i+1))):=by
 have hb':u.testBit (7-i)=true:=by rw [Nat.testBit_eq_decide_div_mod_eq];simp [hb]
 have e:Nat.lor (mixU a u i) (2 ^ (7-i))=mixU a u (i+1):=by
  apply Nat.eq_of_testBit_eq
  intro j
  show (mixU a u i ||| 2 ^ (7-i)).testBit j=_
  rw [Nat.testBit_or,mix_bit hu,mix_bit hu,Nat.testBit_two_pow]
  by_cases h1:7-i=j
  ·subst h1
   rw [if_pos (by omega:7-i<8-i),if_neg (by omega:¬ 7-i<8-(i+1)),hb'];simp
  ·simp only [h1,decide_false,Bool.or_false]
   by_cases h2:j<8-i
   ·rw [if_pos h2,if_pos (by omega)]
   ·rw [if_neg h2,if_neg (by omega)]
 show some (Value.int .u8 (wrapF .u8 (.ofNat (Nat.lor (mixU a u i) (2 ^ (7-i))))))=_
 rw [e]
 show some (Value.int .u8 (wrapF .u8 ((mixU a u (i+1):Nat):Int)))=_
 rw [wrap8 (mix_lt ha hu)]
theorem mix_and {a u i:Nat} (ha:a<256) (hu:u<256) (hi:i<8) (hb:u / 2 ^ (7-i) % 2=0):binV .andNot (nB (mixU a u i)) (nB (2 ^ (7-i)))=some (nB (mixU a u (i+1))):=by
 have hb':u.testBit (7-i)=false:=by rw [Nat.testBit_eq_decide_div_mod_eq];simp [hb]
 have hm:=mix_lt (i:=i) ha hu
 have hp:2 ^ (7-i)<256:=Nat.pow_lt_pow_right (a:=2) (m:=7-i) (n:=8) (by decide) (by omega)
 have e:(BitVec.ofInt 8 ((mixU a u i:Nat):Int) &&& ~~~ (BitVec.ofInt 8 ((2 ^ (7-i):Nat):Int))).toNat=mixU a u (i+1):=by
  have e1:(BitVec.ofInt 8 ((mixU a u i:Nat):Int))=BitVec.ofNat 8 (mixU a u i):=by simp
  have e2:(BitVec.ofInt 8 ((2 ^ (7-i):Nat):Int))=BitVec.ofNat 8 (2 ^ (7-i)):=BitVec.ofInt_natCast _ _
  rw [e1,e2]
  apply Nat.eq_of_testBit_eq
  intro j
  rw [BitVec.testBit_toNat,BitVec.getLsbD_and,BitVec.getLsbD_not,BitVec.getLsbD_ofNat,BitVec.getLsbD_ofNat,mix_bit hu,mix_bit hu,Nat.testBit_two_pow]
  by_cases h8:j<8
  ·by_cases h1:7-i=j
   ·subst h1
    rw [if_neg (by omega:¬ 7-i<8-(i+1)),hb'];simp
   ·simp only [h1,decide_false,h8,decide_true,Bool.true_and,Bool.not_false,Bool.and_true,Bool.and_false]
    by_cases h2:j<8-i
    ·rw [if_pos h2,if_pos (by omega)]
    ·rw [if_neg h2,if_neg (by omega)]
  ·have e2:u.testBit j=false:=Nat.testBit_lt_two_pow (Nat.lt_of_lt_of_le hu (show 256≤2 ^ j from Nat.pow_le_pow_right (n:=2) (by decide) (show 8≤j by omega)))
   have n1:¬ j<8-i:=by omega
   have n2:¬ j<8-(i+1):=by omega
   have n3:¬ j<7-i:=by omega
   simp [h8,n1,n2,n3,e2]
 show some (Value.int .u8 (IntKind.u8.wrap ((BitVec.ofInt 8 ((mixU a u i:Nat):Int) &&& ~~~ (BitVec.ofInt 8 ((2 ^ (7-i):Nat):Int))).toNat:Nat)))=_
 rw [e,← wrapF_eq,wrap8 (mix_lt ha hu)]
end Go.Ev
namespace Go.Ev
open Go.Ar (By)
open Go.Proofs.RS (bitU bitsOf)
theorem slA_n {b p n:Nat} (H:Hp) (h1:p+n≤65536) (h2:p<65536):exSlA 65536 1 (.pointer (some ⟨b,0,none⟩)) (some (vN ((p:Nat):Int))) (some (vN ((p+n:Nat):Int))) none H=.val (.slice (some ⟨b,p,none⟩) n (2*(65536-p))) H 0 0:=by
 rw [slA_lh H (by omega) h1 h2,show p+n-p=n by omega]
theorem bit_add (u:UInt8) (i:Nat):binV .add (.int .u8 48) (nB (u.toNat / 2 ^ (7-i) % 2))=some (uB (bitU u i)):=by
 have:=Nat.mod_lt (u.toNat / 2 ^ (7-i)) (show 0<2 by decide)
 rw [add48 this,nB_uB (by omega)];rfl
theorem ixS_bits {u:UInt8} {i:Nat} (h:i<8) (H:Hp):exIxS (vS (bitsOf u)) (vN ((i:Nat):Int)) H=.val (uB (bitU u i)) H 0 0:=by
 have hl:(bitsOf u).length=8:=by simp [bitsOf]
 have hg:(bitsOf u)[i]?=some (bitU u i):=by simp [bitsOf,h]
 have:idx (vN ((i:Nat):Int)) (bitsOf u).length=some i:=by
  show Bc (Nat.blt i (bitsOf u).length) (some i) none=_
  rw [(blt_iff _ _).2 (by rw [hl];exact h)];rfl
 show (match idx (vN ((i:Nat):Int)) (bitsOf u).length with | some m=>(match (bitsOf u)[m]? with | some c=>R.v (.int .u8 (.ofNat c.toNat)) H | none=>.fail) | none=>.fail)=_
 rw [this];simp only [hg];rfl
theorem eq49_t {u:UInt8} {i:Nat} (h:u.toNat / 2 ^ (7-i) % 2=1) (H:Hp):exEq false (.one .i) (uB (bitU u i)) (.int .u8 49) H=.val (.bool true) H 0 0:=by
 have:bitU u i=49:=by unfold bitU;rw [h];rfl
 rw [this];rfl
theorem eq49_f {u:UInt8} {i:Nat} (h:u.toNat / 2 ^ (7-i) % 2=0) (H:Hp):exEq false (.one .i) (uB (bitU u i)) (.int .u8 49) H=.val (.bool false) H 0 0:=by
 have:bitU u i=48:=by unfold bitU;rw [h];rfl
 rw [this];rfl
theorem len_bits (u:UInt8) (H:Hp):exLen 0 (vS (bitsOf u)) H=.val (vN ((8:Nat))) H 0 0:=by
 show R.val (vN (((bitsOf u).length:Nat):Int)) H 0 0=_
 rw [show (bitsOf u).length=8 by simp [bitsOf]]
def bitsP (u:UInt8) (i:Nat):By:=fun j=>if j<i then bitU u j else 0
theorem bitsP_zero (u:UInt8):(fun _=>0:By)=bitsP u 0:=by funext j;unfold bitsP;rw [if_neg (by omega)]
theorem bitsP_next {u:UInt8} {i:Nat} (j:Nat):over (bitsP u i) i 1 (fun _=>bitU u i) j=bitsP u (i+1) j:=by
 unfold over bitsP
 by_cases h:i≤j∧j<i+1
 ·rw [if_pos h,if_pos (by omega),show j=i by omega]
 ·rw [if_neg h]
  by_cases h2:j<i
  ·rw [if_pos h2,if_pos (by omega)]
  ·rw [if_neg h2,if_neg (by omega)]
theorem bitsP_all (u:UInt8):strF (bitsP u 8) 8=bitsOf u:=by
 unfold strF bitsOf
 apply List.map_congr_left
 intro i hi
 unfold bitsP;rw [if_pos (List.mem_range.1 hi)]
def memF (f:By) (p x:Nat):By:=over f p 1 fun _=>UInt8.ofNat x
theorem memF_at (f:By) (p x:Nat):memF f p x p=UInt8.ofNat x:=by unfold memF over;rw [if_pos (by omega)]
theorem memF_over {f:By} {p x y:Nat} (j:Nat):over (memF f p x) p 1 (fun _=>UInt8.ofNat y) j=memF f p y j:=by
 unfold memF over
 by_cases h:p≤j∧j<p+1
 ·rw [if_pos h,if_pos h]
 ·rw [if_neg h,if_neg h,if_neg h]
theorem memF_zero (f:By) (p:Nat) (u:UInt8):f=memF f p (mixU (f p).toNat u.toNat 0):=by
 funext j
 unfold memF over
 rw [mix_zero (f p).toNat_lt u.toNat_lt]
 by_cases h:p≤j∧j<p+1
 ·rw [if_pos h,show j=p by omega];simp
 ·rw [if_neg h]
theorem memF_all (f:By) (p:Nat) (u:UInt8):memF f p (mixU (f p).toNat u.toNat 8)=over f p 1 fun _=>u:=by
 unfold memF;rw [mix_all];simp
theorem mem_or {f:By} {p i:Nat} {u:UInt8} (hi:i<8) (hb:u.toNat / 2 ^ (7-i) % 2=1):binV .or (uB (memF f p (mixU (f p).toNat u.toNat i) p)) (nB (2 ^ (7-i)))=some (uB (UInt8.ofNat (mixU (f p).toNat u.toNat (i+1)))):=by
 rw [memF_at,← nB_uB (mix_lt (f p).toNat_lt u.toNat_lt),mix_or (f p).toNat_lt u.toNat_lt hi hb,nB_uB (mix_lt (f p).toNat_lt u.toNat_lt)]
theorem mem_and {f:By} {p i:Nat} {u:UInt8} (hi:i<8) (hb:u.toNat / 2 ^ (7-i) % 2=0):binV .andNot (uB (memF f p (mixU (f p).toNat u.toNat i) p)) (nB (2 ^ (7-i)))=some (uB (UInt8.ofNat (mixU (f p).toNat u.toNat (i+1)))):=by
 rw [memF_at,← nB_uB (mix_lt (f p).toNat_lt u.toNat_lt),mix_and (f p).toNat_lt u.toNat_lt hi hb,nB_uB (mix_lt (f p).toNat_lt u.toNat_lt)]
end Go.Ev
namespace Go.Ar
theorem Is.place_pos {f:By} {n off k:Nat} {us:List U} (h:Is f n us) (hm:(off,k)∈places 8 us):1≤k:=by
 obtain ⟨A,u,B,rfl,h1,h2,h3⟩:=places_mem hm
 have hl:=h.lay
 rw [lay_append] at hl
 rw [← h2]
 exact (hl.2.1.use h1).1
end Go.Ar
namespace Go.Ar
theorem AllocR.in_ {f f':By} {n off k:Nat} {us us':List U} (h:AllocR f f' n us us' off k):16≤off∧off+k≤n:=by
 have hm:(off,k)∈places 8 us':=h.perm.symm.subset (List.mem_cons_self)
 have:=places_in hm
 have h1:16≤off:=this.1
 have h2:off+k≤fin 8 us':=this.2
 have:=h.is.le
 omega
end Go.Ar
end
