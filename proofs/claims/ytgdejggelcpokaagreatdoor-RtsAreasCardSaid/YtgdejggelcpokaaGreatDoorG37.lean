/-
 A part of the proof that pliantlaw15.RtsAreas returns true and leaves its arguments alone. Conditions: those of the card in the last text.
-/
import Derived.Test.YtgdejggelcpokaaGreatDoorG27
import Derived.Test.YtgdejggelcpokaaGreatDoorG31
import Derived.Test.YtgdejggelcpokaaGreatDoorG32
import Derived.Test.YtgdejggelcpokaaGreatDoorG34
import Derived.Test.YtgdejggelcpokaaGreatDoorG36
set_option linter.unusedSimpArgs false
set_option linter.unusedVariables false
set_option linter.unusedSectionVars false
noncomputable section
namespace Go.Proofs.RS
open Go Go.Ev Go.Proofs Go.Ar
section
attribute [local go_sem] Bc_f Bc_t GT Ro_some Rv_eq WOG WOX Yj Yk Yl Ym Yn Yo Yp Yq Yr and_self and_true binV_add binV_geq binV_gtr binV_leq binV_lss binV_mul binV_sub callV_func dec_F dec_T evalL evalO_const evalO_func evalO_tmp exEq_int exFa_ptr exLen_str exPick_f exPick_t exUn_not if_false if_true no_bits ok_zero putT_none run true_and wantsV_U wantsV_ff wantsV_ft wantsV_tf wantsV_tt wants_none' wants_some
variable {sp:Nat→List Value→Hp→Option (Value×Hp×Nat×Nat)} {e:Env}
set_option maxRecDepth 10000 in
set_option maxHeartbeats 4000000 in
theorem dead_ok (S:SpX sp) {H:Hp} (hf:H.isFn=true) (he:e.n0≤H.nx) {sb:Nat} {L:List Value} (hst:Row H sb 104 0 L) (h19:L[19]?=some (.bool false)) (hps:sb<e.n0→e.Rd sb):EC Tb0 sp e 47 [pA sb 0] H fun v H'=>v=.bool false∧H'=H:=by
 refine EC.i1 (by rfl) ded_some ded_comp (S.no 47 (by decide) _ _) (by show 1≤11;decide) fun t0 g0=>?_
 show WK Tb0 sp e ⟨4,11,none,false⟩ ded_k t0 [] H _
 unfold ded_k
 have lt1_:=hst.lt
 refine WK.seq ?_
 refine WK.reg_g ?_
 refine WOG.all (fun t' H'=>H=H'∧GT t' [(0,pA sb 0),(2,.bool false)]) ?_ ?_
 ·simp +decide only [ded_r0,g0,Xo 4,go_sem]
 rintro t2_ _ ⟨rfl,g0_2,g2_2, -⟩
 refine WK.seq ?_
 refine WK.reg_g ?_
 have m4_:∀ Hq,exEq false (.one .p) (pA sb 0) (.pointer none) Hq=.val (.bool false) Hq 0 0:=fun Hq=>rfl
 have m5_:∀ Hq,exNil (pA sb 0) Hq=.val (pA sb 0) Hq 0 0:=fun _=>rfl
 have m6_:exLd1 (pA sb 19) H=.val (.bool false) H (bit (sb)) 0:=exLd1_row hst h19
 have o7_:e.ok (bit (sb)) 0 H:=.read hst.lt hps
 refine WOG.all (fun t' H'=>H=H'∧t'.get 2=.bool false) ?_ ?_
 ·simp +decide only [ded_r1,g0_2,g2_2,m4_,m5_,m6_,o7_,Xo 4,go_sem]
 rintro t8_ _ ⟨rfl,g2_8⟩
 refine WK.ret ⟨.inr rfl,rfl,[.bool false],0,?_,.zero _ _,rfl,rfl⟩
 show resL Tb0 11 t8_ _ [.tmp 2]=_
 simp only [resL,g2_8];rfl
set_option maxRecDepth 10000 in
set_option maxHeartbeats 4000000 in
theorem sized_ok (S:SpX sp) {H:Hp} (hf:H.isFn=true) (he:e.n0≤H.nx) {p n:Nat} (h16:16≤n) (hn:n≤4096):EC Tb0 sp e 57 [iN (8*p),iN n] H fun v H'=>v=.bool true∧H'=H:=by
 refine EC.i2 (by rfl) sized_some sized_comp (S.no 57 (by decide) _ _) (by show 2≤19;decide) fun t0 g0 g1=>?_
 show WK Tb0 sp e ⟨5,19,none,false⟩ sized_k t0 [] H _
 unfold sized_k
 refine WK.seq ?_
 refine WK.reg_g ?_
 refine WOG.all (fun t' H'=>H=H'∧GT t' [(0,iN (8*p)),(1,iN n),(4,.bool false)]) ?_ ?_
 ·simp +decide only [sized_r0,g0,g1,Xo 5,go_sem]
 rintro t1_ _ ⟨rfl,g0_1,g1_1,g4_1, -⟩
 refine WK.seq ?_
 refine WK.reg_g ?_
 have d3_:decide (((8*p:Nat):Int)=(-1:Int))=false:=decide_eq_false (by omega)
 have d4_:decide (((n:Nat):Int)<(16:Int))=false:=decide_eq_false (by omega)
 have d5_:decide ((4096:Int)<((n:Nat):Int))=false:=decide_eq_false (by omega)
 refine WOG.all (fun t' H'=>H=H'∧t'.get 4=.bool true) ?_ ?_
 ·simp +decide only [sized_r1,g0_1,g1_1,g4_1,d3_,d4_,d5_,Xo 5,go_sem]
 rintro t6_ _ ⟨rfl,g4_6⟩
 refine WK.ret ⟨.inr rfl,rfl,[.bool true],0,?_,.zero _ _,rfl,rfl⟩
 show resL Tb0 19 t6_ _ [.tmp 4]=_
 simp only [resL,g4_6];rfl
set_option maxRecDepth 10000 in
set_option maxHeartbeats 4000000 in
theorem found_ok (S:SpX sp) {H:Hp} (hf:H.isFn=true) (he:e.n0≤H.nx) {sb bm:Nat} {L:List Value} {fm:By} (hst:Row H sb 104 0 L) (h6:L[6]?=some (.pointer (some ⟨bm,0,none⟩))) (h19:L[19]?=some (.bool false)) (hr:ByU H bm 171 fm 65536) (hps:sb<e.n0→e.Rd sb) (hpm:bm<e.n0→e.Rd bm) {p n:Nat} {us:List U} (h:Is (fun i=>fm (p+i)) n us) (h16:16≤n) (hn:n≤4096) (hpn:p+n≤65536):EC Tb0 sp e 53 [pA sb 0,iN (8*p),iN n] H fun v H'=>v=.tuple #[vN ((8*p:Nat):Int),vS (strF (fun i=>fm (p+i)) n),vN 0]∧Kept H H':=by
 refine EC.i3 (by rfl) found_some found_comp (S.no 53 (by decide) _ _) (by show 3≤35;decide) fun t0 g0 g1 g2=>?_
 show WK Tb0 sp e ⟨6,35,none,false⟩ found_k t0 [] H _
 unfold found_k
 have lt1_:=hst.lt
 have lt2_:=hr.lt
 have k0_:Kept H H:=.refl hf
 refine WK.seq ?_
 refine WK.reg_g ?_
 refine WOG.all (fun t' H'=>H=H'∧GT t' [(0,pA sb 0),(1,iN (8*p)),(2,iN n),(6,.int .i64 (0)),(7,.string ⟨#[]⟩),(8,.int .i64 (0))]) ?_ ?_
 ·simp +decide only [found_r0,g0,g1,g2,Xo 6,go_sem]
 rintro t3_ _ ⟨rfl,g0_3,g1_3,g2_3,g6_3,g7_3,g8_3, -⟩
 refine WK.seq ?_
 refine WK.seq ?_
 refine WK.reg_g ?_
 refine WOG.hide fun K0 hK0=>?_
 simp +decide only [found_r1,g1_3,g2_3,Xo 6,go_sem]
 refine EC.mono (sized_ok S hf (by omega) (p:=p) (n:=n) (by omega) (by omega)) fun v H5_ _ hv6_=>?_
 obtain ⟨rfl,hh7_⟩:=hv6_
 rw [hh7_];clear hh7_
 rw [WOGk]
 refine WOG.all (fun t' H'=>H=H'∧GT t' [(0,pA sb 0),(1,iN (8*p)),(2,iN n),(6,.int .i64 (0)),(7,.string ⟨#[]⟩),(8,.int .i64 (0)),(14,.bool false)]) ?_ ?_
 ·simp +decide only [found_r1,g0_3,g1_3,g2_3,g6_3,g7_3,g8_3,Xo 6,go_sem]
 rintro t8_ _ ⟨rfl,g0_8,g1_8,g2_8,g6_8,g7_8,g8_8,g14_8, -⟩
 refine hK0 _ _ ?_
 refine WK.cond (v:=false) (by rw [evalO_tmp,g14_8];rfl) ?_
 refine WK.skip ?_
 refine WK.seq ?_
 refine WK.seq ?_
 refine WK.reg_g ?_
 have d10_:decide (((n:Nat):Int)=(0:Int))=false:=decide_eq_false (by omega)
 refine WOG.all (fun t' H'=>H=H'∧GT t' [(0,pA sb 0),(1,iN (8*p)),(2,iN n),(6,.int .i64 (0)),(7,.string ⟨#[]⟩),(8,.int .i64 (0)),(16,.bool false)]) ?_ ?_
 ·simp +decide only [found_r3,g0_8,g1_8,g2_8,g6_8,g7_8,g8_8,g14_8,d10_,Xo 6,go_sem]
 rintro t11_ _ ⟨rfl,g0_11,g1_11,g2_11,g6_11,g7_11,g8_11,g16_11, -⟩
 refine WK.cond (v:=false) (by rw [evalO_tmp,g16_11];rfl) ?_
 refine WK.skip ?_
 refine WK.seq ?_
 refine WK.reg_g ?_
 refine WOG.hide fun K0 hK0=>?_
 have m13_:∀ Hq,exNil (pA sb 0) Hq=.val (pA sb 0) Hq 0 0:=fun _=>rfl
 have m14_:exLd1 (pA sb 6) H=.val (pA bm 0) H (bit (sb)) 0:=exLd1_row hst h6
 have o15_:e.ok (bit (sb)) 0 H:=.read hst.lt hps
 simp +decide only [found_r5,g0_11,g1_11,g2_11,m13_,m14_,o15_,Xo 6,go_sem]
 refine EC.mono (mbytes_ok S hf (by omega) (p:=p) (n:=n) hr (by omega) (by omega) hpm) fun v H16_ _ hv17_=>?_
 obtain ⟨rfl,hh18_⟩:=hv17_
 rw [hh18_];clear hh18_
 rw [WOGk]
 have m19_:∀ Hq,exExt (.tuple #[vS (strF (fun i=>fm (p+i)) n),.int .i64 (0)]) 0 Hq=.val (vS (strF (fun i=>fm (p+i)) n)) Hq 0 0:=fun _=>rfl
 have m20_:∀ Hq,exExt (.tuple #[vS (strF (fun i=>fm (p+i)) n),.int .i64 (0)]) 1 Hq=.val (.int .i64 (0)) Hq 0 0:=fun _=>rfl
 refine WOG.all (fun t' H'=>H=H'∧GT t' [(1,iN (8*p)),(6,.int .i64 (0)),(7,.string ⟨#[]⟩),(8,.int .i64 (0)),(9,vS (strF (fun i=>fm (p+i)) n)),(10,.int .i64 (0))]) ?_ ?_
 ·simp +decide only [found_r5,g0_11,g1_11,g2_11,g6_11,g7_11,g8_11,g16_11,m19_,m20_,Xo 6,go_sem]
 rintro t21_ _ ⟨rfl,g1_21,g6_21,g7_21,g8_21,g9_21,g10_21, -⟩
 refine hK0 _ _ ?_
 refine WK.seq ?_
 refine WK.seq ?_
 refine WK.reg_g ?_
 have d23_:decide ((0:Int)=(0:Int))=true:=decide_eq_true (by omega)
 refine WOG.all (fun t' H'=>H=H'∧GT t' [(1,iN (8*p)),(6,.int .i64 (0)),(7,.string ⟨#[]⟩),(8,.int .i64 (0)),(9,vS (strF (fun i=>fm (p+i)) n)),(10,.int .i64 (0)),(28,.bool false)]) ?_ ?_
 ·simp +decide only [found_r6,g1_21,g6_21,g7_21,g8_21,g9_21,g10_21,d23_,Xo 6,go_sem]
 rintro t24_ _ ⟨rfl,g1_24,g6_24,g7_24,g8_24,g9_24,g10_24,g28_24, -⟩
 refine WK.cond (v:=false) (by rw [evalO_tmp,g28_24];rfl) ?_
 refine WK.skip ?_
 refine WK.seq ?_
 refine WK.seq ?_
 refine WK.reg_g ?_
 refine WOG.hide fun K0 hK0=>?_
 simp +decide only [found_r8,g9_24,Xo 6,go_sem]
 refine EC.mono (achk_ok S hf (by omega) h h16 (by omega)) fun v H26_ _ hv27_=>?_
 obtain ⟨rfl,hk28_⟩:=hv27_
 have hf29_:=hk28_.fn
 have nx30_:=hk28_.nx
 have k31_:=k0_.trans hk28_
 rw [WOGk]
 have d32_:decide ((0:Int)=(0:Int))=true:=decide_eq_true (by omega)
 refine WOG.all (fun t' H'=>H26_=H'∧GT t' [(1,iN (8*p)),(6,.int .i64 (0)),(7,.string ⟨#[]⟩),(8,.int .i64 (0)),(9,vS (strF (fun i=>fm (p+i)) n)),(10,.int .i64 (0)),(32,.bool false)]) ?_ ?_
 ·simp +decide only [found_r8,g1_24,g6_24,g7_24,g8_24,g9_24,g10_24,g28_24,d32_,Xo 6,go_sem]
 rintro t33_ _ ⟨rfl,g1_33,g6_33,g7_33,g8_33,g9_33,g10_33,g32_33, -⟩
 refine hK0 _ _ ?_
 refine WK.cond (v:=false) (by rw [evalO_tmp,g32_33];rfl) ?_
 refine WK.skip ?_
 refine WK.seq ?_
 refine WK.reg_g ?_
 refine WOG.all (fun t' H'=>H26_=H'∧GT t' [(6,iN (8*p)),(7,vS (strF (fun i=>fm (p+i)) n)),(8,.int .i64 (0)),(10,.int .i64 (0))]) ?_ ?_
 ·simp +decide only [found_r10,g1_33,g6_33,g7_33,g8_33,g9_33,g10_33,g32_33,Xo 6,go_sem]
 rintro t35_ _ ⟨rfl,g6_35,g7_35,g8_35,g10_35, -⟩
 refine WK.ret ⟨.inr rfl,rfl,[iN (8*p),vS (strF (fun i=>fm (p+i)) n),.int .i64 (0)],0,?_,.zero _ _,rfl,k31_⟩
 show resL Tb0 35 t35_ _ [.tmp 6,.tmp 7,.tmp 8]=_
 simp only [resL,g6_35,g7_35,g8_35];rfl
set_option maxRecDepth 10000 in
set_option maxHeartbeats 4000000 in
theorem ralloc_ok (S:SpX sp) {H:Hp} (hf:H.isFn=true) (he:e.n0≤H.nx) {sb bm:Nat} {L:List Value} {fm:By} (hst:Row H sb 104 0 L) (h6:L[6]?=some (.pointer (some ⟨bm,0,none⟩))) (h19:L[19]?=some (.bool false)) (hr:ByU H bm 171 fm 65536) (hps:sb<e.n0→e.Rd sb) (hpr:bm<e.n0→e.Rd bm) (hpm:bm<e.n0→e.Wr bm) {k p n:Nat} {us:List U} (hsb:sb≠bm) (h:Is (fun i=>fm (p+i)) n us) (h16:16≤n) (hn:n≤4096) (hpn:p+n≤65536) (hk1:1≤k) (hk2:k≤8192):EC Tb0 sp e 18 [pA sb 0,iN (8*k),iN (8*p),iN n] H fun v H'=>(v=.tuple #[vN 0,.bool false,vN 0]∧OvK H bm 171 fm 65536 H')∨∃ f1 us1 off,v=.tuple #[vN ((8*p+8*off:Nat):Int),.bool true,vN 0]∧AllocR (fun i=>fm (p+i)) f1 n us us1 off k∧OvK H bm 171 (over fm p n f1) 65536 H':=by
 refine EC.i4 (by rfl) ralloc_some ralloc_comp (S.no 18 (by decide) _ _) (by show 4≤62;decide) fun t0 g0 g1 g2 g3=>?_
 show WK Tb0 sp e ⟨6,62,none,false⟩ ralloc_k t0 [] H _
 unfold ralloc_k
 have lt1_:=hst.lt
 have lt2_:=hr.lt
 have hlb:=hr.lt
 have hls:=hst.lt
 have q0:=OvK.refl hf hr
 refine WK.seq ?_
 refine WK.reg_g ?_
 refine WOG.all (fun t' H'=>H=H'∧GT t' [(0,pA sb 0),(1,iN (8*k)),(2,iN (8*p)),(3,iN n),(8,.int .i64 (0)),(9,.bool false),(10,.int .i64 (0))]) ?_ ?_
 ·simp +decide only [ralloc_r0,g0,g1,g2,g3,Xo 6,go_sem]
 rintro t3_ _ ⟨rfl,g0_3,g1_3,g2_3,g3_3,g8_3,g9_3,g10_3, -⟩
 refine WK.seq ?_
 refine WK.seq ?_
 refine WK.reg_g ?_
 refine WOG.hide fun K0 hK0=>?_
 simp +decide only [ralloc_r1,g0_3,Xo 6,go_sem]
 refine EC.mono (dead_ok S hf (by omega) hst h19 hps) fun v H5_ _ hv6_=>?_
 obtain ⟨rfl,hh7_⟩:=hv6_
 rw [hh7_];clear hh7_
 rw [WOGk]
 have d8_:decide (((8*k:Nat):Int)<(8:Int))=false:=decide_eq_false (by omega)
 have d9_:decide ((65536:Int)<((8*k:Nat):Int))=false:=decide_eq_false (by omega)
 have m10_:∀ Hq,R.o (binV .rem (iN (8*k)) (.int .i64 8)) Hq=.val (.int .i64 (0)) Hq 0 0:=fun Hq=>rem8 (by omega)
 have d11_:decide ((0:Int)=(0:Int))=true:=decide_eq_true (by omega)
 refine WOG.all (fun t' H'=>H=H'∧GT t' [(0,pA sb 0),(1,iN (8*k)),(2,iN (8*p)),(3,iN n),(8,.int .i64 (0)),(9,.bool false),(10,.int .i64 (0)),(29,.bool false)]) ?_ ?_
 ·simp +decide only [ralloc_r1,g0_3,g1_3,g2_3,g3_3,g8_3,g9_3,g10_3,d8_,d9_,m10_,d11_,Xo 6,go_sem]
 rintro t12_ _ ⟨rfl,g0_12,g1_12,g2_12,g3_12,g8_12,g9_12,g10_12,g29_12, -⟩
 refine hK0 _ _ ?_
 refine WK.cond (v:=false) (by rw [evalO_tmp,g29_12];rfl) ?_
 refine WK.skip ?_
 refine WK.seq ?_
 refine WK.reg_g ?_
 refine WOG.hide fun K0 hK0=>?_
 simp +decide only [ralloc_r3,g0_12,g2_12,g3_12,Xo 6,go_sem]
 refine EC.mono (found_ok S hf (by omega) (p:=p) (n:=n) hst h6 h19 hr hps hpr h (by omega) (by omega) (by omega)) fun v H14_ _ hv15_=>?_
 obtain ⟨rfl,hk16_⟩:=hv15_
 have hf17_:=hk16_.fn
 have nx18_:=hk16_.nx
 have q19_:=q0.kept hlb hk16_
 rw [WOGk]
 have m20_:∀ Hq,exExt (.tuple #[iN (8*p),vS (strF (fun i=>fm (p+i)) n),.int .i64 (0)]) 0 Hq=.val (iN (8*p)) Hq 0 0:=fun _=>rfl
 have m21_:∀ Hq,exExt (.tuple #[iN (8*p),vS (strF (fun i=>fm (p+i)) n),.int .i64 (0)]) 1 Hq=.val (vS (strF (fun i=>fm (p+i)) n)) Hq 0 0:=fun _=>rfl
 have m22_:∀ Hq,exExt (.tuple #[iN (8*p),vS (strF (fun i=>fm (p+i)) n),.int .i64 (0)]) 2 Hq=.val (.int .i64 (0)) Hq 0 0:=fun _=>rfl
 refine WOG.all (fun t' H'=>H14_=H'∧GT t' [(0,pA sb 0),(1,iN (8*k)),(2,iN (8*p)),(8,.int .i64 (0)),(9,.bool false),(10,.int .i64 (0)),(11,vS (strF (fun i=>fm (p+i)) n)),(12,.int .i64 (0))]) ?_ ?_
 ·simp +decide only [ralloc_r3,g0_12,g1_12,g2_12,g3_12,g8_12,g9_12,g10_12,g29_12,m20_,m21_,m22_,Xo 6,go_sem]
 rintro t23_ _ ⟨rfl,g0_23,g1_23,g2_23,g8_23,g9_23,g10_23,g11_23,g12_23, -⟩
 refine hK0 _ _ ?_
 refine WK.seq ?_
 refine WK.seq ?_
 refine WK.reg_g ?_
 have d25_:decide ((0:Int)=(0:Int))=true:=decide_eq_true (by omega)
 refine WOG.all (fun t' H'=>H14_=H'∧GT t' [(0,pA sb 0),(1,iN (8*k)),(2,iN (8*p)),(8,.int .i64 (0)),(9,.bool false),(10,.int .i64 (0)),(11,vS (strF (fun i=>fm (p+i)) n)),(12,.int .i64 (0)),(39,.bool false)]) ?_ ?_
 ·simp +decide only [ralloc_r4,g0_23,g1_23,g2_23,g8_23,g9_23,g10_23,g11_23,g12_23,d25_,Xo 6,go_sem]
 rintro t26_ _ ⟨rfl,g0_26,g1_26,g2_26,g8_26,g9_26,g10_26,g11_26,g12_26,g39_26, -⟩
 refine WK.cond (v:=false) (by rw [evalO_tmp,g39_26];rfl) ?_
 refine WK.skip ?_
 refine WK.seq ?_
 refine WK.reg_g ?_
 refine WOG.hide fun K0 hK0=>?_
 have m28_:∀ Hq,R.o (binV .quo (iN (8*k)) (.int .i64 8)) Hq=.val (iN k) Hq 0 0:=fun Hq=>quo8 (by omega) (by omega) _
 simp +decide only [ralloc_r6,g1_26,g11_26,m28_,Xo 6,go_sem]
 refine EC.mono (alc_ok S hf17_ (by omega) h h16 (by omega) hk1 hk2) fun v H29_ _ hv30_=>?_
 rcases hv30_ with ⟨rfl | ⟨f1,us1,off,rfl,hall⟩,hkA⟩
 ·
  have hf31_:=hkA.fn
  have nx32_:=hkA.nx
  have q33_:=q19_.kept hlb hkA
  rw [WOGk]
  have m34_:∀ Hq,exExt (.tuple #[vS [],.int .i64 (0),.int .i64 (121)]) 0 Hq=.val (vS []) Hq 0 0:=fun _=>rfl
  have m35_:∀ Hq,exExt (.tuple #[vS [],.int .i64 (0),.int .i64 (121)]) 1 Hq=.val (.int .i64 (0)) Hq 0 0:=fun _=>rfl
  have m36_:∀ Hq,exExt (.tuple #[vS [],.int .i64 (0),.int .i64 (121)]) 2 Hq=.val (.int .i64 (121)) Hq 0 0:=fun _=>rfl
  refine WOG.all (fun t' H'=>H29_=H'∧GT t' [(0,pA sb 0),(2,iN (8*p)),(8,.int .i64 (0)),(9,.bool false),(10,.int .i64 (0)),(11,vS []),(12,.int .i64 (0)),(13,.int .i64 (0)),(14,.int .i64 (121))]) ?_ ?_
  ·simp +decide only [ralloc_r6,g0_26,g1_26,g2_26,g8_26,g9_26,g10_26,g11_26,g12_26,g39_26,m34_,m35_,m36_,Xo 6,go_sem]
  rintro t37_ _ ⟨rfl,g0_37,g2_37,g8_37,g9_37,g10_37,g11_37,g12_37,g13_37,g14_37, -⟩
  refine hK0 _ _ ?_
  refine WK.seq ?_
  refine WK.seq ?_
  refine WK.reg_g ?_
  have d39_:decide ((121:Int)=(0:Int))=false:=decide_eq_false (by omega)
  refine WOG.all (fun t' H'=>H29_=H'∧GT t' [(0,pA sb 0),(2,iN (8*p)),(8,.int .i64 (0)),(9,.bool false),(10,.int .i64 (0)),(11,vS []),(12,.int .i64 (0)),(13,.int .i64 (0)),(50,.bool true)]) ?_ ?_
  ·simp +decide only [ralloc_r7,g0_37,g2_37,g8_37,g9_37,g10_37,g11_37,g12_37,g13_37,g14_37,d39_,Xo 6,go_sem]
  rintro t40_ _ ⟨rfl,g0_40,g2_40,g8_40,g9_40,g10_40,g11_40,g12_40,g13_40,g50_40, -⟩
  refine WK.cond (v:=true) (by rw [evalO_tmp,g50_40];rfl) ?_
  refine WK.seq ?_
  refine WK.reg_g ?_
  refine WOG.all (fun t' H'=>H29_=H'∧GT t' [(0,pA sb 0),(2,iN (8*p)),(8,.int .i64 (0)),(9,.bool false),(10,.int .i64 (0)),(11,vS []),(12,.int .i64 (0)),(13,.int .i64 (0))]) ?_ ?_
  ·simp +decide only [ralloc_r8,g0_40,g2_40,g8_40,g9_40,g10_40,g11_40,g12_40,g13_40,g50_40,Xo 6,go_sem]
  rintro t42_ _ ⟨rfl,g0_42,g2_42,g8_42,g9_42,g10_42,g11_42,g12_42,g13_42, -⟩
  refine WK.ret ⟨.inr rfl,rfl,[.int .i64 (0),.bool false,.int .i64 (0)],0,?_,.zero _ _,.inl ⟨rfl,q33_⟩⟩
  show resL Tb0 62 t42_ _ [.tmp 8,.tmp 9,.tmp 10]=_
  simp only [resL,g8_42,g9_42,g10_42];rfl
 ·
  obtain ⟨ho1,ho2⟩:=hall.in_
  have hf31_:=hkA.fn
  have nx32_:=hkA.nx
  have q33_:=q19_.kept hlb hkA
  rw [WOGk]
  have m34_:∀ Hq,exExt (.tuple #[vS (strF f1 n),iN off,.int .i64 (0)]) 0 Hq=.val (vS (strF f1 n)) Hq 0 0:=fun _=>rfl
  have m35_:∀ Hq,exExt (.tuple #[vS (strF f1 n),iN off,.int .i64 (0)]) 1 Hq=.val (iN off) Hq 0 0:=fun _=>rfl
  have m36_:∀ Hq,exExt (.tuple #[vS (strF f1 n),iN off,.int .i64 (0)]) 2 Hq=.val (.int .i64 (0)) Hq 0 0:=fun _=>rfl
  refine WOG.all (fun t' H'=>H29_=H'∧GT t' [(0,pA sb 0),(2,iN (8*p)),(8,.int .i64 (0)),(9,.bool false),(10,.int .i64 (0)),(11,vS (strF f1 n)),(12,.int .i64 (0)),(13,iN off),(14,.int .i64 (0))]) ?_ ?_
  ·simp +decide only [ralloc_r6,g0_26,g1_26,g2_26,g8_26,g9_26,g10_26,g11_26,g12_26,g39_26,m34_,m35_,m36_,Xo 6,go_sem]
  rintro t37_ _ ⟨rfl,g0_37,g2_37,g8_37,g9_37,g10_37,g11_37,g12_37,g13_37,g14_37, -⟩
  refine hK0 _ _ ?_
  refine WK.seq ?_
  refine WK.seq ?_
  refine WK.reg_g ?_
  have d39_:decide ((0:Int)=(0:Int))=true:=decide_eq_true (by omega)
  refine WOG.all (fun t' H'=>H29_=H'∧GT t' [(0,pA sb 0),(2,iN (8*p)),(8,.int .i64 (0)),(9,.bool false),(10,.int .i64 (0)),(11,vS (strF f1 n)),(12,.int .i64 (0)),(13,iN off),(50,.bool false)]) ?_ ?_
  ·simp +decide only [ralloc_r7,g0_37,g2_37,g8_37,g9_37,g10_37,g11_37,g12_37,g13_37,g14_37,d39_,Xo 6,go_sem]
  rintro t40_ _ ⟨rfl,g0_40,g2_40,g8_40,g9_40,g10_40,g11_40,g12_40,g13_40,g50_40, -⟩
  refine WK.cond (v:=false) (by rw [evalO_tmp,g50_40];rfl) ?_
  refine WK.skip ?_
  refine WK.seq ?_
  refine WK.reg_g ?_
  refine WOG.hide fun K0 hK0=>?_
  have m42_:∀ Hq,exNil (pA sb 0) Hq=.val (pA sb 0) Hq 0 0:=fun _=>rfl
  have r43_:=(hst.mv hk16_).mv hkA
  have m44_:exLd1 (pA sb 6) H29_=.val (pA bm 0) H29_ (bit (sb)) 0:=exLd1_row r43_ h6
  have o45_:e.ok (bit (sb)) 0 H29_:=.read r43_.lt hps
  have r46_:=(hr.mv hk16_).mv hkA
  simp +decide only [ralloc_r9,g0_40,g2_40,g11_40,m42_,m44_,o45_,Xo 6,go_sem]
  refine EC.mono (mput_ok S hf31_ (by omega) (p:=p) (n:=n) (f1:=f1) r46_ (by omega) (by omega) hpm) fun v H47_ _ hv48_=>?_
  obtain ⟨rfl,ov49_⟩:=hv48_
  have hf50_:=ov49_.fn
  have nx51_:H47_.nx=H29_.nx:=ov49_.nx
  have q52_:=q33_.ov ov49_
  rw [WOGk]
  refine WOG.all (fun t' H'=>H47_=H'∧GT t' [(2,iN (8*p)),(8,.int .i64 (0)),(9,.bool false),(10,.int .i64 (0)),(12,.int .i64 (0)),(13,iN off)]) ?_ ?_
  ·simp +decide only [ralloc_r9,g0_40,g2_40,g8_40,g9_40,g10_40,g11_40,g12_40,g13_40,g50_40,Xo 6,go_sem]
  rintro t53_ _ ⟨rfl,g2_53,g8_53,g9_53,g10_53,g12_53,g13_53, -⟩
  refine hK0 _ _ ?_
  refine WK.seq ?_
  refine WK.reg_g ?_
  have w55_:Value.int .i64 (wrapF .i64 ((8:Int)*((off:Nat):Int)))=.int .i64 (((8*off):Nat):Int):=wF (by omega)
  have w56_:Value.int .i64 (wrapF .i64 (((8*p:Nat):Int)+(((8*off):Nat):Int)))=.int .i64 ((((8*p)+((8*off))):Nat):Int):=wF (by omega)
  refine WOG.all (fun t' H'=>H47_=H'∧GT t' [(8,iN (((8*p)+((8*off))))),(9,.bool true),(10,.int .i64 (0)),(12,.int .i64 (0))]) ?_ ?_
  ·simp +decide only [ralloc_r10,g2_53,g8_53,g9_53,g10_53,g12_53,g13_53,w55_,w56_,Xo 6,go_sem]
  rintro t57_ _ ⟨rfl,g8_57,g9_57,g10_57,g12_57, -⟩
  have e8:t57_.get 8=vN ((8*p+8*off:Nat):Int):=g8_57
  refine WK.ret ⟨.inr rfl,rfl,[iN (((8*p)+((8*off)))),.bool true,.int .i64 (0)],0,?_,.zero _ _,.inr ⟨f1,us1,off,rfl,hall,q52_⟩⟩
  show resL Tb0 62 t57_ _ [.tmp 8,.tmp 9,.tmp 10]=_
  simp only [resL,g8_57,g9_57,g10_57];rfl
set_option maxRecDepth 10000 in
set_option maxHeartbeats 4000000 in
theorem rfree_ok (S:SpX sp) {H:Hp} (hf:H.isFn=true) (he:e.n0≤H.nx) {sb bm:Nat} {L:List Value} {fm:By} (hst:Row H sb 104 0 L) (h6:L[6]?=some (.pointer (some ⟨bm,0,none⟩))) (h19:L[19]?=some (.bool false)) (hr:ByU H bm 171 fm 65536) (hps:sb<e.n0→e.Rd sb) (hpr:bm<e.n0→e.Rd bm) (hpm:bm<e.n0→e.Wr bm) {k off p n:Nat} {us:List U} (hsb:sb≠bm) (h:Is (fun i=>fm (p+i)) n us) (h16:16≤n) (hn:n≤4096) (hpn:p+n≤65536) (hm:(off,k)∈places 8 us):EC Tb0 sp e 16 [pA sb 0,iN (8*p+8*off),iN (8*p),iN n] H fun v H'=>v=vN 0∧∃ f1 us1,FreeR (fun i=>fm (p+i)) f1 n us us1 off k∧OvK H bm 171 (over fm p n f1) 65536 H':=by
 refine EC.i4 (by rfl) rfree_some rfree_comp (S.no 16 (by decide) _ _) (by show 4≤60;decide) fun t0 g0 g1 g2 g3=>?_
 show WK Tb0 sp e ⟨6,60,none,false⟩ rfree_k t0 [] H _
 unfold rfree_k
 have lt1_:=hst.lt
 have lt2_:=hr.lt
 have hlb:=hr.lt
 have hls:=hst.lt
 have q0:=OvK.refl hf hr
 have hin:=places_in hm
 have hi1:16≤off:=hin.1
 have hi2:off+k≤fin 8 us:=hin.2
 have hile:=h.le
 have hk0:1≤k:=h.place_pos hm
 refine WK.seq ?_
 refine WK.reg_g ?_
 refine WOG.all (fun t' H'=>H=H'∧GT t' [(0,pA sb 0),(1,iN (8*p+8*off)),(2,iN (8*p)),(3,iN n),(8,.int .i64 (0))]) ?_ ?_
 ·simp +decide only [rfree_r0,g0,g1,g2,g3,Xo 6,go_sem]
 rintro t3_ _ ⟨rfl,g0_3,g1_3,g2_3,g3_3,g8_3, -⟩
 refine WK.seq ?_
 refine WK.seq ?_
 refine WK.reg_g ?_
 refine WOG.hide fun K0 hK0=>?_
 simp +decide only [rfree_r1,g0_3,Xo 6,go_sem]
 refine EC.mono (dead_ok S hf (by omega) hst h19 hps) fun v H5_ _ hv6_=>?_
 obtain ⟨rfl,hh7_⟩:=hv6_
 rw [hh7_];clear hh7_
 rw [WOGk]
 refine WOG.all (fun t' H'=>H=H'∧GT t' [(0,pA sb 0),(1,iN (8*p+8*off)),(2,iN (8*p)),(3,iN n),(8,.int .i64 (0)),(13,.bool false)]) ?_ ?_
 ·simp +decide only [rfree_r1,g0_3,g1_3,g2_3,g3_3,g8_3,Xo 6,go_sem]
 rintro t8_ _ ⟨rfl,g0_8,g1_8,g2_8,g3_8,g8_8,g13_8, -⟩
 refine hK0 _ _ ?_
 refine WK.cond (v:=false) (by rw [evalO_tmp,g13_8];rfl) ?_
 refine WK.skip ?_
 refine WK.seq ?_
 refine WK.reg_g ?_
 refine WOG.hide fun K0 hK0=>?_
 simp +decide only [rfree_r3,g0_8,g2_8,g3_8,Xo 6,go_sem]
 refine EC.mono (found_ok S hf (by omega) (p:=p) (n:=n) hst h6 h19 hr hps hpr h (by omega) (by omega) (by omega)) fun v H10_ _ hv11_=>?_
 obtain ⟨rfl,hk12_⟩:=hv11_
 have hf13_:=hk12_.fn
 have nx14_:=hk12_.nx
 have q15_:=q0.kept hlb hk12_
 rw [WOGk]
 have m16_:∀ Hq,exExt (.tuple #[iN (8*p),vS (strF (fun i=>fm (p+i)) n),.int .i64 (0)]) 0 Hq=.val (iN (8*p)) Hq 0 0:=fun _=>rfl
 have m17_:∀ Hq,exExt (.tuple #[iN (8*p),vS (strF (fun i=>fm (p+i)) n),.int .i64 (0)]) 1 Hq=.val (vS (strF (fun i=>fm (p+i)) n)) Hq 0 0:=fun _=>rfl
 have m18_:∀ Hq,exExt (.tuple #[iN (8*p),vS (strF (fun i=>fm (p+i)) n),.int .i64 (0)]) 2 Hq=.val (.int .i64 (0)) Hq 0 0:=fun _=>rfl
 refine WOG.all (fun t' H'=>H10_=H'∧GT t' [(0,pA sb 0),(1,iN (8*p+8*off)),(2,iN (8*p)),(8,.int .i64 (0)),(9,vS (strF (fun i=>fm (p+i)) n)),(10,.int .i64 (0))]) ?_ ?_
 ·simp +decide only [rfree_r3,g0_8,g1_8,g2_8,g3_8,g8_8,g13_8,m16_,m17_,m18_,Xo 6,go_sem]
 rintro t19_ _ ⟨rfl,g0_19,g1_19,g2_19,g8_19,g9_19,g10_19, -⟩
 refine hK0 _ _ ?_
 refine WK.seq ?_
 refine WK.seq ?_
 refine WK.reg_g ?_
 have d21_:decide ((0:Int)=(0:Int))=true:=decide_eq_true (by omega)
 refine WOG.all (fun t' H'=>H10_=H'∧GT t' [(0,pA sb 0),(1,iN (8*p+8*off)),(2,iN (8*p)),(8,.int .i64 (0)),(9,vS (strF (fun i=>fm (p+i)) n)),(10,.int .i64 (0)),(23,.bool false)]) ?_ ?_
 ·simp +decide only [rfree_r4,g0_19,g1_19,g2_19,g8_19,g9_19,g10_19,d21_,Xo 6,go_sem]
 rintro t22_ _ ⟨rfl,g0_22,g1_22,g2_22,g8_22,g9_22,g10_22,g23_22, -⟩
 refine WK.cond (v:=false) (by rw [evalO_tmp,g23_22];rfl) ?_
 refine WK.skip ?_
 refine WK.seq ?_
 refine WK.seq ?_
 refine WK.reg_g ?_
 have d24_:decide (((8*p+8*off:Nat):Int)<((8*p:Nat):Int))=false:=decide_eq_false (by omega)
 have m25_:∀ Hq,exLen 0 (vS (strF (fun i=>fm (p+i)) n)) Hq=.val (vN ((n:Nat))) Hq 0 0:=fun _=>len_strF _ _ _
 have w26_:Value.int .i64 (wrapF .i64 ((8:Int)*((n:Nat):Int)))=.int .i64 (((8*n):Nat):Int):=wF (by omega)
 have w27_:Value.int .i64 (wrapF .i64 (((8*p:Nat):Int)+(((8*n):Nat):Int)))=.int .i64 ((((8*p)+((8*n))):Nat):Int):=wF (by omega)
 have d28_:decide (((8*p+8*off:Nat):Int)<((((8*p)+((8*n))):Nat):Int))=true:=decide_eq_true (by omega)
 have m29_:∀ Hq,R.o (binV .rem (iN (8*p+8*off)) (.int .i64 (8))) Hq=.val (.int .i64 (0)) Hq 0 0:=fun Hq=>rem8 (by omega)
 have d30_:decide ((0:Int)=(0:Int))=true:=decide_eq_true (by omega)
 refine WOG.all (fun t' H'=>H10_=H'∧GT t' [(0,pA sb 0),(1,iN (8*p+8*off)),(2,iN (8*p)),(8,.int .i64 (0)),(9,vS (strF (fun i=>fm (p+i)) n)),(10,.int .i64 (0)),(41,.bool false)]) ?_ ?_
 ·simp +decide only [rfree_r6,g0_22,g1_22,g2_22,g8_22,g9_22,g10_22,g23_22,d24_,m25_,w26_,w27_,d28_,m29_,d30_,Xo 6,go_sem]
 rintro t31_ _ ⟨rfl,g0_31,g1_31,g2_31,g8_31,g9_31,g10_31,g41_31, -⟩
 refine WK.cond (v:=false) (by rw [evalO_tmp,g41_31];rfl) ?_
 refine WK.skip ?_
 refine WK.seq ?_
 refine WK.reg_g ?_
 refine WOG.hide fun K0 hK0=>?_
 have m33_:binV .sub (iN (8*p+8*off)) (iN (8*p))=some (iN (8*off)):=congrArg (fun z=>some (Value.int .i64 z)) (by rw [show Int.sub _ _=(((8*off:Nat):Int)) from by show ((_:Int)-_)=_;omega];exact wrapF_nat (by omega))
 have m34_:∀ Hq,R.o (binV .quo (iN (8*off)) (.int .i64 8)) Hq=.val (iN off) Hq 0 0:=fun Hq=>quo8 (by omega) (by omega) _
 simp +decide only [rfree_r8,g1_31,g2_31,g9_31,m33_,m34_,Xo 6,go_sem]
 refine EC.mono (fre_ok S hf13_ (by omega) (off:=off) (k:=k) h h16 (by omega) hm) fun v H35_ _ hv36_=>?_
 obtain ⟨⟨f1,us1,rfl,hfr⟩,hkF⟩:=hv36_
 have hf37_:=hkF.fn
 have nx38_:=hkF.nx
 have q39_:=q15_.kept hlb hkF
 rw [WOGk]
 have m40_:∀ Hq,exExt (.tuple #[vS (strF f1 n),.int .i64 (0)]) 0 Hq=.val (vS (strF f1 n)) Hq 0 0:=fun _=>rfl
 have m41_:∀ Hq,exExt (.tuple #[vS (strF f1 n),.int .i64 (0)]) 1 Hq=.val (.int .i64 (0)) Hq 0 0:=fun _=>rfl
 refine WOG.all (fun t' H'=>H35_=H'∧GT t' [(0,pA sb 0),(2,iN (8*p)),(8,.int .i64 (0)),(9,vS (strF f1 n)),(10,.int .i64 (0)),(11,.int .i64 (0))]) ?_ ?_
 ·simp +decide only [rfree_r8,g0_31,g1_31,g2_31,g8_31,g9_31,g10_31,g41_31,m40_,m41_,Xo 6,go_sem]
 rintro t42_ _ ⟨rfl,g0_42,g2_42,g8_42,g9_42,g10_42,g11_42, -⟩
 refine hK0 _ _ ?_
 refine WK.seq ?_
 refine WK.seq ?_
 refine WK.reg_g ?_
 have d44_:decide ((0:Int)=(0:Int))=true:=decide_eq_true (by omega)
 refine WOG.all (fun t' H'=>H35_=H'∧GT t' [(0,pA sb 0),(2,iN (8*p)),(8,.int .i64 (0)),(9,vS (strF f1 n)),(10,.int .i64 (0)),(52,.bool false)]) ?_ ?_
 ·simp +decide only [rfree_r9,g0_42,g2_42,g8_42,g9_42,g10_42,g11_42,d44_,Xo 6,go_sem]
 rintro t45_ _ ⟨rfl,g0_45,g2_45,g8_45,g9_45,g10_45,g52_45, -⟩
 refine WK.cond (v:=false) (by rw [evalO_tmp,g52_45];rfl) ?_
 refine WK.skip ?_
 refine WK.seq ?_
 refine WK.reg_g ?_
 refine WOG.hide fun K0 hK0=>?_
 have m47_:∀ Hq,exNil (pA sb 0) Hq=.val (pA sb 0) Hq 0 0:=fun _=>rfl
 have r48_:=(hst.mv hk12_).mv hkF
 have m49_:exLd1 (pA sb 6) H35_=.val (pA bm 0) H35_ (bit (sb)) 0:=exLd1_row r48_ h6
 have o50_:e.ok (bit (sb)) 0 H35_:=.read r48_.lt hps
 have r51_:=(hr.mv hk12_).mv hkF
 simp +decide only [rfree_r11,g0_45,g2_45,g9_45,m47_,m49_,o50_,Xo 6,go_sem]
 refine EC.mono (mput_ok S hf37_ (by omega) (p:=p) (n:=n) (f1:=f1) r51_ (by omega) (by omega) hpm) fun v H52_ _ hv53_=>?_
 obtain ⟨rfl,ov54_⟩:=hv53_
 have hf55_:=ov54_.fn
 have nx56_:H52_.nx=H35_.nx:=ov54_.nx
 have q57_:=q39_.ov ov54_
 rw [WOGk]
 refine WOG.all (fun t' H'=>H52_=H'∧GT t' [(8,.int .i64 (0)),(10,.int .i64 (0))]) ?_ ?_
 ·simp +decide only [rfree_r11,g0_45,g2_45,g8_45,g9_45,g10_45,g52_45,Xo 6,go_sem]
 rintro t58_ _ ⟨rfl,g8_58,g10_58, -⟩
 refine hK0 _ _ ?_
 refine WK.seq ?_
 refine WK.reg_g ?_
 refine WOG.all (fun t' H'=>H52_=H'∧GT t' [(8,.int .i64 (0)),(10,.int .i64 (0))]) ?_ ?_
 ·simp +decide only [rfree_r12,g8_58,g10_58,Xo 6,go_sem]
 rintro t60_ _ ⟨rfl,g8_60,g10_60, -⟩
 refine WK.ret ⟨.inr rfl,rfl,[.int .i64 (0)],0,?_,.zero _ _,rfl,f1,us1,hfr,q57_⟩
 show resL Tb0 60 t60_ _ [.tmp 8]=_
 simp only [resL,g8_60];rfl
set_option maxRecDepth 10000 in
set_option maxHeartbeats 4000000 in
theorem copya_ok (S:SpX sp) {H:Hp} (hf:H.isFn=true) (he:e.n0≤H.nx) {sb bm:Nat} {L:List Value} {fm:By} (hst:Row H sb 104 0 L) (h6:L[6]?=some (.pointer (some ⟨bm,0,none⟩))) (h19:L[19]?=some (.bool false)) (hr:ByU H bm 171 fm 65536) (hps:sb<e.n0→e.Rd sb) (hpr:bm<e.n0→e.Rd bm) (hpm:bm<e.n0→e.Wr bm) {p1 n1 p2 n2:Nat} {us1 us2:List U} (hsb:sb≠bm) (h1:Is (fun i=>fm (p1+i)) n1 us1) (a1:16≤n1) (a2:n1≤4096) (a3:p1+n1≤65536) (h2:Is (fun i=>fm (p2+i)) n2 us2) (b1:16≤n2) (b2:n2≤4096) (b3:p2+n2≤65536) (hm:fin 8 us2≤n1):EC Tb0 sp e 19 [pA sb 0,iN (8*p1),iN n1,iN (8*p2),iN n2] H fun v H'=>v=.tuple #[.bool true,vN 0]∧OvK H bm 171 (over fm p1 n1 (cut (fun i=>fm (p2+i)) (fin 8 us2))) 65536 H':=by
 refine EC.i5 (by rfl) copya_some copya_comp (S.no 19 (by decide) _ _) (by show 5≤68;decide) fun t0 g0 g1 g2 g3 g4=>?_
 show WK Tb0 sp e ⟨7,68,none,false⟩ copya_k t0 [] H _
 unfold copya_k
 have lt1_:=hst.lt
 have lt2_:=hr.lt
 have hlb:=hr.lt
 have hls:=hst.lt
 have q0:=OvK.refl hf hr
 refine WK.seq ?_
 refine WK.reg_g ?_
 refine WOG.all (fun t' H'=>H=H'∧GT t' [(0,pA sb 0),(1,iN (8*p1)),(2,iN n1),(3,iN (8*p2)),(4,iN n2),(10,.bool false),(11,.int .i64 (0))]) ?_ ?_
 ·simp +decide only [copya_r0,g0,g1,g2,g3,g4,Xo 7,go_sem]
 rintro t3_ _ ⟨rfl,g0_3,g1_3,g2_3,g3_3,g4_3,g10_3,g11_3, -⟩
 refine WK.seq ?_
 refine WK.seq ?_
 refine WK.reg_g ?_
 refine WOG.hide fun K0 hK0=>?_
 simp +decide only [copya_r1,g0_3,Xo 7,go_sem]
 refine EC.mono (dead_ok S hf (by omega) hst h19 hps) fun v H5_ _ hv6_=>?_
 obtain ⟨rfl,hh7_⟩:=hv6_
 rw [hh7_];clear hh7_
 rw [WOGk]
 simp +decide only [copya_r1,g1_3,g2_3,Xo 7,go_sem]
 refine EC.mono (sized_ok S hf (by omega) (p:=p1) (n:=n1) (by omega) (by omega)) fun v H8_ _ hv9_=>?_
 obtain ⟨rfl,hh10_⟩:=hv9_
 rw [hh10_];clear hh10_
 rw [WOGk]
 simp +decide only [copya_r1,g3_3,g4_3,Xo 7,go_sem]
 refine EC.mono (sized_ok S hf (by omega) (p:=p2) (n:=n2) (by omega) (by omega)) fun v H11_ _ hv12_=>?_
 obtain ⟨rfl,hh13_⟩:=hv12_
 rw [hh13_];clear hh13_
 rw [WOGk]
 refine WOG.all (fun t' H'=>H=H'∧GT t' [(0,pA sb 0),(1,iN (8*p1)),(2,iN n1),(3,iN (8*p2)),(4,iN n2),(10,.bool false),(11,.int .i64 (0)),(30,.bool false)]) ?_ ?_
 ·simp +decide only [copya_r1,g0_3,g1_3,g2_3,g3_3,g4_3,g10_3,g11_3,Xo 7,go_sem]
 rintro t14_ _ ⟨rfl,g0_14,g1_14,g2_14,g3_14,g4_14,g10_14,g11_14,g30_14, -⟩
 refine hK0 _ _ ?_
 refine WK.cond (v:=false) (by rw [evalO_tmp,g30_14];rfl) ?_
 refine WK.skip ?_
 refine WK.seq ?_
 refine WK.reg_g ?_
 refine WOG.hide fun K0 hK0=>?_
 simp +decide only [copya_r3,g0_14,g1_14,g2_14,Xo 7,go_sem]
 refine EC.mono (found_ok S hf (by omega) (p:=p1) (n:=n1) hst h6 h19 hr hps hpr h1 (by omega) (by omega) (by omega)) fun v H16_ _ hv17_=>?_
 obtain ⟨rfl,hk18_⟩:=hv17_
 have hf19_:=hk18_.fn
 have nx20_:=hk18_.nx
 have q21_:=q0.kept hlb hk18_
 rw [WOGk]
 have m22_:∀ Hq,exExt (.tuple #[iN (8*p1),vS (strF (fun i=>fm (p1+i)) n1),.int .i64 (0)]) 0 Hq=.val (iN (8*p1)) Hq 0 0:=fun _=>rfl
 have m23_:∀ Hq,exExt (.tuple #[iN (8*p1),vS (strF (fun i=>fm (p1+i)) n1),.int .i64 (0)]) 1 Hq=.val (vS (strF (fun i=>fm (p1+i)) n1)) Hq 0 0:=fun _=>rfl
 have m24_:∀ Hq,exExt (.tuple #[iN (8*p1),vS (strF (fun i=>fm (p1+i)) n1),.int .i64 (0)]) 2 Hq=.val (.int .i64 (0)) Hq 0 0:=fun _=>rfl
 refine WOG.all (fun t' H'=>H16_=H'∧GT t' [(0,pA sb 0),(1,iN (8*p1)),(3,iN (8*p2)),(4,iN n2),(10,.bool false),(11,.int .i64 (0)),(12,vS (strF (fun i=>fm (p1+i)) n1)),(13,.int .i64 (0))]) ?_ ?_
 ·simp +decide only [copya_r3,g0_14,g1_14,g2_14,g3_14,g4_14,g10_14,g11_14,g30_14,m22_,m23_,m24_,Xo 7,go_sem]
 rintro t25_ _ ⟨rfl,g0_25,g1_25,g3_25,g4_25,g10_25,g11_25,g12_25,g13_25, -⟩
 refine hK0 _ _ ?_
 refine WK.seq ?_
 refine WK.seq ?_
 refine WK.reg_g ?_
 have d27_:decide ((0:Int)=(0:Int))=true:=decide_eq_true (by omega)
 refine WOG.all (fun t' H'=>H16_=H'∧GT t' [(0,pA sb 0),(1,iN (8*p1)),(3,iN (8*p2)),(4,iN n2),(10,.bool false),(11,.int .i64 (0)),(12,vS (strF (fun i=>fm (p1+i)) n1)),(13,.int .i64 (0)),(40,.bool false)]) ?_ ?_
 ·simp +decide only [copya_r4,g0_25,g1_25,g3_25,g4_25,g10_25,g11_25,g12_25,g13_25,d27_,Xo 7,go_sem]
 rintro t28_ _ ⟨rfl,g0_28,g1_28,g3_28,g4_28,g10_28,g11_28,g12_28,g13_28,g40_28, -⟩
 refine WK.cond (v:=false) (by rw [evalO_tmp,g40_28];rfl) ?_
 refine WK.skip ?_
 refine WK.seq ?_
 refine WK.reg_g ?_
 refine WOG.hide fun K0 hK0=>?_
 have r30_:=hr.mv hk18_
 have r31_:=hst.mv hk18_
 simp +decide only [copya_r6,g0_28,g3_28,g4_28,Xo 7,go_sem]
 refine EC.mono (found_ok S hf19_ (by omega) (p:=p2) (n:=n2) r31_ h6 h19 r30_ hps hpr h2 (by omega) (by omega) (by omega)) fun v H32_ _ hv33_=>?_
 obtain ⟨rfl,hk34_⟩:=hv33_
 have hf35_:=hk34_.fn
 have nx36_:=hk34_.nx
 have q37_:=q21_.kept hlb hk34_
 rw [WOGk]
 have m38_:∀ Hq,exExt (.tuple #[iN (8*p2),vS (strF (fun i=>fm (p2+i)) n2),.int .i64 (0)]) 0 Hq=.val (iN (8*p2)) Hq 0 0:=fun _=>rfl
 have m39_:∀ Hq,exExt (.tuple #[iN (8*p2),vS (strF (fun i=>fm (p2+i)) n2),.int .i64 (0)]) 1 Hq=.val (vS (strF (fun i=>fm (p2+i)) n2)) Hq 0 0:=fun _=>rfl
 have m40_:∀ Hq,exExt (.tuple #[iN (8*p2),vS (strF (fun i=>fm (p2+i)) n2),.int .i64 (0)]) 2 Hq=.val (.int .i64 (0)) Hq 0 0:=fun _=>rfl
 refine WOG.all (fun t' H'=>H32_=H'∧GT t' [(0,pA sb 0),(1,iN (8*p1)),(10,.bool false),(11,.int .i64 (0)),(12,vS (strF (fun i=>fm (p1+i)) n1)),(13,.int .i64 (0)),(15,vS (strF (fun i=>fm (p2+i)) n2))]) ?_ ?_
 ·simp +decide only [copya_r6,g0_28,g1_28,g3_28,g4_28,g10_28,g11_28,g12_28,g13_28,g40_28,m38_,m39_,m40_,Xo 7,go_sem]
 rintro t41_ _ ⟨rfl,g0_41,g1_41,g10_41,g11_41,g12_41,g13_41,g15_41, -⟩
 refine hK0 _ _ ?_
 refine WK.seq ?_
 refine WK.seq ?_
 refine WK.reg_g ?_
 have d43_:decide ((0:Int)=(0:Int))=true:=decide_eq_true (by omega)
 refine WOG.all (fun t' H'=>H32_=H'∧GT t' [(0,pA sb 0),(1,iN (8*p1)),(10,.bool false),(11,.int .i64 (0)),(12,vS (strF (fun i=>fm (p1+i)) n1)),(13,.int .i64 (0)),(15,vS (strF (fun i=>fm (p2+i)) n2)),(51,.bool false)]) ?_ ?_
 ·simp +decide only [copya_r7,g0_41,g1_41,g10_41,g11_41,g12_41,g13_41,g15_41,d43_,Xo 7,go_sem]
 rintro t44_ _ ⟨rfl,g0_44,g1_44,g10_44,g11_44,g12_44,g13_44,g15_44,g51_44, -⟩
 refine WK.cond (v:=false) (by rw [evalO_tmp,g51_44];rfl) ?_
 refine WK.skip ?_
 refine WK.seq ?_
 refine WK.reg_g ?_
 refine WOG.hide fun K0 hK0=>?_
 simp +decide only [copya_r9,g12_44,g15_44,Xo 7,go_sem]
 refine EC.mono (asn_ok S hf35_ (by omega) h1 h2 a1 (by omega) b1 (by omega) hm) fun v H46_ _ hv47_=>?_
 obtain ⟨rfl,hk48_⟩:=hv47_
 have hf49_:=hk48_.fn
 have nx50_:=hk48_.nx
 have q51_:=q37_.kept hlb hk48_
 rw [WOGk]
 have m52_:∀ Hq,exExt (.tuple #[vS (strF (cut (fun i=>fm (p2+i)) (fin 8 us2)) n1),.int .i64 (0)]) 0 Hq=.val (vS (strF (cut (fun i=>fm (p2+i)) (fin 8 us2)) n1)) Hq 0 0:=fun _=>rfl
 have m53_:∀ Hq,exExt (.tuple #[vS (strF (cut (fun i=>fm (p2+i)) (fin 8 us2)) n1),.int .i64 (0)]) 1 Hq=.val (.int .i64 (0)) Hq 0 0:=fun _=>rfl
 refine WOG.all (fun t' H'=>H46_=H'∧GT t' [(0,pA sb 0),(1,iN (8*p1)),(10,.bool false),(11,.int .i64 (0)),(12,vS (strF (cut (fun i=>fm (p2+i)) (fin 8 us2)) n1)),(13,.int .i64 (0)),(16,.int .i64 (0))]) ?_ ?_
 ·simp +decide only [copya_r9,g0_44,g1_44,g10_44,g11_44,g12_44,g13_44,g15_44,g51_44,m52_,m53_,Xo 7,go_sem]
 rintro t54_ _ ⟨rfl,g0_54,g1_54,g10_54,g11_54,g12_54,g13_54,g16_54, -⟩
 refine hK0 _ _ ?_
 refine WK.seq ?_
 refine WK.seq ?_
 refine WK.reg_g ?_
 have d56_:decide ((0:Int)=(0:Int))=true:=decide_eq_true (by omega)
 refine WOG.all (fun t' H'=>H46_=H'∧GT t' [(0,pA sb 0),(1,iN (8*p1)),(10,.bool false),(11,.int .i64 (0)),(12,vS (strF (cut (fun i=>fm (p2+i)) (fin 8 us2)) n1)),(13,.int .i64 (0)),(60,.bool false)]) ?_ ?_
 ·simp +decide only [copya_r10,g0_54,g1_54,g10_54,g11_54,g12_54,g13_54,g16_54,d56_,Xo 7,go_sem]
 rintro t57_ _ ⟨rfl,g0_57,g1_57,g10_57,g11_57,g12_57,g13_57,g60_57, -⟩
 refine WK.cond (v:=false) (by rw [evalO_tmp,g60_57];rfl) ?_
 refine WK.skip ?_
 refine WK.seq ?_
 refine WK.reg_g ?_
 refine WOG.hide fun K0 hK0=>?_
 have m59_:∀ Hq,exNil (pA sb 0) Hq=.val (pA sb 0) Hq 0 0:=fun _=>rfl
 have r60_:=(r31_.mv hk34_).mv hk48_
 have m61_:exLd1 (pA sb 6) H46_=.val (pA bm 0) H46_ (bit (sb)) 0:=exLd1_row r60_ h6
 have o62_:e.ok (bit (sb)) 0 H46_:=.read r60_.lt hps
 have r63_:=(r30_.mv hk34_).mv hk48_
 simp +decide only [copya_r12,g0_57,g1_57,g12_57,m59_,m61_,o62_,Xo 7,go_sem]
 refine EC.mono (mput_ok S hf49_ (by omega) (p:=p1) (n:=n1) (f1:=cut (fun i=>fm (p2+i)) (fin 8 us2)) r63_ (by omega) (by omega) hpm) fun v H64_ _ hv65_=>?_
 obtain ⟨rfl,ov66_⟩:=hv65_
 have hf67_:=ov66_.fn
 have nx68_:H64_.nx=H46_.nx:=ov66_.nx
 have q69_:=q51_.ov ov66_
 rw [WOGk]
 refine WOG.all (fun t' H'=>H64_=H'∧GT t' [(10,.bool false),(11,.int .i64 (0)),(13,.int .i64 (0))]) ?_ ?_
 ·simp +decide only [copya_r12,g0_57,g1_57,g10_57,g11_57,g12_57,g13_57,g60_57,Xo 7,go_sem]
 rintro t70_ _ ⟨rfl,g10_70,g11_70,g13_70, -⟩
 refine hK0 _ _ ?_
 refine WK.seq ?_
 refine WK.reg_g ?_
 refine WOG.all (fun t' H'=>H64_=H'∧GT t' [(10,.bool true),(11,.int .i64 (0)),(13,.int .i64 (0))]) ?_ ?_
 ·simp +decide only [copya_r13,g10_70,g11_70,g13_70,Xo 7,go_sem]
 rintro t72_ _ ⟨rfl,g10_72,g11_72,g13_72, -⟩
 refine WK.ret ⟨.inr rfl,rfl,[.bool true,.int .i64 (0)],0,?_,.zero _ _,rfl,q69_⟩
 show resL Tb0 68 t72_ _ [.tmp 10,.tmp 11]=_
 simp only [resL,g10_72,g11_72];rfl
set_option maxRecDepth 10000 in
set_option maxHeartbeats 4000000 in
theorem rload_ok (S:SpX sp) {H:Hp} (hf:H.isFn=true) (he:e.n0≤H.nx) {sb bm:Nat} {L:List Value} {fm:By} (hst:Row H sb 104 0 L) (h6:L[6]?=some (.pointer (some ⟨bm,0,none⟩))) (h19:L[19]?=some (.bool false)) (hr:ByU H bm 171 fm 65536) (hps:sb<e.n0→e.Rd sb) (hpm:bm<e.n0→e.Rd bm) {p:Nat} (hp:p<65536):EC Tb0 sp e 15 [pA sb 0,iN (8*p),.agg ⟨[.int .i64 (3),.int .i64 (1),.int .i64 (0),.bool false,vS []]⟩] H fun v H'=>v=.tuple #[valV [fm p],vN 0]∧Kept H H':=by
 refine EC.i3 (by rfl) rload_some rload_comp (S.no 15 (by decide) _ _) (by show 3≤30;decide) fun t0 g0 g1 g2=>?_
 show WK Tb0 sp e ⟨5,30,none,false⟩ rload_k t0 [] H _
 unfold rload_k
 have lt1_:=hst.lt
 have lt2_:=hr.lt
 have k0_:Kept H H:=.refl hf
 refine WK.seq ?_
 refine WK.reg_g ?_
 obtain ⟨H3_,nb4_⟩:=newB hf [.int .i64 (3),.int .i64 (1),.int .i64 (0),.bool false,vS []] 40
 have m5_:exFill (cellsO (.agg ⟨[.int .i64 (3),.int .i64 (1),.int .i64 (0),.bool false,vS []]⟩)) (fun l=>alloc1 (blkL l 40 0) H ptrTo 0 0)=.val (.pointer (some ⟨H.nx,0,none⟩)) H3_ 0 0:=nb4_.al
 have hf6_:=nb4_.kept.fn
 have nx7_:H3_.nx=H.nx+1:=nb4_.nx
 have m8_:H.nx≤H3_.nx:=by omega
 have lt9_:=nb4_.row.lt
 have k10_:=k0_.trans nb4_.kept
 obtain ⟨H11_,nb12_⟩:=newB hf6_ [.int .i64 (0),.string ⟨#[]⟩] 47
 have m13_:alloc1 (blkL [.int .i64 (0),.string ⟨#[]⟩] 47 0) H3_ ptrTo 0 0=.val (.pointer (some ⟨H3_.nx,0,none⟩)) H11_ 0 0:=nb12_.al
 have hf14_:=nb12_.kept.fn
 have nx15_:H11_.nx=H3_.nx+1:=nb12_.nx
 have m16_:H3_.nx≤H11_.nx:=by omega
 have lt17_:=nb12_.row.lt
 have k18_:=k10_.trans nb12_.kept
 refine WOG.all (fun t' H'=>H11_=H'∧GT t' [(0,pA sb 0),(1,iN (8*p)),(5,pA H.nx 0),(6,pA H3_.nx 0),(7,.int .i64 (0))]) ?_ ?_
 ·simp +decide only [rload_r0,g0,g1,g2,m5_,m8_,m13_,m16_,Xo 5,go_sem]
 rintro t19_ _ ⟨rfl,g0_19,g1_19,g5_19,g6_19,g7_19, -⟩
 refine WK.seq ?_
 refine WK.seq ?_
 refine WK.reg_g ?_
 refine WOG.hide fun K0 hK0=>?_
 have r21_:=(hst.mv nb4_.kept).mv nb12_.kept
 simp +decide only [rload_r1,g0_19,Xo 5,go_sem]
 refine EC.mono (dead_ok S hf14_ (by omega) r21_ h19 hps) fun v H22_ _ hv23_=>?_
 obtain ⟨rfl,hh24_⟩:=hv23_
 rw [hh24_];clear hh24_
 rw [WOGk]
 have r25_:=nb4_.row.mv nb12_.kept
 have m26_:exLd1 (pA H.nx 0) H11_=.val (.int .i64 (3)) H11_ (bit (H.nx)) 0:=exLd1_row r25_ rfl
 have o27_:=okr (e:=e) r25_ (by omega)
 have d28_:decide ((3:Int)=(7:Int))=false:=decide_eq_false (by omega)
 have m29_:exLdN 5 (pA H.nx 0) H11_=.val (.agg ⟨[.int .i64 (3),.int .i64 (1),.int .i64 (0),.bool false,vS []]⟩) H11_ (bit (H.nx)) 0:=exLdN_row r25_ (by show 0+5≤5;decide)
 simp +decide only [rload_r1,g5_19,m26_,o27_,d28_,m29_,o27_,Xo 5,go_sem]
 refine EC.mono (cl_ok S (.ty)) fun v H30_ _ hv31_=>?_
 obtain ⟨rfl,hh32_⟩:=hv31_
 rw [hh32_];clear hh32_
 rw [WOGk]
 have d33_:decide ((0:Int)=(0:Int))=true:=decide_eq_true (by omega)
 refine WOG.all (fun t' H'=>H11_=H'∧GT t' [(0,pA sb 0),(1,iN (8*p)),(5,pA H.nx 0),(6,pA H3_.nx 0),(7,.int .i64 (0)),(19,.bool false)]) ?_ ?_
 ·simp +decide only [rload_r1,g0_19,g1_19,g5_19,g6_19,g7_19,d33_,Xo 5,go_sem]
 rintro t34_ _ ⟨rfl,g0_34,g1_34,g5_34,g6_34,g7_34,g19_34, -⟩
 refine hK0 _ _ ?_
 refine WK.cond (v:=false) (by rw [evalO_tmp,g19_34];rfl) ?_
 refine WK.skip ?_
 refine WK.seq ?_
 refine WK.draw_xx (fun _=>False) [.p,.p,.p,.q,.p,.q,.q,.p,.p,.x,.p] (by omega) rfl ?_
 refine WOX.hide fun K0 hK0=>?_
 have m36_:∀ Hq,exNil (pA sb 0) Hq=.val (pA sb 0) Hq 0 0:=fun _=>rfl
 have m37_:exLd1 (pA sb 6) H11_=.val (pA bm 0) H11_ (bit (sb)) 0:=exLd1_row r21_ h6
 have o38_:e.ok (bit (sb)) 0 H11_:=.read r21_.lt hps
 have o39_:∀ cq,(bit (sb)).testBit cq=true→cq<H11_.nx:=the_bit (P:=fun cq=>cq<H11_.nx) (by have:=r21_.lt;omega)
 have m40_:exLdN 5 (pA H.nx 0) H11_=.val (.agg ⟨[.int .i64 (3),.int .i64 (1),.int .i64 (0),.bool false,vS []]⟩) H11_ (bit (H.nx)) 0:=exLdN_row r25_ (by show 0+5≤5;decide)
 have o41_:=okr (e:=e) r25_ (by omega)
 have o42_:∀ cq,(bit (H.nx)).testBit cq=true→cq<H11_.nx:=the_bit (P:=fun cq=>cq<H11_.nx) (by have:=r25_.lt;omega)
 have r43_:=(hr.mv nb4_.kept).mv nb12_.kept
 simp +decide only [rload_r3,g0_34,g1_34,g5_34,m36_,m37_,o38_,o39_,m40_,o41_,o42_,Xo 5,go_sem]
 repeat (refine And.intro (by assumption) ?_)
 refine EC.mono (mload_ok S hf14_ (Nat.le_refl _) (p:=p) r43_ hp (show bm<(e.sub H11_.nx H11_.nx).n0→(e.sub H11_.nx H11_.nx).Rd (bm) from fun _=>⟨by have:=hr.lt;omega,hpm⟩)) fun v H44_ _ hv45_=>?_
 obtain ⟨rfl,hk46_⟩:=hv45_
 have hf47_:=hk46_.fn
 have nx48_:=hk46_.nx
 have k49_:=k18_.trans hk46_
 rw [WOXk]
 have m50_:∀ Hq,exExt (.tuple #[.agg ⟨[.int .i64 (0),vS [fm p]]⟩,.int .i64 (0)]) 0 Hq=.val (.agg ⟨[.int .i64 (0),vS [fm p]]⟩) Hq 0 0:=fun _=>rfl
 have m51_:∀ Hq,exExt (.tuple #[.agg ⟨[.int .i64 (0),vS [fm p]]⟩,.int .i64 (0)]) 1 Hq=.val (.int .i64 (0)) Hq 0 0:=fun _=>rfl
 have r52_:=nb12_.row.mv hk46_
 obtain ⟨H53_,e54_,wr55_⟩:=exStN_at (o:=0) (vs:=[.int .i64 (0),vS [fm p]]) hf47_ r52_ (by show 0+2≤2;decide)
 have m56_:exSt 2 (pA H3_.nx 0) (.agg ⟨[.int .i64 (0),vS [fm p]]⟩) H44_=.val U H53_ 0 (bit (H3_.nx)):=e54_
 have hf57_:=wr55_.fn
 have nx58_:H53_.nx=H44_.nx:=wr55_.nx
 have m59_:H44_.nx≤H53_.nx:=by omega
 have r60_:Row H53_ (H3_.nx) 47 0 [.int .i64 (0),vS [fm p]]:=wr55_.row
 have o61_:e.ok 0 (bit (H3_.nx)) H53_:=.write r60_.lt (fun h=>absurd h (by omega))
 have k62_:Kept H H53_:=⟨wr55_.fn,by have:=k49_.nx;omega,fun c hc=>(wr55_.else_ c (by omega)).trans (k49_.old c hc)⟩
 refine WOX.all (fun t' H'=>H53_=H'∧GT t' [(6,pA H3_.nx 0),(7,.int .i64 (0))]) ?_ ?_
 ·simp +decide only [rload_r3,g0_34,g1_34,g5_34,g6_34,g7_34,g19_34,m50_,m51_,m56_,m59_,o61_,Xo 5,go_sem]
  all_goals ((repeat' apply And.intro) <;> assumption)
 rintro t63_ _ ⟨rfl,g6_63,g7_63, -⟩
 refine hK0 _ _ ?_
 have rd66_:rdN H53_ (H3_.nx) 0 2=some [.int .i64 (0),vS [fm p]]:=rdN_row (o:=0) (k:=2) r60_ (by show 0+2≤2;decide)
 have rs65_:resL Tb0 30 t63_ H53_ [.cell 6 47,.tmp 7]=some ([.agg ⟨[.int .i64 (0),vS [fm p]]⟩,.int .i64 (0)],Nat.lor (bit (H3_.nx)) (0)):=(resL_cellA rfl g6_63 rd66_ (resL_tmp rfl g7_63 resL_nil))
 refine WK.ret ⟨.inr rfl,rfl,_,_,rs65_,(ok_lorR (.read r60_.lt (fun h=>absurd h (by omega))) (.zero _ _)),rfl,k62_⟩
set_option maxRecDepth 10000 in
set_option maxHeartbeats 4000000 in
theorem rstore_ok (S:SpX sp) {H:Hp} (hf:H.isFn=true) (he:e.n0≤H.nx) {sb bm:Nat} {L:List Value} {fm:By} (hst:Row H sb 104 0 L) (h6:L[6]?=some (.pointer (some ⟨bm,0,none⟩))) (h19:L[19]?=some (.bool false)) (hr:ByU H bm 171 fm 65536) (hps:sb<e.n0→e.Rd sb) (hpr:bm<e.n0→e.Rd bm) (hpm:bm<e.n0→e.Wr bm) {p:Nat} {u:UInt8} (hsb:sb≠bm) (hp:p<65536):EC Tb0 sp e 11 [pA sb 0,iN (8*p),.agg ⟨[.int .i64 (3),.int .i64 (1),.int .i64 (0),.bool false,vS []]⟩,.agg ⟨[.int .i64 (0),vS [u]]⟩] H fun v H'=>v=vN 0∧OvK H bm 171 (over fm p 1 fun _=>u) 65536 H':=by
 refine EC.i4 (by rfl) rstore_some rstore_comp (S.no 11 (by decide) _ _) (by show 4≤25;decide) fun t0 g0 g1 g2 g3=>?_
 show WK Tb0 sp e ⟨5,25,none,false⟩ rstore_k t0 [] H _
 unfold rstore_k
 have lt1_:=hst.lt
 have lt2_:=hr.lt
 have hlb:=hr.lt
 have hls:=hst.lt
 have q0:=OvK.refl hf hr
 refine WK.seq ?_
 refine WK.reg_g ?_
 obtain ⟨H3_,nb4_⟩:=newB hf [.int .i64 (3),.int .i64 (1),.int .i64 (0),.bool false,vS []] 40
 have m5_:exFill (cellsO (.agg ⟨[.int .i64 (3),.int .i64 (1),.int .i64 (0),.bool false,vS []]⟩)) (fun l=>alloc1 (blkL l 40 0) H ptrTo 0 0)=.val (.pointer (some ⟨H.nx,0,none⟩)) H3_ 0 0:=nb4_.al
 have hf6_:=nb4_.kept.fn
 have nx7_:H3_.nx=H.nx+1:=nb4_.nx
 have m8_:H.nx≤H3_.nx:=by omega
 have lt9_:=nb4_.row.lt
 have q10_:=q0.kept hlb nb4_.kept
 obtain ⟨H11_,nb12_⟩:=newB hf6_ [.int .i64 (0),vS [u]] 47
 have m13_:exFill (cellsO (.agg ⟨[.int .i64 (0),vS [u]]⟩)) (fun l=>alloc1 (blkL l 47 0) H3_ ptrTo 0 0)=.val (.pointer (some ⟨H3_.nx,0,none⟩)) H11_ 0 0:=nb12_.al
 have hf14_:=nb12_.kept.fn
 have nx15_:H11_.nx=H3_.nx+1:=nb12_.nx
 have m16_:H3_.nx≤H11_.nx:=by omega
 have lt17_:=nb12_.row.lt
 have q18_:=q10_.kept hlb nb12_.kept
 refine WOG.all (fun t' H'=>H11_=H'∧GT t' [(0,pA sb 0),(1,iN (8*p)),(6,pA H.nx 0),(7,pA H3_.nx 0),(8,.int .i64 (0))]) ?_ ?_
 ·simp +decide only [rstore_r0,g0,g1,g2,g3,m5_,m8_,m13_,m16_,Xo 5,go_sem]
 rintro t19_ _ ⟨rfl,g0_19,g1_19,g6_19,g7_19,g8_19, -⟩
 refine WK.seq ?_
 refine WK.seq ?_
 refine WK.reg_g ?_
 refine WOG.hide fun K0 hK0=>?_
 have r21_:=(hst.mv nb4_.kept).mv nb12_.kept
 simp +decide only [rstore_r1,g0_19,Xo 5,go_sem]
 refine EC.mono (dead_ok S hf14_ (by omega) r21_ h19 hps) fun v H22_ _ hv23_=>?_
 obtain ⟨rfl,hh24_⟩:=hv23_
 rw [hh24_];clear hh24_
 rw [WOGk]
 have r25_:=nb4_.row.mv nb12_.kept
 have m26_:exLdN 5 (pA H.nx 0) H11_=.val (.agg ⟨[.int .i64 (3),.int .i64 (1),.int .i64 (0),.bool false,vS []]⟩) H11_ (bit (H.nx)) 0:=exLdN_row r25_ (by show 0+5≤5;decide)
 have o27_:=okr (e:=e) r25_ (by omega)
 have m28_:exLdN 2 (pA H3_.nx 0) H11_=.val (.agg ⟨[.int .i64 (0),vS [u]]⟩) H11_ (bit (H3_.nx)) 0:=exLdN_row nb12_.row (by show 0+2≤2;decide)
 have o29_:=okr (e:=e) nb12_.row (by omega)
 simp +decide only [rstore_r1,g6_19,g7_19,m26_,o27_,m28_,o29_,Xo 5,go_sem]
 refine EC.mono (cl_ok S (.cv u)) fun v H30_ _ hv31_=>?_
 obtain ⟨rfl,hh32_⟩:=hv31_
 rw [hh32_];clear hh32_
 rw [WOGk]
 have d33_:decide ((0:Int)=(0:Int))=true:=decide_eq_true (by omega)
 refine WOG.all (fun t' H'=>H11_=H'∧GT t' [(0,pA sb 0),(1,iN (8*p)),(6,pA H.nx 0),(7,pA H3_.nx 0),(8,.int .i64 (0)),(16,.bool false)]) ?_ ?_
 ·simp +decide only [rstore_r1,g0_19,g1_19,g6_19,g7_19,g8_19,d33_,Xo 5,go_sem]
 rintro t34_ _ ⟨rfl,g0_34,g1_34,g6_34,g7_34,g8_34,g16_34, -⟩
 refine hK0 _ _ ?_
 refine WK.cond (v:=false) (by rw [evalO_tmp,g16_34];rfl) ?_
 refine WK.skip ?_
 refine WK.seq ?_
 refine WK.draw_xx (fun _=>False) [.p,.p,.p,.q,.p,.q,.q,.x,.p] (by omega) rfl ?_
 refine WOX.hide fun K0 hK0=>?_
 have m36_:∀ Hq,exNil (pA sb 0) Hq=.val (pA sb 0) Hq 0 0:=fun _=>rfl
 have m37_:exLd1 (pA sb 6) H11_=.val (pA bm 0) H11_ (bit (sb)) 0:=exLd1_row r21_ h6
 have o38_:e.ok (bit (sb)) 0 H11_:=.read r21_.lt hps
 have o39_:∀ cq,(bit (sb)).testBit cq=true→cq<H11_.nx:=the_bit (P:=fun cq=>cq<H11_.nx) (by have:=r21_.lt;omega)
 have m40_:exLdN 5 (pA H.nx 0) H11_=.val (.agg ⟨[.int .i64 (3),.int .i64 (1),.int .i64 (0),.bool false,vS []]⟩) H11_ (bit (H.nx)) 0:=exLdN_row r25_ (by show 0+5≤5;decide)
 have o41_:=okr (e:=e) r25_ (by omega)
 have o42_:∀ cq,(bit (H.nx)).testBit cq=true→cq<H11_.nx:=the_bit (P:=fun cq=>cq<H11_.nx) (by have:=r25_.lt;omega)
 have m43_:exLdN 2 (pA H3_.nx 0) H11_=.val (.agg ⟨[.int .i64 (0),vS [u]]⟩) H11_ (bit (H3_.nx)) 0:=exLdN_row nb12_.row (by show 0+2≤2;decide)
 have o44_:=okr (e:=e) nb12_.row (by omega)
 have o45_:∀ cq,(bit (H3_.nx)).testBit cq=true→cq<H11_.nx:=the_bit (P:=fun cq=>cq<H11_.nx) (by have:=nb12_.row.lt;omega)
 have r46_:=(hr.mv nb4_.kept).mv nb12_.kept
 simp +decide only [rstore_r3,g0_34,g1_34,g6_34,g7_34,m36_,m37_,o38_,o39_,m40_,o41_,o42_,m43_,o44_,o45_,Xo 5,go_sem]
 repeat (refine And.intro (by assumption) ?_)
 refine EC.mono (mstore_ok S hf14_ (Nat.le_refl _) (p:=p) (u:=u) r46_ hp (show bm<(e.subX H11_.nx).n0→(e.subX H11_.nx).Wr (bm) from fun _=>hpm) (show bm<(e.subX H11_.nx).n0→(e.subX H11_.nx).Rd (bm) from fun _=>hpr)) fun v H47_ _ hv48_=>?_
 obtain ⟨rfl,ov49_⟩:=hv48_
 have hf50_:=ov49_.fn
 have nx51_:=ov49_.nx
 have q52_:=q18_.trans ov49_
 rw [WOXk]
 refine WOX.all (fun t' H'=>H47_=H'∧t'.get 8=.int .i64 (0)) ?_ ?_
 ·simp +decide only [rstore_r3,g0_34,g1_34,g6_34,g7_34,g8_34,g16_34,Xo 5,go_sem]
  all_goals ((repeat' apply And.intro) <;> assumption)
 rintro t53_ _ ⟨rfl,g8_53⟩
 refine hK0 _ _ ?_
 refine WK.ret ⟨.inr rfl,rfl,[.int .i64 (0)],0,?_,.zero _ _,rfl,q52_⟩
 show resL Tb0 25 t53_ _ [.tmp 8]=_
 simp only [resL,g8_53];rfl
end
end Go.Proofs.RS
end
