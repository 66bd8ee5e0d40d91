/-
 A part of the proof that pliantlaw15.RtsStacks returns true and leaves its arguments alone. Conditions: those of the card in the last text.
-/
import Derived.Test.YtgdejggelcpokaaGreatDoorProg
import Derived.Test.YtgdejggelcpokaaGreatDoorG12
import Derived.Test.YtgdejggelcpokaaGreatDoorG16
import Derived.Test.YtgdejggelcpokaaGreatDoorG24
import Derived.Test.YtgdejggelcpokaaGreatDoorG26
import Derived.Test.YtgdejggelcpokaaGreatDoorG27
import Derived.Test.YtgdejggelcpokaaGreatDoorG29
import Derived.Test.YtgdejggelcpokaaGreatDoorG31
set_option linter.unusedSimpArgs false
set_option linter.unusedVariables false
set_option linter.unusedSectionVars false
noncomputable section
namespace Go.Proofs.RS
open Go Go.Ev Go.Proofs Go.Ar
section
attribute [local go_sem] Bc_f Bc_t GT Ro_some Rv_eq WOG WOX Yj Yk Yl Ym Yn Yo Yp Yq Yr and_self and_true binV_add binV_geq binV_gtr binV_leq binV_lss binV_mul binV_sub callV_func dec_F dec_T evalL evalO_const evalO_func evalO_tmp exEq_int exFa_ptr exLen_str exPick_f exPick_t exUn_not if_false if_true no_bits ok_zero putT_none run true_and wantsV_U wantsV_ff wantsV_ft wantsV_tf wantsV_tt wants_none' wants_some
variable {sp:Nat→List Value→Hp→Option (Value×Hp×Nat×Nat)} {e:Env}
set_option maxRecDepth 10000 in
set_option maxHeartbeats 4000000 in
theorem dead_ok (S:SpX sp) {H:Hp} (hf:H.isFn=true) (he:e.n0≤H.nx) {sb:Nat} {L:List Value} (hst:Row H sb 104 0 L) (h19:L[19]?=some (.bool false)) (hps:sb<e.n0→e.Rd sb):EC Tb0 sp e 47 [pA sb 0] H fun v H'=>v=.bool false∧H'=H:=by
 refine EC.i1 (by rfl) ded_some ded_comp (S.no 47 (by decide) _ _) (by show 1≤11;decide) fun t0 g0=>?_
 show WK Tb0 sp e ⟨4,11,none,false⟩ ded_k t0 [] H _
 unfold ded_k
 have lt1_:=hst.lt
 refine WK.seq ?_
 refine WK.reg_g ?_
 refine WOG.all (fun t' H'=>H=H'∧GT t' [(0,pA sb 0),(2,.bool false)]) ?_ ?_
 ·simp +decide only [ded_r0,g0,Xo 4,go_sem]
 rintro t2_ _ ⟨rfl,g0_2,g2_2, -⟩
 refine WK.seq ?_
 refine WK.reg_g ?_
 have m4_:∀ Hq,exEq false (.one .p) (pA sb 0) (.pointer none) Hq=.val (.bool false) Hq 0 0:=fun Hq=>rfl
 have m5_:∀ Hq,exNil (pA sb 0) Hq=.val (pA sb 0) Hq 0 0:=fun _=>rfl
 have m6_:exLd1 (pA sb 19) H=.val (.bool false) H (bit (sb)) 0:=exLd1_row hst h19
 have o7_:e.ok (bit (sb)) 0 H:=.read hst.lt hps
 refine WOG.all (fun t' H'=>H=H'∧t'.get 2=.bool false) ?_ ?_
 ·simp +decide only [ded_r1,g0_2,g2_2,m4_,m5_,m6_,o7_,Xo 4,go_sem]
 rintro t8_ _ ⟨rfl,g2_8⟩
 refine WK.ret ⟨.inr rfl,rfl,[.bool false],0,?_,.zero _ _,rfl,rfl⟩
 show resL Tb0 11 t8_ _ [.tmp 2]=_
 simp only [resL,g2_8];rfl
set_option maxRecDepth 10000 in
set_option maxHeartbeats 4000000 in
theorem rload_ok (S:SpX sp) {H:Hp} (hf:H.isFn=true) (he:e.n0≤H.nx) {sb bm:Nat} {L:List Value} {fm:By} (hst:Row H sb 104 0 L) (h6:L[6]?=some (.pointer (some ⟨bm,0,none⟩))) (h19:L[19]?=some (.bool false)) (hr:ByU H bm 171 fm 65536) (hps:sb<e.n0→e.Rd sb) (hpm:bm<e.n0→e.Rd bm) {p:Nat} (hp:p<65536):EC Tb0 sp e 15 [pA sb 0,iN (8*p),.agg ⟨[.int .i64 (3),.int .i64 (1),.int .i64 (0),.bool false,vS []]⟩] H fun v H'=>v=.tuple #[valV [fm p],vN 0]∧Kept H H':=by
 refine EC.i3 (by rfl) rload_some rload_comp (S.no 15 (by decide) _ _) (by show 3≤30;decide) fun t0 g0 g1 g2=>?_
 show WK Tb0 sp e ⟨5,30,none,false⟩ rload_k t0 [] H _
 unfold rload_k
 have lt1_:=hst.lt
 have lt2_:=hr.lt
 have k0_:Kept H H:=.refl hf
 refine WK.seq ?_
 refine WK.reg_g ?_
 obtain ⟨H3_,nb4_⟩:=newB hf [.int .i64 (3),.int .i64 (1),.int .i64 (0),.bool false,vS []] 40
 have m5_:exFill (cellsO (.agg ⟨[.int .i64 (3),.int .i64 (1),.int .i64 (0),.bool false,vS []]⟩)) (fun l=>alloc1 (blkL l 40 0) H ptrTo 0 0)=.val (.pointer (some ⟨H.nx,0,none⟩)) H3_ 0 0:=nb4_.al
 have hf6_:=nb4_.kept.fn
 have nx7_:H3_.nx=H.nx+1:=nb4_.nx
 have m8_:H.nx≤H3_.nx:=by omega
 have lt9_:=nb4_.row.lt
 have k10_:=k0_.trans nb4_.kept
 obtain ⟨H11_,nb12_⟩:=newB hf6_ [.int .i64 (0),.string ⟨#[]⟩] 47
 have m13_:alloc1 (blkL [.int .i64 (0),.string ⟨#[]⟩] 47 0) H3_ ptrTo 0 0=.val (.pointer (some ⟨H3_.nx,0,none⟩)) H11_ 0 0:=nb12_.al
 have hf14_:=nb12_.kept.fn
 have nx15_:H11_.nx=H3_.nx+1:=nb12_.nx
 have m16_:H3_.nx≤H11_.nx:=by omega
 have lt17_:=nb12_.row.lt
 have k18_:=k10_.trans nb12_.kept
 refine WOG.all (fun t' H'=>H11_=H'∧GT t' [(0,pA sb 0),(1,iN (8*p)),(5,pA H.nx 0),(6,pA H3_.nx 0),(7,.int .i64 (0))]) ?_ ?_
 ·simp +decide only [rload_r0,g0,g1,g2,m5_,m8_,m13_,m16_,Xo 5,go_sem]
 rintro t19_ _ ⟨rfl,g0_19,g1_19,g5_19,g6_19,g7_19, -⟩
 refine WK.seq ?_
 refine WK.seq ?_
 refine WK.reg_g ?_
 refine WOG.hide fun K0 hK0=>?_
 have r21_:=(hst.mv nb4_.kept).mv nb12_.kept
 simp +decide only [rload_r1,g0_19,Xo 5,go_sem]
 refine EC.mono (dead_ok S hf14_ (by omega) r21_ h19 hps) fun v H22_ _ hv23_=>?_
 obtain ⟨rfl,hh24_⟩:=hv23_
 rw [hh24_];clear hh24_
 rw [WOGk]
 have r25_:=nb4_.row.mv nb12_.kept
 have m26_:exLd1 (pA H.nx 0) H11_=.val (.int .i64 (3)) H11_ (bit (H.nx)) 0:=exLd1_row r25_ rfl
 have o27_:=okr (e:=e) r25_ (by omega)
 have d28_:decide ((3:Int)=(7:Int))=false:=decide_eq_false (by omega)
 have m29_:exLdN 5 (pA H.nx 0) H11_=.val (.agg ⟨[.int .i64 (3),.int .i64 (1),.int .i64 (0),.bool false,vS []]⟩) H11_ (bit (H.nx)) 0:=exLdN_row r25_ (by show 0+5≤5;decide)
 simp +decide only [rload_r1,g5_19,m26_,o27_,d28_,m29_,o27_,Xo 5,go_sem]
 refine EC.mono (cl_ok S (.ty)) fun v H30_ _ hv31_=>?_
 obtain ⟨rfl,hh32_⟩:=hv31_
 rw [hh32_];clear hh32_
 rw [WOGk]
 have d33_:decide ((0:Int)=(0:Int))=true:=decide_eq_true (by omega)
 refine WOG.all (fun t' H'=>H11_=H'∧GT t' [(0,pA sb 0),(1,iN (8*p)),(5,pA H.nx 0),(6,pA H3_.nx 0),(7,.int .i64 (0)),(19,.bool false)]) ?_ ?_
 ·simp +decide only [rload_r1,g0_19,g1_19,g5_19,g6_19,g7_19,d33_,Xo 5,go_sem]
 rintro t34_ _ ⟨rfl,g0_34,g1_34,g5_34,g6_34,g7_34,g19_34, -⟩
 refine hK0 _ _ ?_
 refine WK.cond (v:=false) (by rw [evalO_tmp,g19_34];rfl) ?_
 refine WK.skip ?_
 refine WK.seq ?_
 refine WK.draw_xx (fun _=>False) [.p,.p,.p,.q,.p,.q,.q,.p,.p,.x,.p] (by omega) rfl ?_
 refine WOX.hide fun K0 hK0=>?_
 have m36_:∀ Hq,exNil (pA sb 0) Hq=.val (pA sb 0) Hq 0 0:=fun _=>rfl
 have m37_:exLd1 (pA sb 6) H11_=.val (pA bm 0) H11_ (bit (sb)) 0:=exLd1_row r21_ h6
 have o38_:e.ok (bit (sb)) 0 H11_:=.read r21_.lt hps
 have o39_:∀ cq,(bit (sb)).testBit cq=true→cq<H11_.nx:=the_bit (P:=fun cq=>cq<H11_.nx) (by have:=r21_.lt;omega)
 have m40_:exLdN 5 (pA H.nx 0) H11_=.val (.agg ⟨[.int .i64 (3),.int .i64 (1),.int .i64 (0),.bool false,vS []]⟩) H11_ (bit (H.nx)) 0:=exLdN_row r25_ (by show 0+5≤5;decide)
 have o41_:=okr (e:=e) r25_ (by omega)
 have o42_:∀ cq,(bit (H.nx)).testBit cq=true→cq<H11_.nx:=the_bit (P:=fun cq=>cq<H11_.nx) (by have:=r25_.lt;omega)
 have r43_:=(hr.mv nb4_.kept).mv nb12_.kept
 simp +decide only [rload_r3,g0_34,g1_34,g5_34,m36_,m37_,o38_,o39_,m40_,o41_,o42_,Xo 5,go_sem]
 repeat (refine And.intro (by assumption) ?_)
 refine EC.mono (mload_ok S hf14_ (Nat.le_refl _) (p:=p) r43_ hp (show bm<(e.sub H11_.nx H11_.nx).n0→(e.sub H11_.nx H11_.nx).Rd (bm) from fun _=>⟨by have:=hr.lt;omega,hpm⟩)) fun v H44_ _ hv45_=>?_
 obtain ⟨rfl,hk46_⟩:=hv45_
 have hf47_:=hk46_.fn
 have nx48_:=hk46_.nx
 have k49_:=k18_.trans hk46_
 rw [WOXk]
 have m50_:∀ Hq,exExt (.tuple #[.agg ⟨[.int .i64 (0),vS [fm p]]⟩,.int .i64 (0)]) 0 Hq=.val (.agg ⟨[.int .i64 (0),vS [fm p]]⟩) Hq 0 0:=fun _=>rfl
 have m51_:∀ Hq,exExt (.tuple #[.agg ⟨[.int .i64 (0),vS [fm p]]⟩,.int .i64 (0)]) 1 Hq=.val (.int .i64 (0)) Hq 0 0:=fun _=>rfl
 have r52_:=nb12_.row.mv hk46_
 obtain ⟨H53_,e54_,wr55_⟩:=exStN_at (o:=0) (vs:=[.int .i64 (0),vS [fm p]]) hf47_ r52_ (by show 0+2≤2;decide)
 have m56_:exSt 2 (pA H3_.nx 0) (.agg ⟨[.int .i64 (0),vS [fm p]]⟩) H44_=.val U H53_ 0 (bit (H3_.nx)):=e54_
 have hf57_:=wr55_.fn
 have nx58_:H53_.nx=H44_.nx:=wr55_.nx
 have m59_:H44_.nx≤H53_.nx:=by omega
 have r60_:Row H53_ (H3_.nx) 47 0 [.int .i64 (0),vS [fm p]]:=wr55_.row
 have o61_:e.ok 0 (bit (H3_.nx)) H53_:=.write r60_.lt (fun h=>absurd h (by omega))
 have k62_:Kept H H53_:=⟨wr55_.fn,by have:=k49_.nx;omega,fun c hc=>(wr55_.else_ c (by omega)).trans (k49_.old c hc)⟩
 refine WOX.all (fun t' H'=>H53_=H'∧GT t' [(6,pA H3_.nx 0),(7,.int .i64 (0))]) ?_ ?_
 ·simp +decide only [rload_r3,g0_34,g1_34,g5_34,g6_34,g7_34,g19_34,m50_,m51_,m56_,m59_,o61_,Xo 5,go_sem]
  all_goals ((repeat' apply And.intro) <;> assumption)
 rintro t63_ _ ⟨rfl,g6_63,g7_63, -⟩
 refine hK0 _ _ ?_
 have rd66_:rdN H53_ (H3_.nx) 0 2=some [.int .i64 (0),vS [fm p]]:=rdN_row (o:=0) (k:=2) r60_ (by show 0+2≤2;decide)
 have rs65_:resL Tb0 30 t63_ H53_ [.cell 6 47,.tmp 7]=some ([.agg ⟨[.int .i64 (0),vS [fm p]]⟩,.int .i64 (0)],Nat.lor (bit (H3_.nx)) (0)):=(resL_cellA rfl g6_63 rd66_ (resL_tmp rfl g7_63 resL_nil))
 refine WK.ret ⟨.inr rfl,rfl,_,_,rs65_,(ok_lorR (.read r60_.lt (fun h=>absurd h (by omega))) (.zero _ _)),rfl,k62_⟩
set_option maxRecDepth 10000 in
set_option maxHeartbeats 4000000 in
theorem rstore_ok (S:SpX sp) {H:Hp} (hf:H.isFn=true) (he:e.n0≤H.nx) {sb bm:Nat} {L:List Value} {fm:By} (hst:Row H sb 104 0 L) (h6:L[6]?=some (.pointer (some ⟨bm,0,none⟩))) (h19:L[19]?=some (.bool false)) (hr:ByU H bm 171 fm 65536) (hps:sb<e.n0→e.Rd sb) (hpr:bm<e.n0→e.Rd bm) (hpm:bm<e.n0→e.Wr bm) {p:Nat} {u:UInt8} (hsb:sb≠bm) (hp:p<65536):EC Tb0 sp e 11 [pA sb 0,iN (8*p),.agg ⟨[.int .i64 (3),.int .i64 (1),.int .i64 (0),.bool false,vS []]⟩,.agg ⟨[.int .i64 (0),vS [u]]⟩] H fun v H'=>v=vN 0∧OvK H bm 171 (over fm p 1 fun _=>u) 65536 H':=by
 refine EC.i4 (by rfl) rstore_some rstore_comp (S.no 11 (by decide) _ _) (by show 4≤25;decide) fun t0 g0 g1 g2 g3=>?_
 show WK Tb0 sp e ⟨5,25,none,false⟩ rstore_k t0 [] H _
 unfold rstore_k
 have lt1_:=hst.lt
 have lt2_:=hr.lt
 have hlb:=hr.lt
 have hls:=hst.lt
 have q0:=OvK.refl hf hr
 refine WK.seq ?_
 refine WK.reg_g ?_
 obtain ⟨H3_,nb4_⟩:=newB hf [.int .i64 (3),.int .i64 (1),.int .i64 (0),.bool false,vS []] 40
 have m5_:exFill (cellsO (.agg ⟨[.int .i64 (3),.int .i64 (1),.int .i64 (0),.bool false,vS []]⟩)) (fun l=>alloc1 (blkL l 40 0) H ptrTo 0 0)=.val (.pointer (some ⟨H.nx,0,none⟩)) H3_ 0 0:=nb4_.al
 have hf6_:=nb4_.kept.fn
 have nx7_:H3_.nx=H.nx+1:=nb4_.nx
 have m8_:H.nx≤H3_.nx:=by omega
 have lt9_:=nb4_.row.lt
 have q10_:=q0.kept hlb nb4_.kept
 obtain ⟨H11_,nb12_⟩:=newB hf6_ [.int .i64 (0),vS [u]] 47
 have m13_:exFill (cellsO (.agg ⟨[.int .i64 (0),vS [u]]⟩)) (fun l=>alloc1 (blkL l 47 0) H3_ ptrTo 0 0)=.val (.pointer (some ⟨H3_.nx,0,none⟩)) H11_ 0 0:=nb12_.al
 have hf14_:=nb12_.kept.fn
 have nx15_:H11_.nx=H3_.nx+1:=nb12_.nx
 have m16_:H3_.nx≤H11_.nx:=by omega
 have lt17_:=nb12_.row.lt
 have q18_:=q10_.kept hlb nb12_.kept
 refine WOG.all (fun t' H'=>H11_=H'∧GT t' [(0,pA sb 0),(1,iN (8*p)),(6,pA H.nx 0),(7,pA H3_.nx 0),(8,.int .i64 (0))]) ?_ ?_
 ·simp +decide only [rstore_r0,g0,g1,g2,g3,m5_,m8_,m13_,m16_,Xo 5,go_sem]
 rintro t19_ _ ⟨rfl,g0_19,g1_19,g6_19,g7_19,g8_19, -⟩
 refine WK.seq ?_
 refine WK.seq ?_
 refine WK.reg_g ?_
 refine WOG.hide fun K0 hK0=>?_
 have r21_:=(hst.mv nb4_.kept).mv nb12_.kept
 simp +decide only [rstore_r1,g0_19,Xo 5,go_sem]
 refine EC.mono (dead_ok S hf14_ (by omega) r21_ h19 hps) fun v H22_ _ hv23_=>?_
 obtain ⟨rfl,hh24_⟩:=hv23_
 rw [hh24_];clear hh24_
 rw [WOGk]
 have r25_:=nb4_.row.mv nb12_.kept
 have m26_:exLdN 5 (pA H.nx 0) H11_=.val (.agg ⟨[.int .i64 (3),.int .i64 (1),.int .i64 (0),.bool false,vS []]⟩) H11_ (bit (H.nx)) 0:=exLdN_row r25_ (by show 0+5≤5;decide)
 have o27_:=okr (e:=e) r25_ (by omega)
 have m28_:exLdN 2 (pA H3_.nx 0) H11_=.val (.agg ⟨[.int .i64 (0),vS [u]]⟩) H11_ (bit (H3_.nx)) 0:=exLdN_row nb12_.row (by show 0+2≤2;decide)
 have o29_:=okr (e:=e) nb12_.row (by omega)
 simp +decide only [rstore_r1,g6_19,g7_19,m26_,o27_,m28_,o29_,Xo 5,go_sem]
 refine EC.mono (cl_ok S (.cv u)) fun v H30_ _ hv31_=>?_
 obtain ⟨rfl,hh32_⟩:=hv31_
 rw [hh32_];clear hh32_
 rw [WOGk]
 have d33_:decide ((0:Int)=(0:Int))=true:=decide_eq_true (by omega)
 refine WOG.all (fun t' H'=>H11_=H'∧GT t' [(0,pA sb 0),(1,iN (8*p)),(6,pA H.nx 0),(7,pA H3_.nx 0),(8,.int .i64 (0)),(16,.bool false)]) ?_ ?_
 ·simp +decide only [rstore_r1,g0_19,g1_19,g6_19,g7_19,g8_19,d33_,Xo 5,go_sem]
 rintro t34_ _ ⟨rfl,g0_34,g1_34,g6_34,g7_34,g8_34,g16_34, -⟩
 refine hK0 _ _ ?_
 refine WK.cond (v:=false) (by rw [evalO_tmp,g16_34];rfl) ?_
 refine WK.skip ?_
 refine WK.seq ?_
 refine WK.draw_xx (fun _=>False) [.p,.p,.p,.q,.p,.q,.q,.x,.p] (by omega) rfl ?_
 refine WOX.hide fun K0 hK0=>?_
 have m36_:∀ Hq,exNil (pA sb 0) Hq=.val (pA sb 0) Hq 0 0:=fun _=>rfl
 have m37_:exLd1 (pA sb 6) H11_=.val (pA bm 0) H11_ (bit (sb)) 0:=exLd1_row r21_ h6
 have o38_:e.ok (bit (sb)) 0 H11_:=.read r21_.lt hps
 have o39_:∀ cq,(bit (sb)).testBit cq=true→cq<H11_.nx:=the_bit (P:=fun cq=>cq<H11_.nx) (by have:=r21_.lt;omega)
 have m40_:exLdN 5 (pA H.nx 0) H11_=.val (.agg ⟨[.int .i64 (3),.int .i64 (1),.int .i64 (0),.bool false,vS []]⟩) H11_ (bit (H.nx)) 0:=exLdN_row r25_ (by show 0+5≤5;decide)
 have o41_:=okr (e:=e) r25_ (by omega)
 have o42_:∀ cq,(bit (H.nx)).testBit cq=true→cq<H11_.nx:=the_bit (P:=fun cq=>cq<H11_.nx) (by have:=r25_.lt;omega)
 have m43_:exLdN 2 (pA H3_.nx 0) H11_=.val (.agg ⟨[.int .i64 (0),vS [u]]⟩) H11_ (bit (H3_.nx)) 0:=exLdN_row nb12_.row (by show 0+2≤2;decide)
 have o44_:=okr (e:=e) nb12_.row (by omega)
 have o45_:∀ cq,(bit (H3_.nx)).testBit cq=true→cq<H11_.nx:=the_bit (P:=fun cq=>cq<H11_.nx) (by have:=nb12_.row.lt;omega)
 have r46_:=(hr.mv nb4_.kept).mv nb12_.kept
 simp +decide only [rstore_r3,g0_34,g1_34,g6_34,g7_34,m36_,m37_,o38_,o39_,m40_,o41_,o42_,m43_,o44_,o45_,Xo 5,go_sem]
 repeat (refine And.intro (by assumption) ?_)
 refine EC.mono (mstore_ok S hf14_ (Nat.le_refl _) (p:=p) (u:=u) r46_ hp (show bm<(e.subX H11_.nx).n0→(e.subX H11_.nx).Wr (bm) from fun _=>hpm) (show bm<(e.subX H11_.nx).n0→(e.subX H11_.nx).Rd (bm) from fun _=>hpr)) fun v H47_ _ hv48_=>?_
 obtain ⟨rfl,ov49_⟩:=hv48_
 have hf50_:=ov49_.fn
 have nx51_:=ov49_.nx
 have q52_:=q18_.trans ov49_
 rw [WOXk]
 refine WOX.all (fun t' H'=>H47_=H'∧t'.get 8=.int .i64 (0)) ?_ ?_
 ·simp +decide only [rstore_r3,g0_34,g1_34,g6_34,g7_34,g8_34,g16_34,Xo 5,go_sem]
  all_goals ((repeat' apply And.intro) <;> assumption)
 rintro t53_ _ ⟨rfl,g8_53⟩
 refine hK0 _ _ ?_
 refine WK.ret ⟨.inr rfl,rfl,[.int .i64 (0)],0,?_,.zero _ _,rfl,q52_⟩
 show resL Tb0 25 t53_ _ [.tmp 8]=_
 simp only [resL,g8_53];rfl
end
section
attribute [local go_sem] Bc_f Bc_t GT Ro_some Rv_eq WOG Yj Yk Yl Ym Yn Yo Yp Yq Yr and_self and_true binV_add binV_geq binV_gtr binV_leq binV_lss binV_mul binV_sub callV_func dec_F dec_T evalL evalO_const evalO_func evalO_tmp exEq_int exFa_ptr exLen_str exPick_f exPick_t exUn_not if_false if_true ok_zero run true_and wantsV_U wantsV_ff wantsV_ft wantsV_tf wantsV_tt wants_none' wants_some
variable {sp:Nat→List Value→Hp→Option (Value×Hp×Nat×Nat)} {e:Env}
set_option maxRecDepth 10000 in
set_option maxHeartbeats 4000000 in
theorem sizedh_ok (S:SpX sp) {H:Hp} (hf:H.isFn=true) (he:e.n0≤H.nx):EC Tb0 sp e 57 [.int .i64 (-1),.int .i64 (0)] H fun v H'=>v=.bool true∧H'=H:=by
 refine EC.i2 (by rfl) sized_some sized_comp (S.no 57 (by decide) _ _) (by show 2≤19;decide) fun t0 g0 g1=>?_
 show WK Tb0 sp e ⟨5,19,none,false⟩ sized_k t0 [] H _
 unfold sized_k
 refine WK.seq ?_
 refine WK.reg_g ?_
 refine WOG.all (fun t' H'=>H=H'∧GT t' [(0,.int .i64 (-1)),(1,.int .i64 (0)),(4,.bool false)]) ?_ ?_
 ·simp +decide only [sized_r0,g0,g1,Xo 5,go_sem]
 rintro t1_ _ ⟨rfl,g0_1,g1_1,g4_1, -⟩
 refine WK.seq ?_
 refine WK.reg_g ?_
 have d3_:decide ((-1:Int)=(-1:Int))=true:=decide_eq_true (by omega)
 have d4_:decide ((0:Int)=(0:Int))=true:=decide_eq_true (by omega)
 refine WOG.all (fun t' H'=>H=H'∧t'.get 4=.bool true) ?_ ?_
 ·simp +decide only [sized_r1,g0_1,g1_1,g4_1,d3_,d4_,Xo 5,go_sem]
 rintro t5_ _ ⟨rfl,g4_5⟩
 refine WK.ret ⟨.inr rfl,rfl,[.bool true],0,?_,.zero _ _,rfl,rfl⟩
 show resL Tb0 19 t5_ _ [.tmp 4]=_
 simp only [resL,g4_5];rfl
set_option maxRecDepth 10000 in
set_option maxHeartbeats 4000000 in
theorem foundh_ok (S:SpX sp) {H:Hp} (hf:H.isFn=true) (he:e.n0≤H.nx) {sb bm:Nat} {L:List Value} {fm:By} (hst:Row H sb 104 0 L) (h6:L[6]?=some (.pointer (some ⟨bm,0,none⟩))) (h19:L[19]?=some (.bool false)) (hr:ByU H bm 171 fm 65536) (hps:sb<e.n0→e.Rd sb) (hpm:bm<e.n0→e.Rd bm) {us:List U} (h:Is (fun i=>fm (57344+i)) 8192 us):EC Tb0 sp e 53 [pA sb 0,.int .i64 (-1),.int .i64 (0)] H fun v H'=>v=.tuple #[vN ((8*57344:Nat):Int),vS (strF (fun i=>fm (57344+i)) 8192),vN 0]∧Kept H H':=by
 refine EC.i3 (by rfl) found_some found_comp (S.no 53 (by decide) _ _) (by show 3≤35;decide) fun t0 g0 g1 g2=>?_
 show WK Tb0 sp e ⟨6,35,none,false⟩ found_k t0 [] H _
 unfold found_k
 have lt1_:=hst.lt
 have lt2_:=hr.lt
 have k0_:Kept H H:=.refl hf
 refine WK.seq ?_
 refine WK.reg_g ?_
 refine WOG.all (fun t' H'=>H=H'∧GT t' [(0,pA sb 0),(1,.int .i64 (-1)),(2,.int .i64 (0)),(6,.int .i64 (0)),(7,.string ⟨#[]⟩),(8,.int .i64 (0))]) ?_ ?_
 ·simp +decide only [found_r0,g0,g1,g2,Xo 6,go_sem]
 rintro t3_ _ ⟨rfl,g0_3,g1_3,g2_3,g6_3,g7_3,g8_3, -⟩
 refine WK.seq ?_
 refine WK.seq ?_
 refine WK.reg_g ?_
 refine WOG.hide fun K0 hK0=>?_
 simp +decide only [found_r1,g1_3,g2_3,Xo 6,go_sem]
 refine EC.mono (sizedh_ok S hf (by omega)) fun v H5_ _ hv6_=>?_
 obtain ⟨rfl,hh7_⟩:=hv6_
 rw [hh7_];clear hh7_
 rw [WOGk]
 refine WOG.all (fun t' H'=>H=H'∧GT t' [(0,pA sb 0),(1,.int .i64 (-1)),(2,.int .i64 (0)),(6,.int .i64 (0)),(7,.string ⟨#[]⟩),(8,.int .i64 (0)),(14,.bool false)]) ?_ ?_
 ·simp +decide only [found_r1,g0_3,g1_3,g2_3,g6_3,g7_3,g8_3,Xo 6,go_sem]
 rintro t8_ _ ⟨rfl,g0_8,g1_8,g2_8,g6_8,g7_8,g8_8,g14_8, -⟩
 refine hK0 _ _ ?_
 refine WK.cond (v:=false) (by rw [evalO_tmp,g14_8];rfl) ?_
 refine WK.skip ?_
 refine WK.seq ?_
 refine WK.seq ?_
 refine WK.reg_g ?_
 have d10_:decide ((0:Int)=(0:Int))=true:=decide_eq_true (by omega)
 refine WOG.all (fun t' H'=>H=H'∧GT t' [(0,pA sb 0),(1,.int .i64 (-1)),(2,.int .i64 (0)),(6,.int .i64 (0)),(7,.string ⟨#[]⟩),(8,.int .i64 (0)),(16,.bool true)]) ?_ ?_
 ·simp +decide only [found_r3,g0_8,g1_8,g2_8,g6_8,g7_8,g8_8,g14_8,d10_,Xo 6,go_sem]
 rintro t11_ _ ⟨rfl,g0_11,g1_11,g2_11,g6_11,g7_11,g8_11,g16_11, -⟩
 refine WK.cond (v:=true) (by rw [evalO_tmp,g16_11];rfl) ?_
 refine WK.reg_g ?_
 refine WOG.all (fun t' H'=>H=H'∧GT t' [(0,pA sb 0),(1,.int .i64 (458752)),(2,.int .i64 (8192)),(6,.int .i64 (0)),(7,.string ⟨#[]⟩),(8,.int .i64 (0))]) ?_ ?_
 ·simp +decide only [found_r4,g0_11,g1_11,g2_11,g6_11,g7_11,g8_11,g16_11,Xo 6,go_sem]
 rintro t13_ _ ⟨rfl,g0_13,g1_13,g2_13,g6_13,g7_13,g8_13, -⟩
 have g15_:t13_.get 1=iN (8*57344):=g1_13
 have g16_:t13_.get 2=iN 8192:=g2_13
 refine WK.seq ?_
 refine WK.reg_g ?_
 refine WOG.hide fun K0 hK0=>?_
 have m17_:∀ Hq,exNil (pA sb 0) Hq=.val (pA sb 0) Hq 0 0:=fun _=>rfl
 have m18_:exLd1 (pA sb 6) H=.val (pA bm 0) H (bit (sb)) 0:=exLd1_row hst h6
 have o19_:e.ok (bit (sb)) 0 H:=.read hst.lt hps
 simp +decide only [found_r5,g0_13,g15_,g16_,m17_,m18_,o19_,Xo 6,go_sem]
 refine EC.mono (mbytes_ok S hf (by omega) (p:=57344) (n:=8192) hr (by omega) (by omega) hpm) fun v H20_ _ hv21_=>?_
 obtain ⟨rfl,hh22_⟩:=hv21_
 rw [hh22_];clear hh22_
 rw [WOGk]
 have m23_:∀ Hq,exExt (.tuple #[vS (strF (fun i=>fm (57344+i)) 8192),.int .i64 (0)]) 0 Hq=.val (vS (strF (fun i=>fm (57344+i)) 8192)) Hq 0 0:=fun _=>rfl
 have m24_:∀ Hq,exExt (.tuple #[vS (strF (fun i=>fm (57344+i)) 8192),.int .i64 (0)]) 1 Hq=.val (.int .i64 (0)) Hq 0 0:=fun _=>rfl
 refine WOG.all (fun t' H'=>H=H'∧GT t' [(1,iN (8*57344)),(6,.int .i64 (0)),(7,.string ⟨#[]⟩),(8,.int .i64 (0)),(9,vS (strF (fun i=>fm (57344+i)) 8192)),(10,.int .i64 (0))]) ?_ ?_
 ·simp +decide only [found_r5,g0_13,g15_,g16_,g6_13,g7_13,g8_13,m23_,m24_,Xo 6,go_sem]
 rintro t25_ _ ⟨rfl,g1_25,g6_25,g7_25,g8_25,g9_25,g10_25, -⟩
 refine hK0 _ _ ?_
 refine WK.seq ?_
 refine WK.seq ?_
 refine WK.reg_g ?_
 have d27_:decide ((0:Int)=(0:Int))=true:=decide_eq_true (by omega)
 refine WOG.all (fun t' H'=>H=H'∧GT t' [(1,iN (8*57344)),(6,.int .i64 (0)),(7,.string ⟨#[]⟩),(8,.int .i64 (0)),(9,vS (strF (fun i=>fm (57344+i)) 8192)),(10,.int .i64 (0)),(28,.bool false)]) ?_ ?_
 ·simp +decide only [found_r6,g1_25,g6_25,g7_25,g8_25,g9_25,g10_25,d27_,Xo 6,go_sem]
 rintro t28_ _ ⟨rfl,g1_28,g6_28,g7_28,g8_28,g9_28,g10_28,g28_28, -⟩
 refine WK.cond (v:=false) (by rw [evalO_tmp,g28_28];rfl) ?_
 refine WK.skip ?_
 refine WK.seq ?_
 refine WK.seq ?_
 refine WK.reg_g ?_
 refine WOG.hide fun K0 hK0=>?_
 simp +decide only [found_r8,g9_28,Xo 6,go_sem]
 refine EC.mono (achk_ok S hf (by omega) h (by omega) (by omega)) fun v H30_ _ hv31_=>?_
 obtain ⟨rfl,hk32_⟩:=hv31_
 have hf33_:=hk32_.fn
 have nx34_:=hk32_.nx
 have k35_:=k0_.trans hk32_
 rw [WOGk]
 have d36_:decide ((0:Int)=(0:Int))=true:=decide_eq_true (by omega)
 refine WOG.all (fun t' H'=>H30_=H'∧GT t' [(1,iN (8*57344)),(6,.int .i64 (0)),(7,.string ⟨#[]⟩),(8,.int .i64 (0)),(9,vS (strF (fun i=>fm (57344+i)) 8192)),(10,.int .i64 (0)),(32,.bool false)]) ?_ ?_
 ·simp +decide only [found_r8,g1_28,g6_28,g7_28,g8_28,g9_28,g10_28,g28_28,d36_,Xo 6,go_sem]
 rintro t37_ _ ⟨rfl,g1_37,g6_37,g7_37,g8_37,g9_37,g10_37,g32_37, -⟩
 refine hK0 _ _ ?_
 refine WK.cond (v:=false) (by rw [evalO_tmp,g32_37];rfl) ?_
 refine WK.skip ?_
 refine WK.seq ?_
 refine WK.reg_g ?_
 refine WOG.all (fun t' H'=>H30_=H'∧GT t' [(6,iN (8*57344)),(7,vS (strF (fun i=>fm (57344+i)) 8192)),(8,.int .i64 (0)),(10,.int .i64 (0))]) ?_ ?_
 ·simp +decide only [found_r10,g1_37,g6_37,g7_37,g8_37,g9_37,g10_37,g32_37,Xo 6,go_sem]
 rintro t39_ _ ⟨rfl,g6_39,g7_39,g8_39,g10_39, -⟩
 refine WK.ret ⟨.inr rfl,rfl,[iN (8*57344),vS (strF (fun i=>fm (57344+i)) 8192),.int .i64 (0)],0,?_,.zero _ _,rfl,k35_⟩
 show resL Tb0 35 t39_ _ [.tmp 6,.tmp 7,.tmp 8]=_
 simp only [resL,g6_39,g7_39,g8_39];rfl
set_option maxRecDepth 10000 in
set_option maxHeartbeats 4000000 in
theorem ralloch_ok (S:SpX sp) {H:Hp} (hf:H.isFn=true) (he:e.n0≤H.nx) {sb bm:Nat} {L:List Value} {fm:By} (hst:Row H sb 104 0 L) (h6:L[6]?=some (.pointer (some ⟨bm,0,none⟩))) (h19:L[19]?=some (.bool false)) (hr:ByU H bm 171 fm 65536) (hps:sb<e.n0→e.Rd sb) (hpr:bm<e.n0→e.Rd bm) (hpm:bm<e.n0→e.Wr bm) {k:Nat} {us:List U} (hsb:sb≠bm) (h:Is (fun i=>fm (57344+i)) 8192 us) (hk1:1≤k) (hk2:k≤8192):EC Tb0 sp e 18 [pA sb 0,iN (8*k),.int .i64 (-1),.int .i64 (0)] H fun v H'=>(v=.tuple #[vN 0,.bool false,vN 0]∧OvK H bm 171 fm 65536 H')∨∃ f1 us1 off,v=.tuple #[vN ((8*57344+8*off:Nat):Int),.bool true,vN 0]∧AllocR (fun i=>fm (57344+i)) f1 8192 us us1 off k∧OvK H bm 171 (over fm 57344 8192 f1) 65536 H':=by
 refine EC.i4 (by rfl) ralloc_some ralloc_comp (S.no 18 (by decide) _ _) (by show 4≤62;decide) fun t0 g0 g1 g2 g3=>?_
 show WK Tb0 sp e ⟨6,62,none,false⟩ ralloc_k t0 [] H _
 unfold ralloc_k
 have lt1_:=hst.lt
 have lt2_:=hr.lt
 have hlb:=hr.lt
 have hls:=hst.lt
 have q0:=OvK.refl hf hr
 refine WK.seq ?_
 refine WK.reg_g ?_
 refine WOG.all (fun t' H'=>H=H'∧GT t' [(0,pA sb 0),(1,iN (8*k)),(2,.int .i64 (-1)),(3,.int .i64 (0)),(8,.int .i64 (0)),(9,.bool false),(10,.int .i64 (0))]) ?_ ?_
 ·simp +decide only [ralloc_r0,g0,g1,g2,g3,Xo 6,go_sem]
 rintro t3_ _ ⟨rfl,g0_3,g1_3,g2_3,g3_3,g8_3,g9_3,g10_3, -⟩
 refine WK.seq ?_
 refine WK.seq ?_
 refine WK.reg_g ?_
 refine WOG.hide fun K0 hK0=>?_
 simp +decide only [ralloc_r1,g0_3,Xo 6,go_sem]
 refine EC.mono (dead_ok S hf (by omega) hst h19 hps) fun v H5_ _ hv6_=>?_
 obtain ⟨rfl,hh7_⟩:=hv6_
 rw [hh7_];clear hh7_
 rw [WOGk]
 have d8_:decide (((8*k:Nat):Int)<(8:Int))=false:=decide_eq_false (by omega)
 have d9_:decide ((65536:Int)<((8*k:Nat):Int))=false:=decide_eq_false (by omega)
 have m10_:∀ Hq,R.o (binV .rem (iN (8*k)) (.int .i64 8)) Hq=.val (.int .i64 (0)) Hq 0 0:=fun Hq=>rem8 (by omega)
 have d11_:decide ((0:Int)=(0:Int))=true:=decide_eq_true (by omega)
 refine WOG.all (fun t' H'=>H=H'∧GT t' [(0,pA sb 0),(1,iN (8*k)),(2,.int .i64 (-1)),(3,.int .i64 (0)),(8,.int .i64 (0)),(9,.bool false),(10,.int .i64 (0)),(29,.bool false)]) ?_ ?_
 ·simp +decide only [ralloc_r1,g0_3,g1_3,g2_3,g3_3,g8_3,g9_3,g10_3,d8_,d9_,m10_,d11_,Xo 6,go_sem]
 rintro t12_ _ ⟨rfl,g0_12,g1_12,g2_12,g3_12,g8_12,g9_12,g10_12,g29_12, -⟩
 refine hK0 _ _ ?_
 refine WK.cond (v:=false) (by rw [evalO_tmp,g29_12];rfl) ?_
 refine WK.skip ?_
 refine WK.seq ?_
 refine WK.reg_g ?_
 refine WOG.hide fun K0 hK0=>?_
 simp +decide only [ralloc_r3,g0_12,g2_12,g3_12,Xo 6,go_sem]
 refine EC.mono (foundh_ok S hf (by omega) hst h6 h19 hr hps hpr h) fun v H14_ _ hv15_=>?_
 obtain ⟨rfl,hk16_⟩:=hv15_
 have hf17_:=hk16_.fn
 have nx18_:=hk16_.nx
 have q19_:=q0.kept hlb hk16_
 rw [WOGk]
 have m20_:∀ Hq,exExt (.tuple #[iN (8*57344),vS (strF (fun i=>fm (57344+i)) 8192),.int .i64 (0)]) 0 Hq=.val (iN (8*57344)) Hq 0 0:=fun _=>rfl
 have m21_:∀ Hq,exExt (.tuple #[iN (8*57344),vS (strF (fun i=>fm (57344+i)) 8192),.int .i64 (0)]) 1 Hq=.val (vS (strF (fun i=>fm (57344+i)) 8192)) Hq 0 0:=fun _=>rfl
 have m22_:∀ Hq,exExt (.tuple #[iN (8*57344),vS (strF (fun i=>fm (57344+i)) 8192),.int .i64 (0)]) 2 Hq=.val (.int .i64 (0)) Hq 0 0:=fun _=>rfl
 refine WOG.all (fun t' H'=>H14_=H'∧GT t' [(0,pA sb 0),(1,iN (8*k)),(2,iN (8*57344)),(8,.int .i64 (0)),(9,.bool false),(10,.int .i64 (0)),(11,vS (strF (fun i=>fm (57344+i)) 8192)),(12,.int .i64 (0))]) ?_ ?_
 ·simp +decide only [ralloc_r3,g0_12,g1_12,g2_12,g3_12,g8_12,g9_12,g10_12,g29_12,m20_,m21_,m22_,Xo 6,go_sem]
 rintro t23_ _ ⟨rfl,g0_23,g1_23,g2_23,g8_23,g9_23,g10_23,g11_23,g12_23, -⟩
 refine hK0 _ _ ?_
 refine WK.seq ?_
 refine WK.seq ?_
 refine WK.reg_g ?_
 have d25_:decide ((0:Int)=(0:Int))=true:=decide_eq_true (by omega)
 refine WOG.all (fun t' H'=>H14_=H'∧GT t' [(0,pA sb 0),(1,iN (8*k)),(2,iN (8*57344)),(8,.int .i64 (0)),(9,.bool false),(10,.int .i64 (0)),(11,vS (strF (fun i=>fm (57344+i)) 8192)),(12,.int .i64 (0)),(39,.bool false)]) ?_ ?_
 ·simp +decide only [ralloc_r4,g0_23,g1_23,g2_23,g8_23,g9_23,g10_23,g11_23,g12_23,d25_,Xo 6,go_sem]
 rintro t26_ _ ⟨rfl,g0_26,g1_26,g2_26,g8_26,g9_26,g10_26,g11_26,g12_26,g39_26, -⟩
 refine WK.cond (v:=false) (by rw [evalO_tmp,g39_26];rfl) ?_
 refine WK.skip ?_
 refine WK.seq ?_
 refine WK.reg_g ?_
 refine WOG.hide fun K0 hK0=>?_
 have m28_:∀ Hq,R.o (binV .quo (iN (8*k)) (.int .i64 8)) Hq=.val (iN k) Hq 0 0:=fun Hq=>quo8 (by omega) (by omega) _
 simp +decide only [ralloc_r6,g1_26,g11_26,m28_,Xo 6,go_sem]
 refine EC.mono (alc_ok S hf17_ (by omega) h (by omega) (by omega) hk1 hk2) fun v H29_ _ hv30_=>?_
 rcases hv30_ with ⟨rfl | ⟨f1,us1,off,rfl,hall⟩,hkA⟩
 ·
  have hf31_:=hkA.fn
  have nx32_:=hkA.nx
  have q33_:=q19_.kept hlb hkA
  rw [WOGk]
  have m34_:∀ Hq,exExt (.tuple #[vS [],.int .i64 (0),.int .i64 (121)]) 0 Hq=.val (vS []) Hq 0 0:=fun _=>rfl
  have m35_:∀ Hq,exExt (.tuple #[vS [],.int .i64 (0),.int .i64 (121)]) 1 Hq=.val (.int .i64 (0)) Hq 0 0:=fun _=>rfl
  have m36_:∀ Hq,exExt (.tuple #[vS [],.int .i64 (0),.int .i64 (121)]) 2 Hq=.val (.int .i64 (121)) Hq 0 0:=fun _=>rfl
  refine WOG.all (fun t' H'=>H29_=H'∧GT t' [(0,pA sb 0),(2,iN (8*57344)),(8,.int .i64 (0)),(9,.bool false),(10,.int .i64 (0)),(11,vS []),(12,.int .i64 (0)),(13,.int .i64 (0)),(14,.int .i64 (121))]) ?_ ?_
  ·simp +decide only [ralloc_r6,g0_26,g1_26,g2_26,g8_26,g9_26,g10_26,g11_26,g12_26,g39_26,m34_,m35_,m36_,Xo 6,go_sem]
  rintro t37_ _ ⟨rfl,g0_37,g2_37,g8_37,g9_37,g10_37,g11_37,g12_37,g13_37,g14_37, -⟩
  refine hK0 _ _ ?_
  refine WK.seq ?_
  refine WK.seq ?_
  refine WK.reg_g ?_
  have d39_:decide ((121:Int)=(0:Int))=false:=decide_eq_false (by omega)
  refine WOG.all (fun t' H'=>H29_=H'∧GT t' [(0,pA sb 0),(2,iN (8*57344)),(8,.int .i64 (0)),(9,.bool false),(10,.int .i64 (0)),(11,vS []),(12,.int .i64 (0)),(13,.int .i64 (0)),(50,.bool true)]) ?_ ?_
  ·simp +decide only [ralloc_r7,g0_37,g2_37,g8_37,g9_37,g10_37,g11_37,g12_37,g13_37,g14_37,d39_,Xo 6,go_sem]
  rintro t40_ _ ⟨rfl,g0_40,g2_40,g8_40,g9_40,g10_40,g11_40,g12_40,g13_40,g50_40, -⟩
  refine WK.cond (v:=true) (by rw [evalO_tmp,g50_40];rfl) ?_
  refine WK.seq ?_
  refine WK.reg_g ?_
  refine WOG.all (fun t' H'=>H29_=H'∧GT t' [(0,pA sb 0),(2,iN (8*57344)),(8,.int .i64 (0)),(9,.bool false),(10,.int .i64 (0)),(11,vS []),(12,.int .i64 (0)),(13,.int .i64 (0))]) ?_ ?_
  ·simp +decide only [ralloc_r8,g0_40,g2_40,g8_40,g9_40,g10_40,g11_40,g12_40,g13_40,g50_40,Xo 6,go_sem]
  rintro t42_ _ ⟨rfl,g0_42,g2_42,g8_42,g9_42,g10_42,g11_42,g12_42,g13_42, -⟩
  refine WK.ret ⟨.inr rfl,rfl,[.int .i64 (0),.bool false,.int .i64 (0)],0,?_,.zero _ _,.inl ⟨rfl,q33_⟩⟩
  show resL Tb0 62 t42_ _ [.tmp 8,.tmp 9,.tmp 10]=_
  simp only [resL,g8_42,g9_42,g10_42];rfl
 ·
  obtain ⟨ho1,ho2⟩:=hall.in_
  have hf31_:=hkA.fn
  have nx32_:=hkA.nx
  have q33_:=q19_.kept hlb hkA
  rw [WOGk]
  have m34_:∀ Hq,exExt (.tuple #[vS (strF f1 8192),iN off,.int .i64 (0)]) 0 Hq=.val (vS (strF f1 8192)) Hq 0 0:=fun _=>rfl
  have m35_:∀ Hq,exExt (.tuple #[vS (strF f1 8192),iN off,.int .i64 (0)]) 1 Hq=.val (iN off) Hq 0 0:=fun _=>rfl
  have m36_:∀ Hq,exExt (.tuple #[vS (strF f1 8192),iN off,.int .i64 (0)]) 2 Hq=.val (.int .i64 (0)) Hq 0 0:=fun _=>rfl
  refine WOG.all (fun t' H'=>H29_=H'∧GT t' [(0,pA sb 0),(2,iN (8*57344)),(8,.int .i64 (0)),(9,.bool false),(10,.int .i64 (0)),(11,vS (strF f1 8192)),(12,.int .i64 (0)),(13,iN off),(14,.int .i64 (0))]) ?_ ?_
  ·simp +decide only [ralloc_r6,g0_26,g1_26,g2_26,g8_26,g9_26,g10_26,g11_26,g12_26,g39_26,m34_,m35_,m36_,Xo 6,go_sem]
  rintro t37_ _ ⟨rfl,g0_37,g2_37,g8_37,g9_37,g10_37,g11_37,g12_37,g13_37,g14_37, -⟩
  refine hK0 _ _ ?_
  refine WK.seq ?_
  refine WK.seq ?_
  refine WK.reg_g ?_
  have d39_:decide ((0:Int)=(0:Int))=true:=decide_eq_true (by omega)
  refine WOG.all (fun t' H'=>H29_=H'∧GT t' [(0,pA sb 0),(2,iN (8*57344)),(8,.int .i64 (0)),(9,.bool false),(10,.int .i64 (0)),(11,vS (strF f1 8192)),(12,.int .i64 (0)),(13,iN off),(50,.bool false)]) ?_ ?_
  ·simp +decide only [ralloc_r7,g0_37,g2_37,g8_37,g9_37,g10_37,g11_37,g12_37,g13_37,g14_37,d39_,Xo 6,go_sem]
  rintro t40_ _ ⟨rfl,g0_40,g2_40,g8_40,g9_40,g10_40,g11_40,g12_40,g13_40,g50_40, -⟩
  refine WK.cond (v:=false) (by rw [evalO_tmp,g50_40];rfl) ?_
  refine WK.skip ?_
  refine WK.seq ?_
  refine WK.reg_g ?_
  refine WOG.hide fun K0 hK0=>?_
  have m42_:∀ Hq,exNil (pA sb 0) Hq=.val (pA sb 0) Hq 0 0:=fun _=>rfl
  have r43_:=(hst.mv hk16_).mv hkA
  have m44_:exLd1 (pA sb 6) H29_=.val (pA bm 0) H29_ (bit (sb)) 0:=exLd1_row r43_ h6
  have o45_:e.ok (bit (sb)) 0 H29_:=.read r43_.lt hps
  have r46_:=(hr.mv hk16_).mv hkA
  simp +decide only [ralloc_r9,g0_40,g2_40,g11_40,m42_,m44_,o45_,Xo 6,go_sem]
  refine EC.mono (mput_ok S hf31_ (by omega) (p:=57344) (n:=8192) (f1:=f1) r46_ (by omega) (by omega) hpm) fun v H47_ _ hv48_=>?_
  obtain ⟨rfl,ov49_⟩:=hv48_
  have hf50_:=ov49_.fn
  have nx51_:H47_.nx=H29_.nx:=ov49_.nx
  have q52_:=q33_.ov ov49_
  rw [WOGk]
  refine WOG.all (fun t' H'=>H47_=H'∧GT t' [(2,iN (8*57344)),(8,.int .i64 (0)),(9,.bool false),(10,.int .i64 (0)),(12,.int .i64 (0)),(13,iN off)]) ?_ ?_
  ·simp +decide only [ralloc_r9,g0_40,g2_40,g8_40,g9_40,g10_40,g11_40,g12_40,g13_40,g50_40,Xo 6,go_sem]
  rintro t53_ _ ⟨rfl,g2_53,g8_53,g9_53,g10_53,g12_53,g13_53, -⟩
  refine hK0 _ _ ?_
  refine WK.seq ?_
  refine WK.reg_g ?_
  have w55_:Value.int .i64 (wrapF .i64 ((8:Int)*((off:Nat):Int)))=.int .i64 (((8*off):Nat):Int):=wF (by omega)
  have w56_:Value.int .i64 (wrapF .i64 (((8*57344:Nat):Int)+(((8*off):Nat):Int)))=.int .i64 ((((8*57344)+((8*off))):Nat):Int):=wF (by omega)
  refine WOG.all (fun t' H'=>H47_=H'∧GT t' [(8,iN (((8*57344)+((8*off))))),(9,.bool true),(10,.int .i64 (0)),(12,.int .i64 (0))]) ?_ ?_
  ·simp +decide only [ralloc_r10,g2_53,g8_53,g9_53,g10_53,g12_53,g13_53,w55_,w56_,Xo 6,go_sem]
  rintro t57_ _ ⟨rfl,g8_57,g9_57,g10_57,g12_57, -⟩
  have e8:t57_.get 8=vN ((8*57344+8*off:Nat):Int):=g8_57
  refine WK.ret ⟨.inr rfl,rfl,[iN (((8*57344)+((8*off)))),.bool true,.int .i64 (0)],0,?_,.zero _ _,.inr ⟨f1,us1,off,rfl,hall,q52_⟩⟩
  show resL Tb0 62 t57_ _ [.tmp 8,.tmp 9,.tmp 10]=_
  simp only [resL,g8_57,g9_57,g10_57];rfl
set_option maxRecDepth 10000 in
set_option maxHeartbeats 4000000 in
theorem rfreeh_ok (S:SpX sp) {H:Hp} (hf:H.isFn=true) (he:e.n0≤H.nx) {sb bm:Nat} {L:List Value} {fm:By} (hst:Row H sb 104 0 L) (h6:L[6]?=some (.pointer (some ⟨bm,0,none⟩))) (h19:L[19]?=some (.bool false)) (hr:ByU H bm 171 fm 65536) (hps:sb<e.n0→e.Rd sb) (hpr:bm<e.n0→e.Rd bm) (hpm:bm<e.n0→e.Wr bm) {k off:Nat} {us:List U} (hsb:sb≠bm) (h:Is (fun i=>fm (57344+i)) 8192 us) (hm:(off,k)∈places 8 us):EC Tb0 sp e 16 [pA sb 0,iN (8*57344+8*off),.int .i64 (-1),.int .i64 (0)] H fun v H'=>v=vN 0∧∃ f1 us1,FreeR (fun i=>fm (57344+i)) f1 8192 us us1 off k∧OvK H bm 171 (over fm 57344 8192 f1) 65536 H':=by
 refine EC.i4 (by rfl) rfree_some rfree_comp (S.no 16 (by decide) _ _) (by show 4≤60;decide) fun t0 g0 g1 g2 g3=>?_
 show WK Tb0 sp e ⟨6,60,none,false⟩ rfree_k t0 [] H _
 unfold rfree_k
 have lt1_:=hst.lt
 have lt2_:=hr.lt
 have hlb:=hr.lt
 have hls:=hst.lt
 have q0:=OvK.refl hf hr
 have hin:=places_in hm
 have hi1:16≤off:=hin.1
 have hi2:off+k≤fin 8 us:=hin.2
 have hile:=h.le
 have hk0:1≤k:=h.place_pos hm
 refine WK.seq ?_
 refine WK.reg_g ?_
 refine WOG.all (fun t' H'=>H=H'∧GT t' [(0,pA sb 0),(1,iN (8*57344+8*off)),(2,.int .i64 (-1)),(3,.int .i64 (0)),(8,.int .i64 (0))]) ?_ ?_
 ·simp +decide only [rfree_r0,g0,g1,g2,g3,Xo 6,go_sem]
 rintro t3_ _ ⟨rfl,g0_3,g1_3,g2_3,g3_3,g8_3, -⟩
 refine WK.seq ?_
 refine WK.seq ?_
 refine WK.reg_g ?_
 refine WOG.hide fun K0 hK0=>?_
 simp +decide only [rfree_r1,g0_3,Xo 6,go_sem]
 refine EC.mono (dead_ok S hf (by omega) hst h19 hps) fun v H5_ _ hv6_=>?_
 obtain ⟨rfl,hh7_⟩:=hv6_
 rw [hh7_];clear hh7_
 rw [WOGk]
 refine WOG.all (fun t' H'=>H=H'∧GT t' [(0,pA sb 0),(1,iN (8*57344+8*off)),(2,.int .i64 (-1)),(3,.int .i64 (0)),(8,.int .i64 (0)),(13,.bool false)]) ?_ ?_
 ·simp +decide only [rfree_r1,g0_3,g1_3,g2_3,g3_3,g8_3,Xo 6,go_sem]
 rintro t8_ _ ⟨rfl,g0_8,g1_8,g2_8,g3_8,g8_8,g13_8, -⟩
 refine hK0 _ _ ?_
 refine WK.cond (v:=false) (by rw [evalO_tmp,g13_8];rfl) ?_
 refine WK.skip ?_
 refine WK.seq ?_
 refine WK.reg_g ?_
 refine WOG.hide fun K0 hK0=>?_
 simp +decide only [rfree_r3,g0_8,g2_8,g3_8,Xo 6,go_sem]
 refine EC.mono (foundh_ok S hf (by omega) hst h6 h19 hr hps hpr h) fun v H10_ _ hv11_=>?_
 obtain ⟨rfl,hk12_⟩:=hv11_
 have hf13_:=hk12_.fn
 have nx14_:=hk12_.nx
 have q15_:=q0.kept hlb hk12_
 rw [WOGk]
 have m16_:∀ Hq,exExt (.tuple #[iN (8*57344),vS (strF (fun i=>fm (57344+i)) 8192),.int .i64 (0)]) 0 Hq=.val (iN (8*57344)) Hq 0 0:=fun _=>rfl
 have m17_:∀ Hq,exExt (.tuple #[iN (8*57344),vS (strF (fun i=>fm (57344+i)) 8192),.int .i64 (0)]) 1 Hq=.val (vS (strF (fun i=>fm (57344+i)) 8192)) Hq 0 0:=fun _=>rfl
 have m18_:∀ Hq,exExt (.tuple #[iN (8*57344),vS (strF (fun i=>fm (57344+i)) 8192),.int .i64 (0)]) 2 Hq=.val (.int .i64 (0)) Hq 0 0:=fun _=>rfl
 refine WOG.all (fun t' H'=>H10_=H'∧GT t' [(0,pA sb 0),(1,iN (8*57344+8*off)),(2,iN (8*57344)),(8,.int .i64 (0)),(9,vS (strF (fun i=>fm (57344+i)) 8192)),(10,.int .i64 (0))]) ?_ ?_
 ·simp +decide only [rfree_r3,g0_8,g1_8,g2_8,g3_8,g8_8,g13_8,m16_,m17_,m18_,Xo 6,go_sem]
 rintro t19_ _ ⟨rfl,g0_19,g1_19,g2_19,g8_19,g9_19,g10_19, -⟩
 refine hK0 _ _ ?_
 refine WK.seq ?_
 refine WK.seq ?_
 refine WK.reg_g ?_
 have d21_:decide ((0:Int)=(0:Int))=true:=decide_eq_true (by omega)
 refine WOG.all (fun t' H'=>H10_=H'∧GT t' [(0,pA sb 0),(1,iN (8*57344+8*off)),(2,iN (8*57344)),(8,.int .i64 (0)),(9,vS (strF (fun i=>fm (57344+i)) 8192)),(10,.int .i64 (0)),(23,.bool false)]) ?_ ?_
 ·simp +decide only [rfree_r4,g0_19,g1_19,g2_19,g8_19,g9_19,g10_19,d21_,Xo 6,go_sem]
 rintro t22_ _ ⟨rfl,g0_22,g1_22,g2_22,g8_22,g9_22,g10_22,g23_22, -⟩
 refine WK.cond (v:=false) (by rw [evalO_tmp,g23_22];rfl) ?_
 refine WK.skip ?_
 refine WK.seq ?_
 refine WK.seq ?_
 refine WK.reg_g ?_
 have d24_:decide (((8*57344+8*off:Nat):Int)<((8*57344:Nat):Int))=false:=decide_eq_false (by omega)
 have m25_:∀ Hq,exLen 0 (vS (strF (fun i=>fm (57344+i)) 8192)) Hq=.val (vN ((8192:Nat))) Hq 0 0:=fun _=>len_strF _ _ _
 have w26_:Value.int .i64 (wrapF .i64 ((8:Int)*((8192:Nat):Int)))=.int .i64 ((65536:Nat):Int):=wF (by omega)
 have w27_:Value.int .i64 (wrapF .i64 (((8*57344:Nat):Int)+((65536:Nat):Int)))=.int .i64 ((((8*57344)+65536):Nat):Int):=wF (by omega)
 have d28_:decide (((8*57344+8*off:Nat):Int)<((((8*57344)+65536):Nat):Int))=true:=decide_eq_true (by omega)
 have m29_:∀ Hq,R.o (binV .rem (iN (8*57344+8*off)) (.int .i64 (8))) Hq=.val (.int .i64 (0)) Hq 0 0:=fun Hq=>rem8 (by omega)
 have d30_:decide ((0:Int)=(0:Int))=true:=decide_eq_true (by omega)
 refine WOG.all (fun t' H'=>H10_=H'∧GT t' [(0,pA sb 0),(1,iN (8*57344+8*off)),(2,iN (8*57344)),(8,.int .i64 (0)),(9,vS (strF (fun i=>fm (57344+i)) 8192)),(10,.int .i64 (0)),(41,.bool false)]) ?_ ?_
 ·simp +decide only [rfree_r6,g0_22,g1_22,g2_22,g8_22,g9_22,g10_22,g23_22,d24_,m25_,w26_,w27_,d28_,m29_,d30_,Xo 6,go_sem]
 rintro t31_ _ ⟨rfl,g0_31,g1_31,g2_31,g8_31,g9_31,g10_31,g41_31, -⟩
 refine WK.cond (v:=false) (by rw [evalO_tmp,g41_31];rfl) ?_
 refine WK.skip ?_
 refine WK.seq ?_
 refine WK.reg_g ?_
 refine WOG.hide fun K0 hK0=>?_
 have m33_:binV .sub (iN (8*57344+8*off)) (iN (8*57344))=some (iN (8*off)):=congrArg (fun z=>some (Value.int .i64 z)) (by rw [show Int.sub _ _=(((8*off:Nat):Int)) from by show ((_:Int)-_)=_;omega];exact wrapF_nat (by omega))
 have m34_:∀ Hq,R.o (binV .quo (iN (8*off)) (.int .i64 8)) Hq=.val (iN off) Hq 0 0:=fun Hq=>quo8 (by omega) (by omega) _
 simp +decide only [rfree_r8,g1_31,g2_31,g9_31,m33_,m34_,Xo 6,go_sem]
 refine EC.mono (fre_ok S hf13_ (by omega) (off:=off) (k:=k) h (by omega) (by omega) hm) fun v H35_ _ hv36_=>?_
 obtain ⟨⟨f1,us1,rfl,hfr⟩,hkF⟩:=hv36_
 have hf37_:=hkF.fn
 have nx38_:=hkF.nx
 have q39_:=q15_.kept hlb hkF
 rw [WOGk]
 have m40_:∀ Hq,exExt (.tuple #[vS (strF f1 8192),.int .i64 (0)]) 0 Hq=.val (vS (strF f1 8192)) Hq 0 0:=fun _=>rfl
 have m41_:∀ Hq,exExt (.tuple #[vS (strF f1 8192),.int .i64 (0)]) 1 Hq=.val (.int .i64 (0)) Hq 0 0:=fun _=>rfl
 refine WOG.all (fun t' H'=>H35_=H'∧GT t' [(0,pA sb 0),(2,iN (8*57344)),(8,.int .i64 (0)),(9,vS (strF f1 8192)),(10,.int .i64 (0)),(11,.int .i64 (0))]) ?_ ?_
 ·simp +decide only [rfree_r8,g0_31,g1_31,g2_31,g8_31,g9_31,g10_31,g41_31,m40_,m41_,Xo 6,go_sem]
 rintro t42_ _ ⟨rfl,g0_42,g2_42,g8_42,g9_42,g10_42,g11_42, -⟩
 refine hK0 _ _ ?_
 refine WK.seq ?_
 refine WK.seq ?_
 refine WK.reg_g ?_
 have d44_:decide ((0:Int)=(0:Int))=true:=decide_eq_true (by omega)
 refine WOG.all (fun t' H'=>H35_=H'∧GT t' [(0,pA sb 0),(2,iN (8*57344)),(8,.int .i64 (0)),(9,vS (strF f1 8192)),(10,.int .i64 (0)),(52,.bool false)]) ?_ ?_
 ·simp +decide only [rfree_r9,g0_42,g2_42,g8_42,g9_42,g10_42,g11_42,d44_,Xo 6,go_sem]
 rintro t45_ _ ⟨rfl,g0_45,g2_45,g8_45,g9_45,g10_45,g52_45, -⟩
 refine WK.cond (v:=false) (by rw [evalO_tmp,g52_45];rfl) ?_
 refine WK.skip ?_
 refine WK.seq ?_
 refine WK.reg_g ?_
 refine WOG.hide fun K0 hK0=>?_
 have m47_:∀ Hq,exNil (pA sb 0) Hq=.val (pA sb 0) Hq 0 0:=fun _=>rfl
 have r48_:=(hst.mv hk12_).mv hkF
 have m49_:exLd1 (pA sb 6) H35_=.val (pA bm 0) H35_ (bit (sb)) 0:=exLd1_row r48_ h6
 have o50_:e.ok (bit (sb)) 0 H35_:=.read r48_.lt hps
 have r51_:=(hr.mv hk12_).mv hkF
 simp +decide only [rfree_r11,g0_45,g2_45,g9_45,m47_,m49_,o50_,Xo 6,go_sem]
 refine EC.mono (mput_ok S hf37_ (by omega) (p:=57344) (n:=8192) (f1:=f1) r51_ (by omega) (by omega) hpm) fun v H52_ _ hv53_=>?_
 obtain ⟨rfl,ov54_⟩:=hv53_
 have hf55_:=ov54_.fn
 have nx56_:H52_.nx=H35_.nx:=ov54_.nx
 have q57_:=q39_.ov ov54_
 rw [WOGk]
 refine WOG.all (fun t' H'=>H52_=H'∧GT t' [(8,.int .i64 (0)),(10,.int .i64 (0))]) ?_ ?_
 ·simp +decide only [rfree_r11,g0_45,g2_45,g8_45,g9_45,g10_45,g52_45,Xo 6,go_sem]
 rintro t58_ _ ⟨rfl,g8_58,g10_58, -⟩
 refine hK0 _ _ ?_
 refine WK.seq ?_
 refine WK.reg_g ?_
 refine WOG.all (fun t' H'=>H52_=H'∧GT t' [(8,.int .i64 (0)),(10,.int .i64 (0))]) ?_ ?_
 ·simp +decide only [rfree_r12,g8_58,g10_58,Xo 6,go_sem]
 rintro t60_ _ ⟨rfl,g8_60,g10_60, -⟩
 refine WK.ret ⟨.inr rfl,rfl,[.int .i64 (0)],0,?_,.zero _ _,rfl,f1,us1,hfr,q57_⟩
 show resL Tb0 60 t60_ _ [.tmp 8]=_
 simp only [resL,g8_60];rfl
end
end Go.Proofs.RS
end
noncomputable section
namespace Go.Ar
open Go.Ev (over)
abbrev Bk:=Nat×Nat×UInt8
def pl (x:Bk):Nat×Nat:=(x.1,x.2.1)
theorem over_in {F g:By} {p n i:Nat} (h:i<n):over F p n g (p+i)=g i:=by unfold over;rw [if_pos ⟨by omega,by omega⟩,Nat.add_sub_cancel_left]
def fill (F:By) (p j:Nat) (u:UInt8):By:=fun i=>if p≤i∧i<p+j then u else F i
theorem fill_zero (F:By) (p:Nat) (u:UInt8):F=fill F p 0 u:=by funext i;unfold fill;rw [if_neg (by omega)]
theorem fill_next {F:By} {p j:Nat} {u:UInt8} (i:Nat):over (fill F p j u) (p+j) 1 (fun _=>u) i=fill F p (j+1) u i:=by
 unfold over fill
 by_cases h:p+j≤i∧i<p+j+1
 ·rw [if_pos h,if_pos (by omega)]
 ·rw [if_neg h]
  by_cases h2:p≤i∧i<p+j
  ·rw [if_pos h2,if_pos (by omega)]
  ·rw [if_neg h2,if_neg (by omega)]
theorem fill_ge {F:By} {p j i:Nat} {u:UInt8} (h:i<p∨p+j≤i):fill F p j u i=F i:=by unfold fill;rw [if_neg (by omega)]
theorem fill_in {F:By} {p j i:Nat} {u:UInt8} (h:i<j):fill F p j u (p+i)=u:=by unfold fill;rw [if_pos (by omega)]
end Go.Ar
end
noncomputable section
namespace Go.Ev
open Go.Ar (Bk)
open Go.Proofs.RS
theorem remI {x k:Int} (hk:k≠0) (H:Hp):R.o (binV .rem (.int .i64 x) (.int .i64 k)) H=.val (.int .i64 (x.tmod k)) H 0 0:=by
 have:binV .rem (.int .i64 x) (.int .i64 k)=some (.int .i64 (x.tmod k)):=by
  show Bc (eqI k 0) none (some (Value.int .i64 (x.tmod k)))=_
  rw [show eqI k 0=false from by rw [eqI_dec];exact decide_eq_false hk,Bc_f]
 rw [this];rfl
theorem tmod_b (x:Int) {L:Nat} (hL:0<L) : -(L:Int)<x.tmod L∧x.tmod L<L:=by
 have h1:=Int.tmod_lt_of_pos x (show (0:Int)<(L:Int) by omega)
 have h2:=Int.lt_tmod_of_pos x (show (0:Int)<(L:Int) by omega)
 exact ⟨h2,h1⟩
theorem modL (x:Int) {L:Nat} (hL:0<L):∃ m:Nat,m<L∧(x.tmod L+L).tmod L=(m:Int):=by
 obtain ⟨h1,h2⟩:=tmod_b x hL
 have h3:0≤x.tmod L+L:=by omega
 have h4:=Int.tmod_lt_of_pos (x.tmod L+L) (show (0:Int)<(L:Int) by omega)
 have h5:0≤(x.tmod L+L).tmod L:=Int.tmod_nonneg _ h3
 exact ⟨((x.tmod L+L).tmod L).toNat,by omega,by omega⟩
theorem eq_str (u:UInt8) (H:Hp):exEq true (.one .s) (vS [u]) (vS [u]) H=.val (.bool false) H 0 0:=by
 show (match some (eqBs [u] [u]) with | some b=>R.v (.bool (Bc true (!b) b)) H | none=>.fail)=_
 rw [Go.Ds.eqBs_self];rfl
theorem bsl_one {H:Hp} (hf:H.isFn=true) (u:UInt8):∃ H1,alloc1 (blkL [uB u] 5 0) H (fun i=>mkSlV (some (i,0)) 1 1 false) 0 0=.val (.slice (some ⟨H.nx,0,none⟩) 1 (2*1)) H1 0 0∧ByU H1 H.nx 5 (fun _=>u) 1∧Kept H H1∧H1.nx=H.nx+1 :=
 ⟨_,alloc_bsl hf _ _ _,row_push (fn_room hf) _ _ _,⟨by rw [isFn_push];exact hf,by rw [nx_push];omega,fun b hb=>blk_push_old (fn_room hf) _ hb⟩,nx_push _ _⟩
theorem KeptX.upd {X:Nat→Prop} {H H1 H2:Hp} {b:Nat} (h:KeptX X H H1) (hf:H2.isFn=true) (hn:H1.nx≤H2.nx) (he:∀ c,c<H1.nx→c≠b→H2.blk c=H1.blk c) (hb:X b∨H.nx≤b):KeptX X H H2 :=
 ⟨hf,Nat.le_trans h.nx hn,fun c hc hx=>by
  have hcb:c≠b:=by
   rintro rfl
   rcases hb with hb | hb
   ·exact hx hb
   ·omega
  rw [he c (Nat.lt_of_lt_of_le hc h.nx) hcb,h.old c hc hx]⟩
end Go.Ev
end
noncomputable section
namespace Go.Ar
open Go.Ev (over)
structure Pg (F:By) (us:List U) (bl:List Bk):Prop where
 is1:Is (fun i=>F (57344+i)) 8192 us
 perm:(places 8 us).Perm (bl.map pl)
 val:∀ x∈bl,∀ j,j<x.2.1→F (57344+x.1+j)=x.2.2
theorem Pg.start:Pg (fun _=>0) [] []:=⟨.new (by omega) fun _ _=>rfl,.nil,fun x hx=>by cases hx⟩
theorem Pg.mem {F:By} {us:List U} {bl:List Bk} (h:Pg F us bl) {x:Bk} (hx:x∈bl):(x.1,x.2.1)∈places 8 us:=h.perm.symm.subset (List.mem_map.2 ⟨x,hx,rfl⟩)
theorem Pg.in_ {F:By} {us:List U} {bl:List Bk} (h:Pg F us bl) {x:Bk} (hx:x∈bl):16≤x.1∧x.1+x.2.1≤8192:=by
 have h1:=places_in (h.mem hx)
 have h2:x.1+x.2.1≤fin 8 us:=h1.2
 exact ⟨h1.1,Nat.le_trans h2 h.is1.le⟩
theorem Pg.free {F f1:By} {off k:Nat} {us us1:List U} {b1 b2:List Bk} {u:UInt8} (h:Pg F us (b1++(off,k,u)::b2)) (hr:FreeR (fun i=>F (57344+i)) f1 8192 us us1 off k):Pg (over F 57344 8192 f1) us1 (b1++b2):=by
 have hp:(places 8 us1).Perm ((b1++b2).map pl):=by
  have h1:((off,k)::places 8 us1).Perm ((off,k)::(b1++b2).map pl):=by
   refine hr.perm.symm.trans (h.perm.trans ?_)
   rw [List.map_append,List.map_cons,List.map_append]
   exact List.perm_middle
  exact h1.cons_inv
 refine ⟨hr.is.congr fun i hi=>over_in hi,hp,fun x hx j hj=>?_⟩
 have hm:(x.1,x.2.1)∈places 8 us1:=hp.symm.subset (List.mem_map.2 ⟨x,hx,rfl⟩)
 have h2:x.1+x.2.1≤fin 8 us1:=(places_in hm).2
 have h3:=hr.is.le
 rw [show 57344+x.1+j=57344+(x.1+j) by omega,over_in (by omega),hr.keep _ hm (x.1+j) (by show x.1≤_;omega) (by show _<x.1+x.2.1;omega)]
 show F (57344+(x.1+j))=_
 rw [show 57344+(x.1+j)=57344+x.1+j by omega]
 refine h.val x ?_ j hj
 rcases List.mem_append.1 hx with hx | hx
 ·exact List.mem_append.2 (.inl hx)
 ·exact List.mem_append.2 (.inr (List.mem_cons_of_mem _ hx))
structure PgN (F:By) (us:List U) (bl:List Bk) (off k:Nat):Prop where
 is1:Is (fun i=>F (57344+i)) 8192 us
 perm:(places 8 us).Perm ((off,k)::bl.map pl)
 val:∀ x∈bl,∀ j,j<x.2.1→F (57344+x.1+j)=x.2.2
 lo:16≤off
 hi:off+k≤8192
theorem Pg.alloc {F f1:By} {off k:Nat} {us us1:List U} {bl:List Bk} (h:Pg F us bl) (hr:AllocR (fun i=>F (57344+i)) f1 8192 us us1 off k):PgN (over F 57344 8192 f1) us1 bl off k:=by
 obtain ⟨h1,h2⟩:=hr.in_
 refine ⟨hr.is.congr fun i hi=>over_in hi,hr.perm.trans (h.perm.cons _),fun x hx j hj=>?_,h1,h2⟩
 have hin:=h.in_ hx
 rw [show 57344+x.1+j=57344+(x.1+j) by omega,over_in (by omega),hr.keep _ (h.mem hx) (x.1+j) (by show x.1≤_;omega) (by show _<x.1+x.2.1;omega)]
 show F (57344+(x.1+j))=_
 rw [show 57344+(x.1+j)=57344+x.1+j by omega]
 exact h.val x hx j hj
theorem PgN.apart {F:By} {off k:Nat} {us:List U} {bl:List Bk} (h:PgN F us bl off k) {x:Bk} (hx:x∈bl):x.1+x.2.1≤off∨off+k≤x.1:=by
 have hp:=places_apart 8 us
 have hsym:∀ p q:Nat×Nat,(p.1+p.2≤q.1∨q.1+q.2≤p.1)→(q.1+q.2≤p.1∨p.1+p.2≤q.1):=fun p q h=>h.symm
 have h1:(places 8 us).Pairwise fun p q=>p.1+p.2≤q.1∨q.1+q.2≤p.1:=hp.imp fun h=>.inl h
 have h2:=(h.perm.pairwise_iff (fun {a b} h=>hsym a b h)).1 h1
 have h3:=(List.pairwise_cons.1 h2).1 (pl x) (List.mem_map.2 ⟨x,hx,rfl⟩)
 have h4:off+k≤x.1∨x.1+x.2.1≤off:=h3
 exact h4.symm
theorem PgN.fill {F:By} {off k:Nat} {us:List U} {b1 b2:List Bk} (h:PgN F us (b1++b2) off k) (u:UInt8):Pg (fill F (57344+off) k u) us (b1++(off,k,u)::b2):=by
 have hlo:=h.lo
 have hhi:=h.hi
 refine ⟨h.is1.bytes fun i hi hp=>?_,?_,fun x hx j hj=>?_⟩
 ·have:(off,k)∈places 8 us:=h.perm.symm.subset List.mem_cons_self
  have h1:i<off∨off+k≤i:=hp _ this
  exact fill_ge (by omega)
 ·rw [List.map_append,List.map_cons]
  refine h.perm.trans ?_
  rw [List.map_append]
  exact List.perm_middle.symm
 ·have hx':x=(off,k,u)∨x∈b1++b2:=by
   rcases List.mem_append.1 hx with hx | hx
   ·exact .inr (List.mem_append.2 (.inl hx))
   ·rcases List.mem_cons.1 hx with hx | hx
    ·exact .inl hx
    ·exact .inr (List.mem_append.2 (.inr hx))
  rcases hx' with rfl | hx'
  ·exact fill_in hj
  ·have:=h.apart hx'
   rw [fill_ge (by omega)]
   exact h.val x hx' j hj
abbrev Stk:=Nat×List (Nat×UInt8)
def sbl (s:Stk):List Bk:=s.2.map fun e=>(e.1,s.1,e.2)
def blks (ss:List Stk):List Bk:=ss.flatMap sbl
theorem blks_app (a b:List Stk):blks (a++b)=blks a++blks b:=by simp [blks]
theorem blks_cons (s:Stk) (b:List Stk):blks (s::b)=sbl s++blks b:=rfl
theorem sbl_snoc (n:Nat) (st:List (Nat×UInt8)) (e:Nat×UInt8):sbl (n,st++[e])=sbl (n,st)++[(e.1,n,e.2)]:=by simp [sbl]
def Ps (F:By) (us:List U) (ss:List Stk):Prop:=Pg F us (blks ss)
theorem blks_none {ss:List Stk} (h:∀ s∈ss,s.2=[]):blks ss=[]:=by
 induction ss with
 | nil=>rfl
 | cons s ss ih =>
  rw [blks_cons,ih fun s hs=>h s (List.mem_cons_of_mem _ hs)]
  simp [sbl,h s List.mem_cons_self]
theorem Ps.start {ss:List Stk} (h:∀ s∈ss,s.2=[]):Ps (fun _=>0) [] ss:=by
 show Pg _ _ _
 rw [blks_none h];exact .start
theorem blks_mid (a b:List Stk) (n:Nat) (st:List (Nat×UInt8)) (e:Nat×UInt8):blks (a++(n,st++[e])::b)=(blks a++sbl (n,st))++(e.1,n,e.2)::blks b:=by
 rw [blks_app,blks_cons,sbl_snoc];simp
theorem blks_mid0 (a b:List Stk) (s:Stk):blks (a++s::b)=(blks a++sbl s)++blks b:=by
 rw [blks_app,blks_cons];simp
theorem Ps.mem {F:By} {us:List U} {a b:List Stk} {n:Nat} {st:List (Nat×UInt8)} {e:Nat×UInt8} (h:Ps F us (a++(n,st++[e])::b)):(e.1,n)∈places 8 us :=
 Pg.mem (x:=(e.1,n,e.2)) h (by rw [blks_mid];simp)
theorem Ps.in_ {F:By} {us:List U} {a b:List Stk} {n:Nat} {st:List (Nat×UInt8)} {e:Nat×UInt8} (h:Ps F us (a++(n,st++[e])::b)):16≤e.1∧e.1+n≤8192 :=
 Pg.in_ (x:=(e.1,n,e.2)) h (by rw [blks_mid];simp)
theorem Ps.val {F:By} {us:List U} {a b:List Stk} {n:Nat} {st:List (Nat×UInt8)} {e:Nat×UInt8} (h:Ps F us (a++(n,st++[e])::b)) {j:Nat} (hj:j<n):F (57344+e.1+j)=e.2 :=
 Pg.val h (e.1,n,e.2) (by rw [blks_mid];simp) j hj
theorem Ps.pop {F f1:By} {us us1:List U} {a b:List Stk} {n:Nat} {st:List (Nat×UInt8)} {e:Nat×UInt8} (h:Ps F us (a++(n,st++[e])::b)) (hr:FreeR (fun i=>F (57344+i)) f1 8192 us us1 e.1 n):Ps (over F 57344 8192 f1) us1 (a++(n,st)::b):=by
 unfold Ps at *
 rw [blks_mid] at h
 rw [blks_mid0]
 exact h.free hr
theorem Ps.alloc {F f1:By} {us us1:List U} {ss:List Stk} {off k:Nat} (h:Ps F us ss) (hr:AllocR (fun i=>F (57344+i)) f1 8192 us us1 off k):PgN (over F 57344 8192 f1) us1 (blks ss) off k:=Pg.alloc h hr
theorem PgN.push {F:By} {us:List U} {a b:List Stk} {off n:Nat} {st:List (Nat×UInt8)} (h:PgN F us (blks (a++(n,st)::b)) off n) (u:UInt8):Ps (Go.Ar.fill F (57344+off) n u) us (a++(n,st++[(off,u)])::b):=by
 unfold Ps
 rw [blks_mid0] at h
 rw [blks_mid]
 exact h.fill u
end Go.Ar
end
