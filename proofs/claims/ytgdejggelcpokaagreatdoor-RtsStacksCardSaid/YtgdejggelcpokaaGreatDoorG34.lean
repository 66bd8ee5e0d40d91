/-
 A part of the proof that pliantlaw15.RtsStacks returns true and leaves its arguments alone. Conditions: those of the card in the last text.
-/
import Derived.KernelRfl
import Derived.Test.YtgdejggelcpokaaGreatDoorG10
import Derived.Test.YtgdejggelcpokaaGreatDoorG11
import Derived.Test.YtgdejggelcpokaaGreatDoorG33
set_option linter.unusedSimpArgs false
set_option linter.unusedVariables false
set_option linter.unusedSectionVars false
noncomputable section
namespace Go.Proofs.RS
open Go Go.Ev Go.Proofs Go.Ar
section
attribute [local go_sem] Bc_f Bc_t GT Ro_some Rv_eq WOG WOX Yj Yk Yl Ym Yn Yo Yp Yq Yr and_self and_true binV_geq binV_lss binV_sub callV_func dec_F dec_T evalL evalM evalO_const evalO_func evalO_tmp exEq_int exFa_ptr exLen_str exPick_f exPick_t exUn_not if_false if_true no_bits ok_zero putT_none run true_and wantsV_U wantsV_ff wantsV_ft wantsV_tf wantsV_tt wants_none' wants_some
variable {sp:Nat→List Value→Hp→Option (Value×Hp×Nat×Nat)} {e:Env}
set_option maxRecDepth 10000 in
set_option maxHeartbeats 4000000 in
theorem pop_none (S:SpX sp) {H:Hp} (hf:H.isFn=true) (he:e.n0≤H.nx) {sb:Nat} {L:List Value} (hes:e.n0≤sb) (hst:Row H sb 104 0 L) (h19:L[19]?=some (.bool false)) {bg k:Nat} {gs:List Value} (heg:e.n0≤bg) (hk8:k≤8) (h12:L[12]?=some (.slice (some ⟨bg,0,none⟩) k (2*k))) (hrg:Row H bg 22 0 gs) (hgl:gs.length=k) {i:Nat} (hi:i<k) {v:Value} (hv:gs[i]?=some v) {n b:Nat} (hl:Lst n 3 H b v []):EC Tb0 sp e 12 [pA sb 0,iN i] H fun v H'=>v=vN 2∧H'=H:=by
 refine EC.i2 (by rfl) pop_some pop_comp (S.no 12 (by decide) _ _) (by show 2≤61;decide) fun t0 g0 g1=>?_
 show WK Tb0 sp e ⟨6,61,none,false⟩ pop_k t0 [] H _
 unfold pop_k
 have lt1_:=hst.lt
 have lt2_:=hrg.lt
 refine WK.seq ?_
 refine WK.reg_g ?_
 refine WOG.all (fun t' H'=>H=H'∧GT t' [(0,pA sb 0),(1,iN i),(4,.int .i64 (0))]) ?_ ?_
 ·simp +decide only [pop_r0,g0,g1,Xo 6,go_sem]
 rintro t3_ _ ⟨rfl,g0_3,g1_3,g4_3, -⟩
 refine WK.seq ?_
 refine WK.seq ?_
 refine WK.reg_g ?_
 refine WOG.hide fun K0 hK0=>?_
 simp +decide only [pop_r1,g0_3,Xo 6,go_sem]
 refine EC.mono (dead_ok S hf (by omega) hst h19 (fun h=>absurd h (by omega))) fun v H5_ _ hv6_=>?_
 obtain ⟨rfl,hh7_⟩:=hv6_
 rw [hh7_];clear hh7_
 rw [WOGk]
 have d8_:decide (((i:Nat):Int)<(0:Int))=false:=decide_eq_false (by omega)
 have m9_:∀ Hq,exNil (pA sb 0) Hq=.val (pA sb 0) Hq 0 0:=fun _=>rfl
 have m10_:exLd1 (pA sb 12) H=.val (sC bg 0 (k) (2*k)) H (bit (sb)) 0:=exLd1_row hst h12
 have o11_:=okr (e:=e) hst (by omega)
 have m12_:∀ Hq,exLen 1 (sC bg 0 (k) (2*k)) Hq=.val (vN ((k:Nat))) Hq 0 0:=fun _=>rfl
 have d13_:decide (((i:Nat):Int)<((k:Nat):Int))=true:=decide_eq_true (by omega)
 refine WOG.all (fun t' H'=>H=H'∧GT t' [(0,pA sb 0),(1,iN i),(4,.int .i64 (0)),(21,.bool false)]) ?_ ?_
 ·simp +decide only [pop_r1,g0_3,g1_3,g4_3,d8_,m9_,m10_,o11_,m12_,d13_,Xo 6,go_sem]
 rintro t14_ _ ⟨rfl,g0_14,g1_14,g4_14,g21_14, -⟩
 refine hK0 _ _ ?_
 refine WK.cond (v:=false) (by rw [evalO_tmp,g21_14];rfl) ?_
 refine WK.skip ?_
 refine WK.seq ?_
 refine WK.reg_g ?_
 have m16_:∀ Hq,exNil (pA sb 0) Hq=.val (pA sb 0) Hq 0 0:=fun _=>rfl
 have m17_:exLd1 (pA sb 12) H=.val (sC bg 0 (k) (2*k)) H (bit (sb)) 0:=exLd1_row hst h12
 have o18_:=okr (e:=e) hst (by omega)
 have m19_:∀ Hq,exIaS 1 (sC bg 0 (k) (2*k)) (iN i) Hq=.val (pA bg i) Hq 0 0:=fun Hq=>by rw [exIaS_int (by omega) (by omega)];simp
 have m20_:exLd1 (pA bg i) H=.val (v) H (bit (bg)) 0:=exLd1_row hrg hv
 have o21_:e.ok (bit (bg)) 0 H:=.read hrg.lt (fun h=>absurd h (by omega))
 have m22_:∀ Hq,exLen 1 v Hq=.val (vN ((0:Nat):Int)) Hq 0 0:=fun Hq=>hl.len Hq
 have m23_:Value.int .i64 (wrapF .i64 (((0:Nat):Int)-(1:Int)))=.int .i64 (-1):=rfl
 refine WOG.all (fun t' H'=>H=H'∧GT t' [(0,pA sb 0),(1,iN i),(4,.int .i64 (0)),(5,.int .i64 (-1))]) ?_ ?_
 ·simp +decide only [pop_r3,g0_14,g1_14,g4_14,g21_14,m16_,m17_,o18_,m19_,m20_,o21_,m22_,m23_,Xo 6,go_sem]
 rintro t24_ _ ⟨rfl,g0_24,g1_24,g4_24,g5_24, -⟩
 refine WK.seq ?_
 refine WK.seq ?_
 refine WK.reg_g ?_
 have d26_:decide ((-1:Int)<(0:Int))=true:=decide_eq_true (by omega)
 refine WOG.all (fun t' H'=>H=H'∧GT t' [(0,pA sb 0),(1,iN i),(4,.int .i64 (0)),(5,.int .i64 (-1)),(32,.bool true)]) ?_ ?_
 ·simp +decide only [pop_r4,g0_24,g1_24,g4_24,g5_24,d26_,Xo 6,go_sem]
 rintro t27_ _ ⟨rfl,g0_27,g1_27,g4_27,g5_27,g32_27, -⟩
 refine WK.cond (v:=true) (by rw [evalO_tmp,g32_27];rfl) ?_
 refine WK.seq ?_
 refine WK.reg_g ?_
 refine WOG.all (fun t' H'=>H=H'∧GT t' [(0,pA sb 0),(1,iN i),(4,.int .i64 (2)),(5,.int .i64 (-1))]) ?_ ?_
 ·simp +decide only [pop_r5,g0_27,g1_27,g4_27,g5_27,g32_27,Xo 6,go_sem]
 rintro t29_ _ ⟨rfl,g0_29,g1_29,g4_29,g5_29, -⟩
 refine WK.ret ⟨.inr rfl,rfl,[.int .i64 (2)],0,?_,.zero _ _,rfl,rfl⟩
 show resL Tb0 61 t29_ _ [.tmp 4]=_
 simp only [resL,g4_29];rfl
set_option maxRecDepth 10000 in
set_option maxHeartbeats 4000000 in
theorem pop_ok (S:SpX sp) {H:Hp} (hf:H.isFn=true) (he:e.n0≤H.nx) {sb:Nat} {L:List Value} (hes:e.n0≤sb) (hst:Row H sb 104 0 L) (h19:L[19]?=some (.bool false)) {bg k:Nat} {gs:List Value} (heg:e.n0≤bg) (hk8:k≤8) (h12:L[12]?=some (.slice (some ⟨bg,0,none⟩) k (2*k))) (hrg:Row H bg 22 0 gs) (hgl:gs.length=k) {i:Nat} (hi:i<k) {n b:Nat} {v:Value} {l0:List Value} {off kk:Nat} (hn:e.n0≤n) (hv:gs[i]?=some v) (hl:Lst n 3 H b v (l0++[iN (8*57344+8*off)])) (hl1:l0.length≤1000) {bm:Nat} {fm:By} (hem:e.n0≤bm) (h6:L[6]?=some (.pointer (some ⟨bm,0,none⟩))) (hr:ByU H bm 171 fm 65536) {us:List U} (h:Is (fun i=>fm (57344+i)) 8192 us) (d1:sb≠bm) (d2:bg≠bm) (d3:sb≠bg) (n1:sb<n) (n2:bm<n) (n3:bg<n) (hbl:b<H.nx) (hnx:n≤H.nx) (hm:(off,kk)∈places 8 us):EC Tb0 sp e 12 [pA sb 0,iN i] H fun v H'=>v=vN 0∧∃ f1 us1 v',FreeR (fun i=>fm (57344+i)) f1 8192 us us1 off kk∧ByU H' bm 171 (over fm 57344 8192 f1) 65536∧Row H' bg 22 0 (gs.set i v')∧Lst n 3 H' b v' l0∧KeptX (fun c=>c=bm∨c=bg) H H':=by
 refine EC.i2 (by rfl) pop_some pop_comp (S.no 12 (by decide) _ _) (by show 2≤61;decide) fun t0 g0 g1=>?_
 show WK Tb0 sp e ⟨6,61,none,false⟩ pop_k t0 [] H _
 unfold pop_k
 have lt1_:=hst.lt
 have lt2_:=hrg.lt
 have lt3_:=hr.lt
 have hbp:=hl.pos (i:=l0.length) (x:=iN (8*57344+8*off)) (by simp)
 have hln:(l0++[iN (8*57344+8*off)]).length=l0.length+1:=by simp
 have hcut:(l0++[iN (8*57344+8*off)]).take l0.length=l0:=by simp
 have hx0:KeptX (fun c=>c=bm∨c=bg) H H:=.refl hf
 have hin:=places_in hm
 have hi1:16≤off:=hin.1
 have hi2:off+kk≤fin 8 us:=hin.2
 have hile:=h.le
 refine WK.seq ?_
 refine WK.reg_g ?_
 refine WOG.all (fun t' H'=>H=H'∧GT t' [(0,pA sb 0),(1,iN i),(4,.int .i64 (0))]) ?_ ?_
 ·simp +decide only [pop_r0,g0,g1,Xo 6,go_sem]
 rintro t4_ _ ⟨rfl,g0_4,g1_4,g4_4, -⟩
 refine WK.seq ?_
 refine WK.seq ?_
 refine WK.reg_g ?_
 refine WOG.hide fun K0 hK0=>?_
 simp +decide only [pop_r1,g0_4,Xo 6,go_sem]
 refine EC.mono (dead_ok S hf (by omega) hst h19 (fun h=>absurd h (by omega))) fun v H6_ _ hv7_=>?_
 obtain ⟨rfl,hh8_⟩:=hv7_
 rw [hh8_];clear hh8_
 rw [WOGk]
 have d9_:decide (((i:Nat):Int)<(0:Int))=false:=decide_eq_false (by omega)
 have m10_:∀ Hq,exNil (pA sb 0) Hq=.val (pA sb 0) Hq 0 0:=fun _=>rfl
 have m11_:exLd1 (pA sb 12) H=.val (sC bg 0 (k) (2*k)) H (bit (sb)) 0:=exLd1_row hst h12
 have o12_:=okr (e:=e) hst (by omega)
 have m13_:∀ Hq,exLen 1 (sC bg 0 (k) (2*k)) Hq=.val (vN ((k:Nat))) Hq 0 0:=fun _=>rfl
 have d14_:decide (((i:Nat):Int)<((k:Nat):Int))=true:=decide_eq_true (by omega)
 refine WOG.all (fun t' H'=>H=H'∧GT t' [(0,pA sb 0),(1,iN i),(4,.int .i64 (0)),(21,.bool false)]) ?_ ?_
 ·simp +decide only [pop_r1,g0_4,g1_4,g4_4,d9_,m10_,m11_,o12_,m13_,d14_,Xo 6,go_sem]
 rintro t15_ _ ⟨rfl,g0_15,g1_15,g4_15,g21_15, -⟩
 refine hK0 _ _ ?_
 refine WK.cond (v:=false) (by rw [evalO_tmp,g21_15];rfl) ?_
 refine WK.skip ?_
 refine WK.seq ?_
 refine WK.reg_g ?_
 have m17_:∀ Hq,exNil (pA sb 0) Hq=.val (pA sb 0) Hq 0 0:=fun _=>rfl
 have m18_:exLd1 (pA sb 12) H=.val (sC bg 0 (k) (2*k)) H (bit (sb)) 0:=exLd1_row hst h12
 have o19_:=okr (e:=e) hst (by omega)
 have m20_:∀ Hq,exIaS 1 (sC bg 0 (k) (2*k)) (iN i) Hq=.val (pA bg i) Hq 0 0:=fun Hq=>by rw [exIaS_int (by omega) (by omega)];simp
 have m21_:exLd1 (pA bg i) H=.val (v) H (bit (bg)) 0:=exLd1_row hrg hv
 have o22_:e.ok (bit (bg)) 0 H:=.read hrg.lt (fun h=>absurd h (by omega))
 have m23_:∀ Hq,exLen 1 v Hq=.val (vN (((l0.length+1):Nat):Int)) Hq 0 0:=fun Hq=>by rw [hl.len,hln]
 have m24_:Value.int .i64 (wrapF .i64 (((l0.length+1:Nat):Int)-(1:Int)))=iN (l0.length):=wF (by omega)
 refine WOG.all (fun t' H'=>H=H'∧GT t' [(0,pA sb 0),(1,iN i),(4,.int .i64 (0)),(5,iN (l0.length))]) ?_ ?_
 ·simp +decide only [pop_r3,g0_15,g1_15,g4_15,g21_15,m17_,m18_,o19_,m20_,m21_,o22_,m23_,m24_,Xo 6,go_sem]
 rintro t25_ _ ⟨rfl,g0_25,g1_25,g4_25,g5_25, -⟩
 refine WK.seq ?_
 refine WK.seq ?_
 refine WK.reg_g ?_
 have d27_:decide (((l0.length:Nat):Int)<(0:Int))=false:=decide_eq_false (by omega)
 refine WOG.all (fun t' H'=>H=H'∧GT t' [(0,pA sb 0),(1,iN i),(4,.int .i64 (0)),(5,iN (l0.length)),(32,.bool false)]) ?_ ?_
 ·simp +decide only [pop_r4,g0_25,g1_25,g4_25,g5_25,d27_,Xo 6,go_sem]
 rintro t28_ _ ⟨rfl,g0_28,g1_28,g4_28,g5_28,g32_28, -⟩
 refine WK.cond (v:=false) (by rw [evalO_tmp,g32_28];rfl) ?_
 refine WK.skip ?_
 refine WK.seq ?_
 refine WK.reg_g ?_
 have m30_:∀ Hq,exNil (pA sb 0) Hq=.val (pA sb 0) Hq 0 0:=fun _=>rfl
 have m31_:exLd1 (pA sb 12) H=.val (sC bg 0 (k) (2*k)) H (bit (sb)) 0:=exLd1_row hst h12
 have o32_:=okr (e:=e) hst (by omega)
 have m33_:∀ Hq,exIaS 1 (sC bg 0 (k) (2*k)) (iN i) Hq=.val (pA bg i) Hq 0 0:=fun Hq=>by rw [exIaS_int (by omega) (by omega)];simp
 have m34_:exLd1 (pA bg i) H=.val (v) H (bit (bg)) 0:=exLd1_row hrg hv
 have o35_:e.ok (bit (bg)) 0 H:=.read hrg.lt (fun h=>absurd h (by omega))
 have m36_:∀ Hq,exIaS 1 v (iN (l0.length)) Hq=.val (pA b (l0.length)) Hq 0 0:=fun Hq=>hl.ia (i:=l0.length) (x:=iN (8*57344+8*off)) (by simp) Hq
 have m37_:exLd1 (pA b (l0.length)) H=.val (iN (8*57344+8*off)) H (bit (b)) 0:=hl.ld (i:=l0.length) (by simp)
 have o38_:e.ok (bit (b)) 0 H:=.read (by omega) (fun h=>absurd h (by omega))
 refine WOG.all (fun t' H'=>H=H'∧GT t' [(0,pA sb 0),(1,iN i),(4,.int .i64 (0)),(5,iN (l0.length)),(6,iN (8*57344+8*off))]) ?_ ?_
 ·simp +decide only [pop_r6,g0_28,g1_28,g4_28,g5_28,g32_28,m30_,m31_,o32_,m33_,m34_,o35_,m36_,m37_,o38_,Xo 6,go_sem]
 rintro t39_ _ ⟨rfl,g0_39,g1_39,g4_39,g5_39,g6_39, -⟩
 refine WK.seq ?_
 refine WK.draw_xx (fun _=>False) [.p,.p,.p,.q,.p,.p,.p,.p,.q,.p,.p,.q,.p,.p,.p,.x] (by omega) rfl ?_
 have m41_:∀ Hq,exNil (pA sb 0) Hq=.val (pA sb 0) Hq 0 0:=fun _=>rfl
 have m42_:exLd1 (pA sb 12) H=.val (sC bg 0 (k) (2*k)) H (bit (sb)) 0:=exLd1_row hst h12
 have o43_:=okr (e:=e) hst (by omega)
 have o44_:∀ cq,(bit (sb)).testBit cq=true→cq<H.nx:=the_bit (P:=fun cq=>cq<H.nx) (by have:=hst.lt;omega)
 have m45_:∀ Hq,exNil (pA sb 0) Hq=.val (pA sb 0) Hq 0 0:=fun _=>rfl
 have m46_:exLd1 (pA sb 12) H=.val (sC bg 0 (k) (2*k)) H (bit (sb)) 0:=exLd1_row hst h12
 have m47_:∀ Hq,exIaS 1 (sC bg 0 (k) (2*k)) (iN i) Hq=.val (pA bg i) Hq 0 0:=fun Hq=>by rw [exIaS_int (by omega) (by omega)];simp
 have m48_:exLd1 (pA bg i) H=.val (v) H (bit (bg)) 0:=exLd1_row hrg hv
 have o49_:e.ok (bit (bg)) 0 H:=.read hrg.lt (fun h=>absurd h (by omega))
 have o50_:∀ cq,(bit (bg)).testBit cq=true→cq<H.nx:=the_bit (P:=fun cq=>cq<H.nx) (by have:=hrg.lt;omega)
 obtain ⟨v51_,e52_,hl53_⟩:=hl.cut (i:=l0.length) (by omega)
 have r54_:Lst n 3 H b v51_ l0:=by rw [hcut] at hl53_;exact hl53_
 have m55_:∀ Hq,exIaS 1 (sC bg 0 (k) (2*k)) (iN i) Hq=.val (pA bg i) Hq 0 0:=fun Hq=>by rw [exIaS_int (by omega) (by omega)];simp
 obtain ⟨H56_,e57_,wr58_⟩:=exSt1_set (i:=i) (v:=v51_) hl53_.oneC hf hrg (by omega)
 have m59_:exSt 1 (pA bg i) v51_ H=.val U H56_ 0 (bit (bg)):=e57_
 have hf60_:=wr58_.fn
 have nx61_:H56_.nx=H.nx:=wr58_.nx
 have m62_:H.nx≤H56_.nx:=by omega
 have r63_:Row H56_ (bg) 22 0 ((gs).set i v51_):=wr58_.row
 have o64_:e.ok 0 (bit (bg)) H56_:=.write r63_.lt (fun h=>absurd h (by omega))
 have k65_:=hx0.wr wr58_.fn wr58_.nx wr58_.else_ (.inl (.inr rfl))
 refine WOX.all (fun t' H'=>H56_=H'∧GT t' [(0,pA sb 0),(4,.int .i64 (0)),(6,iN (8*57344+8*off))]) ?_ ?_
 ·simp +decide only [pop_r7,g0_39,g1_39,g4_39,g5_39,g6_39,m41_,m42_,o43_,o44_,m45_,m46_,o43_,o44_,m47_,m48_,o49_,o50_,e52_,m55_,m59_,m62_,o64_,Xo 6,go_sem]
  all_goals ((repeat' apply And.intro) <;> assumption)
 rintro t66_ _ ⟨rfl,g0_66,g4_66,g6_66, -⟩
 refine WK.seq ?_
 refine WK.reg_g ?_
 refine WOG.hide fun K0 hK0=>?_
 have r68_:=hst.ot wr58_.else_ (by omega)
 have r69_:=hr.ot wr58_.else_ (by omega)
 simp +decide only [pop_r8,g0_66,g6_66,Xo 6,go_sem]
 refine EC.mono (rfreeh_ok S hf60_ (by omega) r68_ h6 h19 r69_ (fun h=>absurd h (by omega)) (fun h=>absurd h (by omega)) (fun h=>absurd h (by omega)) (k:=kk) (off:=off) (us:=us) d1 h hm) fun v H70_ _ hv71_=>?_
 obtain ⟨rfl,f1,us1,hfr,hovF⟩:=hv71_
 have hf72_:=hovF.fn
 have nx73_:=hovF.nx
 have k74_:=k65_.upd hovF.fn hovF.nx hovF.old (.inl (.inl rfl))
 rw [WOGk]
 refine WOG.all (fun t' H'=>H70_=H'∧t'.get 4=.int .i64 (0)) ?_ ?_
 ·simp +decide only [pop_r8,g0_66,g4_66,g6_66,Xo 6,go_sem]
 rintro t75_ _ ⟨rfl,g4_75⟩
 refine hK0 _ _ ?_
 refine WK.seq ?_
 refine WK.reg_g ?_
 refine WOG.all (fun t' H'=>H70_=H'∧t'.get 4=.int .i64 (0)) ?_ ?_
 ·simp +decide only [pop_r9,g4_75,Xo 6,go_sem]
 rintro t77_ _ ⟨rfl,g4_77⟩
 have r79_:=(r54_.keep (fun hb_=>wr58_.else_ _ (by omega))).keep (fun hb_=>hovF.old _ (by omega) (by omega))
 have r80_:=r63_.mo hovF.old (by omega)
 refine WK.ret ⟨.inr rfl,rfl,[.int .i64 (0)],0,?_,.zero _ _,rfl,f1,us1,_,hfr,hovF.row,r80_,r79_,k74_⟩
 show resL Tb0 61 t77_ _ [.tmp 4]=_
 simp only [resL,g4_77];rfl
set_option maxRecDepth 10000 in
set_option maxHeartbeats 4000000 in
theorem push_ok (S:SpX sp) {H:Hp} (hf:H.isFn=true) (he:e.n0≤H.nx) {sb:Nat} {L:List Value} (hes:e.n0≤sb) (hst:Row H sb 104 0 L) (h19:L[19]?=some (.bool false)) {bg k:Nat} {gs:List Value} (heg:e.n0≤bg) (hk8:k≤8) (h12:L[12]?=some (.slice (some ⟨bg,0,none⟩) k (2*k))) (hrg:Row H bg 22 0 gs) (hgl:gs.length=k) {i:Nat} (hi:i<k) {n b:Nat} {v:Value} {l:List Value} (hn:e.n0≤n) (hv:gs[i]?=some v) (hl:Lst n 3 H b v l) {bm:Nat} {fm:By} (hem:e.n0≤bm) (h6:L[6]?=some (.pointer (some ⟨bm,0,none⟩))) (hr:ByU H bm 171 fm 65536) {us:List U} (h:Is (fun i=>fm (57344+i)) 8192 us) (d1:sb≠bm) (d2:bg≠bm) (d3:sb≠bg) (n1:sb<n) (n2:bm<n) (n3:bg<n) (hbl:b<H.nx) (hnx:n≤H.nx) {bc cc oc kk:Nat} {C:List Value} (hec:e.n0≤bc) (h5:L[5]?=some (.slice (some ⟨bc,0,none⟩) k cc)) (hct:Row H bc 3 oc C) (hci:C[i]?=some (iN (8*kk))) (hk1:1≤kk) (hk2:kk≤64) (d4:bc≠bm) (n4:bc<n) (hll:l.length≤1000):EC Tb0 sp e 13 [pA sb 0,iN i] H fun v H'=>(v=vN 5∧OvK H bm 171 fm 65536 H')∨(v=vN 0∧∃ f1 us1 off v' b',AllocR (fun i=>fm (57344+i)) f1 8192 us us1 off kk∧ByU H' bm 171 (over fm 57344 8192 f1) 65536∧Row H' bg 22 0 (gs.set i v')∧Lst n 3 H' b' v' (l++[iN (8*57344+8*off)])∧(b'=b∨H.nx≤b')∧b'<H'.nx∧KeptX (fun c=>c=bm∨c=bg∨(n≤c∧c=b)) H H'):=by
 refine EC.i2 (by rfl) push_some push_comp (S.no 13 (by decide) _ _) (by show 2≤59;decide) fun t0 g0 g1=>?_
 show WK Tb0 sp e ⟨6,59,none,false⟩ push_k t0 [] H _
 unfold push_k
 have lt1_:=hst.lt
 have lt2_:=hrg.lt
 have lt3_:=hr.lt
 have lt4_:=hct.lt
 have hx0:KeptX (fun c=>c=bm∨c=bg∨(n≤c∧c=b)) H H:=.refl hf
 refine WK.seq ?_
 refine WK.reg_g ?_
 refine WOG.all (fun t' H'=>H=H'∧GT t' [(0,pA sb 0),(1,iN i),(4,.int .i64 (0))]) ?_ ?_
 ·simp +decide only [push_r0,g0,g1,Xo 6,go_sem]
 rintro t5_ _ ⟨rfl,g0_5,g1_5,g4_5, -⟩
 refine WK.seq ?_
 refine WK.seq ?_
 refine WK.reg_g ?_
 refine WOG.hide fun K0 hK0=>?_
 simp +decide only [push_r1,g0_5,Xo 6,go_sem]
 refine EC.mono (dead_ok S hf (by omega) hst h19 (fun h=>absurd h (by omega))) fun v H7_ _ hv8_=>?_
 obtain ⟨rfl,hh9_⟩:=hv8_
 rw [hh9_];clear hh9_
 rw [WOGk]
 have d10_:decide (((i:Nat):Int)<(0:Int))=false:=decide_eq_false (by omega)
 have m11_:∀ Hq,exNil (pA sb 0) Hq=.val (pA sb 0) Hq 0 0:=fun _=>rfl
 have m12_:exLd1 (pA sb 12) H=.val (sC bg 0 (k) (2*k)) H (bit (sb)) 0:=exLd1_row hst h12
 have o13_:=okr (e:=e) hst (by omega)
 have m14_:∀ Hq,exLen 1 (sC bg 0 (k) (2*k)) Hq=.val (vN ((k:Nat))) Hq 0 0:=fun _=>rfl
 have d15_:decide (((i:Nat):Int)<((k:Nat):Int))=true:=decide_eq_true (by omega)
 refine WOG.all (fun t' H'=>H=H'∧GT t' [(0,pA sb 0),(1,iN i),(4,.int .i64 (0)),(22,.bool false)]) ?_ ?_
 ·simp +decide only [push_r1,g0_5,g1_5,g4_5,d10_,m11_,m12_,o13_,m14_,d15_,Xo 6,go_sem]
 rintro t16_ _ ⟨rfl,g0_16,g1_16,g4_16,g22_16, -⟩
 refine hK0 _ _ ?_
 refine WK.cond (v:=false) (by rw [evalO_tmp,g22_16];rfl) ?_
 refine WK.skip ?_
 refine WK.seq ?_
 refine WK.reg_g ?_
 refine WOG.hide fun K0 hK0=>?_
 have m18_:∀ Hq,exNil (pA sb 0) Hq=.val (pA sb 0) Hq 0 0:=fun _=>rfl
 have m19_:exLd1 (pA sb 5) H=.val (sC bc 0 (k) (cc)) H (bit (sb)) 0:=exLd1_row hst h5
 have o20_:=okr (e:=e) hst (by omega)
 have m21_:∀ Hq,exIaS 1 (sC bc 0 (k) (cc)) (iN i) Hq=.val (pA bc i) Hq 0 0:=fun Hq=>by rw [exIaS_int (by omega) (by omega)];simp
 have m22_:exLd1 (pA bc i) H=.val (iN (8*kk)) H (bit (bc)) 0:=exLd1_row hct hci
 have o23_:e.ok (bit (bc)) 0 H:=.read hct.lt (fun h=>absurd h (by omega))
 simp +decide only [push_r3,g0_16,g1_16,m18_,m19_,o20_,m21_,m22_,o23_,Xo 6,go_sem]
 refine EC.mono (ralloch_ok S hf (by omega) hst h6 h19 hr (fun h=>absurd h (by omega)) (fun h=>absurd h (by omega)) (fun h=>absurd h (by omega)) (k:=kk) (us:=us) d1 h hk1 (by omega)) fun v H24_ _ hv25_=>?_
 rcases hv25_ with ⟨rfl,hovA⟩ | ⟨f1,us1,off,rfl,hall,hovA⟩
 ·
  have hf26_:=hovA.fn
  have nx27_:=hovA.nx
  have k28_:=hx0.upd hovA.fn hovA.nx hovA.old (.inl (.inl rfl))
  rw [WOGk]
  have m29_:∀ Hq,exExt (.tuple #[.int .i64 (0),.bool false,.int .i64 (0)]) 0 Hq=.val (.int .i64 (0)) Hq 0 0:=fun _=>rfl
  have m30_:∀ Hq,exExt (.tuple #[.int .i64 (0),.bool false,.int .i64 (0)]) 1 Hq=.val (.bool false) Hq 0 0:=fun _=>rfl
  have m31_:∀ Hq,exExt (.tuple #[.int .i64 (0),.bool false,.int .i64 (0)]) 2 Hq=.val (.int .i64 (0)) Hq 0 0:=fun _=>rfl
  refine WOG.all (fun t' H'=>H24_=H'∧GT t' [(0,pA sb 0),(1,iN i),(4,.int .i64 (0)),(5,.int .i64 (0)),(6,.bool false),(7,.int .i64 (0))]) ?_ ?_
  ·simp +decide only [push_r3,g0_16,g1_16,g4_16,g22_16,m29_,m30_,m31_,Xo 6,go_sem]
  rintro t32_ _ ⟨rfl,g0_32,g1_32,g4_32,g5_32,g6_32,g7_32, -⟩
  refine hK0 _ _ ?_
  refine WK.seq ?_
  refine WK.seq ?_
  refine WK.reg_g ?_
  have d34_:decide ((0:Int)=(0:Int))=true:=decide_eq_true (by omega)
  refine WOG.all (fun t' H'=>H24_=H'∧GT t' [(0,pA sb 0),(1,iN i),(4,.int .i64 (0)),(5,.int .i64 (0)),(42,.bool true)]) ?_ ?_
  ·simp +decide only [push_r4,g0_32,g1_32,g4_32,g5_32,g6_32,g7_32,d34_,Xo 6,go_sem]
  rintro t35_ _ ⟨rfl,g0_35,g1_35,g4_35,g5_35,g42_35, -⟩
  refine WK.cond (v:=true) (by rw [evalO_tmp,g42_35];rfl) ?_
  refine WK.seq ?_
  refine WK.reg_g ?_
  refine WOG.all (fun t' H'=>H24_=H'∧GT t' [(0,pA sb 0),(1,iN i),(4,.int .i64 (5)),(5,.int .i64 (0))]) ?_ ?_
  ·simp +decide only [push_r5,g0_35,g1_35,g4_35,g5_35,g42_35,Xo 6,go_sem]
  rintro t37_ _ ⟨rfl,g0_37,g1_37,g4_37,g5_37, -⟩
  refine WK.ret ⟨.inr rfl,rfl,[.int .i64 (5)],0,?_,.zero _ _,.inl ⟨rfl,hovA⟩⟩
  show resL Tb0 59 t37_ _ [.tmp 4]=_
  simp only [resL,g4_37];rfl
 ·
  obtain ⟨ho1,ho2⟩:=hall.in_
  have hf26_:=hovA.fn
  have nx27_:=hovA.nx
  have k28_:=hx0.upd hovA.fn hovA.nx hovA.old (.inl (.inl rfl))
  rw [WOGk]
  have m29_:∀ Hq,exExt (.tuple #[iN (8*57344+8*off),.bool true,.int .i64 (0)]) 0 Hq=.val (iN (8*57344+8*off)) Hq 0 0:=fun _=>rfl
  have m30_:∀ Hq,exExt (.tuple #[iN (8*57344+8*off),.bool true,.int .i64 (0)]) 1 Hq=.val (.bool true) Hq 0 0:=fun _=>rfl
  have m31_:∀ Hq,exExt (.tuple #[iN (8*57344+8*off),.bool true,.int .i64 (0)]) 2 Hq=.val (.int .i64 (0)) Hq 0 0:=fun _=>rfl
  refine WOG.all (fun t' H'=>H24_=H'∧GT t' [(0,pA sb 0),(1,iN i),(4,.int .i64 (0)),(5,iN (8*57344+8*off)),(6,.bool true),(7,.int .i64 (0))]) ?_ ?_
  ·simp +decide only [push_r3,g0_16,g1_16,g4_16,g22_16,m29_,m30_,m31_,Xo 6,go_sem]
  rintro t32_ _ ⟨rfl,g0_32,g1_32,g4_32,g5_32,g6_32,g7_32, -⟩
  refine hK0 _ _ ?_
  refine WK.seq ?_
  refine WK.seq ?_
  refine WK.reg_g ?_
  have d34_:decide ((0:Int)=(0:Int))=true:=decide_eq_true (by omega)
  refine WOG.all (fun t' H'=>H24_=H'∧GT t' [(0,pA sb 0),(1,iN i),(4,.int .i64 (0)),(5,iN (8*57344+8*off)),(42,.bool false)]) ?_ ?_
  ·simp +decide only [push_r4,g0_32,g1_32,g4_32,g5_32,g6_32,g7_32,d34_,Xo 6,go_sem]
  rintro t35_ _ ⟨rfl,g0_35,g1_35,g4_35,g5_35,g42_35, -⟩
  refine WK.cond (v:=false) (by rw [evalO_tmp,g42_35];rfl) ?_
  refine WK.skip ?_
  refine WK.seq ?_
  refine WK.draw_xx (fun c=>c=sb) [.p,.p,.p,.u,.p,.p,.p,.p,.u,.p,.p,.q,.p,.q,.z,.p,.x] (by omega) rfl ?_
  have m37_:∀ Hq,exNil (pA sb 0) Hq=.val (pA sb 0) Hq 0 0:=fun _=>rfl
  have r38_:=hst.mo hovA.old (by omega)
  have m39_:exLd1 (pA sb 12) H24_=.val (sC bg 0 (k) (2*k)) H24_ (bit (sb)) 0:=exLd1_row r38_ h12
  have o40_:=okr (e:=e) r38_ (by omega)
  have o41_:∀ cq,(bit (sb)).testBit cq=true→cq<H24_.nx∧cq=sb:=the_bit (P:=fun cq=>cq<H24_.nx∧cq=sb) ⟨by have:=hst.lt;omega,rfl⟩
  have m42_:∀ Hq,exNil (pA sb 0) Hq=.val (pA sb 0) Hq 0 0:=fun _=>rfl
  have m43_:exLd1 (pA sb 12) H24_=.val (sC bg 0 (k) (2*k)) H24_ (bit (sb)) 0:=exLd1_row r38_ h12
  have m44_:∀ Hq,exIaS 1 (sC bg 0 (k) (2*k)) (iN i) Hq=.val (pA bg i) Hq 0 0:=fun Hq=>by rw [exIaS_int (by omega) (by omega)];simp
  have r45_:=hrg.mo hovA.old (by omega)
  have m46_:exLd1 (pA bg i) H24_=.val (v) H24_ (bit (bg)) 0:=exLd1_row r45_ hv
  have o47_:e.ok (bit (bg)) 0 H24_:=.read r45_.lt (fun h=>absurd h (by omega))
  have o48_:∀ cq,(bit (bg)).testBit cq=true→cq<H24_.nx:=the_bit (P:=fun cq=>cq<H24_.nx) (by have:=r45_.lt;omega)
  obtain ⟨H49_,nb50_⟩:=newSl hf26_ [iN (8*57344+8*off)] 3
  have m51_:∀ t:T Value,t.get 55=iN (8*57344+8*off)→fillL t [.int .i64 (0)] [(0,1,.tmp 55)]=some [iN (8*57344+8*off)]:=fun t h0=>by simp only [fillL,evalO_tmp,h0];rfl
  have m52_:alloc1 (blkL [iN (8*57344+8*off)] 3 0) H24_ (fun i=>mkSlV (some (i,0)) 1 1 false) 0 0=.val (.slice (some ⟨H24_.nx,0,none⟩) (1) (2*1)) H49_ 0 0:=nb50_.al
  have hf53_:=nb50_.kept.fn
  have nx54_:H49_.nx=H24_.nx+1:=nb50_.nx
  have m55_:H24_.nx≤H49_.nx:=by omega
  have k56_:=k28_.kept nb50_.kept
  have lt57_:=nb50_.row.lt
  have r58_:=(hl.keep (fun hb_=>hovA.old _ (by omega) (by omega))).mv (by omega) nb50_.kept
  have r74_:=r38_.mv nb50_.kept
  have r75_:=r45_.mv nb50_.kept
  have r76_:=hovA.row.mv nb50_.kept
  have r77_:=(hct.mo hovA.old (by omega)).mv nb50_.kept
  obtain ⟨v59_,b60_,H61_,r62_,w63_,e64_,o65_,hf66_,nx67_,nx68_,wn69_,hl70_,hb71_,lt72_,hk73_⟩:=Lst.app (e:=e) (by_:=8) r58_ hf53_ (by omega) (by omega) (by omega) nb50_.row rfl (fun h=>absurd h (by omega)) (by decide) (by omega)
  have o78_:∀ cq,w63_.testBit cq=true∨(H49_.nx≤cq∧cq<H61_.nx)→¬ cq=sb:=fun cq hq=>by have:=wn69_ cq hq;omega
  have r79_:=r74_.of_blk (hk73_ _ (by omega) (by omega))
  have r80_:=r75_.of_blk (hk73_ _ (by omega) (by omega))
  have r81_:=r76_.of_blk (hk73_ _ (by omega) (by omega))
  have r82_:=r77_.of_blk (hk73_ _ (by omega) (by omega))
  have k83_:=k56_.step hf66_ (by omega) (fun c hc hx=>hk73_ c (by omega) (by have hx_:¬ (c=bm∨c=bg∨(n≤c∧c=b)):=hx;omega))
  have m84_:∀ Hq,exIaS 1 (sC bg 0 (k) (2*k)) (iN i) Hq=.val (pA bg i) Hq 0 0:=fun Hq=>by rw [exIaS_int (by omega) (by omega)];simp
  obtain ⟨H85_,e86_,wr87_⟩:=exSt1_set (i:=i) (v:=v59_) hl70_.oneC hf66_ r80_ (by omega)
  have m88_:exSt 1 (pA bg i) v59_ H61_=.val U H85_ 0 (bit (bg)):=e86_
  have hf89_:=wr87_.fn
  have nx90_:H85_.nx=H61_.nx:=wr87_.nx
  have m91_:H61_.nx≤H85_.nx:=by omega
  have r92_:Row H85_ (bg) 22 0 ((gs).set i v59_):=wr87_.row
  have o93_:e.ok 0 (bit (bg)) H85_:=.write r92_.lt (fun h=>absurd h (by omega))
  have k94_:=k83_.wr wr87_.fn wr87_.nx wr87_.else_ (.inl (.inr (.inl rfl)))
  refine WOX.all (fun t' H'=>H85_=H'∧t'.get 4=.int .i64 (0)) ?_ ?_
  ·simp +decide only [push_r6,g0_35,g1_35,g4_35,g5_35,g42_35,m37_,m39_,o40_,o41_,m42_,m43_,o40_,o41_,m44_,m46_,o47_,o48_,m51_,exFill_some,m52_,m55_,e64_,o65_,nx67_,o78_,m84_,m88_,m91_,o93_,Xo 6,go_sem]
   all_goals ((repeat' apply And.intro) <;> assumption)
  rintro t95_ _ ⟨rfl,g4_95⟩
  refine WK.seq ?_
  refine WK.reg_g ?_
  refine WOG.all (fun t' H'=>H85_=H'∧t'.get 4=.int .i64 (0)) ?_ ?_
  ·simp +decide only [push_r7,g4_95,Xo 6,go_sem]
  rintro t97_ _ ⟨rfl,g4_97⟩
  have r99_:=r81_.ot wr87_.else_ (by omega)
  have r100_:=hl70_.keep (fun hb_=>wr87_.else_ _ (by omega))
  refine WK.ret ⟨.inr rfl,rfl,[.int .i64 (0)],0,?_,.zero _ _,.inr ⟨rfl,f1,us1,off,v59_,b60_,hall,r99_,r92_,r100_,by omega,by omega,k94_⟩⟩
  show resL Tb0 59 t97_ _ [.tmp 4]=_
  simp only [resL,g4_97];rfl
end
end Go.Proofs.RS
end
noncomputable section
namespace Go.Proofs.RS
open Go Go.Ev Go.Proofs
noncomputable def stk_body:Code:=(Tryz.f3.body).getD .skip
def stk_r0:List CO:=[
 oN 4 (.mv (.const (.bool false)))]
def stk_r1:List CO:=[
 oN 26 (.call (.func 6) []),
 oN 27 (.un .not (.tmp 26))]
def stk_r2:List CO:=[
 oN 4 (.mv (.const (.bool false)))]
def stk_r3:List CO:=[
 oN 28 (.mv (.tmp 0)),
 oN 29 (.len 1 (.tmp 28)),
 oN 30 (.bin .lss (.tmp 29) (oK 1)),
 oN 31 (.mv (.tmp 30)),
 ⟨(some 32),(some (31,false)),.mv (.tmp 0)⟩,
 ⟨(some 33),(some (31,false)),.len 1 (.tmp 32)⟩,
 ⟨(some 34),(some (31,false)),.bin .gtr (.tmp 33) (.const (.int .i64 (8)))⟩,
 oN 35 (.pick (.tmp 31) (.const (.bool true)) (.tmp 34)),
 oN 36 (.mv (.tmp 35)),
 ⟨(some 37),(some (36,false)),.mv (.tmp 1)⟩,
 ⟨(some 38),(some (36,false)),.len 1 (.tmp 37)⟩,
 ⟨(some 39),(some (36,false)),.bin .gtr (.tmp 38) (.const (.int .i64 (60)))⟩,
 oN 40 (.pick (.tmp 36) (.const (.bool true)) (.tmp 39))]
def stk_r4:List CO:=[
 oN 4 (.mv (.const (.bool true)))]
def stk_r5:List CO:=[
 oN 42 (.call (.func 7) []),
 oN 41 (.mv (.tmp 42)),
 oN 43 (.ext (.tmp 41) 0),
 oN 44 (.ext (.tmp 41) 1),
 oN 5 (.alloc (blkL [.slice none 0 0,.int .i64 (0),.slice none 0 0,.slice none 0 0,.slice none 0 0,.slice none 0 0] 29 0)),
 oN 6 (.alloc (blkL [.slice none 0 0,.slice none 0 0,.int .i64 (0)] 32 0)),
 oU (.st 6 (.tmp 5) (.tmp 43)),
 oU (.st 3 (.tmp 6) (.tmp 44))]
def stk_r6:List CO:=[
 oN 45 (.fa 5 (.tmp 5)),
 oU (.st 1 (.tmp 45) (.const (.slice none 0 0)))]
def stk_r7:List CO:=[
 oN 46 (.mv (.tmp 0)),
 oN 47 (.len 1 (.tmp 46)),
 oN 48 (.mv (oK 0))]
def stk_r8:List CO:=[
 oN 49 (.bin .lss (.tmp 48) (.tmp 47))]
def stk_r9:List CO:=[
 oN 50 (.iaS 1 (.tmp 46) (.tmp 48)),
 oN 51 (.ld1 (.tmp 50)),
 oN 8 (.mv (.tmp 51))]
def stk_r10:List CO:=[
 oN 52 (.fa 5 (.tmp 5)),
 oN 53 (.ld1 (.tmp 52)),
 oN 54 (.mv (.tmp 8)),
 oN 55 (.bin .rem (.tmp 54) (oK 64)),
 oN 56 (.bin .add (.tmp 55) (oK 64)),
 oN 57 (.bin .rem (.tmp 56) (oK 64)),
 oN 58 (.bin .mul (oK 8) (.tmp 57)),
 oN 59 (.bin .add (oK 8) (.tmp 58)),
 oN 60 (.bslice 1 3 [.int .i64 (0)] [(0,1,(.tmp 59))]),
 oN 61 (.app 3 1 8 (.tmp 53) (.tmp 60)),
 oN 62 (.fa 5 (.tmp 5)),
 oU (.st 1 (.tmp 62) (.tmp 61))]
def stk_r11:List CO:=[
 oN 63 (.bin .add (.tmp 48) (oK 1)),
 oN 48 (.mv (.tmp 63))]
noncomputable def stk_l12:KC :=
 (.seq (.reg stk_r8)
 (.seq (.cond (.tmp 49) .skip
  (.exit 0))
 (.seq (.block 1 (.seq (.reg stk_r9)
  (.reg stk_r10)))
 (.reg stk_r11))))
def stk_r13:List CO:=[
 oN 65 (.ldN 6 (.tmp 5)),
 oN 66 (.ldN 3 (.tmp 6)),
 oN 67 (.call (.func 8) [(.tmp 65),(.tmp 66)]),
 oN 64 (.mv (.tmp 67)),
 oN 68 (.ext (.tmp 64) 0),
 oN 69 (.ext (.tmp 64) 1),
 oN 9 (.alloc (blkL [.pointer none] 35 0)),
 oU (.st 1 (.tmp 9) (.tmp 68)),
 oN 10 (.mv (.tmp 69))]
def stk_r14:List CO:=[
 oN 70 (.mv (.tmp 10)),
 oN 71 (.eq true (.one .i) (.tmp 70) (oK 0)),
 oN 72 (.mv (.tmp 71)),
 ⟨(some 73),(some (72,false)),.ld1 (.tmp 9)⟩,
 ⟨(some 74),(some (72,false)),.eq false (.one .p) (.tmp 73) (.const (.pointer none))⟩,
 oN 75 (.pick (.tmp 72) (.const (.bool true)) (.tmp 74))]
def stk_r15:List CO:=[
 oN 4 (.mv (.const (.bool false)))]
def stk_r16:List CO:=[
 oN 76 (.build [.int .i64 (0),.int .i64 (0),.int .i64 (0),.bool false,.string ⟨#[]⟩] [(0,1,(oK 3)),(1,1,(oK 1))]),
 oN 11 (.alloc (blkL [.int .i64 (0),.int .i64 (0),.int .i64 (0),.bool false,.string ⟨#[]⟩] 40 0)),
 oU (.st 5 (.tmp 11) (.tmp 76))]
def stk_r17:List CO:=[
 oN 77 (.mv (.tmp 0)),
 oN 78 (.len 1 (.tmp 77)),
 oN 79 (.mkSl 45 24 [.slice none 0 0] (.tmp 78) (.tmp 78)),
 oN 12 (.mv (.tmp 79))]
def stk_r18:List CO:=[
 oN 80 (.mkF (.func 9) [] [(.tmp 9),(.tmp 5),(.tmp 11)]),
 oN 13 (.mv (.tmp 80))]
def stk_r19:List CO:=[
 oN 81 (.mv (.tmp 1)),
 oN 82 (.len 1 (.tmp 81)),
 oN 83 (.mv (oK 0))]
def stk_r20:List CO:=[
 oN 84 (.bin .lss (.tmp 83) (.tmp 82))]
def stk_r21:List CO:=[
 oN 85 (.mv (.tmp 83)),
 oN 86 (.iaS 1 (.tmp 81) (.tmp 83)),
 oN 87 (.ld1 (.tmp 86)),
 oN 14 (.mv (.tmp 85)),
 oN 15 (.mv (.tmp 87))]
def stk_r22:List CO:=[
 oN 88 (.mv (.tmp 15)),
 oN 89 (.mv (.tmp 0)),
 oN 90 (.len 1 (.tmp 89)),
 oN 91 (.bin .rem (.tmp 88) (.tmp 90)),
 oN 92 (.mv (.tmp 0)),
 oN 93 (.len 1 (.tmp 92)),
 oN 94 (.bin .add (.tmp 91) (.tmp 93)),
 oN 95 (.mv (.tmp 0)),
 oN 96 (.len 1 (.tmp 95)),
 oN 97 (.bin .rem (.tmp 94) (.tmp 96)),
 oN 16 (.mv (.tmp 97))]
def stk_r23:List CO:=[
 oN 98 (.mv (.tmp 15)),
 oN 99 (.bin .lss (.tmp 98) (oK 0))]
def stk_r24:List CO:=[
 oN 100 (.mv (.tmp 12)),
 oN 101 (.mv (.tmp 16)),
 oN 102 (.iaS 1 (.tmp 100) (.tmp 101)),
 oN 103 (.ld1 (.tmp 102)),
 oN 104 (.len 1 (.tmp 103)),
 oN 17 (.mv (.tmp 104))]
def stk_r25:List CO:=[
 oN 105 (.ld1 (.tmp 9)),
 oN 106 (.mv (.tmp 16)),
 oN 107 (.call (.func 12) [(.tmp 105),(.tmp 106)]),
 oN 18 (.mv (.tmp 107))]
def stk_r26:List CO:=[
 oN 108 (.mv (.tmp 18)),
 oN 109 (.eq false (.one .i) (.tmp 108) (oK 0)),
 oN 110 (.mv (.tmp 17)),
 oN 111 (.bin .gtr (.tmp 110) (oK 0)),
 oN 112 (.eq true (.one .b) (.tmp 109) (.tmp 111))]
def stk_r27:List CO:=[
 oN 4 (.mv (.const (.bool false)))]
def stk_r28:List CO:=[
 oN 113 (.mv (.tmp 12)),
 oN 114 (.mv (.tmp 16)),
 oN 115 (.mv (.tmp 12)),
 oN 116 (.mv (.tmp 16)),
 oN 117 (.iaS 1 (.tmp 115) (.tmp 116)),
 oN 118 (.ld1 (.tmp 117)),
 oN 119 (.mv (.tmp 17)),
 oN 120 (.bin .sub (.tmp 119) (oK 1)),
 oN 121 (.max (oK 0) (.tmp 120)),
 oN 122 (.slL 1 (.tmp 118) none (some (.tmp 121)) none),
 oN 123 (.iaS 1 (.tmp 113) (.tmp 114)),
 oU (.st 1 (.tmp 123) (.tmp 122))]
def stk_r29:List CO:=[
 oN 124 (.ld1 (.tmp 9)),
 oN 125 (.mv (.tmp 16)),
 oN 126 (.call (.func 13) [(.tmp 124),(.tmp 125)]),
 oN 127 (.eq false (.one .i) (.tmp 126) (oK 0))]
def stk_r30:List CO:=[
 oN 128 (.mv (.tmp 12)),
 oN 129 (.mv (.tmp 16)),
 oN 130 (.mv (.tmp 12)),
 oN 131 (.mv (.tmp 16)),
 oN 132 (.iaS 1 (.tmp 130) (.tmp 131)),
 oN 133 (.ld1 (.tmp 132)),
 oN 134 (.mv (.tmp 14)),
 oN 135 (.bin .add (oK 33) (.tmp 134)),
 oN 136 (.cInt .u8 (.tmp 135)),
 oN 137 (.bslice 1 5 [.int .u8 (0)] [(0,1,(.tmp 136))]),
 oN 138 (.app 5 1 1 (.tmp 133) (.tmp 137)),
 oN 139 (.iaS 1 (.tmp 128) (.tmp 129)),
 oU (.st 1 (.tmp 139) (.tmp 138))]
def stk_r31:List CO:=[
 oN 140 (.mv (.tmp 13)),
 oN 141 (.mv (.tmp 16)),
 oN 142 (.mv (.tmp 14)),
 oN 143 (.bin .add (oK 33) (.tmp 142)),
 oN 144 (.cInt .u8 (.tmp 143)),
 oN 145 (.call (.tmp 140) [(.tmp 141),(.tmp 144)]),
 oN 146 (.un .not (.tmp 145))]
def stk_r32:List CO:=[
 oN 4 (.mv (.const (.bool false)))]
def stk_r33:List CO:=[
 oN 147 (.mv (.tmp 12)),
 oN 148 (.len 1 (.tmp 147)),
 oN 149 (.mv (oK 0))]
def stk_r34:List CO:=[
 oN 150 (.bin .lss (.tmp 149) (.tmp 148))]
def stk_r35:List CO:=[
 oN 151 (.mv (.tmp 149)),
 oN 152 (.iaS 1 (.tmp 147) (.tmp 149)),
 oN 153 (.ld1 (.tmp 152)),
 oN 19 (.mv (.tmp 151)),
 oN 20 (.mv (.tmp 153))]
def stk_r36:List CO:=[
 oN 154 (.ld1 (.tmp 9)),
 oN 155 (.mv (.tmp 19)),
 oN 156 (.call (.func 14) [(.tmp 154),(.tmp 155)]),
 oN 157 (.mv (.tmp 20)),
 oN 158 (.len 1 (.tmp 157)),
 oN 159 (.eq true (.one .i) (.tmp 156) (.tmp 158))]
def stk_r37:List CO:=[
 oN 4 (.mv (.const (.bool false)))]
def stk_r38:List CO:=[
 oN 160 (.mv (.tmp 20)),
 oN 161 (.len 1 (.tmp 160)),
 oN 162 (.eq false (.one .i) (.tmp 161) (oK 0))]
def stk_r39:List CO:=[
 oN 164 (.ld1 (.tmp 9)),
 oN 165 (.mv (.tmp 19)),
 oN 166 (.call (.func 10) [(.tmp 164),(oK 5),(oK 0),(.tmp 165)]),
 oN 163 (.mv (.tmp 166)),
 oN 167 (.ext (.tmp 163) 0),
 oN 168 (.ext (.tmp 163) 1),
 oN 21 (.mv (.tmp 167)),
 oN 22 (.mv (.tmp 168))]
def stk_r40:List CO:=[
 oN 169 (.fa 5 (.tmp 5)),
 oN 170 (.ld1 (.tmp 169)),
 oN 171 (.mv (.tmp 19)),
 oN 172 (.iaS 1 (.tmp 170) (.tmp 171)),
 oN 173 (.ld1 (.tmp 172)),
 oN 174 (.bin .quo (.tmp 173) (oK 8)),
 oN 175 (.mv (oK 0))]
def stk_r41:List CO:=[
 oN 176 (.bin .lss (.tmp 175) (.tmp 174))]
def stk_r42:List CO:=[
 oN 177 (.mv (.tmp 175)),
 oN 23 (.mv (.tmp 177))]
def stk_r43:List CO:=[
 oN 179 (.ld1 (.tmp 9)),
 oN 180 (.mv (.tmp 21)),
 oN 181 (.mv (.tmp 23)),
 oN 182 (.bin .mul (oK 8) (.tmp 181)),
 oN 183 (.bin .add (.tmp 180) (.tmp 182)),
 oN 184 (.ldN 5 (.tmp 11)),
 oN 185 (.call (.func 15) [(.tmp 179),(.tmp 183),(.tmp 184)]),
 oN 178 (.mv (.tmp 185)),
 oN 186 (.ext (.tmp 178) 0),
 oN 187 (.ext (.tmp 178) 1),
 oN 24 (.alloc (blkL [.int .i64 (0),.string ⟨#[]⟩] 47 0)),
 oU (.st 2 (.tmp 24) (.tmp 186)),
 oN 25 (.mv (.tmp 187))]
def stk_r44:List CO:=[
 oN 188 (.mv (.tmp 22)),
 oN 189 (.eq true (.one .i) (.tmp 188) (oK 0)),
 oN 190 (.mv (.tmp 189)),
 ⟨(some 191),(some (190,false)),.mv (.tmp 25)⟩,
 ⟨(some 192),(some (190,false)),.eq true (.one .i) (.tmp 191) (.const (.int .i64 (0)))⟩,
 oN 193 (.pick (.tmp 190) (.const (.bool true)) (.tmp 192)),
 oN 194 (.mv (.tmp 193)),
 ⟨(some 195),(some (194,false)),.fa 1 (.tmp 24)⟩,
 ⟨(some 196),(some (194,false)),.ld1 (.tmp 195)⟩,
 ⟨(some 197),(some (194,false)),.mv (.tmp 20)⟩,
 ⟨(some 198),(some (194,false)),.mv (.tmp 20)⟩,
 ⟨(some 199),(some (194,false)),.len 1 (.tmp 198)⟩,
 ⟨(some 200),(some (194,false)),.bin .sub (.tmp 199) (.const (.int .i64 (1)))⟩,
 ⟨(some 201),(some (194,false)),.slL 1 (.tmp 197) (some (.tmp 200)) none none⟩,
 ⟨(some 202),(some (194,false)),.cToS (.tmp 201)⟩,
 ⟨(some 203),(some (194,false)),.eq true (.one .s) (.tmp 196) (.tmp 202)⟩,
 oN 204 (.pick (.tmp 194) (.const (.bool true)) (.tmp 203))]
def stk_r45:List CO:=[
 oN 4 (.mv (.const (.bool false)))]
def stk_r46:List CO:=[
 oN 205 (.bin .add (.tmp 175) (oK 1)),
 oN 175 (.mv (.tmp 205))]
noncomputable def stk_l47:KC :=
 (.seq (.reg stk_r41)
 (.seq (.cond (.tmp 176) .skip
  (.exit 6))
 (.seq (.block 7 (.seq (.reg stk_r42)
  (.seq (.reg stk_r43)
  (.seq (.draw #[0,1,3,7,15,31,63,127,255,127,127,1151,3199,7807,15999,32767,65535] stk_r44)
  (.cond (.tmp 204) (.seq (.reg stk_r45)
   .ret)
   .skip)))))
 (.reg stk_r46))))
def stk_r48:List CO:=[
 oN 206 (.bin .add (.tmp 149) (oK 1)),
 oN 149 (.mv (.tmp 206))]
noncomputable def stk_l49:KC :=
 (.seq (.reg stk_r34)
 (.seq (.cond (.tmp 150) .skip
  (.exit 4))
 (.seq (.block 5 (.seq (.reg stk_r35)
  (.seq (.seq (.reg stk_r36)
  (.cond (.tmp 159) (.seq (.reg stk_r37)
   .ret)
   .skip))
  (.seq (.seq (.reg stk_r38)
  (.cond (.tmp 162) (.exit 5)
   .skip))
  (.seq (.reg stk_r39)
  (.seq (.reg stk_r40)
  (.block 6 (.loop stk_body.sr.sr.sr.sr.sr.sr.sr.sr.sr.sr.sr.sl.sr.bl.lp.sr.sr.sl.bl.sr.sr.sr.sr.bl.lp.sr.sr.sl.bl.sr.sr.sr.sr.sr.bl.lp stk_l47))))))))
 (.reg stk_r48))))
def stk_r50:List CO:=[
 oN 207 (.bin .add (.tmp 83) (oK 1)),
 oN 83 (.mv (.tmp 207))]
noncomputable def stk_l51:KC :=
 (.seq (.reg stk_r20)
 (.seq (.cond (.tmp 84) .skip
  (.exit 2))
 (.seq (.block 3 (.seq (.reg stk_r21)
  (.seq (.reg stk_r22)
  (.seq (.seq (.reg stk_r23)
  (.cond (.tmp 99) (.seq (.reg stk_r24)
   (.seq (.seq (.reg stk_r25)
   (.seq (.reg stk_r26)
   (.cond (.tmp 112) (.seq (.reg stk_r27)
    .ret)
    .skip)))
   (.reg stk_r28)))
   (.seq (.reg stk_r29)
   (.cond (.tmp 127) (.seq (.reg stk_r30)
    (.seq (.reg stk_r31)
    (.cond (.tmp 146) (.seq (.reg stk_r32)
     .ret)
     .skip)))
    .skip))))
  (.seq (.reg stk_r33)
  (.block 4 (.loop stk_body.sr.sr.sr.sr.sr.sr.sr.sr.sr.sr.sr.sl.sr.bl.lp.sr.sr.sl.bl.sr.sr.sr.sr.bl.lp stk_l49)))))))
 (.reg stk_r50))))
def stk_r52:List CO:=[
 oN 4 (.mv (.const (.bool true)))]
noncomputable def stk_k:KC :=
 (.seq (.reg stk_r0)
 (.seq (.seq (.reg stk_r1)
 (.cond (.tmp 27) (.seq (.reg stk_r2)
  .ret)
  .skip))
 (.seq (.seq (.reg stk_r3)
 (.cond (.tmp 40) (.seq (.reg stk_r4)
  .ret)
  .skip))
 (.seq (.reg stk_r5)
 (.seq (.reg stk_r6)
 (.seq (.seq (.reg stk_r7)
 (.block 0 (.loop stk_body.sr.sr.sr.sr.sr.sl.sr.bl.lp stk_l12)))
 (.seq (.reg stk_r13)
 (.seq (.seq (.reg stk_r14)
 (.cond (.tmp 75) (.seq (.reg stk_r15)
  .ret)
  .skip))
 (.seq (.reg stk_r16)
 (.seq (.reg stk_r17)
 (.seq (.reg stk_r18)
 (.seq (.seq (.reg stk_r19)
 (.block 2 (.loop stk_body.sr.sr.sr.sr.sr.sr.sr.sr.sr.sr.sr.sl.sr.bl.lp stk_l51)))
 (.seq (.reg stk_r52)
 .ret)))))))))))))
theorem stk_comp:kcomp Tb0 Tryz.f3.ntmps stk_body=stk_k:=by kernel_rfl
theorem stk_some:Tryz.f3.body=some stk_body:=rfl
noncomputable def stk1_body:Code:=(Tryz.f9.body).getD .skip
def stk1_r0:List CO:=[
 oN 7 (.mv (.const (.bool false)))]
def stk1_r1:List CO:=[
 oN 12 (.ld1 (.tmp 2)),
 oN 13 (.mv (.tmp 0)),
 oN 14 (.call (.func 10) [(.tmp 12),(oK 5),(oK 0),(.tmp 13)]),
 oN 11 (.mv (.tmp 14)),
 oN 15 (.ext (.tmp 11) 0),
 oN 16 (.ext (.tmp 11) 1),
 oN 8 (.mv (.tmp 15)),
 oN 9 (.mv (.tmp 16))]
def stk1_r2:List CO:=[
 oN 17 (.fa 5 (.tmp 3)),
 oN 18 (.ld1 (.tmp 17)),
 oN 19 (.mv (.tmp 0)),
 oN 20 (.iaS 1 (.tmp 18) (.tmp 19)),
 oN 21 (.ld1 (.tmp 20)),
 oN 22 (.bin .quo (.tmp 21) (oK 8)),
 oN 23 (.mv (oK 0))]
def stk1_r3:List CO:=[
 oN 24 (.bin .lss (.tmp 23) (.tmp 22))]
def stk1_r4:List CO:=[
 oN 25 (.mv (.tmp 23)),
 oN 10 (.mv (.tmp 25))]
def stk1_r5:List CO:=[
 oN 26 (.mv (.tmp 9)),
 oN 27 (.eq true (.one .i) (.tmp 26) (oK 0)),
 oN 28 (.mv (.tmp 27)),
 ⟨(some 29),(some (28,false)),.ld1 (.tmp 2)⟩,
 ⟨(some 30),(some (28,false)),.mv (.tmp 8)⟩,
 ⟨(some 31),(some (28,false)),.mv (.tmp 10)⟩,
 ⟨(some 32),(some (28,false)),.bin .mul (.const (.int .i64 (8))) (.tmp 31)⟩,
 ⟨(some 33),(some (28,false)),.bin .add (.tmp 30) (.tmp 32)⟩,
 ⟨(some 34),(some (28,false)),.ldN 5 (.tmp 4)⟩,
 ⟨(some 35),(some (28,false)),.mv (.tmp 1)⟩,
 ⟨(some 36),(some (28,false)),.bslice 1 5 [.int .u8 (0)] [(0,1,(.tmp 35))]⟩,
 ⟨(some 37),(some (28,false)),.cToS (.tmp 36)⟩,
 ⟨(some 38),(some (28,false)),.build [.int .i64 (0),.string ⟨#[]⟩] [(1,1,(.tmp 37))]⟩,
 ⟨(some 39),(some (28,false)),.call (.func 11) [(.tmp 29),(.tmp 33),(.tmp 34),(.tmp 38)]⟩,
 ⟨(some 40),(some (28,false)),.eq true (.one .i) (.tmp 39) (.const (.int .i64 (0)))⟩,
 oN 41 (.pick (.tmp 28) (.const (.bool true)) (.tmp 40))]
def stk1_r6:List CO:=[
 oN 7 (.mv (.const (.bool false)))]
def stk1_r7:List CO:=[
 oN 42 (.bin .add (.tmp 23) (oK 1)),
 oN 23 (.mv (.tmp 42))]
noncomputable def stk1_l8:KC :=
 (.seq (.reg stk1_r3)
 (.seq (.cond (.tmp 24) .skip
  (.exit 0))
 (.seq (.block 1 (.seq (.reg stk1_r4)
  (.seq (.reg stk1_r5)
  (.cond (.tmp 41) (.seq (.reg stk1_r6)
   .ret)
   .skip))))
 (.reg stk1_r7))))
def stk1_r9:List CO:=[
 oN 7 (.mv (.const (.bool true)))]
noncomputable def stk1_k:KC :=
 (.seq (.reg stk1_r0)
 (.seq (.reg stk1_r1)
 (.seq (.seq (.reg stk1_r2)
 (.block 0 (.loop stk1_body.sr.sr.sl.sr.bl.lp stk1_l8)))
 (.seq (.reg stk1_r9)
 .ret))))
theorem stk1_comp:kcomp Tb0 Tryz.f9.ntmps stk1_body=stk1_k:=by kernel_rfl
theorem stk1_some:Tryz.f9.body=some stk1_body:=rfl
end Go.Proofs.RS
end
noncomputable section
namespace Go.Proofs.RS
open Go Go.Ev Go.Proofs Go.Ar
section
attribute [local go_sem] Bc_f Bc_t GT Ro_some Rv_eq WOG Yj Yk Yl Ym Yn Yo Yp Yq Yr and_self and_true binV_add binV_lss binV_mul callV_func dec_F dec_T evalL evalO_const evalO_func evalO_tmp exEq_int exFa_ptr exPick_f exPick_t if_false if_true ok_zero run true_and wantsV_U wantsV_ff wantsV_ft wantsV_tf wantsV_tt wants_none' wants_some
variable {sp:Nat→List Value→Hp→Option (Value×Hp×Nat×Nat)} {e:Env}
set_option maxRecDepth 10000 in
set_option maxHeartbeats 4000000 in
theorem fill_ok (S:SpX sp) {H:Hp} (hf:H.isFn=true) (he:e.n0≤H.nx) {sb:Nat} {L:List Value} (hes:e.n0≤sb) (hst:Row H sb 104 0 L) (h19:L[19]?=some (.bool false)) {bg k:Nat} {gs:List Value} (heg:e.n0≤bg) (hk8:k≤8) (h12:L[12]?=some (.slice (some ⟨bg,0,none⟩) k (2*k))) (hrg:Row H bg 22 0 gs) (hgl:gs.length=k) {i:Nat} (hi:i<k) {n b:Nat} {v:Value} {l0:List Value} {off:Nat} {u:UInt8} (hn:e.n0≤n) (hv:gs[i]?=some v) (hl:Lst n 3 H b v (l0++[iN (8*57344+8*off)])) (hl1:l0.length≤1000) {bm:Nat} {fm:By} (hem:e.n0≤bm) (h6:L[6]?=some (.pointer (some ⟨bm,0,none⟩))) (hr:ByU H bm 171 fm 65536) {bp cp ba ca tp op ta oa:Nat} {Pc:List Value} (hep:e.n0≤bp) (hea:e.n0≤ba) (h0:L[0]?=some (.slice (some ⟨bp,0,none⟩) 2 cp)) (h7:L[7]?=some (.slice (some ⟨ba,0,none⟩) 1 ca)) (hpr:Row H bp tp op Pc) (hp1:Pc[1]?=some (.int .i64 (-1))) (hac:Row H ba ta oa acL) {ps pp pc bq cq oq kk:Nat} {Lp C:List Value} (he1:e.n0≤ps) (he2:e.n0≤pp) (he3:e.n0≤pc) (he4:e.n0≤bq) (hps:Row H ps 35 0 [pA sb 0]) (hpp:Row H pp 29 0 Lp) (hp5:Lp[5]?=some (.slice (some ⟨bq,0,none⟩) k cq)) (hcq:Row H bq 3 oq C) (hci:C[i]?=some (iN (8*kk))) (hpc:Row H pc 40 0 [.int .i64 (3),.int .i64 (1),.int .i64 (0),.bool false,vS []]) (d1:sb≠bm) (d2:ps≠bm) (d3:pp≠bm) (d4:pc≠bm) (d5:bq≠bm) (d6:bp≠bm) (d7:ba≠bm) (d8:bg≠bm) (hoff:off+kk≤8192):EC Tb0 sp e 9 [iN i,uB u,pA ps 0,pA pp 0,pA pc 0] H fun v H'=>v=.bool true∧OvK H bm 171 (fill fm (57344+off) kk u) 65536 H':=by
 refine EC.i5 (by rfl) stk1_some stk1_comp (S.no 9 (by decide) _ _) (by show 5≤43;decide) fun t0 g0 g1 g2 g3 g4=>?_
 show WK Tb0 sp e ⟨6,43,none,false⟩ stk1_k t0 [] H _
 unfold stk1_k
 have lt1_:=hst.lt
 have lt2_:=hps.lt
 have lt3_:=hpp.lt
 have lt4_:=hcq.lt
 have lt5_:=hpc.lt
 have lt6_:=hrg.lt
 have lt7_:=hpr.lt
 have lt8_:=hac.lt
 have lt9_:=hr.lt
 have hlb:=hr.lt
 have q0:=OvK.refl hf hr
 have hbp:=hl.pos (i:=l0.length) (x:=iN (8*57344+8*off)) (by simp)
 refine WK.seq ?_
 refine WK.reg_g ?_
 refine WOG.all (fun t' H'=>H=H'∧GT t' [(0,iN i),(1,uB u),(2,pA ps 0),(3,pA pp 0),(4,pA pc 0),(7,.bool false)]) ?_ ?_
 ·simp +decide only [stk1_r0,g0,g1,g2,g3,g4,Xo 6,go_sem]
 rintro t10_ _ ⟨rfl,g0_10,g1_10,g2_10,g3_10,g4_10,g7_10, -⟩
 refine WK.seq ?_
 refine WK.reg_g ?_
 refine WOG.hide fun K0 hK0=>?_
 have m12_:exLd1 (pA ps 0) H=.val (pA sb 0) H (bit (ps)) 0:=exLd1_row hps rfl
 have o13_:=okr (e:=e) hps (by omega)
 simp +decide only [stk1_r1,g0_10,g2_10,m12_,o13_,Xo 6,go_sem]
 refine EC.mono (base_ok S hf (by omega) hes hst h19 heg hk8 h12 hrg hgl hi hn hv hl hl1 hep hea h0 h7 hpr hp1 hac) fun v H14_ _ hv15_=>?_
 obtain ⟨rfl,hk16_⟩:=hv15_
 have hf17_:=hk16_.fn
 have nx18_:=hk16_.nx
 have q19_:=q0.kept hlb hk16_
 rw [WOGk]
 have m20_:∀ Hq,exExt (.tuple #[iN (8*57344+8*off),.int .i64 (0)]) 0 Hq=.val (iN (8*57344+8*off)) Hq 0 0:=fun _=>rfl
 have m21_:∀ Hq,exExt (.tuple #[iN (8*57344+8*off),.int .i64 (0)]) 1 Hq=.val (.int .i64 (0)) Hq 0 0:=fun _=>rfl
 refine WOG.all (fun t' H'=>H14_=H'∧GT t' [(0,iN i),(1,uB u),(2,pA ps 0),(3,pA pp 0),(4,pA pc 0),(7,.bool false),(8,iN (8*57344+8*off)),(9,.int .i64 (0))]) ?_ ?_
 ·simp +decide only [stk1_r1,g0_10,g1_10,g2_10,g3_10,g4_10,g7_10,m20_,m21_,Xo 6,go_sem]
 rintro t22_ _ ⟨rfl,g0_22,g1_22,g2_22,g3_22,g4_22,g7_22,g8_22,g9_22, -⟩
 refine hK0 _ _ ?_
 refine WK.seq ?_
 refine WK.seq ?_
 refine WK.reg_g ?_
 have r24_:=hpp.mv hk16_
 have m25_:exLd1 (pA pp 5) H14_=.val (sC bq 0 (k) (cq)) H14_ (bit (pp)) 0:=exLd1_row r24_ hp5
 have o26_:=okr (e:=e) r24_ (by omega)
 have m27_:∀ Hq,exIaS 1 (sC bq 0 (k) (cq)) (iN i) Hq=.val (pA bq i) Hq 0 0:=fun Hq=>by rw [exIaS_int (by omega) (by omega)];simp
 have r28_:=hcq.mv hk16_
 have m29_:exLd1 (pA bq i) H14_=.val (iN (8*kk)) H14_ (bit (bq)) 0:=exLd1_row r28_ hci
 have o30_:e.ok (bit (bq)) 0 H14_:=.read r28_.lt (fun h=>absurd h (by omega))
 have m31_:∀ Hq,R.o (binV .quo (iN (8*kk)) (.int .i64 8)) Hq=.val (iN kk) Hq 0 0:=fun Hq=>quo8 (by omega) (by omega) _
 refine WOG.all (fun t' H'=>H14_=H'∧GT t' [(1,uB u),(2,pA ps 0),(4,pA pc 0),(7,.bool false),(8,iN (8*57344+8*off)),(9,.int .i64 (0)),(22,iN kk),(23,.int .i64 (0))]) ?_ ?_
 ·simp +decide only [stk1_r2,g0_22,g1_22,g2_22,g3_22,g4_22,g7_22,g8_22,g9_22,m25_,o26_,m27_,m29_,o30_,m31_,Xo 6,go_sem]
 rintro t32_ _ ⟨rfl,g1_32,g2_32,g4_32,g7_32,g8_32,g9_32,g22_32,g23_32, -⟩
 refine WK.block (WK.loop_ind (fun m t' ds' H'=>ds'=[]∧∃ j:Nat,m=kk-j∧j≤kk∧OvK H bm 171 (fill fm (57344+off) j u) 65536 H'∧t'.get 1=uB u∧t'.get 2=pA ps 0∧t'.get 4=pA pc 0∧t'.get 8=iN (8*57344+8*off)∧t'.get 9=.int .i64 (0)∧t'.get 22=iN kk∧t'.get 23=iN j) ?_ _ t32_ [] H14_ ⟨rfl,0,rfl,by omega,fill_zero fm (57344+off) u▸q19_,g1_32,g2_32,g4_32,g8_32,g9_32,g22_32,g23_32⟩)
 rintro m_l34 t_l34 ds_ H_l34 ⟨rfl,j,rfl,hj,hov,g1_l34,g2_l34,g4_l34,g8_l34,g9_l34,g22_l34,g23_l34⟩
 have hf_l34:=hov.fn
 have nx_l34:=hov.nx
 unfold stk1_l8
 refine WK.seq ?_
 by_cases hlt:j<kk
 case pos =>
  refine WK.reg_g ?_
  have d35_:decide (((j:Nat):Int)<((kk:Nat):Int))=true:=decide_eq_true (by omega)
  refine WOG.all (fun t' H'=>H_l34=H'∧GT t' [(1,uB u),(2,pA ps 0),(4,pA pc 0),(8,iN (8*57344+8*off)),(9,.int .i64 (0)),(22,iN kk),(23,iN j),(24,.bool true)]) ?_ ?_
  ·simp +decide only [stk1_r3,g1_l34,g2_l34,g4_l34,g8_l34,g9_l34,g22_l34,g23_l34,d35_,Xo 6,go_sem]
  rintro t36_ _ ⟨rfl,g1_36,g2_36,g4_36,g8_36,g9_36,g22_36,g23_36,g24_36, -⟩
  refine WK.seq ?_
  refine WK.cond (v:=true) (by rw [evalO_tmp,g24_36];rfl) ?_
  refine WK.skip ?_
  refine WK.seq ?_
  refine WK.block ?_
  refine WK.seq ?_
  refine WK.reg_g ?_
  refine WOG.all (fun t' H'=>H_l34=H'∧GT t' [(1,uB u),(2,pA ps 0),(4,pA pc 0),(8,iN (8*57344+8*off)),(9,.int .i64 (0)),(10,iN j),(22,iN kk),(23,iN j)]) ?_ ?_
  ·simp +decide only [stk1_r4,g1_36,g2_36,g4_36,g8_36,g9_36,g22_36,g23_36,g24_36,Xo 6,go_sem]
  rintro t38_ _ ⟨rfl,g1_38,g2_38,g4_38,g8_38,g9_38,g10_38,g22_38,g23_38, -⟩
  refine WK.seq ?_
  refine WK.reg_g ?_
  refine WOG.hide fun K0 hK0=>?_
  have d40_:decide ((0:Int)=(0:Int))=true:=decide_eq_true (by omega)
  have r41_:=hps.mo hov.old (by omega)
  have m42_:exLd1 (pA ps 0) H_l34=.val (pA sb 0) H_l34 (bit (ps)) 0:=exLd1_row r41_ rfl
  have o43_:=okr (e:=e) r41_ (by omega)
  have w44_:Value.int .i64 (wrapF .i64 ((8:Int)*((j:Nat):Int)))=.int .i64 (((8*j):Nat):Int):=wF (by omega)
  have m45_:binV .add (iN (8*57344+8*off)) (iN ((8*j)))=some (iN (8*(57344+off+j))):=congrArg (fun z=>some (Value.int .i64 z)) (by rw [show Int.add _ _=(((8*(57344+off+j):Nat):Int)) from by show ((_:Int)+_)=_;omega];exact wrapF_nat (by omega))
  have r46_:=hpc.mo hov.old (by omega)
  have m47_:exLdN 5 (pA pc 0) H_l34=.val (.agg ⟨[.int .i64 (3),.int .i64 (1),.int .i64 (0),.bool false,vS []]⟩) H_l34 (bit (pc)) 0:=exLdN_row r46_ (by show 0+5≤5;decide)
  have o48_:=okr (e:=e) r46_ (by omega)
  obtain ⟨H49_,e50_,rw51_,kp52_,nx53_⟩:=bsl_one hf_l34 (u)
  have m54_:∀ t:T Value,t.get 35=uB u→fillL t [.int .u8 (0)] [(0,1,.tmp 35)]=some [uB (u)]:=fun t h0=>by simp only [fillL,evalO_tmp,h0];rfl
  have m55_:alloc1 (blkL [uB (u)] 5 0) H_l34 (fun i=>mkSlV (some (i,0)) 1 1 false) 0 0=.val (.slice (some ⟨H_l34.nx,0,none⟩) (1) (2*1)) H49_ 0 0:=e50_
  have hf56_:=kp52_.fn
  have m57_:H_l34.nx≤H49_.nx:=by omega
  have q58_:=hov.kept hlb kp52_
  have lt59_:=rw51_.lt
  have m60_:exToS (sC H_l34.nx 0 (1) (2*1)) H49_=.val (vS [u]) H49_ (bit (H_l34.nx)) 0:=ByU.toS0 rw51_ (by omega)
  have o61_:=okr (e:=e) rw51_ (by omega)
  have m62_:∀ t:T Value,t.get 37=vS [u]→fillL t [.int .i64 (0),.string ⟨#[]⟩] [(1,1,(.tmp 37))]=some [.int .i64 (0),vS [u]]:=fun t h0=>by simp only [fillL,evalO_tmp,evalO_const,h0];rfl
  have r63_:=(hst.mo hov.old (by omega)).mv kp52_
  have r64_:=hov.row.mv kp52_
  simp +decide only [stk1_r5,g1_38,g2_38,g4_38,g8_38,g9_38,g10_38,d40_,m42_,o43_,w44_,m45_,m47_,o48_,m54_,exFill_some,m55_,m57_,m60_,o61_,m62_,exFill_some,Xo 6,go_sem]
  refine EC.mono (rstore_ok S hf56_ (by omega) r63_ h6 h19 r64_ (fun h=>absurd h (by omega)) (fun h=>absurd h (by omega)) (fun h=>absurd h (by omega)) (by omega) (p:=57344+off+j) (u:=u) (by omega)) fun v H65_ _ hv66_=>?_
  obtain ⟨rfl,ov67_⟩:=hv66_
  have hf68_:=ov67_.fn
  have nx69_:=ov67_.nx
  have q70_:=q58_.trans ov67_
  rw [WOGk]
  have d71_:decide ((0:Int)=(0:Int))=true:=decide_eq_true (by omega)
  refine WOG.all (fun t' H'=>H65_=H'∧GT t' [(1,uB u),(2,pA ps 0),(4,pA pc 0),(8,iN (8*57344+8*off)),(9,.int .i64 (0)),(22,iN kk),(23,iN j),(41,.bool false)]) ?_ ?_
  ·simp +decide only [stk1_r5,g1_38,g2_38,g4_38,g8_38,g9_38,g10_38,g22_38,g23_38,d71_,Xo 6,go_sem]
  rintro t72_ _ ⟨rfl,g1_72,g2_72,g4_72,g8_72,g9_72,g22_72,g23_72,g41_72, -⟩
  refine hK0 _ _ ?_
  refine WK.cond (v:=false) (by rw [evalO_tmp,g41_72];rfl) ?_
  refine WK.skip ?_
  refine WK.reg_g ?_
  have w74_:Value.int .i64 (wrapF .i64 (((j:Nat):Int)+(1:Int)))=.int .i64 (((j+1):Nat):Int):=wF (by omega)
  refine WOG.all (fun t' H'=>H65_=H'∧GT t' [(1,uB u),(2,pA ps 0),(4,pA pc 0),(8,iN (8*57344+8*off)),(9,.int .i64 (0)),(22,iN kk),(23,iN ((j+1)))]) ?_ ?_
  ·simp +decide only [stk1_r7,g1_72,g2_72,g4_72,g8_72,g9_72,g22_72,g23_72,g41_72,w74_,Xo 6,go_sem]
  rintro t75_ _ ⟨rfl,g1_75,g2_75,g4_75,g8_75,g9_75,g22_75,g23_75, -⟩
  exact ⟨_,by omega,rfl,j+1,rfl,by omega,q70_.as (funext fun i_=>fill_next i_),g1_75,g2_75,g4_75,g8_75,g9_75,g22_75,g23_75⟩
 case neg =>
  have hjk:j=kk:=by omega
  refine WK.reg_g ?_
  have d35_:decide (((j:Nat):Int)<((kk:Nat):Int))=false:=decide_eq_false (by omega)
  refine WOG.all (fun t' H'=>H_l34=H'∧GT t' [(1,uB u),(2,pA ps 0),(4,pA pc 0),(8,iN (8*57344+8*off)),(9,.int .i64 (0)),(22,iN kk),(23,iN j),(24,.bool false)]) ?_ ?_
  ·simp +decide only [stk1_r3,g1_l34,g2_l34,g4_l34,g8_l34,g9_l34,g22_l34,g23_l34,d35_,Xo 6,go_sem]
  rintro t36_ _ ⟨rfl,g1_36,g2_36,g4_36,g8_36,g9_36,g22_36,g23_36,g24_36, -⟩
  refine WK.seq ?_
  refine WK.cond (v:=false) (by rw [evalO_tmp,g24_36];rfl) ?_
  refine WK.exit ?_
  refine WK.seq ?_
  refine WK.reg_g ?_
  refine WOG.all (fun t' H'=>H_l34=H'∧GT t' [(1,uB u),(2,pA ps 0),(4,pA pc 0),(7,.bool true),(8,iN (8*57344+8*off)),(9,.int .i64 (0)),(22,iN kk),(23,iN j)]) ?_ ?_
  ·simp +decide only [stk1_r9,g1_36,g2_36,g4_36,g8_36,g9_36,g22_36,g23_36,g24_36,Xo 6,go_sem]
  rintro t38_ _ ⟨rfl,g1_38,g2_38,g4_38,g7_38,g8_38,g9_38,g22_38,g23_38, -⟩
  refine WK.ret ⟨.inr rfl,rfl,[.bool true],0,?_,.zero _ _,rfl,by rw [← hjk];exact hov⟩
  show resL Tb0 43 t38_ _ [.tmp 7]=_
  simp only [resL,g7_38];rfl
end
end Go.Proofs.RS
end
