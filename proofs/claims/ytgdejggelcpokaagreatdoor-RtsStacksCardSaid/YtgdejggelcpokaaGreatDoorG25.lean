/-
 A part of the proof that pliantlaw15.RtsStacks returns true and leaves its arguments alone. Conditions: those of the card in the last text.
-/
import Derived.Test.YtgdejggelcpokaaGreatDoorG12
import Derived.Test.YtgdejggelcpokaaGreatDoorG24
set_option linter.unusedSimpArgs false
set_option linter.unusedVariables false
set_option linter.unusedSectionVars false
noncomputable section
namespace Go.Proofs.RS
open Go Go.Ev Go.Proofs Go.Ar
section
attribute [local go_sem] Bc_f Bc_t GT Ro_some Rv_eq WOG WOX Yj Yk Yl Ym Yn Yo Yp Yq Yr and_self and_true binV_add binV_geq binV_gtr binV_lss binV_sub callV_func dec_F dec_T evalL evalM evalO_const evalO_func evalO_tmp exEq_int exFa_ptr exPick_f exPick_t exUn_not if_false if_true no_bits ok_zero putT_none run true_and wantsV_U wantsV_ff wantsV_ft wantsV_tf wantsV_tt wants_none' wants_some
variable {sp:Nat→List Value→Hp→Option (Value×Hp×Nat×Nat)} {e:Env}
set_option maxRecDepth 10000 in
set_option maxHeartbeats 4000000 in
theorem byt_ok (S:SpX sp) {H:Hp} (hf:H.isFn=true) (he:e.n0≤H.nx) {b n a s m:Nat} (hle:a+8+up s≤n) (hn:n≤65536):EC Tb0 sp e 196 [sC b 0 (n) (2*n),.agg ⟨[iN a,iN s,iN m]⟩] H fun v H'=>v=bytV b (a+8) (up s)∧Kept H H':=by
 refine EC.i2 (by rfl) byt_some byt_comp (S.no 196 (by decide) _ _) (by show 2≤16;decide) fun t0 g0 g1=>?_
 show WK Tb0 sp e ⟨5,16,none,false⟩ byt_k t0 [] H _
 unfold byt_k
 have k0:Kept H H:=.refl hf
 have hus:=up_le s
 refine WK.seq ?_
 refine WK.reg_g ?_
 obtain ⟨H1_,nb2_⟩:=newB hf [iN a,iN s,iN m] 195
 have m3_:exFill (cellsO (.agg ⟨[iN a,iN s,iN m]⟩)) (fun l=>alloc1 (blkL l 195 0) H ptrTo 0 0)=.val (.pointer (some ⟨H.nx,0,none⟩)) H1_ 0 0:=nb2_.al
 have hf4_:=nb2_.kept.fn
 have nx5_:H1_.nx=H.nx+1:=nb2_.nx
 have m6_:H.nx≤H1_.nx:=by omega
 have k7_:=k0.trans nb2_.kept
 refine WOG.all (fun t' H'=>H1_=H'∧GT t' [(0,sC b 0 (n) (2*n)),(3,pA H.nx 0),(4,.slice none 0 0)]) ?_ ?_
 ·simp +decide only [byt_r0,g0,g1,m3_,m6_,Xo 5,go_sem]
 rintro t8_ _ ⟨rfl,g0_8,g3_8,g4_8, -⟩
 show WK Tb0 sp e ⟨5,16,none,false⟩ _ t8_ [] H1_ _
 refine WK.seq ?_
 refine WK.reg_g ?_
 have m10_:exLd1 (pA H.nx 0) H1_=.val (iN a) H1_ (bit (H.nx)) 0:=exLd1_row nb2_.row rfl
 have o11_:=okr (e:=e) nb2_.row (by omega)
 have w12_:Value.int .i64 (wrapF .i64 (((a:Nat):Int)+(8:Int)))=.int .i64 (((a+8):Nat):Int):=wF (by omega)
 refine WOG.all (fun t' H'=>H1_=H'∧GT t' [(0,sC b 0 (n) (2*n)),(3,pA H.nx 0),(4,.slice none 0 0),(5,iN ((a+8)))]) ?_ ?_
 ·simp +decide only [byt_r1,g0_8,g3_8,g4_8,m10_,o11_,w12_,Xo 5,go_sem]
 rintro t13_ _ ⟨rfl,g0_13,g3_13,g4_13,g5_13, -⟩
 show WK Tb0 sp e ⟨5,16,none,false⟩ _ t13_ [] H1_ _
 refine WK.seq ?_
 refine WK.draw_xx (fun _=>False) [.p,.p,.q,.q,.q,.q,.p,.p] (by omega) rfl ?_
 refine WOX.hide fun K0 hK0=>?_
 have m15_:exLdN 3 (pA H.nx 0) H1_=.val (.agg ⟨[iN a,iN s,iN m]⟩) H1_ (bit (H.nx)) 0:=exLdN_row nb2_.row (by show 0+3≤3;decide)
 have o16_:=okr (e:=e) nb2_.row (by omega)
 have o17_:∀ cq,(bit (H.nx)).testBit cq=true→cq<H1_.nx:=the_bit (P:=fun cq=>cq<H1_.nx) (by have:=nb2_.row.lt;omega)
 simp +decide only [byt_r2,g0_13,g3_13,g5_13,m15_,o16_,o17_,Xo 5,go_sem]
 repeat (refine And.intro (by assumption) ?_)
 refine EC.mono (uend_ok S hf4_ (Nat.le_refl _) (a:=a) (s:=s) (m:=m) (by omega) (by omega)) fun v H18_ _ hv19_=>?_
 obtain ⟨rfl,hk20_⟩:=hv19_
 have hf21_:=hk20_.fn
 have nx22_:=hk20_.nx
 have k23_:=k7_.trans hk20_
 rw [WOXk]
 have r24_:=nb2_.row.mv hk20_
 have m25_:exLdN 3 (pA H.nx 0) H18_=.val (.agg ⟨[iN a,iN s,iN m]⟩) H18_ (bit (H.nx)) 0:=exLdN_row r24_ (by show 0+3≤3;decide)
 have o26_:=okr (e:=e) r24_ (by omega)
 have o27_:∀ cq,(bit (H.nx)).testBit cq=true→cq<H1_.nx:=the_bit (P:=fun cq=>cq<H1_.nx) (by have:=nb2_.row.lt;omega)
 simp +decide only [byt_r2,g3_13,m25_,o26_,o27_,Xo 5,go_sem]
 repeat (refine And.intro (by assumption) ?_)
 refine EC.mono (uend_ok S hf21_ (Nat.le_refl _) (a:=a) (s:=s) (m:=m) (by omega) (by omega)) fun v H28_ _ hv29_=>?_
 obtain ⟨rfl,hk30_⟩:=hv29_
 have hf31_:=hk30_.fn
 have nx32_:=hk30_.nx
 have k33_:=k23_.trans hk30_
 rw [WOXk]
 have m34_:∀ H,exSlL 1 (sC b 0 (n) (2*n)) (some (iN ((a+8)))) (some (iN (a+8+up s))) (some (iN (a+8+up s))) H=.val (bytV b (a+8) (a+8+up s-(a+8))) H 0 0:=slL_byt (by omega) hle
 refine WOX.all (fun t' H'=>H28_=H'∧t'.get 4=bytV b (a+8) (a+8+up s-(a+8))) ?_ ?_
 ·simp +decide only [byt_r2,g0_13,g3_13,g4_13,g5_13,m34_,Xo 5,go_sem]
  all_goals ((repeat' apply And.intro) <;> assumption)
 rintro t35_ _ ⟨rfl,g4_35⟩
 refine hK0 _ _ ?_
 show WK Tb0 sp e ⟨5,16,none,false⟩ _ t35_ [] H28_ _
 rw [show a+8+up s-(a+8)=up s by omega] at g4_35
 refine WK.ret ⟨.inr rfl,rfl,[bytV b (a+8) (up s)],0,?_,.zero _ _,rfl,k33_⟩
 show resL Tb0 16 t35_ _ [.tmp 4]=_
 simp only [resL,g4_35];rfl
set_option maxRecDepth 10000 in
set_option maxHeartbeats 4000000 in
theorem who_ok (S:SpX sp) {H:Hp} (hf:H.isFn=true) (he:e.n0≤H.nx) {b n a E:Nat} {g:Bool} {fb:By} {u:U} (hr:ByU H b 5 fb n) (hok:u.Ok fb a) (ha:8≤a) (hend:a+u.span≤E) (hE:E≤n) (hn:n≤8192) (hg:u.used=false→g=false) (hp:b<e.n0→e.Rd b):EC Tb0 sp e 154 [sC b 0 (n) (2*n),iN a,iN E,.bool g] H fun v H'=>v=.tuple #[.agg ⟨[iN a,iN (u.size),iN (u.mark)]⟩,.bool true]∧Kept H H':=by
 refine EC.i4 (by rfl) who_some who_comp (S.no 154 (by decide) _ _) (by show 4≤83;decide) fun t0 g0 g1 g2 g3=>?_
 show WK Tb0 sp e ⟨7,83,none,false⟩ who_k t0 [] H _
 unfold who_k
 cases hu:u.used with
 | true =>
  have k0:Kept H H:=.refl hf
  have hus:=up_le u.size
  have hsp:u.span=8+up u.size:=rfl
  have hlb:=hr.lt
  have hmk:u.mark=1:=by unfold U.mark;rw [hu];rfl
  refine WK.seq ?_
  refine WK.reg_g ?_
  obtain ⟨H1_,nb2_⟩:=newB hf [.int .i64 (0),.int .i64 (0),.int .i64 (0)] 195
  have m3_:alloc1 (blkL [.int .i64 (0),.int .i64 (0),.int .i64 (0)] 195 0) H ptrTo 0 0=.val (.pointer (some ⟨H.nx,0,none⟩)) H1_ 0 0:=nb2_.al
  have hf4_:=nb2_.kept.fn
  have nx5_:H1_.nx=H.nx+1:=nb2_.nx
  have m6_:H.nx≤H1_.nx:=by omega
  have k7_:=k0.trans nb2_.kept
  refine WOG.all (fun t' H'=>H1_=H'∧GT t' [(0,sC b 0 (n) (2*n)),(1,iN a),(2,iN E),(3,.bool g),(8,pA H.nx 0),(9,.bool false)]) ?_ ?_
  ·simp +decide only [who_r0,g0,g1,g2,g3,m3_,m6_,Xo 7,go_sem]
  rintro t8_ _ ⟨rfl,g0_8,g1_8,g2_8,g3_8,g8_8,g9_8, -⟩
  show WK Tb0 sp e ⟨7,83,none,false⟩ _ t8_ [] H1_ _
  refine WK.seq (WK.seq ?_)
  refine WK.reg_g ?_
  have w10_:Value.int .i64 (wrapF .i64 (((E:Nat):Int)-((a:Nat):Int)))=.int .i64 (((E-a):Nat):Int):=wF (by omega)
  have d11_:decide ((((E-a):Nat):Int)<(8:Int))=false:=decide_eq_false (by omega)
  refine WOG.all (fun t' H'=>H1_=H'∧GT t' [(0,sC b 0 (n) (2*n)),(1,iN a),(2,iN E),(3,.bool g),(8,pA H.nx 0),(9,.bool false),(15,.bool false)]) ?_ ?_
  ·simp +decide only [who_r1,g0_8,g1_8,g2_8,g3_8,g8_8,g9_8,w10_,d11_,Xo 7,go_sem]
  rintro t12_ _ ⟨rfl,g0_12,g1_12,g2_12,g3_12,g8_12,g9_12,g15_12, -⟩
  show WK Tb0 sp e ⟨7,83,none,false⟩ _ t12_ [] H1_ _
  refine WK.cond (v:=false) (by rw [evalO_tmp,g15_12];rfl) ?_
  refine WK.skip ?_
  show WK Tb0 sp e ⟨7,83,none,false⟩ _ t12_ [] H1_ _
  refine WK.seq ?_
  refine WK.reg_g ?_
  refine WOG.hide fun K0 hK0=>?_
  have r16_:=hr.mv nb2_.kept
  simp +decide only [who_r3,g0_12,g1_12,Xo 7,go_sem]
  refine EC.mono ((get_ok S hf4_ (by omega) (p:=a) r16_ (by omega) (by omega) hp).mono fun v H1 _ h=>by rwa [hok.size] at h) fun v H14_ _ hv15_=>?_
  obtain ⟨rfl,hh17_⟩:=hv15_
  rw [hh17_];clear hh17_
  rw [WOGk]
  have w18_:Value.int .i64 (wrapF .i64 (((a:Nat):Int)+(4:Int)))=.int .i64 (((a+4):Nat):Int):=wF (by omega)
  simp +decide only [who_r3,g0_12,g1_12,w18_,Xo 7,go_sem]
  refine EC.mono ((get_ok S hf4_ (by omega) (p:=a+4) r16_ (by omega) (by omega) hp).mono fun v H1 _ h=>by rwa [hok.mark] at h) fun v H19_ _ hv20_=>?_
  obtain ⟨rfl,hh21_⟩:=hv20_
  rw [hh21_];clear hh21_
  rw [WOGk]
  have m22_:∀ t:T Value,t.get 17=iN a→t.get 20=iN (u.size)→t.get 24=iN (u.mark)→fillL t [.int .i64 (0),.int .i64 (0),.int .i64 (0)] [(0,1,(.tmp 17)),(1,1,(.tmp 20)),(2,1,(.tmp 24))]=some [iN a,iN (u.size),iN (u.mark)]:=fun t h0 h1 h2=>by simp only [fillL,evalO_tmp,evalO_const,h0,h1,h2];rfl
  obtain ⟨H23_,nb24_⟩:=newB hf4_ [.int .i64 (0),.int .i64 (0),.int .i64 (0)] 195
  have m25_:alloc1 (blkL [.int .i64 (0),.int .i64 (0),.int .i64 (0)] 195 0) H1_ ptrTo 0 0=.val (.pointer (some ⟨H1_.nx,0,none⟩)) H23_ 0 0:=nb24_.al
  have hf26_:=nb24_.kept.fn
  have nx27_:H23_.nx=H1_.nx+1:=nb24_.nx
  have m28_:H1_.nx≤H23_.nx:=by omega
  have k29_:=k7_.trans nb24_.kept
  obtain ⟨H30_,e31_,wr32_⟩:=exStN_at (o:=0) (vs:=[iN a,iN (u.size),iN (u.mark)]) hf26_ nb24_.row (by show 0+3≤3;decide)
  have m33_:exSt 3 (pA H1_.nx 0) (.agg ⟨[iN a,iN (u.size),iN (u.mark)]⟩) H23_=.val U H30_ 0 (bit (H1_.nx)):=e31_
  have hf34_:=wr32_.fn
  have nx35_:H30_.nx=H23_.nx:=wr32_.nx
  have m36_:H23_.nx≤H30_.nx:=by omega
  have r37_:Row H30_ (H1_.nx) 195 0 [iN a,iN (u.size),iN (u.mark)]:=wr32_.row
  have o38_:e.ok 0 (bit (H1_.nx)) H30_:=.write r37_.lt (fun h=>absurd h (by omega))
  have k39_:Kept H H30_:=⟨wr32_.fn,by have:=k29_.nx;omega,fun c hc=>(wr32_.else_ c (by omega)).trans (k29_.old c hc)⟩
  refine WOG.all (fun t' H'=>H30_=H'∧GT t' [(0,sC b 0 (n) (2*n)),(1,iN a),(2,iN E),(3,.bool g),(8,pA H.nx 0),(9,.bool false),(10,pA H1_.nx 0)]) ?_ ?_
  ·simp +decide only [who_r3,g0_12,g1_12,g2_12,g3_12,g8_12,g9_12,g15_12,m22_,exFill_some,m25_,m28_,m33_,m36_,o38_,Xo 7,go_sem]
  rintro t40_ _ ⟨rfl,g0_40,g1_40,g2_40,g3_40,g8_40,g9_40,g10_40, -⟩
  refine hK0 _ _ ?_
  show WK Tb0 sp e ⟨7,83,none,false⟩ _ t40_ [] H30_ _
  refine WK.seq (WK.seq ?_)
  refine WK.reg_g ?_
  refine WOG.hide fun K0 hK0=>?_
  have m42_:exLd1 (pA H1_.nx 1) H30_=.val (iN (u.size)) H30_ (bit (H1_.nx)) 0:=exLd1_row r37_ rfl
  have o43_:=okr (e:=e) r37_ (by omega)
  have w44_:Value.int .i64 (wrapF .i64 (((E:Nat):Int)-((a:Nat):Int)))=.int .i64 (((E-a):Nat):Int):=wF (by omega)
  have w45_:Value.int .i64 (wrapF .i64 ((((E-a):Nat):Int)-(8:Int)))=.int .i64 (((((E-a))-8):Nat):Int):=wF (by omega)
  have d46_:decide ((((((E-a))-8):Nat):Int)<((u.size:Nat):Int))=false:=decide_eq_false (by omega)
  have m47_:exLdN 3 (pA H1_.nx 0) H30_=.val (.agg ⟨[iN a,iN (u.size),iN (u.mark)]⟩) H30_ (bit (H1_.nx)) 0:=exLdN_row r37_ (by show 0+3≤3;decide)
  simp +decide only [who_r4,g1_40,g2_40,g10_40,m42_,o43_,w44_,w45_,d46_,m47_,o43_,Xo 7,go_sem]
  refine EC.mono (uend_ok S hf34_ (by omega) (a:=a) (s:=u.size) (m:=u.mark) (by omega) (by omega)) fun v H48_ _ hv49_=>?_
  obtain ⟨rfl,hk50_⟩:=hv49_
  have hf51_:=hk50_.fn
  have nx52_:=hk50_.nx
  have k53_:=k39_.trans hk50_
  rw [WOGk]
  have d54_:decide (((E:Nat):Int)<((a+8+up u.size:Nat):Int))=false:=decide_eq_false (by omega)
  refine WOG.all (fun t' H'=>H48_=H'∧GT t' [(0,sC b 0 (n) (2*n)),(1,iN a),(3,.bool g),(8,pA H.nx 0),(9,.bool false),(10,pA H1_.nx 0),(38,.bool false)]) ?_ ?_
  ·simp +decide only [who_r4,g0_40,g1_40,g2_40,g3_40,g8_40,g9_40,g10_40,d54_,Xo 7,go_sem]
  rintro t55_ _ ⟨rfl,g0_55,g1_55,g3_55,g8_55,g9_55,g10_55,g38_55, -⟩
  refine hK0 _ _ ?_
  show WK Tb0 sp e ⟨7,83,none,false⟩ _ t55_ [] H48_ _
  refine WK.cond (v:=false) (by rw [evalO_tmp,g38_55];rfl) ?_
  refine WK.skip ?_
  show WK Tb0 sp e ⟨7,83,none,false⟩ _ t55_ [] H48_ _
  refine WK.seq ?_
  refine WK.reg_g ?_
  refine WOG.hide fun K0 hK0=>?_
  have r57_:=r37_.mv hk50_
  have m58_:exLdN 3 (pA H1_.nx 0) H48_=.val (.agg ⟨[iN a,iN (u.size),iN (u.mark)]⟩) H48_ (bit (H1_.nx)) 0:=exLdN_row r57_ (by show 0+3≤3;decide)
  have o59_:=okr (e:=e) r57_ (by omega)
  simp +decide only [who_r6,g0_55,g10_55,m58_,o59_,Xo 7,go_sem]
  refine EC.mono (byt_ok S hf51_ (by omega) (a:=a) (s:=u.size) (m:=u.mark) (by omega) (by omega)) fun v H60_ _ hv61_=>?_
  obtain ⟨rfl,hk62_⟩:=hv61_
  have hf63_:=hk62_.fn
  have nx64_:=hk62_.nx
  have k65_:=k53_.trans hk62_
  rw [WOGk]
  refine WOG.all (fun t' H'=>H60_=H'∧GT t' [(1,iN a),(3,.bool g),(8,pA H.nx 0),(9,.bool false),(10,pA H1_.nx 0),(11,bytV b (a+8) (up u.size))]) ?_ ?_
  ·simp +decide only [who_r6,g0_55,g1_55,g3_55,g8_55,g9_55,g10_55,g38_55,Xo 7,go_sem]
  rintro t66_ _ ⟨rfl,g1_66,g3_66,g8_66,g9_66,g10_66,g11_66, -⟩
  refine hK0 _ _ ?_
  show WK Tb0 sp e ⟨7,83,none,false⟩ _ t66_ [] H60_ _
  refine WK.seq (WK.seq ?_)
  refine WK.reg_g ?_
  have r68_:=r57_.mv hk62_
  have m69_:exLd1 (pA H1_.nx 2) H60_=.val (iN (u.mark)) H60_ (bit (H1_.nx)) 0:=exLd1_row r68_ rfl
  have o70_:=okr (e:=e) r68_ (by omega)
  refine WOG.all (fun t' H'=>H60_=H'∧GT t' [(1,iN a),(3,.bool g),(8,pA H.nx 0),(9,.bool false),(10,pA H1_.nx 0),(11,bytV b (a+8) (up u.size)),(44,iN (u.mark))]) ?_ ?_
  ·simp +decide only [who_r7,g1_66,g3_66,g8_66,g9_66,g10_66,g11_66,m69_,o70_,Xo 7,go_sem]
  rintro t71_ _ ⟨rfl,g1_71,g3_71,g8_71,g9_71,g10_71,g11_71,g44_71, -⟩
  show WK Tb0 sp e ⟨7,83,none,false⟩ _ t71_ [] H60_ _
  refine WK.block ?_
  refine WK.seq ?_
  refine WK.reg_g ?_
  have d73_:decide (((u.mark:Nat):Int)=(1:Int))=true:=decide_eq_true (by omega)
  refine WOG.all (fun t' H'=>H60_=H'∧GT t' [(1,iN a),(3,.bool g),(8,pA H.nx 0),(9,.bool false),(10,pA H1_.nx 0),(11,bytV b (a+8) (up u.size)),(44,iN (u.mark)),(45,.bool true)]) ?_ ?_
  ·simp +decide only [who_r8,g1_71,g3_71,g8_71,g9_71,g10_71,g11_71,g44_71,d73_,Xo 7,go_sem]
  rintro t74_ _ ⟨rfl,g1_74,g3_74,g8_74,g9_74,g10_74,g11_74,g44_74,g45_74, -⟩
  show WK Tb0 sp e ⟨7,83,none,false⟩ _ t74_ [] H60_ _
  refine WK.cond (v:=true) (by rw [evalO_tmp,g45_74];rfl) ?_
  obtain ⟨hs1,hz⟩:=hok.use hu
  have hby:bytV b (a+8) (up u.size)=.slice (some ⟨b,a+8,none⟩) (up u.size) (2*up u.size):=if_neg (by omega)
  rw [hby] at g11_74
  show WK Tb0 sp e ⟨7,83,none,false⟩ _ t74_ [] H60_ _
  refine WK.seq ?_
  refine WK.draw_xx (fun _=>False) [.q,.p,.q,.p,.p,.p,.p,.q,.p,.q,.p,.x,.p] (by omega) rfl ?_
  refine WOX.hide fun K0 hK0=>?_
  have m76_:exLdN 3 (pA H1_.nx 0) H60_=.val (.agg ⟨[iN a,iN (u.size),iN (u.mark)]⟩) H60_ (bit (H1_.nx)) 0:=exLdN_row r68_ (by show 0+3≤3;decide)
  have o77_:=okr (e:=e) r68_ (by omega)
  have o78_:∀ cq,(bit (H1_.nx)).testBit cq=true→cq<H60_.nx:=the_bit (P:=fun cq=>cq<H60_.nx) (by have:=r68_.lt;omega)
  have m79_:exLd1 (pA H1_.nx 1) H60_=.val (iN (u.size)) H60_ (bit (H1_.nx)) 0:=exLd1_row r68_ rfl
  have d80_:decide (((u.size:Nat):Int)<(1:Int))=false:=decide_eq_false (by omega)
  have m81_:exLd1 (pA H1_.nx 1) H60_=.val (iN (u.size)) H60_ (bit (H1_.nx)) 0:=exLd1_row r68_ rfl
  have m82_:∀ H,exSlL 1 (sC b (a+8) (up u.size) (2*up u.size)) (some (iN (u.size))) none none H=.val (tailV b (a+8) (up u.size) u.size) H 0 0:=slL_tail (by omega)
  have r85_:=(((r16_.mv nb24_.kept).ot wr32_.else_ (by omega)).mv hk50_).mv hk62_
  simp +decide only [who_r9,g10_74,g11_74,m76_,o77_,o78_,m79_,o77_,o78_,d80_,m81_,o77_,o78_,m82_,Xo 7,go_sem]
  repeat (refine And.intro (by assumption) ?_)
  refine EC.mono (zt_ok S r85_ (o:=a+8) (m:=up u.size) (k:=u.size) (by omega) (by omega) (by omega) (fun i h1 h2=>by have:=hz (i-(a+8)) (by omega) (by omega);rwa [show a+8+(i-(a+8))=i by omega] at this) (fun _=>⟨by have:=r85_.lt;omega,hp⟩)) fun v H83_ _ hv84_=>?_
  obtain ⟨rfl,hh86_⟩:=hv84_
  rw [hh86_];clear hh86_
  rw [WOXk]
  have r87_:=(((nb2_.row.mv nb24_.kept).ot wr32_.else_ (by omega)).mv hk50_).mv hk62_
  obtain ⟨H88_,e89_,wr90_⟩:=exStN_at (o:=0) (vs:=[iN a,iN (u.size),iN (u.mark)]) hf63_ r87_ (by show 0+3≤3;decide)
  have m91_:exSt 3 (pA H.nx 0) (.agg ⟨[iN a,iN (u.size),iN (u.mark)]⟩) H60_=.val U H88_ 0 (bit (H.nx)):=e89_
  have hf92_:=wr90_.fn
  have nx93_:H88_.nx=H60_.nx:=wr90_.nx
  have m94_:H60_.nx≤H88_.nx:=by omega
  have r95_:Row H88_ (H.nx) 195 0 [iN a,iN (u.size),iN (u.mark)]:=wr90_.row
  have o96_:e.ok 0 (bit (H.nx)) H88_:=.write r95_.lt (fun h=>absurd h (by omega))
  have k97_:Kept H H88_:=⟨wr90_.fn,by have:=k65_.nx;omega,fun c hc=>(wr90_.else_ c (by omega)).trans (k65_.old c hc)⟩
  refine WOX.all (fun t' H'=>H88_=H'∧GT t' [(1,iN a),(3,.bool g),(8,pA H.nx 0),(9,.bool true),(10,pA H1_.nx 0),(11,sC b (a+8) (up u.size) (2*up u.size)),(44,iN (u.mark))]) ?_ ?_
  ·simp +decide only [who_r9,g1_74,g3_74,g8_74,g9_74,g10_74,g11_74,g44_74,g45_74,m91_,m94_,o96_,Xo 7,go_sem]
   all_goals ((repeat' apply And.intro) <;> assumption)
  rintro t98_ _ ⟨rfl,g1_98,g3_98,g8_98,g9_98,g10_98,g11_98,g44_98, -⟩
  refine hK0 _ _ ?_
  show WK Tb0 sp e ⟨7,83,none,false⟩ _ t98_ [] H88_ _
  have hld:rdN H88_ (H.nx) 0 3=some [iN a,iN (u.size),iN (u.mark)]:=rdN_row (o:=0) (k:=3) r95_ (by show 0+3≤3;decide)
  refine WK.ret ⟨.inr rfl,rfl,[.agg ⟨[iN a,iN (u.size),iN (u.mark)]⟩,.bool true],bit (H.nx),?_,.read r95_.lt (fun h=>absurd h (by omega)),rfl,k97_⟩
  show resL Tb0 83 t98_ _ [.cell 8 195,.tmp 9]=_
  exact resL_ct rfl g8_98 hld g9_98
 | false =>
  have k0:Kept H H:=.refl hf
  have hus:=up_le u.size
  have hsp:u.span=8+up u.size:=rfl
  have hlb:=hr.lt
  have hmk:u.mark=2:=by unfold U.mark;rw [hu];rfl
  refine WK.seq ?_
  refine WK.reg_g ?_
  obtain ⟨H1_,nb2_⟩:=newB hf [.int .i64 (0),.int .i64 (0),.int .i64 (0)] 195
  have m3_:alloc1 (blkL [.int .i64 (0),.int .i64 (0),.int .i64 (0)] 195 0) H ptrTo 0 0=.val (.pointer (some ⟨H.nx,0,none⟩)) H1_ 0 0:=nb2_.al
  have hf4_:=nb2_.kept.fn
  have nx5_:H1_.nx=H.nx+1:=nb2_.nx
  have m6_:H.nx≤H1_.nx:=by omega
  have k7_:=k0.trans nb2_.kept
  refine WOG.all (fun t' H'=>H1_=H'∧GT t' [(0,sC b 0 (n) (2*n)),(1,iN a),(2,iN E),(3,.bool g),(8,pA H.nx 0),(9,.bool false)]) ?_ ?_
  ·simp +decide only [who_r0,g0,g1,g2,g3,m3_,m6_,Xo 7,go_sem]
  rintro t8_ _ ⟨rfl,g0_8,g1_8,g2_8,g3_8,g8_8,g9_8, -⟩
  show WK Tb0 sp e ⟨7,83,none,false⟩ _ t8_ [] H1_ _
  refine WK.seq (WK.seq ?_)
  refine WK.reg_g ?_
  have w10_:Value.int .i64 (wrapF .i64 (((E:Nat):Int)-((a:Nat):Int)))=.int .i64 (((E-a):Nat):Int):=wF (by omega)
  have d11_:decide ((((E-a):Nat):Int)<(8:Int))=false:=decide_eq_false (by omega)
  refine WOG.all (fun t' H'=>H1_=H'∧GT t' [(0,sC b 0 (n) (2*n)),(1,iN a),(2,iN E),(3,.bool g),(8,pA H.nx 0),(9,.bool false),(15,.bool false)]) ?_ ?_
  ·simp +decide only [who_r1,g0_8,g1_8,g2_8,g3_8,g8_8,g9_8,w10_,d11_,Xo 7,go_sem]
  rintro t12_ _ ⟨rfl,g0_12,g1_12,g2_12,g3_12,g8_12,g9_12,g15_12, -⟩
  show WK Tb0 sp e ⟨7,83,none,false⟩ _ t12_ [] H1_ _
  refine WK.cond (v:=false) (by rw [evalO_tmp,g15_12];rfl) ?_
  refine WK.skip ?_
  show WK Tb0 sp e ⟨7,83,none,false⟩ _ t12_ [] H1_ _
  refine WK.seq ?_
  refine WK.reg_g ?_
  refine WOG.hide fun K0 hK0=>?_
  have r16_:=hr.mv nb2_.kept
  simp +decide only [who_r3,g0_12,g1_12,Xo 7,go_sem]
  refine EC.mono ((get_ok S hf4_ (by omega) (p:=a) r16_ (by omega) (by omega) hp).mono fun v H1 _ h=>by rwa [hok.size] at h) fun v H14_ _ hv15_=>?_
  obtain ⟨rfl,hh17_⟩:=hv15_
  rw [hh17_];clear hh17_
  rw [WOGk]
  have w18_:Value.int .i64 (wrapF .i64 (((a:Nat):Int)+(4:Int)))=.int .i64 (((a+4):Nat):Int):=wF (by omega)
  simp +decide only [who_r3,g0_12,g1_12,w18_,Xo 7,go_sem]
  refine EC.mono ((get_ok S hf4_ (by omega) (p:=a+4) r16_ (by omega) (by omega) hp).mono fun v H1 _ h=>by rwa [hok.mark] at h) fun v H19_ _ hv20_=>?_
  obtain ⟨rfl,hh21_⟩:=hv20_
  rw [hh21_];clear hh21_
  rw [WOGk]
  have m22_:∀ t:T Value,t.get 17=iN a→t.get 20=iN (u.size)→t.get 24=iN (u.mark)→fillL t [.int .i64 (0),.int .i64 (0),.int .i64 (0)] [(0,1,(.tmp 17)),(1,1,(.tmp 20)),(2,1,(.tmp 24))]=some [iN a,iN (u.size),iN (u.mark)]:=fun t h0 h1 h2=>by simp only [fillL,evalO_tmp,evalO_const,h0,h1,h2];rfl
  obtain ⟨H23_,nb24_⟩:=newB hf4_ [.int .i64 (0),.int .i64 (0),.int .i64 (0)] 195
  have m25_:alloc1 (blkL [.int .i64 (0),.int .i64 (0),.int .i64 (0)] 195 0) H1_ ptrTo 0 0=.val (.pointer (some ⟨H1_.nx,0,none⟩)) H23_ 0 0:=nb24_.al
  have hf26_:=nb24_.kept.fn
  have nx27_:H23_.nx=H1_.nx+1:=nb24_.nx
  have m28_:H1_.nx≤H23_.nx:=by omega
  have k29_:=k7_.trans nb24_.kept
  obtain ⟨H30_,e31_,wr32_⟩:=exStN_at (o:=0) (vs:=[iN a,iN (u.size),iN (u.mark)]) hf26_ nb24_.row (by show 0+3≤3;decide)
  have m33_:exSt 3 (pA H1_.nx 0) (.agg ⟨[iN a,iN (u.size),iN (u.mark)]⟩) H23_=.val U H30_ 0 (bit (H1_.nx)):=e31_
  have hf34_:=wr32_.fn
  have nx35_:H30_.nx=H23_.nx:=wr32_.nx
  have m36_:H23_.nx≤H30_.nx:=by omega
  have r37_:Row H30_ (H1_.nx) 195 0 [iN a,iN (u.size),iN (u.mark)]:=wr32_.row
  have o38_:e.ok 0 (bit (H1_.nx)) H30_:=.write r37_.lt (fun h=>absurd h (by omega))
  have k39_:Kept H H30_:=⟨wr32_.fn,by have:=k29_.nx;omega,fun c hc=>(wr32_.else_ c (by omega)).trans (k29_.old c hc)⟩
  refine WOG.all (fun t' H'=>H30_=H'∧GT t' [(0,sC b 0 (n) (2*n)),(1,iN a),(2,iN E),(3,.bool g),(8,pA H.nx 0),(9,.bool false),(10,pA H1_.nx 0)]) ?_ ?_
  ·simp +decide only [who_r3,g0_12,g1_12,g2_12,g3_12,g8_12,g9_12,g15_12,m22_,exFill_some,m25_,m28_,m33_,m36_,o38_,Xo 7,go_sem]
  rintro t40_ _ ⟨rfl,g0_40,g1_40,g2_40,g3_40,g8_40,g9_40,g10_40, -⟩
  refine hK0 _ _ ?_
  show WK Tb0 sp e ⟨7,83,none,false⟩ _ t40_ [] H30_ _
  refine WK.seq (WK.seq ?_)
  refine WK.reg_g ?_
  refine WOG.hide fun K0 hK0=>?_
  have m42_:exLd1 (pA H1_.nx 1) H30_=.val (iN (u.size)) H30_ (bit (H1_.nx)) 0:=exLd1_row r37_ rfl
  have o43_:=okr (e:=e) r37_ (by omega)
  have w44_:Value.int .i64 (wrapF .i64 (((E:Nat):Int)-((a:Nat):Int)))=.int .i64 (((E-a):Nat):Int):=wF (by omega)
  have w45_:Value.int .i64 (wrapF .i64 ((((E-a):Nat):Int)-(8:Int)))=.int .i64 (((((E-a))-8):Nat):Int):=wF (by omega)
  have d46_:decide ((((((E-a))-8):Nat):Int)<((u.size:Nat):Int))=false:=decide_eq_false (by omega)
  have m47_:exLdN 3 (pA H1_.nx 0) H30_=.val (.agg ⟨[iN a,iN (u.size),iN (u.mark)]⟩) H30_ (bit (H1_.nx)) 0:=exLdN_row r37_ (by show 0+3≤3;decide)
  simp +decide only [who_r4,g1_40,g2_40,g10_40,m42_,o43_,w44_,w45_,d46_,m47_,o43_,Xo 7,go_sem]
  refine EC.mono (uend_ok S hf34_ (by omega) (a:=a) (s:=u.size) (m:=u.mark) (by omega) (by omega)) fun v H48_ _ hv49_=>?_
  obtain ⟨rfl,hk50_⟩:=hv49_
  have hf51_:=hk50_.fn
  have nx52_:=hk50_.nx
  have k53_:=k39_.trans hk50_
  rw [WOGk]
  have d54_:decide (((E:Nat):Int)<((a+8+up u.size:Nat):Int))=false:=decide_eq_false (by omega)
  refine WOG.all (fun t' H'=>H48_=H'∧GT t' [(0,sC b 0 (n) (2*n)),(1,iN a),(3,.bool g),(8,pA H.nx 0),(9,.bool false),(10,pA H1_.nx 0),(38,.bool false)]) ?_ ?_
  ·simp +decide only [who_r4,g0_40,g1_40,g2_40,g3_40,g8_40,g9_40,g10_40,d54_,Xo 7,go_sem]
  rintro t55_ _ ⟨rfl,g0_55,g1_55,g3_55,g8_55,g9_55,g10_55,g38_55, -⟩
  refine hK0 _ _ ?_
  show WK Tb0 sp e ⟨7,83,none,false⟩ _ t55_ [] H48_ _
  refine WK.cond (v:=false) (by rw [evalO_tmp,g38_55];rfl) ?_
  refine WK.skip ?_
  show WK Tb0 sp e ⟨7,83,none,false⟩ _ t55_ [] H48_ _
  refine WK.seq ?_
  refine WK.reg_g ?_
  refine WOG.hide fun K0 hK0=>?_
  have r57_:=r37_.mv hk50_
  have m58_:exLdN 3 (pA H1_.nx 0) H48_=.val (.agg ⟨[iN a,iN (u.size),iN (u.mark)]⟩) H48_ (bit (H1_.nx)) 0:=exLdN_row r57_ (by show 0+3≤3;decide)
  have o59_:=okr (e:=e) r57_ (by omega)
  simp +decide only [who_r6,g0_55,g10_55,m58_,o59_,Xo 7,go_sem]
  refine EC.mono (byt_ok S hf51_ (by omega) (a:=a) (s:=u.size) (m:=u.mark) (by omega) (by omega)) fun v H60_ _ hv61_=>?_
  obtain ⟨rfl,hk62_⟩:=hv61_
  have hf63_:=hk62_.fn
  have nx64_:=hk62_.nx
  have k65_:=k53_.trans hk62_
  rw [WOGk]
  refine WOG.all (fun t' H'=>H60_=H'∧GT t' [(1,iN a),(3,.bool g),(8,pA H.nx 0),(9,.bool false),(10,pA H1_.nx 0),(11,bytV b (a+8) (up u.size))]) ?_ ?_
  ·simp +decide only [who_r6,g0_55,g1_55,g3_55,g8_55,g9_55,g10_55,g38_55,Xo 7,go_sem]
  rintro t66_ _ ⟨rfl,g1_66,g3_66,g8_66,g9_66,g10_66,g11_66, -⟩
  refine hK0 _ _ ?_
  show WK Tb0 sp e ⟨7,83,none,false⟩ _ t66_ [] H60_ _
  refine WK.seq (WK.seq ?_)
  refine WK.reg_g ?_
  have r68_:=r57_.mv hk62_
  have m69_:exLd1 (pA H1_.nx 2) H60_=.val (iN (u.mark)) H60_ (bit (H1_.nx)) 0:=exLd1_row r68_ rfl
  have o70_:=okr (e:=e) r68_ (by omega)
  refine WOG.all (fun t' H'=>H60_=H'∧GT t' [(1,iN a),(3,.bool g),(8,pA H.nx 0),(9,.bool false),(10,pA H1_.nx 0),(11,bytV b (a+8) (up u.size)),(44,iN (u.mark))]) ?_ ?_
  ·simp +decide only [who_r7,g1_66,g3_66,g8_66,g9_66,g10_66,g11_66,m69_,o70_,Xo 7,go_sem]
  rintro t71_ _ ⟨rfl,g1_71,g3_71,g8_71,g9_71,g10_71,g11_71,g44_71, -⟩
  show WK Tb0 sp e ⟨7,83,none,false⟩ _ t71_ [] H60_ _
  refine WK.block ?_
  refine WK.seq ?_
  refine WK.reg_g ?_
  have d73_:decide (((u.mark:Nat):Int)=(1:Int))=false:=decide_eq_false (by omega)
  refine WOG.all (fun t' H'=>H60_=H'∧GT t' [(1,iN a),(3,.bool g),(8,pA H.nx 0),(9,.bool false),(10,pA H1_.nx 0),(11,bytV b (a+8) (up u.size)),(44,iN (u.mark)),(45,.bool false)]) ?_ ?_
  ·simp +decide only [who_r8,g1_71,g3_71,g8_71,g9_71,g10_71,g11_71,g44_71,d73_,Xo 7,go_sem]
  rintro t74_ _ ⟨rfl,g1_74,g3_74,g8_74,g9_74,g10_74,g11_74,g44_74,g45_74, -⟩
  show WK Tb0 sp e ⟨7,83,none,false⟩ _ t74_ [] H60_ _
  refine WK.cond (v:=false) (by rw [evalO_tmp,g45_74];rfl) ?_
  obtain ⟨hs1,hs8,hz⟩:=hok.gap hu
  have hupe:up u.size=u.size:=up_of hs1
  obtain rfl:=hg hu
  show WK Tb0 sp e ⟨7,83,none,false⟩ _ t74_ [] H60_ _
  refine WK.seq ?_
  refine WK.reg_g ?_
  have d76_:decide (((u.mark:Nat):Int)=(2:Int))=true:=decide_eq_true (by omega)
  refine WOG.all (fun t' H'=>H60_=H'∧GT t' [(1,iN a),(3,.bool false),(8,pA H.nx 0),(9,.bool false),(10,pA H1_.nx 0),(11,bytV b (a+8) (up u.size)),(58,.bool true)]) ?_ ?_
  ·simp +decide only [who_r10,g1_74,g3_74,g8_74,g9_74,g10_74,g11_74,g44_74,g45_74,d76_,Xo 7,go_sem]
  rintro t77_ _ ⟨rfl,g1_77,g3_77,g8_77,g9_77,g10_77,g11_77,g58_77, -⟩
  show WK Tb0 sp e ⟨7,83,none,false⟩ _ t77_ [] H60_ _
  refine WK.cond (v:=true) (by rw [evalO_tmp,g58_77];rfl) ?_
  show WK Tb0 sp e ⟨7,83,none,false⟩ _ t77_ [] H60_ _
  by_cases ha8:8<a
  case neg =>
   have hs8:=hs8 (by omega)
   refine WK.seq ?_
   refine WK.draw_xx (fun c=>c=H1_.nx) [.u,.p,.u,.p,.p,.p,.p,.q,.p,.p,.p,.p,.p,.p,.p,.p,.p,.p,.u,.p,.p,.p,.y,.p] (by omega) rfl ?_
   refine WOX.hide fun K0 hK0=>?_
   have m79_:exLdN 3 (pA H1_.nx 0) H60_=.val (.agg ⟨[iN a,iN (u.size),iN (u.mark)]⟩) H60_ (bit (H1_.nx)) 0:=exLdN_row r68_ (by show 0+3≤3;decide)
   have o80_:=okr (e:=e) r68_ (by omega)
   have o81_:∀ cq,(bit (H1_.nx)).testBit cq=true→cq<H60_.nx∧cq=H1_.nx:=the_bit (P:=fun cq=>cq<H60_.nx∧cq=H1_.nx) ⟨by have:=r68_.lt;omega,rfl⟩
   have m82_:exLd1 (pA H1_.nx 1) H60_=.val (iN (u.size)) H60_ (bit (H1_.nx)) 0:=exLd1_row r68_ rfl
   have m83_:R.o (binV .rem (iN (u.size)) (.int .i64 8)) H60_=.val (.int .i64 0) H60_ 0 0:=rem8 hs1
   have d84_:decide ((0:Int)=(0:Int))=true:=decide_eq_true (by omega)
   have r87_:=(((r16_.mv nb24_.kept).ot wr32_.else_ (by omega)).mv hk50_).mv hk62_
   simp +decide only [who_r11,g10_77,g11_77,m79_,o80_,o81_,m82_,o80_,o81_,m83_,d84_,Xo 7,go_sem]
   repeat (refine And.intro (by assumption) ?_)
   refine EC.mono (zy_ok S r87_ (a:=a+8) (k:=up u.size) (by omega) (by omega) (fun i h1 h2=>by have:=hz (i-(a+8)) (by omega);rwa [show a+8+(i-(a+8))=i by omega] at this) (fun _=>⟨by have:=r87_.lt;omega,hp⟩)) fun v H85_ _ hv86_=>?_
   obtain ⟨rfl,hh88_⟩:=hv86_
   rw [hh88_];clear hh88_
   rw [WOXk]
   have d89_:decide ((8:Int)<((a:Nat):Int))=false:=decide_eq_false (by omega)
   have m90_:exLd1 (pA H1_.nx 1) H60_=.val (iN (u.size)) H60_ (bit (H1_.nx)) 0:=exLd1_row r68_ rfl
   have d91_:decide (((u.size:Nat):Int)<(8:Int))=false:=decide_eq_false (by omega)
   have r92_:=(((nb2_.row.mv nb24_.kept).ot wr32_.else_ (by omega)).mv hk50_).mv hk62_
   obtain ⟨H93_,e94_,wr95_⟩:=exStN_at (o:=0) (vs:=[iN a,iN (u.size),iN (u.mark)]) hf63_ r92_ (by show 0+3≤3;decide)
   have m96_:exSt 3 (pA H.nx 0) (.agg ⟨[iN a,iN (u.size),iN (u.mark)]⟩) H60_=.val U H93_ 0 (bit (H.nx)):=e94_
   have hf97_:=wr95_.fn
   have nx98_:H93_.nx=H60_.nx:=wr95_.nx
   have m99_:H60_.nx≤H93_.nx:=by omega
   have r100_:Row H93_ (H.nx) 195 0 [iN a,iN (u.size),iN (u.mark)]:=wr95_.row
   have o101_:e.ok 0 (bit (H.nx)) H93_:=.write r100_.lt (fun h=>absurd h (by omega))
   have k102_:Kept H H93_:=⟨wr95_.fn,by have:=k65_.nx;omega,fun c hc=>(wr95_.else_ c (by omega)).trans (k65_.old c hc)⟩
   have o103_:∀ cq,(bit (H.nx)).testBit cq=true→¬ cq=H1_.nx:=the_bit (P:=fun cq=>¬ cq=H1_.nx) (by omega)
   have m104_:H93_.nx=H60_.nx:=nx98_
   refine WOX.all (fun t' H'=>H93_=H'∧GT t' [(8,pA H.nx 0),(9,.bool true),(10,pA H1_.nx 0),(11,bytV b (a+8) (up u.size))]) ?_ ?_
   ·simp +decide only [who_r11,g1_77,g3_77,g8_77,g9_77,g10_77,g11_77,g58_77,d89_,m90_,o80_,o81_,d91_,m96_,m99_,o101_,o103_,m104_,Xo 7,go_sem]
    all_goals ((repeat' apply And.intro) <;> assumption)
   rintro t105_ _ ⟨rfl,g8_105,g9_105,g10_105,g11_105, -⟩
   refine hK0 _ _ ?_
   show WK Tb0 sp e ⟨7,83,none,false⟩ _ t105_ [] H93_ _
   have hld:rdN H93_ (H.nx) 0 3=some [iN a,iN (u.size),iN (u.mark)]:=rdN_row (o:=0) (k:=3) r100_ (by show 0+3≤3;decide)
   refine WK.ret ⟨.inr rfl,rfl,[.agg ⟨[iN a,iN (u.size),iN (u.mark)]⟩,.bool true],bit (H.nx),?_,.read r100_.lt (fun h=>absurd h (by omega)),rfl,k102_⟩
   show resL Tb0 83 t105_ _ [.cell 8 195,.tmp 9]=_
   exact resL_ct rfl g8_105 hld g9_105
  refine WK.seq ?_
  refine WK.draw_xx (fun c=>c=H1_.nx) [.u,.p,.u,.p,.p,.p,.p,.q,.p,.p,.p,.p,.p,.p,.p,.p,.p,.p,.p,.p,.p,.p,.y,.p] (by omega) rfl ?_
  refine WOX.hide fun K0 hK0=>?_
  have m79_:exLdN 3 (pA H1_.nx 0) H60_=.val (.agg ⟨[iN a,iN (u.size),iN (u.mark)]⟩) H60_ (bit (H1_.nx)) 0:=exLdN_row r68_ (by show 0+3≤3;decide)
  have o80_:=okr (e:=e) r68_ (by omega)
  have o81_:∀ cq,(bit (H1_.nx)).testBit cq=true→cq<H60_.nx∧cq=H1_.nx:=the_bit (P:=fun cq=>cq<H60_.nx∧cq=H1_.nx) ⟨by have:=r68_.lt;omega,rfl⟩
  have m82_:exLd1 (pA H1_.nx 1) H60_=.val (iN (u.size)) H60_ (bit (H1_.nx)) 0:=exLd1_row r68_ rfl
  have m83_:R.o (binV .rem (iN (u.size)) (.int .i64 8)) H60_=.val (.int .i64 0) H60_ 0 0:=rem8 hs1
  have d84_:decide ((0:Int)=(0:Int))=true:=decide_eq_true (by omega)
  have r87_:=(((r16_.mv nb24_.kept).ot wr32_.else_ (by omega)).mv hk50_).mv hk62_
  simp +decide only [who_r11,g10_77,g11_77,m79_,o80_,o81_,m82_,o80_,o81_,m83_,d84_,Xo 7,go_sem]
  repeat (refine And.intro (by assumption) ?_)
  refine EC.mono (zy_ok S r87_ (a:=a+8) (k:=up u.size) (by omega) (by omega) (fun i h1 h2=>by have:=hz (i-(a+8)) (by omega);rwa [show a+8+(i-(a+8))=i by omega] at this) (fun _=>⟨by have:=r87_.lt;omega,hp⟩)) fun v H85_ _ hv86_=>?_
  obtain ⟨rfl,hh88_⟩:=hv86_
  rw [hh88_];clear hh88_
  rw [WOXk]
  have d89_:decide ((8:Int)<((a:Nat):Int))=true:=decide_eq_true (by omega)
  have r90_:=(((nb2_.row.mv nb24_.kept).ot wr32_.else_ (by omega)).mv hk50_).mv hk62_
  obtain ⟨H91_,e92_,wr93_⟩:=exStN_at (o:=0) (vs:=[iN a,iN (u.size),iN (u.mark)]) hf63_ r90_ (by show 0+3≤3;decide)
  have m94_:exSt 3 (pA H.nx 0) (.agg ⟨[iN a,iN (u.size),iN (u.mark)]⟩) H60_=.val U H91_ 0 (bit (H.nx)):=e92_
  have hf95_:=wr93_.fn
  have nx96_:H91_.nx=H60_.nx:=wr93_.nx
  have m97_:H60_.nx≤H91_.nx:=by omega
  have r98_:Row H91_ (H.nx) 195 0 [iN a,iN (u.size),iN (u.mark)]:=wr93_.row
  have o99_:e.ok 0 (bit (H.nx)) H91_:=.write r98_.lt (fun h=>absurd h (by omega))
  have k100_:Kept H H91_:=⟨wr93_.fn,by have:=k65_.nx;omega,fun c hc=>(wr93_.else_ c (by omega)).trans (k65_.old c hc)⟩
  have o101_:∀ cq,(bit (H.nx)).testBit cq=true→¬ cq=H1_.nx:=the_bit (P:=fun cq=>¬ cq=H1_.nx) (by omega)
  have m102_:H91_.nx=H60_.nx:=nx96_
  refine WOX.all (fun t' H'=>H91_=H'∧GT t' [(8,pA H.nx 0),(9,.bool true),(10,pA H1_.nx 0),(11,bytV b (a+8) (up u.size))]) ?_ ?_
  ·simp +decide only [who_r11,g1_77,g3_77,g8_77,g9_77,g10_77,g11_77,g58_77,d89_,m94_,m97_,o99_,o101_,m102_,Xo 7,go_sem]
   all_goals ((repeat' apply And.intro) <;> assumption)
  rintro t103_ _ ⟨rfl,g8_103,g9_103,g10_103,g11_103, -⟩
  refine hK0 _ _ ?_
  show WK Tb0 sp e ⟨7,83,none,false⟩ _ t103_ [] H91_ _
  have hld:rdN H91_ (H.nx) 0 3=some [iN a,iN (u.size),iN (u.mark)]:=rdN_row (o:=0) (k:=3) r98_ (by show 0+3≤3;decide)
  refine WK.ret ⟨.inr rfl,rfl,[.agg ⟨[iN a,iN (u.size),iN (u.mark)]⟩,.bool true],bit (H.nx),?_,.read r98_.lt (fun h=>absurd h (by omega)),rfl,k100_⟩
  show resL Tb0 83 t103_ _ [.cell 8 195,.tmp 9]=_
  exact resL_ct rfl g8_103 hld g9_103
end
end Go.Proofs.RS
end
noncomputable section
namespace Go.Ev
open Go.Ar (By)
theorem len_strF (f:By) (n:Nat) (H:Hp):exLen 0 (vS (strF f n)) H=.val (vN ((n:Nat))) H 0 0:=by
 show R.val (vN (((strF f n).length:Nat):Int)) H 0 0=_
 rw [strF_len]
theorem ByU.congr {H:Hp} {b ty n:Nat} {f g:By} (h:ByU H b ty f n) (e:∀ i,i<n→f i=g i):ByU H b ty g n:=by
 show Row H b ty 0 (bys g n)
 rw [← bys_congr e];exact h
theorem ByU.toS0 {H:Hp} {b ty n k c:Nat} {f:By} (h:ByU H b ty f n) (hle:0+k≤n):exToS (.slice (some ⟨b,0,none⟩) k c) H=.val (vS (strF f k)) H (bit b) 0:=by
 rw [h.toS hle]
 simp only [Nat.zero_add]
theorem ok_lorR {e:Env} {b r:Nat} {H:Hp} (h1:e.ok (bit b) 0 H) (h2:e.ok r 0 H):e.ok (Nat.lor (bit b) r) 0 H:=by
 have:=h1.lor h2 (Nat.le_refl _)
 rwa [lor_zero'] at this
theorem rd1_row {H:Hp} {b ty op o:Nat} {L:List Value} {v:Value} (h:Row H b ty op L) (hv:L[o]?=some v):rd1 H b o=some v:=by
 have:=exLd1_row h hv
 have e:exLd1 (.pointer (some ⟨b,o,none⟩)) H=(match rd1 H b o with | some v=>R.val v H (bit b) 0 | none=>.fail):=rfl
 rw [e] at this
 cases hh:rd1 H b o with
 | none=>rw [hh] at this;cases this
 | some w=>rw [hh] at this;injection this with h1;rw [h1]
section
variable {tb:Tb} {nt:Nat} {t:T Value} {H:Hp} {rs:List ResultVar} {l:List Value} {r:Nat}
theorem resL_nil:resL tb nt t H []=some ([],0):=rfl
theorem resL_tmp {i:Nat} {v:Value} (hb:Nat.blt i nt=true) (hg:t.get i=v) (h:resL tb nt t H rs=some (l,r)):resL tb nt t H (.tmp i::rs)=some (v::l,r):=by
 simp only [resL,hb,Bc_t,h,hg]
theorem resL_cell1 {a ty b:Nat} {v:Value} (hb:Bc (Nat.blt a nt) (match isAggT tb ty with | some x=>!x | none=>false) false=true) (hg:t.get a=.pointer (some ⟨b,0,none⟩)) (hr:rd1 H b 0=some v) (h:resL tb nt t H rs=some (l,r)) :
 resL tb nt t H (.cell a ty::rs)=some (v::l,Nat.lor (bit b) r):=by
 cases h1:Nat.blt a nt with
 | false=>rw [h1,Bc_f] at hb;cases hb
 | true =>
  rw [h1,Bc_t] at hb
  cases h2:isAggT tb ty with
  | none=>rw [h2] at hb;cases hb
  | some x =>
   rw [h2] at hb
   cases x with
   | true=>cases hb
   | false=>simp only [resL,h1,Bc_t,hg,asPtr,h2,hr,h]
theorem resL_cellA {a ty b n:Nat} {l':List Value} (hb:Bc (Nat.blt a nt) (Bc (match isAggT tb ty with | some b=>b | none=>false) (match szOf tb ty with | some k=>Nat.beq k n | none=>false) false) false=true) (hg:t.get a=.pointer (some ⟨b,0,none⟩)) (hr:rdN H b 0 n=some l') (h:resL tb nt t H rs=some (l,r)) :
 resL tb nt t H (.cell a ty::rs)=some (.agg ⟨l'⟩::l,Nat.lor (bit b) r):=by
 cases h1:Nat.blt a nt with
 | false=>rw [h1,Bc_f] at hb;cases hb
 | true =>
  rw [h1,Bc_t] at hb
  cases h2:isAggT tb ty with
  | none=>rw [h2] at hb;simp [Bc_f] at hb
  | some x =>
   rw [h2] at hb
   cases x with
   | false=>simp [Bc_f] at hb
   | true =>
    simp only [Bc_t] at hb
    cases h3:szOf tb ty with
    | none=>rw [h3] at hb;cases hb
    | some k =>
     rw [h3] at hb
     obtain rfl:=(beq_iff _ _).1 hb
     simp only [resL,h1,Bc_t,hg,asPtr,h2,h3,hr,h]
end
end Go.Ev
namespace Go.Ar
theorem over_all {f g:By} {n i:Nat} (h:i<n):Go.Ev.over f 0 n g i=g i:=by
 unfold Go.Ev.over;rw [if_pos (by omega),Nat.sub_zero]
theorem fin_snoc (a:Nat) (A:List U) (u:U):fin a (A++[u])=fin a A+8+up u.size:=by
 rw [fin_append];show fin a A+(8+up u.size)=_;omega
theorem gapB_snoc (g:Bool) (A:List U) (u:U):gapB g (A++[u])=!u.used:=by rw [gapB_append];rfl
theorem places_snoc (a:Nat) (A:List U) (u:U):(places a (A++[u])).length=(places a A).length+(if u.used then 1 else 0):=by
 rw [places_append,List.length_append]
 congr 1
 show (places (fin a A) [u]).length=_
 cases h:u.used with
 | true=>rw [places_used _ h];rfl
 | false=>rw [places_free _ h];rfl
theorem U.mark_t {u:U} (h:u.used=true):u.mark=1:=by unfold U.mark;rw [h];rfl
theorem U.mark_f {u:U} (h:u.used=false):u.mark=2:=by unfold U.mark;rw [h];rfl
structure At (f:By) (n:Nat) (us A:List U) (u:U) (B:List U):Prop where
 ok:u.Ok f (fin 8 A)
 gap:u.used=false→gapB false A=false
 ge:8≤fin 8 A
 span:u.span=8+up u.size
 stop:fin 8 A+u.span≤fin 8 us
 le:fin 8 us≤n
 next:fin 8 (A++[u])=fin 8 A+8+up u.size
 add:us=(A++[u])++B
structure Lo (f:By) (n:Nat) (us:List U):Prop where
 lay:Lay f 8 false us
 le:fin 8 us≤n
 fin_:be f 0=fin 8 us-8
theorem Is.lo {f:By} {n:Nat} {us:List U} (h:Is f n us):Lo f n us:=⟨h.lay,h.le,h.fin_⟩
theorem Lo.put {f:By} {n:Nat} {us:List U} (h:Lo f n us) (c:Nat):Lo (put4 f 4 c) n us :=
 ⟨h.lay.congr fun i h1 _=>put4_ne (by omega),h.le,by rw [← h.fin_];exact be_congr fun i _ h2=>put4_ne (by omega)⟩
theorem Lo.at {f:By} {n:Nat} {us A B:List U} {u:U} (h:Lo f n us) (e:us=A++u::B):At f n us A u B:=by
 subst e
 have hl:=h.lay
 rw [lay_append] at hl
 obtain ⟨hA,hu,hg,hB⟩:=hl
 have h1:=fin_append 8 A (u::B)
 have h2:fin (fin 8 A) (u::B)=fin (fin 8 A+u.span) B:=rfl
 have h3:=fin_ge (fin 8 A+u.span) B
 exact ⟨hu,hg,fin_ge 8 A,rfl,by rw [h1,h2];exact h3,h.le,fin_snoc _ _ _,by simp⟩
theorem Is.at {f:By} {n:Nat} {us A B:List U} {u:U} (h:Is f n us) (e:us=A++u::B):At f n us A u B:=h.lo.at e
def cut (f:By) (k:Nat):By:=fun i=>if i<k then f i else 0
end Go.Ar
end
