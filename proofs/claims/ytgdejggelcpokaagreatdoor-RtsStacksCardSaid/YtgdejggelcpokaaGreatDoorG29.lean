/-
 A part of the proof that pliantlaw15.RtsStacks returns true and leaves its arguments alone. Conditions: those of the card in the last text.
-/
import Derived.Test.YtgdejggelcpokaaGreatDoorG28
set_option linter.unusedSimpArgs false
set_option linter.unusedVariables false
set_option linter.unusedSectionVars false
noncomputable section
namespace Go.Proofs.RS
open Go Go.Ev Go.Proofs Go.Ar
section
attribute [local go_sem] Bc_f Bc_t GT Ro_some Rv_eq WOG WOX Yj Yk Yl Ym Yn Yo Yp Yq Yr and_self and_true binV_add binV_gtr binV_lss binV_sub callV_func dec_F dec_T evalL evalO_const evalO_func evalO_tmp exEq_int exFa_ptr exLen_str exPick_f exPick_t exUn_not if_false if_true no_bits ok_zero putT_none run true_and wantsV_U wantsV_ff wantsV_ft wantsV_tf wantsV_tt wants_none' wants_some
variable {sp:Nat→List Value→Hp→Option (Value×Hp×Nat×Nat)} {e:Env}
set_option maxRecDepth 10000 in
set_option maxHeartbeats 4000000 in
theorem alc_ok (S:SpX sp) {H:Hp} (hf:H.isFn=true) (he:e.n0≤H.nx) {n k:Nat} {fb:By} {us:List U} (h:Is fb n us) (h16:16≤n) (hn:n≤8192) (hk1:1≤k) (hk2:k≤8192):EC Tb0 sp e 56 [vS (strF fb n),iN k] H fun v H'=>(v=.tuple #[vS [],vN 0,vN 121]∨∃ f' us' off,v=.tuple #[vS (strF f' n),vN ((off:Nat):Int),vN 0]∧AllocR fb f' n us us' off k)∧Kept H H':=by
 refine EC.r2 (by rfl) alc_some alc_comp (S.no 56 (by decide) _ _) (by show 2≤92;decide) fun t0 g0 g1=>?_
 show WK Tb0 sp e ⟨7,92,none,false⟩ alc_k t0 [] H _
 unfold alc_k
 have k0_:Kept H H:=.refl hf
 have h8:=fin_ge 8 us
 have hle:=h.le
 have he8:8+be fb 0=fin 8 us:=by have:=h.fin_;omega
 have hplen:=places_len 8 us
 have hb4:=h.cnt
 have hb4lt:=be_lt fb 4
 have hku:=up_le k
 have hkl:=up_lt k
 refine WK.seq ?_
 refine WK.reg_g ?_
 obtain ⟨H1_,nb2_⟩:=newB hf [iN k] 3
 have m3_:exFill (cellsO (iN k)) (fun l=>alloc1 (blkL l 3 0) H ptrTo 0 0)=.val (.pointer (some ⟨H.nx,0,none⟩)) H1_ 0 0:=nb2_.al
 have hf4_:=nb2_.kept.fn
 have nx5_:H1_.nx=H.nx+1:=nb2_.nx
 have m6_:H.nx≤H1_.nx:=by omega
 have lt7_:=nb2_.row.lt
 have k8_:=k0_.trans nb2_.kept
 obtain ⟨H9_,nb10_⟩:=newB hf4_ [.string ⟨#[]⟩] 9
 have m11_:alloc1 (blkL [.string ⟨#[]⟩] 9 0) H1_ ptrTo 0 0=.val (.pointer (some ⟨H1_.nx,0,none⟩)) H9_ 0 0:=nb10_.al
 have hf12_:=nb10_.kept.fn
 have nx13_:H9_.nx=H1_.nx+1:=nb10_.nx
 have m14_:H1_.nx≤H9_.nx:=by omega
 have lt15_:=nb10_.row.lt
 have k16_:=k8_.trans nb10_.kept
 obtain ⟨H17_,nb18_⟩:=newB hf12_ [.int .i64 (0)] 3
 have m19_:alloc1 (blkL [.int .i64 (0)] 3 0) H9_ ptrTo 0 0=.val (.pointer (some ⟨H9_.nx,0,none⟩)) H17_ 0 0:=nb18_.al
 have hf20_:=nb18_.kept.fn
 have nx21_:H17_.nx=H9_.nx+1:=nb18_.nx
 have m22_:H9_.nx≤H17_.nx:=by omega
 have lt23_:=nb18_.row.lt
 have k24_:=k16_.trans nb18_.kept
 obtain ⟨H25_,nb26_⟩:=newB hf20_ [.int .i64 (0)] 36
 have m27_:alloc1 (blkL [.int .i64 (0)] 36 0) H17_ ptrTo 0 0=.val (.pointer (some ⟨H17_.nx,0,none⟩)) H25_ 0 0:=nb26_.al
 have hf28_:=nb26_.kept.fn
 have nx29_:H25_.nx=H17_.nx+1:=nb26_.nx
 have m30_:H17_.nx≤H25_.nx:=by omega
 have lt31_:=nb26_.row.lt
 have k32_:=k24_.trans nb26_.kept
 refine WOG.all (fun t' H'=>H25_=H'∧GT t' [(0,vS (strF fb n)),(3,pA H.nx 0),(4,pA H1_.nx 0),(5,pA H9_.nx 0),(6,pA H17_.nx 0)]) ?_ ?_
 ·simp +decide only [alc_r0,g0,g1,m3_,m6_,m11_,m14_,m19_,m22_,m27_,m30_,Xo 7,go_sem]
 rintro t33_ _ ⟨rfl,g0_33,g3_33,g4_33,g5_33,g6_33, -⟩
 refine WK.seq ?_
 refine WK.reg_g ?_
 refine WOG.hide fun K0 hK0=>?_
 simp +decide only [alc_r1,g0_33,Xo 7,go_sem]
 refine EC.mono (opn_ok S hf28_ (by omega) h h16 hn) fun v H36_ _ hv37_=>?_
 obtain ⟨rfl,hk38_,hro_35⟩:=hv37_
 have hf39_:=hk38_.fn
 have nx40_:=hk38_.nx
 have k41_:=k32_.trans hk38_
 have hopn35:ByU H36_ (H25_.nx) 5 fb (n):=hro_35
 have lt42_:=hopn35.lt
 rw [WOGk]
 have m43_:∀ Hq,exExt (.tuple #[sC H25_.nx 0 (n) (2*(n)),.bool true]) 0 Hq=.val (sC H25_.nx 0 (n) (2*(n))) Hq 0 0:=fun _=>rfl
 have m44_:∀ Hq,exExt (.tuple #[sC H25_.nx 0 (n) (2*(n)),.bool true]) 1 Hq=.val (.bool true) Hq 0 0:=fun _=>rfl
 obtain ⟨H45_,nb46_⟩:=newB hf39_ [.slice none 0 0] 191
 have m47_:alloc1 (blkL [.slice none 0 0] 191 0) H36_ ptrTo 0 0=.val (.pointer (some ⟨H36_.nx,0,none⟩)) H45_ 0 0:=nb46_.al
 have hf48_:=nb46_.kept.fn
 have nx49_:H45_.nx=H36_.nx+1:=nb46_.nx
 have m50_:H36_.nx≤H45_.nx:=by omega
 have lt51_:=nb46_.row.lt
 have k52_:=k41_.trans nb46_.kept
 obtain ⟨H53_,e54_,wr55_⟩:=exSt1_at (o:=0) (v:=sC H25_.nx 0 (n) (2*(n))) rfl hf48_ nb46_.row (by show 0+1≤1;decide)
 have m56_:exSt 1 (pA H36_.nx 0) (sC H25_.nx 0 (n) (2*(n))) H45_=.val U H53_ 0 (bit (H36_.nx)):=e54_
 have hf57_:=wr55_.fn
 have nx58_:H53_.nx=H45_.nx:=wr55_.nx
 have m59_:H45_.nx≤H53_.nx:=by omega
 have r60_:Row H53_ (H36_.nx) 191 0 [sC H25_.nx 0 (n) (2*(n))]:=wr55_.row
 have o61_:e.ok 0 (bit (H36_.nx)) H53_:=.write r60_.lt (fun h=>absurd h (by omega))
 have k62_:Kept H H53_:=⟨wr55_.fn,by have:=k52_.nx;omega,fun c hc=>(wr55_.else_ c (by omega)).trans (k52_.old c hc)⟩
 refine WOG.all (fun t' H'=>H53_=H'∧GT t' [(3,pA H.nx 0),(4,pA H1_.nx 0),(5,pA H9_.nx 0),(6,pA H17_.nx 0),(7,pA H36_.nx 0),(8,.bool true)]) ?_ ?_
 ·simp +decide only [alc_r1,g0_33,g3_33,g4_33,g5_33,g6_33,m43_,m44_,m47_,m50_,m56_,m59_,o61_,Xo 7,go_sem]
 rintro t63_ _ ⟨rfl,g3_63,g4_63,g5_63,g6_63,g7_63,g8_63, -⟩
 refine hK0 _ _ ?_
 refine WK.seq ?_
 refine WK.seq ?_
 refine WK.reg_g ?_
 refine WOG.all (fun t' H'=>H53_=H'∧GT t' [(3,pA H.nx 0),(4,pA H1_.nx 0),(5,pA H9_.nx 0),(6,pA H17_.nx 0),(7,pA H36_.nx 0),(19,.bool false)]) ?_ ?_
 ·simp +decide only [alc_r2,g3_63,g4_63,g5_63,g6_63,g7_63,g8_63,Xo 7,go_sem]
 rintro t65_ _ ⟨rfl,g3_65,g4_65,g5_65,g6_65,g7_65,g19_65, -⟩
 refine WK.cond (v:=false) (by rw [evalO_tmp,g19_65];rfl) ?_
 refine WK.skip ?_
 refine WK.seq ?_
 refine WK.seq ?_
 refine WK.reg_g ?_
 have r67_:=(((((nb2_.row.mv nb10_.kept).mv nb18_.kept).mv nb26_.kept).mv hk38_).mv nb46_.kept).ot wr55_.else_ (by omega)
 have m68_:exLd1 (pA H.nx 0) H53_=.val (iN k) H53_ (bit (H.nx)) 0:=exLd1_row r67_ rfl
 have o69_:=okr (e:=e) r67_ (by omega)
 have d70_:decide (((k:Nat):Int)<(1:Int))=false:=decide_eq_false (by omega)
 have m71_:exLd1 (pA H.nx 0) H53_=.val (iN k) H53_ (bit (H.nx)) 0:=exLd1_row r67_ rfl
 have d72_:decide ((8192:Int)<((k:Nat):Int))=false:=decide_eq_false (by omega)
 refine WOG.all (fun t' H'=>H53_=H'∧GT t' [(3,pA H.nx 0),(4,pA H1_.nx 0),(5,pA H9_.nx 0),(6,pA H17_.nx 0),(7,pA H36_.nx 0),(25,.bool false)]) ?_ ?_
 ·simp +decide only [alc_r4,g3_65,g4_65,g5_65,g6_65,g7_65,g19_65,m68_,o69_,d70_,m71_,o69_,d72_,Xo 7,go_sem]
 rintro t73_ _ ⟨rfl,g3_73,g4_73,g5_73,g6_73,g7_73,g25_73, -⟩
 refine WK.cond (v:=false) (by rw [evalO_tmp,g25_73];rfl) ?_
 refine WK.skip ?_
 refine WK.seq ?_
 refine WK.draw_xx (fun _=>False) [.q,.q,.q,.p,.x] (by omega) rfl ?_
 refine WOX.hide fun K0 hK0=>?_
 have m75_:exLd1 (pA H36_.nx 0) H53_=.val (sC H25_.nx 0 (n) (2*(n))) H53_ (bit (H36_.nx)) 0:=exLd1_row r60_ rfl
 have o76_:=okr (e:=e) r60_ (by omega)
 have o77_:∀ cq,(bit (H36_.nx)).testBit cq=true→cq<H53_.nx:=the_bit (P:=fun cq=>cq<H53_.nx) (by have:=r60_.lt;omega)
 have m78_:exLd1 (pA H36_.nx 0) H53_=.val (sC H25_.nx 0 (n) (2*(n))) H53_ (bit (H36_.nx)) 0:=exLd1_row r60_ rfl
 have r79_:=(hopn35.mv nb46_.kept).ot wr55_.else_ (by omega)
 simp +decide only [alc_r6,g7_73,m75_,o76_,o77_,m78_,o76_,o77_,Xo 7,go_sem]
 repeat (refine And.intro (by assumption) ?_)
 refine EC.mono (get_ok S hf57_ (Nat.le_refl _) (p:=4) r79_ (by omega) (by omega) (show H25_.nx<(e.sub H53_.nx H53_.nx).n0→(e.sub H53_.nx H53_.nx).Rd (H25_.nx) from fun _=>⟨by have:=hopn35.lt;omega,(fun h=>absurd h (by omega))⟩)) fun v H81_ _ hv82_=>?_
 obtain ⟨rfl,hh83_⟩:=hv82_
 rw [hh83_];clear hh83_
 have be80_:=be_lt fb 4
 rw [WOXk]
 have w84_:Value.int .i64 (wrapF .i64 (((be fb 4:Nat):Int)+(1:Int)))=.int .i64 ((((be fb 4)+1):Nat):Int):=wF (by omega)
 simp +decide only [alc_r6,w84_,Xo 7,go_sem]
 repeat (refine And.intro (by assumption) ?_)
 refine EC.mono (set_ok S hf57_ (Nat.le_refl _) (p:=4) (m:=((be fb 4)+1)) r79_ (by omega) (by omega) (by omega) (show H25_.nx<(e.subX H53_.nx).n0→(e.subX H53_.nx).Wr (H25_.nx) from fun _=>(fun h=>absurd h (by omega)))) fun v H85_ _ hv86_=>?_
 obtain ⟨rfl,ov87_⟩:=hv86_
 have hf88_:=ov87_.fn
 have nx89_:H85_.nx=H53_.nx:=ov87_.nx
 have k90_:Kept H H85_:=⟨ov87_.fn,by have:=k62_.nx;omega,fun c hc=>(ov87_.else_ c (by omega)).trans (k62_.old c hc)⟩
 rw [WOXk]
 refine WOX.all (fun t' H'=>H85_=H'∧GT t' [(3,pA H.nx 0),(4,pA H1_.nx 0),(5,pA H9_.nx 0),(6,pA H17_.nx 0),(7,pA H36_.nx 0)]) ?_ ?_
 ·simp +decide only [alc_r6,g3_73,g4_73,g5_73,g6_73,g7_73,g25_73,Xo 7,go_sem]
  all_goals ((repeat' apply And.intro) <;> assumption)
 rintro t91_ _ ⟨rfl,g3_91,g4_91,g5_91,g6_91,g7_91, -⟩
 refine hK0 _ _ ?_
 have hlo:=h.lo.put (be fb 4+1)
 have he8p:8+be (put4 fb 4 (be fb 4+1)) 0=fin 8 us:=by have:=hlo.fin_;omega
 refine WK.seq ?_
 refine WK.seq ?_
 refine WK.reg_g ?_
 refine WOG.hide fun K0 hK0=>?_
 have r93_:=r60_.ot ov87_.else_ (by omega)
 have m94_:exLd1 (pA H36_.nx 0) H85_=.val (sC H25_.nx 0 (n) (2*(n))) H85_ (bit (H36_.nx)) 0:=exLd1_row r93_ rfl
 have o95_:=okr (e:=e) r93_ (by omega)
 simp +decide only [alc_r7,g7_91,m94_,o95_,Xo 7,go_sem]
 refine EC.mono (unis_ok S hf88_ (by omega)) fun v H97_ _ hv98_=>?_
 obtain ⟨rfl,hk99_,hro_96⟩:=hv98_
 have hf100_:=hk99_.fn
 have nx101_:=hk99_.nx
 have k102_:=k90_.trans hk99_
 have huni96:Row H97_ (H85_.nx) 191 0 [sC H25_.nx 0 (n) (2*(n))]:=hro_96
 have lt103_:=huni96.lt
 rw [WOGk]
 refine WOG.all (fun t' H'=>H97_=H'∧GT t' [(3,pA H.nx 0),(4,pA H1_.nx 0),(5,pA H9_.nx 0),(6,pA H17_.nx 0),(7,pA H36_.nx 0),(32,.func (.func 155) #[] #[.pointer (some ⟨H85_.nx,0,none⟩)])]) ?_ ?_
 ·simp +decide only [alc_r7,g3_91,g4_91,g5_91,g6_91,g7_91,Xo 7,go_sem]
 rintro t104_ _ ⟨rfl,g3_104,g4_104,g5_104,g6_104,g7_104,g32_104, -⟩
 refine hK0 _ _ ?_
 have r106_:=(r67_.ot ov87_.else_ (by omega)).mv hk99_
 have r107_:=((((((nb10_.row.mv nb18_.kept).mv nb26_.kept).mv hk38_).mv nb46_.kept).ot wr55_.else_ (by omega)).ot ov87_.else_ (by omega)).mv hk99_
 have r108_:=(((((nb18_.row.mv nb26_.kept).mv hk38_).mv nb46_.kept).ot wr55_.else_ (by omega)).ot ov87_.else_ (by omega)).mv hk99_
 have r109_:=((((nb26_.row.mv hk38_).mv nb46_.kept).ot wr55_.else_ (by omega)).ot ov87_.else_ (by omega)).mv hk99_
 have r110_:=ov87_.row.mv hk99_
 have r111_:=r93_.mv hk99_
 refine WK.block (WK.rangef2 (g:=155) (args:=[.func (.yield (H97_.nx+1)) #[] #[],.pointer (some ⟨H85_.nx,0,none⟩)]) rfl rfl hf100_ (by rw [evalO_tmp,g32_104];rfl) rfl (by omega) fun hka hkb Hr hkr nxr hdb0 hlp0=>?_)
 have hfr:=hkr.fn
 have k112_:=k102_.trans hkr
 have hlp:IsB Hr (H97_.nx+1) (.loop true none 92 t104_ [33] alc_body.sr.sr.sr.sr.sr.sl.sr.bl.ra alc_body.sr.sr.sr.sr.sr.sl.sr.bl.rb (H97_.nx)):=hlp0
 have hdb:IsB Hr (H97_.nx) (.obj (.deferred (some []))):=hdb0
 have r113_:=huni96.mv hkr
 have r114_:=r110_.mv hkr
 refine (uni1_ok S (l:=H97_.nx+1) (c:=H85_.nx) (b:=H25_.nx) hlo hn (fun A H'=>Kept Hr H'∧∀ v∈A,v.used=false→v.size<up k)
  (fun H'=>∃ f' us' off,AllocR fb f' n us us' off k∧KeptX (fun _=>False) H H'∧Hr.nx≤H'.nx∧IsB H' (H97_.nx+1) (.loop false (some .ret) 92 t104_ [33] alc_body.sr.sr.sr.sr.sr.sl.sr.bl.ra alc_body.sr.sr.sr.sr.sr.sl.sr.bl.rb (H97_.nx))∧IsB H' (H97_.nx) (.obj (.deferred (some [])))∧Row H' (H1_.nx) 9 0 [vS (strF f' n)]∧Row H' (H9_.nx) 3 0 [vN ((off:Nat):Int)]∧Row H' (H17_.nx) 36 0 [vN 0])
  (fun A H' hi=>⟨hi.1.fn,by have:=hi.1.nx;omega,r113_.of_blk (hi.1.old _ r113_.lt),r114_.of_blk (hi.1.old _ r114_.lt)⟩)
  (fun A H1 H2 hi k=>⟨hi.1.trans k,hi.2⟩) (fun h=>absurd h (by omega)) (fun h=>absurd h (by omega)) ?_ ⟨.refl hfr,fun v hv=>by cases hv⟩).mono fun v H1 hle1 hv=>?_
 ·
  intro A u B Ha_ hus hnx hi
  have hkh:=hi.1
  have hfh:=hkh.fn
  have hat:=hlo.at hus
  have hsp:=hat.span
  have hst:=hat.stop
  have hge:=hat.ge
  have hat_le:=hat.le
  have hul:=up_le u.size
  have k115_:=k112_.trans hkh
  have kx0:KeptX (fun c=>c=H97_.nx+1) Hr Ha_:=(KeptX.refl hfr).kept hkh
  have ky0:KeptX (fun c=>c=H97_.nx+1) Ha_ Ha_:=.refl hfh
  have r116_:=hlp.mv hkh
  refine ER.intro (nt:=92) (lt:=t104_) (ps:=[33]) (a:=alc_body.sr.sr.sr.sr.sr.sl.sr.bl.ra) (b:=alc_body.sr.sr.sr.sr.sr.sl.sr.bl.rb) (db:=H97_.nx) (ka:=alc_f16) (kb:=alc_f17) (t:=putT 7 t104_ (some 33) (.agg ⟨[iN (fin 8 A),iN (u.size),iN (u.mark)]⟩)) r116_.eq rfl hka hkb (by omega) r116_.lt ?_
  have g117_:(putT 7 t104_ (some 33) (.agg ⟨[iN (fin 8 A),iN (u.size),iN (u.mark)]⟩)).get 3=pA H.nx 0:=by rw [get_putT (d:=7) (by decide) (by decide),if_neg (by decide)];exact g3_104
  have g118_:(putT 7 t104_ (some 33) (.agg ⟨[iN (fin 8 A),iN (u.size),iN (u.mark)]⟩)).get 4=pA H1_.nx 0:=by rw [get_putT (d:=7) (by decide) (by decide),if_neg (by decide)];exact g4_104
  have g119_:(putT 7 t104_ (some 33) (.agg ⟨[iN (fin 8 A),iN (u.size),iN (u.mark)]⟩)).get 5=pA H9_.nx 0:=by rw [get_putT (d:=7) (by decide) (by decide),if_neg (by decide)];exact g5_104
  have g120_:(putT 7 t104_ (some 33) (.agg ⟨[iN (fin 8 A),iN (u.size),iN (u.mark)]⟩)).get 6=pA H17_.nx 0:=by rw [get_putT (d:=7) (by decide) (by decide),if_neg (by decide)];exact g6_104
  have g121_:(putT 7 t104_ (some 33) (.agg ⟨[iN (fin 8 A),iN (u.size),iN (u.mark)]⟩)).get 7=pA H36_.nx 0:=by rw [get_putT (d:=7) (by decide) (by decide),if_neg (by decide)];exact g7_104
  have g122_:(putT 7 t104_ (some 33) (.agg ⟨[iN (fin 8 A),iN (u.size),iN (u.mark)]⟩)).get 32=.func (.func 155) #[] #[.pointer (some ⟨H85_.nx,0,none⟩)]:=by rw [get_putT (d:=7) (by decide) (by decide),if_neg (by decide)];exact g32_104
  have g33_:(putT 7 t104_ (some 33) (.agg ⟨[iN (fin 8 A),iN (u.size),iN (u.mark)]⟩)).get 33=.agg ⟨[iN (fin 8 A),iN (u.size),iN (u.mark)]⟩:=by rw [get_putT (d:=7) (by decide) (by decide),if_pos rfl]
  revert g117_ g118_ g119_ g120_ g121_ g122_ g33_
  generalize putT 7 t104_ (some 33) (.agg ⟨[iN (fin 8 A),iN (u.size),iN (u.mark)]⟩)=tr
  intro g117_ g118_ g119_ g120_ g121_ g122_ g33_
  show WK Tb0 sp e ⟨7,92,(some (H97_.nx+1)),false⟩ alc_f16 tr [] Ha_ _
  unfold alc_f16
  refine WK.reg_g ?_
  obtain ⟨H123_,nb124_⟩:=newB hfh [.int .i64 (0),.int .i64 (0),.int .i64 (0)] 195
  have m125_:alloc1 (blkL [.int .i64 (0),.int .i64 (0),.int .i64 (0)] 195 0) Ha_ ptrTo 0 0=.val (.pointer (some ⟨Ha_.nx,0,none⟩)) H123_ 0 0:=nb124_.al
  have hf126_:=nb124_.kept.fn
  have nx127_:H123_.nx=Ha_.nx+1:=nb124_.nx
  have m128_:Ha_.nx≤H123_.nx:=by omega
  have lt129_:=nb124_.row.lt
  have k130_:=k115_.trans nb124_.kept
  have k131_:=kx0.kept nb124_.kept
  have k132_:=ky0.kept nb124_.kept
  obtain ⟨H133_,e134_,wr135_⟩:=exStN_at (o:=0) (vs:=[iN (fin 8 A),iN (u.size),iN (u.mark)]) hf126_ nb124_.row (by show 0+3≤3;decide)
  have m136_:exSt 3 (pA Ha_.nx 0) (.agg ⟨[iN (fin 8 A),iN (u.size),iN (u.mark)]⟩) H123_=.val U H133_ 0 (bit (Ha_.nx)):=e134_
  have hf137_:=wr135_.fn
  have nx138_:H133_.nx=H123_.nx:=wr135_.nx
  have m139_:H123_.nx≤H133_.nx:=by omega
  have r140_:Row H133_ (Ha_.nx) 195 0 [iN (fin 8 A),iN (u.size),iN (u.mark)]:=wr135_.row
  have o141_:e.ok 0 (bit (Ha_.nx)) H133_:=.write r140_.lt (fun h=>absurd h (by omega))
  have k142_:Kept H H133_:=⟨wr135_.fn,by have:=k130_.nx;omega,fun c hc=>(wr135_.else_ c (by omega)).trans (k130_.old c hc)⟩
  have k143_:=k131_.wr (b:=Ha_.nx) wr135_.fn wr135_.nx wr135_.else_ (.inr (by omega))
  have k144_:=k132_.wr (b:=Ha_.nx) wr135_.fn wr135_.nx wr135_.else_ (.inr (by omega))
  refine WOG.all (fun t' H'=>H133_=H'∧GT t' [(3,pA H.nx 0),(4,pA H1_.nx 0),(5,pA H9_.nx 0),(6,pA H17_.nx 0),(7,pA H36_.nx 0),(9,pA Ha_.nx 0),(32,.func (.func 155) #[] #[.pointer (some ⟨H85_.nx,0,none⟩)])]) ?_ ?_
  ·simp +decide only [alc_r8,g117_,g118_,g119_,g120_,g121_,g122_,g33_,m125_,m128_,m136_,m139_,o141_,Xo 7,go_sem]
  rintro t145_ _ ⟨rfl,g3_145,g4_145,g5_145,g6_145,g7_145,g9_145,g32_145, -⟩
  have r147_:=(r116_.mv nb124_.kept).ot wr135_.else_ (by omega)
  refine ⟨rfl,rfl,r147_.eq,?_⟩
  obtain ⟨H148_,ep149_,pb150_⟩:=putB hf137_ r147_.lt (.loop false none 92 t104_ [33] alc_body.sr.sr.sr.sr.sr.sl.sr.bl.ra alc_body.sr.sr.sr.sr.sr.sl.sr.bl.rb (H97_.nx))
  have hf151_:=pb150_.fn
  have nx152_:H148_.nx=H133_.nx:=pb150_.nx
  have r153_:IsB H148_ (H97_.nx+1) (.loop false none 92 t104_ [33] alc_body.sr.sr.sr.sr.sr.sl.sr.bl.ra alc_body.sr.sr.sr.sr.sr.sl.sr.bl.rb (H97_.nx)):=⟨pb150_.at_,loop_ne⟩
  have k154_:Kept H H148_:=⟨pb150_.fn,by have:=k142_.nx;omega,fun c hc=>(pb150_.else_ c (by omega)).trans (k142_.old c hc)⟩
  have k155_:=k143_.wr pb150_.fn pb150_.nx pb150_.else_ (.inl rfl)
  have k156_:=k144_.wr pb150_.fn pb150_.nx pb150_.else_ (.inl rfl)
  rw [ep149_]
  show WK Tb0 sp e ⟨7,92,(some (H97_.nx+1)),false⟩ alc_f17 t145_ [] H148_ _
  unfold alc_f17
  refine WK.block ?_
  refine WK.seq ?_
  refine WK.reg_g ?_
  have r157_:=r140_.ot pb150_.else_ (by omega)
  have m158_:exLd1 (pA Ha_.nx 0) H148_=.val (iN (fin 8 A)) H148_ (bit (Ha_.nx)) 0:=exLd1_row r157_ rfl
  have o159_:=okr (e:=e) r157_ (by omega)
  have r160_:=((((r106_.mv hkr).mv hkh).mv nb124_.kept).ot wr135_.else_ (by omega)).ot pb150_.else_ (by omega)
  have m161_:exLd1 (pA H.nx 0) H148_=.val (iN k) H148_ (bit (H.nx)) 0:=exLd1_row r160_ rfl
  have o162_:=okr (e:=e) r160_ (by omega)
  have m163_:∀ t:T Value,t.get 35=iN (fin 8 A)→t.get 36=iN k→fillL t [.int .i64 (0),.int .i64 (0),.int .i64 (0)] [(0,1,(.tmp 35)),(1,1,(.tmp 36)),(2,1,(.const (.int .i64 (1))))]=some [iN (fin 8 A),iN k,.int .i64 (1)]:=fun t h0 h1=>by simp only [fillL,evalO_tmp,evalO_const,h0,h1];rfl
  obtain ⟨H164_,nb165_⟩:=newB hf151_ [.int .i64 (0),.int .i64 (0),.int .i64 (0)] 195
  have m166_:alloc1 (blkL [.int .i64 (0),.int .i64 (0),.int .i64 (0)] 195 0) H148_ ptrTo 0 0=.val (.pointer (some ⟨H148_.nx,0,none⟩)) H164_ 0 0:=nb165_.al
  have hf167_:=nb165_.kept.fn
  have nx168_:H164_.nx=H148_.nx+1:=nb165_.nx
  have m169_:H148_.nx≤H164_.nx:=by omega
  have lt170_:=nb165_.row.lt
  have k171_:=k154_.trans nb165_.kept
  have k172_:=k155_.kept nb165_.kept
  have k173_:=k156_.kept nb165_.kept
  obtain ⟨H174_,e175_,wr176_⟩:=exStN_at (o:=0) (vs:=[iN (fin 8 A),iN k,.int .i64 (1)]) hf167_ nb165_.row (by show 0+3≤3;decide)
  have m177_:exSt 3 (pA H148_.nx 0) (.agg ⟨[iN (fin 8 A),iN k,.int .i64 (1)]⟩) H164_=.val U H174_ 0 (bit (H148_.nx)):=e175_
  have hf178_:=wr176_.fn
  have nx179_:H174_.nx=H164_.nx:=wr176_.nx
  have m180_:H164_.nx≤H174_.nx:=by omega
  have r181_:Row H174_ (H148_.nx) 195 0 [iN (fin 8 A),iN k,.int .i64 (1)]:=wr176_.row
  have o182_:e.ok 0 (bit (H148_.nx)) H174_:=.write r181_.lt (fun h=>absurd h (by omega))
  have k183_:Kept H H174_:=⟨wr176_.fn,by have:=k171_.nx;omega,fun c hc=>(wr176_.else_ c (by omega)).trans (k171_.old c hc)⟩
  have k184_:=k172_.wr (b:=H148_.nx) wr176_.fn wr176_.nx wr176_.else_ (.inr (by omega))
  have k185_:=k173_.wr (b:=H148_.nx) wr176_.fn wr176_.nx wr176_.else_ (.inr (by omega))
  refine WOG.all (fun t' H'=>H174_=H'∧GT t' [(3,pA H.nx 0),(4,pA H1_.nx 0),(5,pA H9_.nx 0),(6,pA H17_.nx 0),(7,pA H36_.nx 0),(9,pA Ha_.nx 0),(10,pA H148_.nx 0),(32,.func (.func 155) #[] #[.pointer (some ⟨H85_.nx,0,none⟩)])]) ?_ ?_
  ·simp +decide only [alc_r9,g3_145,g4_145,g5_145,g6_145,g7_145,g9_145,g32_145,m158_,o159_,m161_,o162_,m163_,exFill_some,m166_,m169_,m177_,m180_,o182_,Xo 7,go_sem]
  rintro t186_ _ ⟨rfl,g3_186,g4_186,g5_186,g6_186,g7_186,g9_186,g10_186,g32_186, -⟩
  refine WK.seq ?_
  refine WK.seq ?_
  cases hu:u.used with
  | true =>
   have hmk:=U.mark_t hu
   have hsk:u.used=false→u.size<up k:=fun h_=>by rw [hu] at h_;cases h_
   have hfinup:=up_le u.size
   refine WK.draw_xx (fun _=>False) [.p,.q,.p,.p,.p,.p,.p,.p,.p,.p] (by omega) rfl ?_
   refine WOX.hide fun K0 hK0=>?_
   have r188_:=(r157_.mv nb165_.kept).ot wr176_.else_ (by omega)
   have m189_:exLd1 (pA Ha_.nx 2) H174_=.val (iN (u.mark)) H174_ (bit (Ha_.nx)) 0:=exLd1_row r188_ rfl
   have o190_:=okr (e:=e) r188_ (by omega)
   have o191_:∀ cq,(bit (Ha_.nx)).testBit cq=true→cq<H174_.nx:=the_bit (P:=fun cq=>cq<H174_.nx) (by have:=r157_.lt;omega)
   have d192_:decide (((u.mark:Nat):Int)=(1:Int))=true:=decide_eq_true (by omega)
   refine WOX.all (fun t' H'=>H174_=H'∧GT t' [(3,pA H.nx 0),(4,pA H1_.nx 0),(5,pA H9_.nx 0),(6,pA H17_.nx 0),(7,pA H36_.nx 0),(9,pA Ha_.nx 0),(10,pA H148_.nx 0),(32,.func (.func 155) #[] #[.pointer (some ⟨H85_.nx,0,none⟩)]),(47,.bool true)]) ?_ ?_
   ·simp +decide only [alc_r10,g3_186,g4_186,g5_186,g6_186,g7_186,g9_186,g10_186,g32_186,m189_,o190_,o191_,d192_,Xo 7,go_sem]
    all_goals ((repeat' apply And.intro) <;> assumption)
   rintro t193_ _ ⟨rfl,g3_193,g4_193,g5_193,g6_193,g7_193,g9_193,g10_193,g32_193,g47_193, -⟩
   refine hK0 _ _ ?_
   refine WK.cond (v:=true) (by rw [evalO_tmp,g47_193];rfl) ?_
   refine WK.exit ?_
   have r195_:=(r153_.mv nb165_.kept).ot wr176_.else_ (by omega)
   refine ⟨r195_.eq,none,rfl,.inl ⟨rfl,?_⟩⟩
   obtain ⟨H196_,ep197_,pb198_⟩:=putB hf178_ r195_.lt (.loop (none:Option Code).isNone none 92 t104_ [33] alc_body.sr.sr.sr.sr.sr.sl.sr.bl.ra alc_body.sr.sr.sr.sr.sr.sl.sr.bl.rb (H97_.nx))
   have hf199_:=pb198_.fn
   have nx200_:H196_.nx=H174_.nx:=pb198_.nx
   have r201_:IsB H196_ (H97_.nx+1) (.loop true none 92 t104_ [33] alc_body.sr.sr.sr.sr.sr.sl.sr.bl.ra alc_body.sr.sr.sr.sr.sr.sl.sr.bl.rb (H97_.nx)):=⟨pb198_.at_,loop_ne⟩
   have k202_:Kept H H196_:=⟨pb198_.fn,by have:=k183_.nx;omega,fun c hc=>(pb198_.else_ c (by omega)).trans (k183_.old c hc)⟩
   have k203_:=k184_.wr pb198_.fn pb198_.nx pb198_.else_ (.inl rfl)
   have k204_:=k185_.wr pb198_.fn pb198_.nx pb198_.else_ (.inl rfl)
   rw [ep197_]
   exact ⟨by omega,⟨k203_.all fun c hc hx=>by subst hx;rw [r201_.eq,hlp.eq],fun v hv=>by
    rcases List.mem_append.1 hv with hv | hv
    ·exact hi.2 v hv
    ·rw [List.mem_singleton.1 hv];exact hsk⟩,fun x h1 h2=>k204_.old x h2 (by omega)⟩
  | false =>
   have hmk:=U.mark_f hu
   by_cases hfit:up u.size<up k
   case pos =>
    have hsk:u.used=false→u.size<up k:=fun _=>by omega
    have hfinup:=up_le u.size
    refine WK.draw_xx (fun _=>False) [.p,.q,.p,.p,.q,.q,.q,.q,.p,.p] (by omega) rfl ?_
    refine WOX.hide fun K0 hK0=>?_
    have r188_:=(r157_.mv nb165_.kept).ot wr176_.else_ (by omega)
    have m189_:exLd1 (pA Ha_.nx 2) H174_=.val (iN (u.mark)) H174_ (bit (Ha_.nx)) 0:=exLd1_row r188_ rfl
    have o190_:=okr (e:=e) r188_ (by omega)
    have o191_:∀ cq,(bit (Ha_.nx)).testBit cq=true→cq<H174_.nx:=the_bit (P:=fun cq=>cq<H174_.nx) (by have:=r157_.lt;omega)
    have d192_:decide (((u.mark:Nat):Int)=(1:Int))=false:=decide_eq_false (by omega)
    have m193_:exLdN 3 (pA H148_.nx 0) H174_=.val (.agg ⟨[iN (fin 8 A),iN k,.int .i64 (1)]⟩) H174_ (bit (H148_.nx)) 0:=exLdN_row r181_ (by show 0+3≤3;decide)
    have o194_:=okr (e:=e) r181_ (by omega)
    have o195_:∀ cq,(bit (H148_.nx)).testBit cq=true→cq<H174_.nx:=the_bit (P:=fun cq=>cq<H174_.nx) (by have:=r181_.lt;omega)
    simp +decide only [alc_r10,g9_186,g10_186,m189_,o190_,o191_,d192_,m193_,o194_,o195_,Xo 7,go_sem]
    repeat (refine And.intro (by assumption) ?_)
    refine EC.mono (uend_ok S hf178_ (Nat.le_refl _) (a:=fin 8 A) (s:=k) (m:=1) (by omega) (by omega)) fun v H198_ _ hv199_=>?_
    obtain ⟨rfl,hk200_⟩:=hv199_
    have hf201_:=hk200_.fn
    have nx202_:=hk200_.nx
    have k203_:=k183_.trans hk200_
    have k204_:=k184_.kept hk200_
    have k205_:=k185_.kept hk200_
    have ul196_:=up_lt k
    have uk197_:=up_le k
    rw [WOXk]
    have r206_:=r188_.mv hk200_
    have m207_:exLdN 3 (pA Ha_.nx 0) H198_=.val (.agg ⟨[iN (fin 8 A),iN (u.size),iN (u.mark)]⟩) H198_ (bit (Ha_.nx)) 0:=exLdN_row r206_ (by show 0+3≤3;decide)
    have o208_:=okr (e:=e) r206_ (by omega)
    have o209_:∀ cq,(bit (Ha_.nx)).testBit cq=true→cq<H174_.nx:=the_bit (P:=fun cq=>cq<H174_.nx) (by have:=r157_.lt;omega)
    simp +decide only [alc_r10,g9_186,m207_,o208_,o209_,Xo 7,go_sem]
    repeat (refine And.intro (by assumption) ?_)
    refine EC.mono (uend_ok S hf201_ (Nat.le_refl _) (a:=fin 8 A) (s:=u.size) (m:=u.mark) (by omega) (by omega)) fun v H212_ _ hv213_=>?_
    obtain ⟨rfl,hk214_⟩:=hv213_
    have hf215_:=hk214_.fn
    have nx216_:=hk214_.nx
    have k217_:=k203_.trans hk214_
    have k218_:=k204_.kept hk214_
    have k219_:=k205_.kept hk214_
    have ul210_:=up_lt u.size
    have uk211_:=up_le u.size
    rw [WOXk]
    have d220_:decide (((fin 8 A+8+up u.size:Nat):Int)<((fin 8 A+8+up k:Nat):Int))=true:=decide_eq_true (by omega)
    refine WOX.all (fun t' H'=>H212_=H'∧GT t' [(3,pA H.nx 0),(4,pA H1_.nx 0),(5,pA H9_.nx 0),(6,pA H17_.nx 0),(7,pA H36_.nx 0),(9,pA Ha_.nx 0),(10,pA H148_.nx 0),(32,.func (.func 155) #[] #[.pointer (some ⟨H85_.nx,0,none⟩)]),(47,.bool true)]) ?_ ?_
    ·simp +decide only [alc_r10,g3_186,g4_186,g5_186,g6_186,g7_186,g9_186,g10_186,g32_186,d220_,Xo 7,go_sem]
     all_goals ((repeat' apply And.intro) <;> assumption)
    rintro t221_ _ ⟨rfl,g3_221,g4_221,g5_221,g6_221,g7_221,g9_221,g10_221,g32_221,g47_221, -⟩
    refine hK0 _ _ ?_
    refine WK.cond (v:=true) (by rw [evalO_tmp,g47_221];rfl) ?_
    refine WK.exit ?_
    have r223_:=(((r153_.mv nb165_.kept).ot wr176_.else_ (by omega)).mv hk200_).mv hk214_
    refine ⟨r223_.eq,none,rfl,.inl ⟨rfl,?_⟩⟩
    obtain ⟨H224_,ep225_,pb226_⟩:=putB hf215_ r223_.lt (.loop (none:Option Code).isNone none 92 t104_ [33] alc_body.sr.sr.sr.sr.sr.sl.sr.bl.ra alc_body.sr.sr.sr.sr.sr.sl.sr.bl.rb (H97_.nx))
    have hf227_:=pb226_.fn
    have nx228_:H224_.nx=H212_.nx:=pb226_.nx
    have r229_:IsB H224_ (H97_.nx+1) (.loop true none 92 t104_ [33] alc_body.sr.sr.sr.sr.sr.sl.sr.bl.ra alc_body.sr.sr.sr.sr.sr.sl.sr.bl.rb (H97_.nx)):=⟨pb226_.at_,loop_ne⟩
    have k230_:Kept H H224_:=⟨pb226_.fn,by have:=k217_.nx;omega,fun c hc=>(pb226_.else_ c (by omega)).trans (k217_.old c hc)⟩
    have k231_:=k218_.wr pb226_.fn pb226_.nx pb226_.else_ (.inl rfl)
    have k232_:=k219_.wr pb226_.fn pb226_.nx pb226_.else_ (.inl rfl)
    rw [ep225_]
    exact ⟨by omega,⟨k231_.all fun c hc hx=>by subst hx;rw [r229_.eq,hlp.eq],fun v hv=>by
     rcases List.mem_append.1 hv with hv | hv
     ·exact hi.2 v hv
     ·rw [List.mem_singleton.1 hv];exact hsk⟩,fun x h1 h2=>k232_.old x h2 (by omega)⟩
   case neg =>
    have hgap:=hat.ok.gap hu
    have hup:=up_of hgap.1
    have hgm:=hgap.1
    have hkm:=up_mod k
    have hfinup:=up_le u.size
    refine WK.draw_xx (fun _=>False) [.p,.q,.p,.p,.q,.q,.q,.q,.p,.p] (by omega) rfl ?_
    refine WOX.hide fun K0 hK0=>?_
    have r188_:=(r157_.mv nb165_.kept).ot wr176_.else_ (by omega)
    have m189_:exLd1 (pA Ha_.nx 2) H174_=.val (iN (u.mark)) H174_ (bit (Ha_.nx)) 0:=exLd1_row r188_ rfl
    have o190_:=okr (e:=e) r188_ (by omega)
    have o191_:∀ cq,(bit (Ha_.nx)).testBit cq=true→cq<H174_.nx:=the_bit (P:=fun cq=>cq<H174_.nx) (by have:=r157_.lt;omega)
    have d192_:decide (((u.mark:Nat):Int)=(1:Int))=false:=decide_eq_false (by omega)
    have m193_:exLdN 3 (pA H148_.nx 0) H174_=.val (.agg ⟨[iN (fin 8 A),iN k,.int .i64 (1)]⟩) H174_ (bit (H148_.nx)) 0:=exLdN_row r181_ (by show 0+3≤3;decide)
    have o194_:=okr (e:=e) r181_ (by omega)
    have o195_:∀ cq,(bit (H148_.nx)).testBit cq=true→cq<H174_.nx:=the_bit (P:=fun cq=>cq<H174_.nx) (by have:=r181_.lt;omega)
    simp +decide only [alc_r10,g9_186,g10_186,m189_,o190_,o191_,d192_,m193_,o194_,o195_,Xo 7,go_sem]
    repeat (refine And.intro (by assumption) ?_)
    refine EC.mono (uend_ok S hf178_ (Nat.le_refl _) (a:=fin 8 A) (s:=k) (m:=1) (by omega) (by omega)) fun v H198_ _ hv199_=>?_
    obtain ⟨rfl,hk200_⟩:=hv199_
    have hf201_:=hk200_.fn
    have nx202_:=hk200_.nx
    have k203_:=k183_.trans hk200_
    have k204_:=k184_.kept hk200_
    have k205_:=k185_.kept hk200_
    have ul196_:=up_lt k
    have uk197_:=up_le k
    rw [WOXk]
    have r206_:=r188_.mv hk200_
    have m207_:exLdN 3 (pA Ha_.nx 0) H198_=.val (.agg ⟨[iN (fin 8 A),iN (u.size),iN (u.mark)]⟩) H198_ (bit (Ha_.nx)) 0:=exLdN_row r206_ (by show 0+3≤3;decide)
    have o208_:=okr (e:=e) r206_ (by omega)
    have o209_:∀ cq,(bit (Ha_.nx)).testBit cq=true→cq<H174_.nx:=the_bit (P:=fun cq=>cq<H174_.nx) (by have:=r157_.lt;omega)
    simp +decide only [alc_r10,g9_186,m207_,o208_,o209_,Xo 7,go_sem]
    repeat (refine And.intro (by assumption) ?_)
    refine EC.mono (uend_ok S hf201_ (Nat.le_refl _) (a:=fin 8 A) (s:=u.size) (m:=u.mark) (by omega) (by omega)) fun v H212_ _ hv213_=>?_
    obtain ⟨rfl,hk214_⟩:=hv213_
    have hf215_:=hk214_.fn
    have nx216_:=hk214_.nx
    have k217_:=k203_.trans hk214_
    have k218_:=k204_.kept hk214_
    have k219_:=k205_.kept hk214_
    have ul210_:=up_lt u.size
    have uk211_:=up_le u.size
    rw [WOXk]
    have d220_:decide (((fin 8 A+8+up u.size:Nat):Int)<((fin 8 A+8+up k:Nat):Int))=false:=decide_eq_false (by omega)
    refine WOX.all (fun t' H'=>H212_=H'∧GT t' [(3,pA H.nx 0),(4,pA H1_.nx 0),(5,pA H9_.nx 0),(6,pA H17_.nx 0),(7,pA H36_.nx 0),(9,pA Ha_.nx 0),(10,pA H148_.nx 0),(32,.func (.func 155) #[] #[.pointer (some ⟨H85_.nx,0,none⟩)]),(47,.bool false)]) ?_ ?_
    ·simp +decide only [alc_r10,g3_186,g4_186,g5_186,g6_186,g7_186,g9_186,g10_186,g32_186,d220_,Xo 7,go_sem]
     all_goals ((repeat' apply And.intro) <;> assumption)
    rintro t221_ _ ⟨rfl,g3_221,g4_221,g5_221,g6_221,g7_221,g9_221,g10_221,g32_221,g47_221, -⟩
    refine hK0 _ _ ?_
    refine WK.cond (v:=false) (by rw [evalO_tmp,g47_221];rfl) ?_
    refine WK.skip ?_
    refine WK.seq ?_
    refine WK.reg_g ?_
    refine WOG.hide fun K0 hK0=>?_
    have r223_:=((((((((r111_.mv hkr).mv hkh).mv nb124_.kept).ot wr135_.else_ (by omega)).ot pb150_.else_ (by omega)).mv nb165_.kept).ot wr176_.else_ (by omega)).mv hk200_).mv hk214_
    have m224_:exLd1 (pA H36_.nx 0) H212_=.val (sC H25_.nx 0 (n) (2*(n))) H212_ (bit (H36_.nx)) 0:=exLd1_row r223_ rfl
    have o225_:=okr (e:=e) r223_ (by omega)
    have r226_:=(r181_.mv hk200_).mv hk214_
    have m227_:exLdN 3 (pA H148_.nx 0) H212_=.val (.agg ⟨[iN (fin 8 A),iN k,.int .i64 (1)]⟩) H212_ (bit (H148_.nx)) 0:=exLdN_row r226_ (by show 0+3≤3;decide)
    have o228_:=okr (e:=e) r226_ (by omega)
    have r229_:=(((((((r114_.mv hkh).mv nb124_.kept).ot wr135_.else_ (by omega)).ot pb150_.else_ (by omega)).mv nb165_.kept).ot wr176_.else_ (by omega)).mv hk200_).mv hk214_
    simp +decide only [alc_r11,g7_221,g10_221,m224_,o225_,m227_,o228_,Xo 7,go_sem]
    refine EC.mono (hed_ok S hf215_ (by omega) (a:=fin 8 A) (s:=k) (m:=1) r229_ (by omega) (by omega) (by omega) (by omega) (fun h=>absurd h (by omega))) fun v H230_ _ hv231_=>?_
    obtain ⟨rfl,ov232_⟩:=hv231_
    have hf233_:=ov232_.fn
    have nx234_:=ov232_.nx
    have k235_:Kept H H230_:=⟨ov232_.fn,by have:=k217_.nx;have:=ov232_.nx;omega,fun c hc=>(ov232_.old c (by have:=k217_.nx;omega) (by omega)).trans (k217_.old c hc)⟩
    rw [WOGk]
    refine WOG.all (fun t' H'=>H230_=H'∧GT t' [(3,pA H.nx 0),(4,pA H1_.nx 0),(5,pA H9_.nx 0),(6,pA H17_.nx 0),(7,pA H36_.nx 0),(9,pA Ha_.nx 0),(10,pA H148_.nx 0),(32,.func (.func 155) #[] #[.pointer (some ⟨H85_.nx,0,none⟩)])]) ?_ ?_
    ·simp +decide only [alc_r11,g3_221,g4_221,g5_221,g6_221,g7_221,g9_221,g10_221,g32_221,g47_221,Xo 7,go_sem]
    rintro t238_ _ ⟨rfl,g3_238,g4_238,g5_238,g6_238,g7_238,g9_238,g10_238,g32_238, -⟩
    refine hK0 _ _ ?_
    refine WK.seq ?_
    refine WK.seq ?_
    refine WK.draw_xx (fun _=>False) [.q,.q,.q,.q,.p,.p] (by omega) rfl ?_
    refine WOX.hide fun K0 hK0=>?_
    have r240_:=(r206_.mv hk214_).mo ov232_.old (by omega)
    have m241_:exLdN 3 (pA Ha_.nx 0) H230_=.val (.agg ⟨[iN (fin 8 A),iN (u.size),iN (u.mark)]⟩) H230_ (bit (Ha_.nx)) 0:=exLdN_row r240_ (by show 0+3≤3;decide)
    have o242_:=okr (e:=e) r240_ (by omega)
    have o243_:∀ cq,(bit (Ha_.nx)).testBit cq=true→cq<H230_.nx:=the_bit (P:=fun cq=>cq<H230_.nx) (by have:=r206_.lt;omega)
    simp +decide only [alc_r12,g9_238,m241_,o242_,o243_,Xo 7,go_sem]
    repeat (refine And.intro (by assumption) ?_)
    refine EC.mono (uend_ok S hf233_ (Nat.le_refl _) (a:=fin 8 A) (s:=u.size) (m:=u.mark) (by omega) (by omega)) fun v H246_ _ hv247_=>?_
    obtain ⟨rfl,hk248_⟩:=hv247_
    have hf249_:=hk248_.fn
    have nx250_:=hk248_.nx
    have k251_:=k235_.trans hk248_
    have ul244_:=up_lt u.size
    have uk245_:=up_le u.size
    rw [WOXk]
    have r252_:=(r226_.mo ov232_.old (by omega)).mv hk248_
    have m253_:exLdN 3 (pA H148_.nx 0) H246_=.val (.agg ⟨[iN (fin 8 A),iN k,.int .i64 (1)]⟩) H246_ (bit (H148_.nx)) 0:=exLdN_row r252_ (by show 0+3≤3;decide)
    have o254_:=okr (e:=e) r252_ (by omega)
    have o255_:∀ cq,(bit (H148_.nx)).testBit cq=true→cq<H230_.nx:=the_bit (P:=fun cq=>cq<H230_.nx) (by have:=r226_.lt;omega)
    simp +decide only [alc_r12,g10_238,m253_,o254_,o255_,Xo 7,go_sem]
    repeat (refine And.intro (by assumption) ?_)
    refine EC.mono (uend_ok S hf249_ (Nat.le_refl _) (a:=fin 8 A) (s:=k) (m:=1) (by omega) (by omega)) fun v H258_ _ hv259_=>?_
    obtain ⟨rfl,hk260_⟩:=hv259_
    have hf261_:=hk260_.fn
    have nx262_:=hk260_.nx
    have k263_:=k251_.trans hk260_
    have ul256_:=up_lt k
    have uk257_:=up_le k
    rw [WOXk]
    have w264_:Value.int .i64 (wrapF .i64 (((fin 8 A+8+up u.size:Nat):Int)-((fin 8 A+8+up k:Nat):Int)))=.int .i64 ((((fin 8 A+8+up u.size)-(fin 8 A+8+up k)):Nat):Int):=wF (by omega)
    refine WOX.all (fun t' H'=>H258_=H'∧GT t' [(3,pA H.nx 0),(4,pA H1_.nx 0),(5,pA H9_.nx 0),(6,pA H17_.nx 0),(7,pA H36_.nx 0),(10,pA H148_.nx 0),(11,iN (((fin 8 A+8+up u.size)-(fin 8 A+8+up k)))),(32,.func (.func 155) #[] #[.pointer (some ⟨H85_.nx,0,none⟩)])]) ?_ ?_
    ·simp +decide only [alc_r12,g3_238,g4_238,g5_238,g6_238,g7_238,g9_238,g10_238,g32_238,w264_,Xo 7,go_sem]
     all_goals ((repeat' apply And.intro) <;> assumption)
    rintro t265_ _ ⟨rfl,g3_265,g4_265,g5_265,g6_265,g7_265,g10_265,g11_265,g32_265, -⟩
    refine hK0 _ _ ?_
    refine WK.seq ?_
    by_cases hrest:up k<u.size
    case pos =>
     refine WK.reg_g ?_
     have d267_:decide ((0:Int)<((((fin 8 A+8+up u.size)-(fin 8 A+8+up k)):Nat):Int))=true:=decide_eq_true (by omega)
     refine WOG.all (fun t' H'=>H258_=H'∧GT t' [(3,pA H.nx 0),(4,pA H1_.nx 0),(5,pA H9_.nx 0),(6,pA H17_.nx 0),(7,pA H36_.nx 0),(10,pA H148_.nx 0),(11,iN (((fin 8 A+8+up u.size)-(fin 8 A+8+up k)))),(32,.func (.func 155) #[] #[.pointer (some ⟨H85_.nx,0,none⟩)]),(57,.bool true)]) ?_ ?_
     ·simp +decide only [alc_r13,g3_265,g4_265,g5_265,g6_265,g7_265,g10_265,g11_265,g32_265,d267_,Xo 7,go_sem]
     rintro t268_ _ ⟨rfl,g3_268,g4_268,g5_268,g6_268,g7_268,g10_268,g11_268,g32_268,g57_268, -⟩
     refine WK.cond (v:=true) (by rw [evalO_tmp,g57_268];rfl) ?_
     refine WK.draw_xx (fun _=>False) [.q,.q,.q,.p,.p,.p,.x] (by omega) rfl ?_
     refine WOX.hide fun K0 hK0=>?_
     have r270_:=((r223_.mo ov232_.old (by omega)).mv hk248_).mv hk260_
     have m271_:exLd1 (pA H36_.nx 0) H258_=.val (sC H25_.nx 0 (n) (2*(n))) H258_ (bit (H36_.nx)) 0:=exLd1_row r270_ rfl
     have o272_:=okr (e:=e) r270_ (by omega)
     have o273_:∀ cq,(bit (H36_.nx)).testBit cq=true→cq<H258_.nx:=the_bit (P:=fun cq=>cq<H258_.nx) (by have:=r223_.lt;omega)
     have r274_:=r252_.mv hk260_
     have m275_:exLdN 3 (pA H148_.nx 0) H258_=.val (.agg ⟨[iN (fin 8 A),iN k,.int .i64 (1)]⟩) H258_ (bit (H148_.nx)) 0:=exLdN_row r274_ (by show 0+3≤3;decide)
     have o276_:=okr (e:=e) r274_ (by omega)
     have o277_:∀ cq,(bit (H148_.nx)).testBit cq=true→cq<H258_.nx:=the_bit (P:=fun cq=>cq<H258_.nx) (by have:=r252_.lt;omega)
     simp +decide only [alc_r14,g7_268,g10_268,m271_,o272_,o273_,m275_,o276_,o277_,Xo 7,go_sem]
     repeat (refine And.intro (by assumption) ?_)
     refine EC.mono (uend_ok S hf261_ (Nat.le_refl _) (a:=fin 8 A) (s:=k) (m:=1) (by omega) (by omega)) fun v H280_ _ hv281_=>?_
     obtain ⟨rfl,hk282_⟩:=hv281_
     have hf283_:=hk282_.fn
     have nx284_:=hk282_.nx
     have k285_:=k263_.trans hk282_
     have ul278_:=up_lt k
     have uk279_:=up_le k
     rw [WOXk]
     have w286_:Value.int .i64 (wrapF .i64 (((((fin 8 A+8+up u.size)-(fin 8 A+8+up k)):Nat):Int)-(8:Int)))=.int .i64 ((((((fin 8 A+8+up u.size)-(fin 8 A+8+up k)))-8):Nat):Int):=wF (by omega)
     have m287_:∀ t:T Value,t.get 60=iN (fin 8 A+8+up k)→t.get 62=iN (((((fin 8 A+8+up u.size)-(fin 8 A+8+up k)))-8))→fillL t [.int .i64 (0),.int .i64 (0),.int .i64 (0)] [(0,1,(.tmp 60)),(1,1,(.tmp 62)),(2,1,(.const (.int .i64 (2))))]=some [iN (fin 8 A+8+up k),iN (((((fin 8 A+8+up u.size)-(fin 8 A+8+up k)))-8)),.int .i64 (2)]:=fun t h0 h1=>by simp only [fillL,evalO_tmp,evalO_const,h0,h1];rfl
     have r288_:=((ov232_.row.mv hk248_).mv hk260_).mv hk282_
     simp +decide only [alc_r14,g11_268,w286_,m287_,exFill_some,Xo 7,go_sem]
     repeat (refine And.intro (by assumption) ?_)
     refine EC.mono (hed_ok S hf283_ (Nat.le_refl _) (a:=fin 8 A+8+up k) (s:=((((fin 8 A+8+up u.size)-(fin 8 A+8+up k)))-8)) (m:=2) r288_ (by omega) (by omega) (by omega) (by omega) (show H25_.nx<(e.subX H280_.nx).n0→(e.subX H280_.nx).Wr (H25_.nx) from fun _=>(fun h=>absurd h (by omega)))) fun v H289_ _ hv290_=>?_
     obtain ⟨rfl,ov291_⟩:=hv290_
     have hf292_:=ov291_.fn
     have nx293_:=ov291_.nx
     have k294_:Kept H H289_:=⟨ov291_.fn,by have:=k285_.nx;have:=ov291_.nx;omega,fun c hc=>(ov291_.old c (by have:=k285_.nx;omega) (by omega)).trans (k285_.old c hc)⟩
     rw [WOXk]
     refine WOX.all (fun t' H'=>H289_=H'∧GT t' [(3,pA H.nx 0),(4,pA H1_.nx 0),(5,pA H9_.nx 0),(6,pA H17_.nx 0),(7,pA H36_.nx 0),(10,pA H148_.nx 0),(32,.func (.func 155) #[] #[.pointer (some ⟨H85_.nx,0,none⟩)])]) ?_ ?_
     ·simp +decide only [alc_r14,g3_268,g4_268,g5_268,g6_268,g7_268,g10_268,g11_268,g32_268,g57_268,Xo 7,go_sem]
      all_goals ((repeat' apply And.intro) <;> assumption)
     rintro t295_ _ ⟨rfl,g3_295,g4_295,g5_295,g6_295,g7_295,g10_295,g32_295, -⟩
     refine hK0 _ _ ?_
     refine WK.seq ?_
     refine WK.draw_xx (fun _=>False) [.q,.q,.q,.q,.p,.x,.x,.x] (by omega) rfl ?_
     refine WOX.hide fun K0 hK0=>?_
     have r297_:=(r270_.mv hk282_).mo ov291_.old (by omega)
     have m298_:exLd1 (pA H36_.nx 0) H289_=.val (sC H25_.nx 0 (n) (2*(n))) H289_ (bit (H36_.nx)) 0:=exLd1_row r297_ rfl
     have o299_:=okr (e:=e) r297_ (by omega)
     have o300_:∀ cq,(bit (H36_.nx)).testBit cq=true→cq<H289_.nx:=the_bit (P:=fun cq=>cq<H289_.nx) (by have:=r270_.lt;omega)
     have m301_:exToS (sC H25_.nx 0 (n) (2*(n))) H289_=.val (vS (strF (headF (headF (put4 fb 4 (((be fb 4)+1))) (fin 8 A) k 1) (fin 8 A+8+up k) (((((fin 8 A+8+up u.size)-(fin 8 A+8+up k)))-8)) 2) (n))) H289_ (bit (H25_.nx)) 0:=ByU.toS0 ov291_.row (by omega)
     have o302_:=okr (e:=e) ov291_.row (by omega)
     have o303_:∀ cq,(bit (H25_.nx)).testBit cq=true→cq<H289_.nx:=the_bit (P:=fun cq=>cq<H289_.nx) (by have:=ov291_.row.lt;omega)
     have r304_:=(r274_.mv hk282_).mo ov291_.old (by omega)
     have m305_:exLdN 3 (pA H148_.nx 0) H289_=.val (.agg ⟨[iN (fin 8 A),iN k,.int .i64 (1)]⟩) H289_ (bit (H148_.nx)) 0:=exLdN_row r304_ (by show 0+3≤3;decide)
     have o306_:=okr (e:=e) r304_ (by omega)
     have o307_:∀ cq,(bit (H148_.nx)).testBit cq=true→cq<H289_.nx:=the_bit (P:=fun cq=>cq<H289_.nx) (by have:=r274_.lt;omega)
     simp +decide only [alc_r15,g7_295,g10_295,m298_,o299_,o300_,m301_,o302_,o303_,m305_,o306_,o307_,Xo 7,go_sem]
     repeat (refine And.intro (by assumption) ?_)
     refine EC.mono (pce_ok S hf292_ (Nat.le_refl _) (a:=fin 8 A) (s:=k) (m:=1) (by omega)) fun v H308_ _ hv309_=>?_
     obtain ⟨rfl,hk310_⟩:=hv309_
     have hf311_:=hk310_.fn
     have nx312_:=hk310_.nx
     have k313_:=k294_.trans hk310_
     rw [WOXk]
     have m314_:∀ Hq,exFld false 1 0 (.agg ⟨[iN ((fin 8 A+8)),iN k]⟩) Hq=.val (iN ((fin 8 A+8))) Hq 0 0:=fun _=>rfl
     have r315_:=((((((((((((((r107_.mv hkr).mv hkh).mv nb124_.kept).ot wr135_.else_ (by omega)).ot pb150_.else_ (by omega)).mv nb165_.kept).ot wr176_.else_ (by omega)).mv hk200_).mv hk214_).mo ov232_.old (by omega)).mv hk248_).mv hk260_).mv hk282_).mo ov291_.old (by omega)).mv hk310_
     obtain ⟨H316_,e317_,wr318_⟩:=exSt1_at (o:=0) (v:=vS (strF (headF (headF (put4 fb 4 (((be fb 4)+1))) (fin 8 A) k 1) (fin 8 A+8+up k) (((((fin 8 A+8+up u.size)-(fin 8 A+8+up k)))-8)) 2) (n))) rfl hf311_ r315_ (by show 0+1≤1;decide)
     have m319_:exSt 1 (pA H1_.nx 0) (vS (strF (headF (headF (put4 fb 4 (((be fb 4)+1))) (fin 8 A) k 1) (fin 8 A+8+up k) (((((fin 8 A+8+up u.size)-(fin 8 A+8+up k)))-8)) 2) (n))) H308_=.val U H316_ 0 (bit (H1_.nx)):=e317_
     have hf320_:=wr318_.fn
     have nx321_:H316_.nx=H308_.nx:=wr318_.nx
     have m322_:H308_.nx≤H316_.nx:=by omega
     have r323_:Row H316_ (H1_.nx) 9 0 [vS (strF (headF (headF (put4 fb 4 (((be fb 4)+1))) (fin 8 A) k 1) (fin 8 A+8+up k) (((((fin 8 A+8+up u.size)-(fin 8 A+8+up k)))-8)) 2) (n))]:=wr318_.row
     have o324_:e.ok 0 (bit (H1_.nx)) H316_:=.write r323_.lt (fun h=>absurd h (by omega))
     have k325_:Kept H H316_:=⟨wr318_.fn,by have:=k313_.nx;omega,fun c hc=>(wr318_.else_ c (by omega)).trans (k313_.old c hc)⟩
     have r326_:=(((((((((((((((r108_.mv hkr).mv hkh).mv nb124_.kept).ot wr135_.else_ (by omega)).ot pb150_.else_ (by omega)).mv nb165_.kept).ot wr176_.else_ (by omega)).mv hk200_).mv hk214_).mo ov232_.old (by omega)).mv hk248_).mv hk260_).mv hk282_).mo ov291_.old (by omega)).mv hk310_).ot wr318_.else_ (by omega)
     obtain ⟨H327_,e328_,wr329_⟩:=exSt1_at (o:=0) (v:=iN ((fin 8 A+8))) rfl hf320_ r326_ (by show 0+1≤1;decide)
     have m330_:exSt 1 (pA H9_.nx 0) (iN ((fin 8 A+8))) H316_=.val U H327_ 0 (bit (H9_.nx)):=e328_
     have hf331_:=wr329_.fn
     have nx332_:H327_.nx=H316_.nx:=wr329_.nx
     have m333_:H316_.nx≤H327_.nx:=by omega
     have r334_:Row H327_ (H9_.nx) 3 0 [iN ((fin 8 A+8))]:=wr329_.row
     have o335_:e.ok 0 (bit (H9_.nx)) H327_:=.write r334_.lt (fun h=>absurd h (by omega))
     have k336_:Kept H H327_:=⟨wr329_.fn,by have:=k325_.nx;omega,fun c hc=>(wr329_.else_ c (by omega)).trans (k325_.old c hc)⟩
     have r337_:=((((((((((((((((r109_.mv hkr).mv hkh).mv nb124_.kept).ot wr135_.else_ (by omega)).ot pb150_.else_ (by omega)).mv nb165_.kept).ot wr176_.else_ (by omega)).mv hk200_).mv hk214_).mo ov232_.old (by omega)).mv hk248_).mv hk260_).mv hk282_).mo ov291_.old (by omega)).mv hk310_).ot wr318_.else_ (by omega)).ot wr329_.else_ (by omega)
     obtain ⟨H338_,e339_,wr340_⟩:=exSt1_at (o:=0) (v:=.int .i64 (0)) rfl hf331_ r337_ (by show 0+1≤1;decide)
     have m341_:exSt 1 (pA H17_.nx 0) (.int .i64 (0)) H327_=.val U H338_ 0 (bit (H17_.nx)):=e339_
     have hf342_:=wr340_.fn
     have nx343_:H338_.nx=H327_.nx:=wr340_.nx
     have m344_:H327_.nx≤H338_.nx:=by omega
     have r345_:Row H338_ (H17_.nx) 36 0 [.int .i64 (0)]:=wr340_.row
     have o346_:e.ok 0 (bit (H17_.nx)) H338_:=.write r345_.lt (fun h=>absurd h (by omega))
     have k347_:Kept H H338_:=⟨wr340_.fn,by have:=k336_.nx;omega,fun c hc=>(wr340_.else_ c (by omega)).trans (k336_.old c hc)⟩
     refine WOX.all (fun t' H'=>H338_=H'∧GT t' [(3,pA H.nx 0),(4,pA H1_.nx 0),(5,pA H9_.nx 0),(6,pA H17_.nx 0),(7,pA H36_.nx 0),(32,.func (.func 155) #[] #[.pointer (some ⟨H85_.nx,0,none⟩)])]) ?_ ?_
     ·simp +decide only [alc_r15,g3_295,g4_295,g5_295,g6_295,g7_295,g10_295,g32_295,m314_,m319_,m322_,o324_,m330_,m333_,o335_,m341_,m344_,o346_,Xo 7,go_sem]
      all_goals ((repeat' apply And.intro) <;> assumption)
     rintro t348_ _ ⟨rfl,g3_348,g4_348,g5_348,g6_348,g7_348,g32_348, -⟩
     refine hK0 _ _ ?_
     have r350_:=(((ov291_.row.mv hk310_).ot wr318_.else_ (by omega)).ot wr329_.else_ (by omega)).ot wr340_.else_ (by omega)
     have r351_:=((((((((((((r153_.mv nb165_.kept).ot wr176_.else_ (by omega)).mv hk200_).mv hk214_).mo ov232_.old (by omega)).mv hk248_).mv hk260_).mv hk282_).mo ov291_.old (by omega)).mv hk310_).ot wr318_.else_ (by omega)).ot wr329_.else_ (by omega)).ot wr340_.else_ (by omega)
     refine WK.ret ⟨r351_.eq,some .ret,rfl,.inr ⟨rfl,?_⟩⟩
     obtain ⟨H352_,ep353_,pb354_⟩:=putB hf342_ r351_.lt (.loop (some Code.ret).isNone (some .ret) 92 t104_ [33] alc_body.sr.sr.sr.sr.sr.sl.sr.bl.ra alc_body.sr.sr.sr.sr.sr.sl.sr.bl.rb (H97_.nx))
     have hf355_:=pb354_.fn
     have nx356_:H352_.nx=H338_.nx:=pb354_.nx
     have r357_:IsB H352_ (H97_.nx+1) (.loop false (some .ret) 92 t104_ [33] alc_body.sr.sr.sr.sr.sr.sl.sr.bl.ra alc_body.sr.sr.sr.sr.sr.sl.sr.bl.rb (H97_.nx)):=⟨pb354_.at_,loop_ne⟩
     have k358_:Kept H H352_:=⟨pb354_.fn,by have:=k347_.nx;omega,fun c hc=>(pb354_.else_ c (by omega)).trans (k347_.old c hc)⟩
     rw [ep353_]
     obtain ⟨us',hall⟩:=alloc_gap (f:=fb) (n:=n) (k:=k) (A:=A) (B:=B) (u:=u) (hus▸h) hu hk1 (by omega) (by omega)
     rw [← hus] at hall
     have hgf:gapF fb (fin 8 A) k u.size (be fb 4)=headF (headF (put4 fb 4 (((be fb 4)+1))) (fin 8 A) k 1) (fin 8 A+8+up k) (((((fin 8 A+8+up u.size)-(fin 8 A+8+up k)))-8)) 2:=by unfold gapF;rw [if_pos hrest];first | rfl | (congr 1;omega)
     rw [hgf] at hall
     have r359_:=(((((((((((((((((hdb.mv hkh).mv nb124_.kept).ot wr135_.else_ (by omega)).ot pb150_.else_ (by omega)).mv nb165_.kept).ot wr176_.else_ (by omega)).mv hk200_).mv hk214_).mo ov232_.old (by omega)).mv hk248_).mv hk260_).mv hk282_).mo ov291_.old (by omega)).mv hk310_).ot wr318_.else_ (by omega)).ot wr329_.else_ (by omega)).ot wr340_.else_ (by omega)).ot pb354_.else_ (by omega)
     have r360_:=((r323_.ot wr329_.else_ (by omega)).ot wr340_.else_ (by omega)).ot pb354_.else_ (by omega)
     have r361_:=(r334_.ot wr340_.else_ (by omega)).ot pb354_.else_ (by omega)
     have r362_:=r345_.ot pb354_.else_ (by omega)
     exact ⟨_,us',_,hall,⟨k358_.fn,k358_.nx,fun c hc _=>k358_.old c hc⟩,by omega,r357_,r359_,r360_,r361_,r362_⟩
    case neg =>
     refine WK.reg_g ?_
     have d267_:decide ((0:Int)<((((fin 8 A+8+up u.size)-(fin 8 A+8+up k)):Nat):Int))=false:=decide_eq_false (by omega)
     refine WOG.all (fun t' H'=>H258_=H'∧GT t' [(3,pA H.nx 0),(4,pA H1_.nx 0),(5,pA H9_.nx 0),(6,pA H17_.nx 0),(7,pA H36_.nx 0),(10,pA H148_.nx 0),(11,iN (((fin 8 A+8+up u.size)-(fin 8 A+8+up k)))),(32,.func (.func 155) #[] #[.pointer (some ⟨H85_.nx,0,none⟩)]),(57,.bool false)]) ?_ ?_
     ·simp +decide only [alc_r13,g3_265,g4_265,g5_265,g6_265,g7_265,g10_265,g11_265,g32_265,d267_,Xo 7,go_sem]
     rintro t268_ _ ⟨rfl,g3_268,g4_268,g5_268,g6_268,g7_268,g10_268,g11_268,g32_268,g57_268, -⟩
     refine WK.cond (v:=false) (by rw [evalO_tmp,g57_268];rfl) ?_
     refine WK.skip ?_
     refine WK.seq ?_
     refine WK.draw_xx (fun _=>False) [.q,.q,.q,.q,.p,.x,.x,.x] (by omega) rfl ?_
     refine WOX.hide fun K0 hK0=>?_
     have r270_:=((r223_.mo ov232_.old (by omega)).mv hk248_).mv hk260_
     have m271_:exLd1 (pA H36_.nx 0) H258_=.val (sC H25_.nx 0 (n) (2*(n))) H258_ (bit (H36_.nx)) 0:=exLd1_row r270_ rfl
     have o272_:=okr (e:=e) r270_ (by omega)
     have o273_:∀ cq,(bit (H36_.nx)).testBit cq=true→cq<H258_.nx:=the_bit (P:=fun cq=>cq<H258_.nx) (by have:=r223_.lt;omega)
     have r274_:=(ov232_.row.mv hk248_).mv hk260_
     have m275_:exToS (sC H25_.nx 0 (n) (2*(n))) H258_=.val (vS (strF (headF (put4 fb 4 (((be fb 4)+1))) (fin 8 A) k 1) (n))) H258_ (bit (H25_.nx)) 0:=ByU.toS0 r274_ (by omega)
     have o276_:=okr (e:=e) r274_ (by omega)
     have o277_:∀ cq,(bit (H25_.nx)).testBit cq=true→cq<H258_.nx:=the_bit (P:=fun cq=>cq<H258_.nx) (by have:=ov232_.row.lt;omega)
     have r278_:=r252_.mv hk260_
     have m279_:exLdN 3 (pA H148_.nx 0) H258_=.val (.agg ⟨[iN (fin 8 A),iN k,.int .i64 (1)]⟩) H258_ (bit (H148_.nx)) 0:=exLdN_row r278_ (by show 0+3≤3;decide)
     have o280_:=okr (e:=e) r278_ (by omega)
     have o281_:∀ cq,(bit (H148_.nx)).testBit cq=true→cq<H258_.nx:=the_bit (P:=fun cq=>cq<H258_.nx) (by have:=r252_.lt;omega)
     simp +decide only [alc_r15,g7_268,g10_268,m271_,o272_,o273_,m275_,o276_,o277_,m279_,o280_,o281_,Xo 7,go_sem]
     repeat (refine And.intro (by assumption) ?_)
     refine EC.mono (pce_ok S hf261_ (Nat.le_refl _) (a:=fin 8 A) (s:=k) (m:=1) (by omega)) fun v H282_ _ hv283_=>?_
     obtain ⟨rfl,hk284_⟩:=hv283_
     have hf285_:=hk284_.fn
     have nx286_:=hk284_.nx
     have k287_:=k263_.trans hk284_
     rw [WOXk]
     have m288_:∀ Hq,exFld false 1 0 (.agg ⟨[iN ((fin 8 A+8)),iN k]⟩) Hq=.val (iN ((fin 8 A+8))) Hq 0 0:=fun _=>rfl
     have r289_:=((((((((((((r107_.mv hkr).mv hkh).mv nb124_.kept).ot wr135_.else_ (by omega)).ot pb150_.else_ (by omega)).mv nb165_.kept).ot wr176_.else_ (by omega)).mv hk200_).mv hk214_).mo ov232_.old (by omega)).mv hk248_).mv hk260_).mv hk284_
     obtain ⟨H290_,e291_,wr292_⟩:=exSt1_at (o:=0) (v:=vS (strF (headF (put4 fb 4 (((be fb 4)+1))) (fin 8 A) k 1) (n))) rfl hf285_ r289_ (by show 0+1≤1;decide)
     have m293_:exSt 1 (pA H1_.nx 0) (vS (strF (headF (put4 fb 4 (((be fb 4)+1))) (fin 8 A) k 1) (n))) H282_=.val U H290_ 0 (bit (H1_.nx)):=e291_
     have hf294_:=wr292_.fn
     have nx295_:H290_.nx=H282_.nx:=wr292_.nx
     have m296_:H282_.nx≤H290_.nx:=by omega
     have r297_:Row H290_ (H1_.nx) 9 0 [vS (strF (headF (put4 fb 4 (((be fb 4)+1))) (fin 8 A) k 1) (n))]:=wr292_.row
     have o298_:e.ok 0 (bit (H1_.nx)) H290_:=.write r297_.lt (fun h=>absurd h (by omega))
     have k299_:Kept H H290_:=⟨wr292_.fn,by have:=k287_.nx;omega,fun c hc=>(wr292_.else_ c (by omega)).trans (k287_.old c hc)⟩
     have r300_:=(((((((((((((r108_.mv hkr).mv hkh).mv nb124_.kept).ot wr135_.else_ (by omega)).ot pb150_.else_ (by omega)).mv nb165_.kept).ot wr176_.else_ (by omega)).mv hk200_).mv hk214_).mo ov232_.old (by omega)).mv hk248_).mv hk260_).mv hk284_).ot wr292_.else_ (by omega)
     obtain ⟨H301_,e302_,wr303_⟩:=exSt1_at (o:=0) (v:=iN ((fin 8 A+8))) rfl hf294_ r300_ (by show 0+1≤1;decide)
     have m304_:exSt 1 (pA H9_.nx 0) (iN ((fin 8 A+8))) H290_=.val U H301_ 0 (bit (H9_.nx)):=e302_
     have hf305_:=wr303_.fn
     have nx306_:H301_.nx=H290_.nx:=wr303_.nx
     have m307_:H290_.nx≤H301_.nx:=by omega
     have r308_:Row H301_ (H9_.nx) 3 0 [iN ((fin 8 A+8))]:=wr303_.row
     have o309_:e.ok 0 (bit (H9_.nx)) H301_:=.write r308_.lt (fun h=>absurd h (by omega))
     have k310_:Kept H H301_:=⟨wr303_.fn,by have:=k299_.nx;omega,fun c hc=>(wr303_.else_ c (by omega)).trans (k299_.old c hc)⟩
     have r311_:=((((((((((((((r109_.mv hkr).mv hkh).mv nb124_.kept).ot wr135_.else_ (by omega)).ot pb150_.else_ (by omega)).mv nb165_.kept).ot wr176_.else_ (by omega)).mv hk200_).mv hk214_).mo ov232_.old (by omega)).mv hk248_).mv hk260_).mv hk284_).ot wr292_.else_ (by omega)).ot wr303_.else_ (by omega)
     obtain ⟨H312_,e313_,wr314_⟩:=exSt1_at (o:=0) (v:=.int .i64 (0)) rfl hf305_ r311_ (by show 0+1≤1;decide)
     have m315_:exSt 1 (pA H17_.nx 0) (.int .i64 (0)) H301_=.val U H312_ 0 (bit (H17_.nx)):=e313_
     have hf316_:=wr314_.fn
     have nx317_:H312_.nx=H301_.nx:=wr314_.nx
     have m318_:H301_.nx≤H312_.nx:=by omega
     have r319_:Row H312_ (H17_.nx) 36 0 [.int .i64 (0)]:=wr314_.row
     have o320_:e.ok 0 (bit (H17_.nx)) H312_:=.write r319_.lt (fun h=>absurd h (by omega))
     have k321_:Kept H H312_:=⟨wr314_.fn,by have:=k310_.nx;omega,fun c hc=>(wr314_.else_ c (by omega)).trans (k310_.old c hc)⟩
     refine WOX.all (fun t' H'=>H312_=H'∧GT t' [(3,pA H.nx 0),(4,pA H1_.nx 0),(5,pA H9_.nx 0),(6,pA H17_.nx 0),(7,pA H36_.nx 0),(10,pA H148_.nx 0),(11,iN (((fin 8 A+8+up u.size)-(fin 8 A+8+up k)))),(32,.func (.func 155) #[] #[.pointer (some ⟨H85_.nx,0,none⟩)])]) ?_ ?_
     ·simp +decide only [alc_r15,g3_268,g4_268,g5_268,g6_268,g7_268,g10_268,g11_268,g32_268,g57_268,m288_,m293_,m296_,o298_,m304_,m307_,o309_,m315_,m318_,o320_,Xo 7,go_sem]
      all_goals ((repeat' apply And.intro) <;> assumption)
     rintro t322_ _ ⟨rfl,g3_322,g4_322,g5_322,g6_322,g7_322,g10_322,g11_322,g32_322, -⟩
     refine hK0 _ _ ?_
     have r324_:=(((r274_.mv hk284_).ot wr292_.else_ (by omega)).ot wr303_.else_ (by omega)).ot wr314_.else_ (by omega)
     have r325_:=((((((((((r153_.mv nb165_.kept).ot wr176_.else_ (by omega)).mv hk200_).mv hk214_).mo ov232_.old (by omega)).mv hk248_).mv hk260_).mv hk284_).ot wr292_.else_ (by omega)).ot wr303_.else_ (by omega)).ot wr314_.else_ (by omega)
     refine WK.ret ⟨r325_.eq,some .ret,rfl,.inr ⟨rfl,?_⟩⟩
     obtain ⟨H326_,ep327_,pb328_⟩:=putB hf316_ r325_.lt (.loop (some Code.ret).isNone (some .ret) 92 t104_ [33] alc_body.sr.sr.sr.sr.sr.sl.sr.bl.ra alc_body.sr.sr.sr.sr.sr.sl.sr.bl.rb (H97_.nx))
     have hf329_:=pb328_.fn
     have nx330_:H326_.nx=H312_.nx:=pb328_.nx
     have r331_:IsB H326_ (H97_.nx+1) (.loop false (some .ret) 92 t104_ [33] alc_body.sr.sr.sr.sr.sr.sl.sr.bl.ra alc_body.sr.sr.sr.sr.sr.sl.sr.bl.rb (H97_.nx)):=⟨pb328_.at_,loop_ne⟩
     have k332_:Kept H H326_:=⟨pb328_.fn,by have:=k321_.nx;omega,fun c hc=>(pb328_.else_ c (by omega)).trans (k321_.old c hc)⟩
     rw [ep327_]
     obtain ⟨us',hall⟩:=alloc_gap (f:=fb) (n:=n) (k:=k) (A:=A) (B:=B) (u:=u) (hus▸h) hu hk1 (by omega) (by omega)
     rw [← hus] at hall
     have hgf:gapF fb (fin 8 A) k u.size (be fb 4)=headF (put4 fb 4 (((be fb 4)+1))) (fin 8 A) k 1:=by unfold gapF;rw [if_neg hrest]
     rw [hgf] at hall
     have r333_:=(((((((((((((((hdb.mv hkh).mv nb124_.kept).ot wr135_.else_ (by omega)).ot pb150_.else_ (by omega)).mv nb165_.kept).ot wr176_.else_ (by omega)).mv hk200_).mv hk214_).mo ov232_.old (by omega)).mv hk248_).mv hk260_).mv hk284_).ot wr292_.else_ (by omega)).ot wr303_.else_ (by omega)).ot wr314_.else_ (by omega)).ot pb328_.else_ (by omega)
     have r334_:=((r297_.ot wr303_.else_ (by omega)).ot wr314_.else_ (by omega)).ot pb328_.else_ (by omega)
     have r335_:=(r308_.ot wr314_.else_ (by omega)).ot pb328_.else_ (by omega)
     have r336_:=r319_.ot pb328_.else_ (by omega)
     exact ⟨_,us',_,hall,⟨k332_.fn,k332_.nx,fun c hc _=>k332_.old c hc⟩,by omega,r331_,r333_,r334_,r335_,r336_⟩
 obtain ⟨_,hv⟩:=hv
 rcases hv with hv | hv
 ·
  obtain ⟨hk1_,hsmall⟩:=hv
  have hf1_:=hk1_.fn
  have k115_:=k112_.trans hk1_
  have r116_:=hlp.mv hk1_
  refine ⟨true,none,92,t104_,[33],alc_body.sr.sr.sr.sr.sr.sl.sr.bl.ra,alc_body.sr.sr.sr.sr.sr.sl.sr.bl.rb,H97_.nx,.normal,r116_.eq,rfl,?_⟩
  obtain ⟨H117_,ep118_,pb119_⟩:=putB hf1_ r116_.lt (.no)
  have hf120_:=pb119_.fn
  have nx121_:H117_.nx=H1.nx:=pb119_.nx
  have k122_:Kept H H117_:=⟨pb119_.fn,by have:=k115_.nx;omega,fun c hc=>(pb119_.else_ c (by omega)).trans (k115_.old c hc)⟩
  rw [ep118_]
  refine WK.seq ?_
  refine WK.draw_xx (fun _=>False) [.q,.q,.q,.p,.q,.l] (by omega) rfl ?_
  refine WOX.hide fun K0 hK0=>?_
  have r123_:=((r111_.mv hkr).mv hk1_).ot pb119_.else_ (by omega)
  have m124_:exLd1 (pA H36_.nx 0) H117_=.val (sC H25_.nx 0 (n) (2*(n))) H117_ (bit (H36_.nx)) 0:=exLd1_row r123_ rfl
  have o125_:=okr (e:=e) r123_ (by omega)
  have o126_:∀ cq,(bit (H36_.nx)).testBit cq=true→cq<H117_.nx:=the_bit (P:=fun cq=>cq<H117_.nx) (by have:=r111_.lt;omega)
  have r127_:=(r114_.mv hk1_).ot pb119_.else_ (by omega)
  simp +decide only [alc_r18,g7_104,m124_,o125_,o126_,Xo 7,go_sem]
  repeat (refine And.intro (by assumption) ?_)
  refine EC.mono ((hend_ok S hf120_ (Nat.le_refl _) r127_ (by omega) (by omega) (show H25_.nx<(e.sub H117_.nx H117_.nx).n0→(e.sub H117_.nx H117_.nx).Rd (H25_.nx) from fun _=>⟨by have:=r114_.lt;omega,(fun h=>absurd h (by omega))⟩)).mono fun v H1 _ h_=>by rwa [he8p] at h_) fun v H128_ _ hv129_=>?_
  obtain ⟨rfl,hh130_⟩:=hv129_
  rw [hh130_];clear hh130_
  rw [WOXk]
  have r131_:=((r106_.mv hkr).mv hk1_).ot pb119_.else_ (by omega)
  have m132_:exLd1 (pA H.nx 0) H117_=.val (iN k) H117_ (bit (H.nx)) 0:=exLd1_row r131_ rfl
  have o133_:=okr (e:=e) r131_ (by omega)
  have o134_:∀ cq,(bit (H.nx)).testBit cq=true→cq<H117_.nx:=the_bit (P:=fun cq=>cq<H117_.nx) (by have:=r106_.lt;omega)
  have m135_:∀ t:T Value,t.get 71=iN (fin 8 us)→t.get 72=iN k→fillL t [.int .i64 (0),.int .i64 (0),.int .i64 (0)] [(0,1,(.tmp 71)),(1,1,(.tmp 72)),(2,1,(.const (.int .i64 (1))))]=some [iN (fin 8 us),iN k,.int .i64 (1)]:=fun t h0 h1=>by simp only [fillL,evalO_tmp,evalO_const,h0,h1];rfl
  obtain ⟨H136_,nb137_⟩:=newB hf120_ [.int .i64 (0),.int .i64 (0),.int .i64 (0)] 195
  have m138_:alloc1 (blkL [.int .i64 (0),.int .i64 (0),.int .i64 (0)] 195 0) H117_ ptrTo 0 0=.val (.pointer (some ⟨H117_.nx,0,none⟩)) H136_ 0 0:=nb137_.al
  have hf139_:=nb137_.kept.fn
  have nx140_:H136_.nx=H117_.nx+1:=nb137_.nx
  have m141_:H117_.nx≤H136_.nx:=by omega
  have lt142_:=nb137_.row.lt
  have k143_:=k122_.trans nb137_.kept
  obtain ⟨H144_,e145_,wr146_⟩:=exStN_at (o:=0) (vs:=[iN (fin 8 us),iN k,.int .i64 (1)]) hf139_ nb137_.row (by show 0+3≤3;decide)
  have m147_:exSt 3 (pA H117_.nx 0) (.agg ⟨[iN (fin 8 us),iN k,.int .i64 (1)]⟩) H136_=.val U H144_ 0 (bit (H117_.nx)):=e145_
  have hf148_:=wr146_.fn
  have nx149_:H144_.nx=H136_.nx:=wr146_.nx
  have m150_:H136_.nx≤H144_.nx:=by omega
  have r151_:Row H144_ (H117_.nx) 195 0 [iN (fin 8 us),iN k,.int .i64 (1)]:=wr146_.row
  have o152_:e.ok 0 (bit (H117_.nx)) H144_:=.write r151_.lt (fun h=>absurd h (by omega))
  have o153_:∀ cq,(bit (H117_.nx)).testBit cq=true→H117_.nx≤cq:=the_bit (P:=fun cq=>H117_.nx≤cq) (by omega)
  have k154_:Kept H H144_:=⟨wr146_.fn,by have:=k143_.nx;omega,fun c hc=>(wr146_.else_ c (by omega)).trans (k143_.old c hc)⟩
  refine WOX.all (fun t' H'=>H144_=H'∧GT t' [(3,pA H.nx 0),(4,pA H1_.nx 0),(5,pA H9_.nx 0),(6,pA H17_.nx 0),(7,pA H36_.nx 0),(12,pA H117_.nx 0),(32,.func (.func 155) #[] #[.pointer (some ⟨H85_.nx,0,none⟩)])]) ?_ ?_
  ·simp +decide only [alc_r18,g3_104,g4_104,g5_104,g6_104,g7_104,g32_104,m132_,o133_,o134_,m135_,exFill_some,m138_,m141_,m147_,m150_,o152_,o153_,Xo 7,go_sem]
   all_goals ((repeat' apply And.intro) <;> assumption)
  rintro t155_ _ ⟨rfl,g3_155,g4_155,g5_155,g6_155,g7_155,g12_155,g32_155, -⟩
  refine hK0 _ _ ?_
  refine WK.seq ?_
  refine WK.seq ?_
  by_cases hfit:n<fin 8 us+8+up k
  case pos =>
   refine WK.draw_xx (fun _=>False) [.q,.q,.q,.p,.p] (by omega) rfl ?_
   refine WOX.hide fun K0 hK0=>?_
   have m157_:exLdN 3 (pA H117_.nx 0) H144_=.val (.agg ⟨[iN (fin 8 us),iN k,.int .i64 (1)]⟩) H144_ (bit (H117_.nx)) 0:=exLdN_row r151_ (by show 0+3≤3;decide)
   have o158_:=okr (e:=e) r151_ (by omega)
   have o159_:∀ cq,(bit (H117_.nx)).testBit cq=true→cq<H144_.nx:=the_bit (P:=fun cq=>cq<H144_.nx) (by have:=r151_.lt;omega)
   simp +decide only [alc_r19,g12_155,m157_,o158_,o159_,Xo 7,go_sem]
   repeat (refine And.intro (by assumption) ?_)
   refine EC.mono (uend_ok S hf148_ (Nat.le_refl _) (a:=fin 8 us) (s:=k) (m:=1) (by omega) (by omega)) fun v H162_ _ hv163_=>?_
   obtain ⟨rfl,hk164_⟩:=hv163_
   have hf165_:=hk164_.fn
   have nx166_:=hk164_.nx
   have k167_:=k154_.trans hk164_
   have ul160_:=up_lt k
   have uk161_:=up_le k
   rw [WOXk]
   have r168_:=((r123_.mv nb137_.kept).ot wr146_.else_ (by omega)).mv hk164_
   have m169_:exLd1 (pA H36_.nx 0) H162_=.val (sC H25_.nx 0 (n) (2*(n))) H162_ (bit (H36_.nx)) 0:=exLd1_row r168_ rfl
   have o170_:=okr (e:=e) r168_ (by omega)
   have o171_:∀ cq,(bit (H36_.nx)).testBit cq=true→cq<H144_.nx:=the_bit (P:=fun cq=>cq<H144_.nx) (by have:=r123_.lt;omega)
   have m172_:∀ Hq,exLen 1 (sC H25_.nx 0 (n) (2*(n))) Hq=.val (vN ((n:Nat))) Hq 0 0:=fun _=>rfl
   have d173_:decide (((n:Nat):Int)<((fin 8 us+8+up k:Nat):Int))=true:=decide_eq_true (by omega)
   refine WOX.all (fun t' H'=>H162_=H'∧GT t' [(3,pA H.nx 0),(4,pA H1_.nx 0),(5,pA H9_.nx 0),(6,pA H17_.nx 0),(7,pA H36_.nx 0),(12,pA H117_.nx 0),(32,.func (.func 155) #[] #[.pointer (some ⟨H85_.nx,0,none⟩)]),(78,.bool true)]) ?_ ?_
   ·simp +decide only [alc_r19,g3_155,g4_155,g5_155,g6_155,g7_155,g12_155,g32_155,m169_,o170_,o171_,m172_,d173_,Xo 7,go_sem]
    all_goals ((repeat' apply And.intro) <;> assumption)
   rintro t174_ _ ⟨rfl,g3_174,g4_174,g5_174,g6_174,g7_174,g12_174,g32_174,g78_174, -⟩
   refine hK0 _ _ ?_
   refine WK.cond (v:=true) (by rw [evalO_tmp,g78_174];rfl) ?_
   refine WK.seq ?_
   refine WK.reg_g ?_
   have r176_:=(((((r107_.mv hkr).mv hk1_).ot pb119_.else_ (by omega)).mv nb137_.kept).ot wr146_.else_ (by omega)).mv hk164_
   obtain ⟨H177_,e178_,wr179_⟩:=exSt1_at (o:=0) (v:=.string ⟨#[]⟩) rfl hf165_ r176_ (by show 0+1≤1;decide)
   have m180_:exSt 1 (pA H1_.nx 0) (.string ⟨#[]⟩) H162_=.val U H177_ 0 (bit (H1_.nx)):=e178_
   have hf181_:=wr179_.fn
   have nx182_:H177_.nx=H162_.nx:=wr179_.nx
   have m183_:H162_.nx≤H177_.nx:=by omega
   have r184_:Row H177_ (H1_.nx) 9 0 [.string ⟨#[]⟩]:=wr179_.row
   have o185_:e.ok 0 (bit (H1_.nx)) H177_:=.write r184_.lt (fun h=>absurd h (by omega))
   have k186_:Kept H H177_:=⟨wr179_.fn,by have:=k167_.nx;omega,fun c hc=>(wr179_.else_ c (by omega)).trans (k167_.old c hc)⟩
   have r187_:=((((((r108_.mv hkr).mv hk1_).ot pb119_.else_ (by omega)).mv nb137_.kept).ot wr146_.else_ (by omega)).mv hk164_).ot wr179_.else_ (by omega)
   obtain ⟨H188_,e189_,wr190_⟩:=exSt1_at (o:=0) (v:=.int .i64 (0)) rfl hf181_ r187_ (by show 0+1≤1;decide)
   have m191_:exSt 1 (pA H9_.nx 0) (.int .i64 (0)) H177_=.val U H188_ 0 (bit (H9_.nx)):=e189_
   have hf192_:=wr190_.fn
   have nx193_:H188_.nx=H177_.nx:=wr190_.nx
   have m194_:H177_.nx≤H188_.nx:=by omega
   have r195_:Row H188_ (H9_.nx) 3 0 [.int .i64 (0)]:=wr190_.row
   have o196_:e.ok 0 (bit (H9_.nx)) H188_:=.write r195_.lt (fun h=>absurd h (by omega))
   have k197_:Kept H H188_:=⟨wr190_.fn,by have:=k186_.nx;omega,fun c hc=>(wr190_.else_ c (by omega)).trans (k186_.old c hc)⟩
   have r198_:=(((((((r109_.mv hkr).mv hk1_).ot pb119_.else_ (by omega)).mv nb137_.kept).ot wr146_.else_ (by omega)).mv hk164_).ot wr179_.else_ (by omega)).ot wr190_.else_ (by omega)
   obtain ⟨H199_,e200_,wr201_⟩:=exSt1_at (o:=0) (v:=.int .i64 (121)) rfl hf192_ r198_ (by show 0+1≤1;decide)
   have m202_:exSt 1 (pA H17_.nx 0) (.int .i64 (121)) H188_=.val U H199_ 0 (bit (H17_.nx)):=e200_
   have hf203_:=wr201_.fn
   have nx204_:H199_.nx=H188_.nx:=wr201_.nx
   have m205_:H188_.nx≤H199_.nx:=by omega
   have r206_:Row H199_ (H17_.nx) 36 0 [.int .i64 (121)]:=wr201_.row
   have o207_:e.ok 0 (bit (H17_.nx)) H199_:=.write r206_.lt (fun h=>absurd h (by omega))
   have k208_:Kept H H199_:=⟨wr201_.fn,by have:=k197_.nx;omega,fun c hc=>(wr201_.else_ c (by omega)).trans (k197_.old c hc)⟩
   refine WOG.all (fun t' H'=>H199_=H'∧GT t' [(3,pA H.nx 0),(4,pA H1_.nx 0),(5,pA H9_.nx 0),(6,pA H17_.nx 0),(7,pA H36_.nx 0),(12,pA H117_.nx 0),(32,.func (.func 155) #[] #[.pointer (some ⟨H85_.nx,0,none⟩)])]) ?_ ?_
   ·simp +decide only [alc_r20,g3_174,g4_174,g5_174,g6_174,g7_174,g12_174,g32_174,g78_174,m180_,m183_,o185_,m191_,m194_,o196_,m202_,m205_,o207_,Xo 7,go_sem]
   rintro t209_ _ ⟨rfl,g3_209,g4_209,g5_209,g6_209,g7_209,g12_209,g32_209, -⟩
   have r211_:=(((((((hdb.mv hk1_).ot pb119_.else_ (by omega)).mv nb137_.kept).ot wr146_.else_ (by omega)).mv hk164_).ot wr179_.else_ (by omega)).ot wr190_.else_ (by omega)).ot wr201_.else_ (by omega)
   refine WK.ret (.inr ⟨.inr rfl,H97_.nx,rfl,r211_.eq,by omega,r211_.lt,?_⟩)
   obtain ⟨H212_,ep213_,pb214_⟩:=putB hf203_ r211_.lt (.no)
   have hf215_:=pb214_.fn
   have nx216_:H212_.nx=H199_.nx:=pb214_.nx
   have k217_:Kept H H212_:=⟨pb214_.fn,by have:=k208_.nx;omega,fun c hc=>(pb214_.else_ c (by omega)).trans (k208_.old c hc)⟩
   rw [ep213_]
   have r218_:=((r184_.ot wr190_.else_ (by omega)).ot wr201_.else_ (by omega)).ot pb214_.else_ (by omega)
   have r219_:=(r195_.ot wr201_.else_ (by omega)).ot pb214_.else_ (by omega)
   have r220_:=r206_.ot pb214_.else_ (by omega)
   have rd221_:rd1 H212_ (H17_.nx) 0=some (.int .i64 (121)):=rd1_row r220_ rfl
   have rd222_:rd1 H212_ (H9_.nx) 0=some (.int .i64 (0)):=rd1_row r219_ rfl
   have rd223_:rd1 H212_ (H1_.nx) 0=some (.string ⟨#[]⟩):=rd1_row r218_ rfl
   exact ⟨[.string ⟨#[]⟩,.int .i64 (0),.int .i64 (121)],_,(resL_cell1 rfl g4_209 rd223_ (resL_cell1 rfl g5_209 rd222_ (resL_cell1 rfl g6_209 rd221_ resL_nil))),(ok_lorR (.read r218_.lt (fun h=>absurd h (by omega))) (ok_lorR (.read r219_.lt (fun h=>absurd h (by omega))) (ok_lorR (.read r220_.lt (fun h=>absurd h (by omega))) (.zero _ _)))),⟨.inl rfl,k217_⟩⟩
  case neg =>
   refine WK.draw_xx (fun _=>False) [.q,.q,.q,.p,.p] (by omega) rfl ?_
   refine WOX.hide fun K0 hK0=>?_
   have m157_:exLdN 3 (pA H117_.nx 0) H144_=.val (.agg ⟨[iN (fin 8 us),iN k,.int .i64 (1)]⟩) H144_ (bit (H117_.nx)) 0:=exLdN_row r151_ (by show 0+3≤3;decide)
   have o158_:=okr (e:=e) r151_ (by omega)
   have o159_:∀ cq,(bit (H117_.nx)).testBit cq=true→cq<H144_.nx:=the_bit (P:=fun cq=>cq<H144_.nx) (by have:=r151_.lt;omega)
   simp +decide only [alc_r19,g12_155,m157_,o158_,o159_,Xo 7,go_sem]
   repeat (refine And.intro (by assumption) ?_)
   refine EC.mono (uend_ok S hf148_ (Nat.le_refl _) (a:=fin 8 us) (s:=k) (m:=1) (by omega) (by omega)) fun v H162_ _ hv163_=>?_
   obtain ⟨rfl,hk164_⟩:=hv163_
   have hf165_:=hk164_.fn
   have nx166_:=hk164_.nx
   have k167_:=k154_.trans hk164_
   have ul160_:=up_lt k
   have uk161_:=up_le k
   rw [WOXk]
   have r168_:=((r123_.mv nb137_.kept).ot wr146_.else_ (by omega)).mv hk164_
   have m169_:exLd1 (pA H36_.nx 0) H162_=.val (sC H25_.nx 0 (n) (2*(n))) H162_ (bit (H36_.nx)) 0:=exLd1_row r168_ rfl
   have o170_:=okr (e:=e) r168_ (by omega)
   have o171_:∀ cq,(bit (H36_.nx)).testBit cq=true→cq<H144_.nx:=the_bit (P:=fun cq=>cq<H144_.nx) (by have:=r123_.lt;omega)
   have m172_:∀ Hq,exLen 1 (sC H25_.nx 0 (n) (2*(n))) Hq=.val (vN ((n:Nat))) Hq 0 0:=fun _=>rfl
   have d173_:decide (((n:Nat):Int)<((fin 8 us+8+up k:Nat):Int))=false:=decide_eq_false (by omega)
   refine WOX.all (fun t' H'=>H162_=H'∧GT t' [(3,pA H.nx 0),(4,pA H1_.nx 0),(5,pA H9_.nx 0),(6,pA H17_.nx 0),(7,pA H36_.nx 0),(12,pA H117_.nx 0),(32,.func (.func 155) #[] #[.pointer (some ⟨H85_.nx,0,none⟩)]),(78,.bool false)]) ?_ ?_
   ·simp +decide only [alc_r19,g3_155,g4_155,g5_155,g6_155,g7_155,g12_155,g32_155,m169_,o170_,o171_,m172_,d173_,Xo 7,go_sem]
    all_goals ((repeat' apply And.intro) <;> assumption)
   rintro t174_ _ ⟨rfl,g3_174,g4_174,g5_174,g6_174,g7_174,g12_174,g32_174,g78_174, -⟩
   refine hK0 _ _ ?_
   refine WK.cond (v:=false) (by rw [evalO_tmp,g78_174];rfl) ?_
   refine WK.skip ?_
   refine WK.seq ?_
   refine WK.reg_g ?_
   refine WOG.hide fun K0 hK0=>?_
   have m176_:exLd1 (pA H36_.nx 0) H162_=.val (sC H25_.nx 0 (n) (2*(n))) H162_ (bit (H36_.nx)) 0:=exLd1_row r168_ rfl
   have o177_:=okr (e:=e) r168_ (by omega)
   have r178_:=r151_.mv hk164_
   have m179_:exLdN 3 (pA H117_.nx 0) H162_=.val (.agg ⟨[iN (fin 8 us),iN k,.int .i64 (1)]⟩) H162_ (bit (H117_.nx)) 0:=exLdN_row r178_ (by show 0+3≤3;decide)
   have o180_:=okr (e:=e) r178_ (by omega)
   have r181_:=((r127_.mv nb137_.kept).ot wr146_.else_ (by omega)).mv hk164_
   simp +decide only [alc_r21,g7_174,g12_174,m176_,o177_,m179_,o180_,Xo 7,go_sem]
   refine EC.mono (hed_ok S hf165_ (by omega) (a:=fin 8 us) (s:=k) (m:=1) r181_ (by omega) (by omega) (by omega) (by omega) (fun h=>absurd h (by omega))) fun v H182_ _ hv183_=>?_
   obtain ⟨rfl,ov184_⟩:=hv183_
   have hf185_:=ov184_.fn
   have nx186_:=ov184_.nx
   have k187_:Kept H H182_:=⟨ov184_.fn,by have:=k167_.nx;have:=ov184_.nx;omega,fun c hc=>(ov184_.old c (by have:=k167_.nx;omega) (by omega)).trans (k167_.old c hc)⟩
   rw [WOGk]
   refine WOG.all (fun t' H'=>H182_=H'∧GT t' [(3,pA H.nx 0),(4,pA H1_.nx 0),(5,pA H9_.nx 0),(6,pA H17_.nx 0),(7,pA H36_.nx 0),(12,pA H117_.nx 0),(32,.func (.func 155) #[] #[.pointer (some ⟨H85_.nx,0,none⟩)])]) ?_ ?_
   ·simp +decide only [alc_r21,g3_174,g4_174,g5_174,g6_174,g7_174,g12_174,g32_174,g78_174,Xo 7,go_sem]
   rintro t188_ _ ⟨rfl,g3_188,g4_188,g5_188,g6_188,g7_188,g12_188,g32_188, -⟩
   refine hK0 _ _ ?_
   refine WK.seq ?_
   refine WK.draw_xx (fun _=>False) [.q,.q,.q,.p,.x] (by omega) rfl ?_
   refine WOX.hide fun K0 hK0=>?_
   have r190_:=r168_.mo ov184_.old (by omega)
   have m191_:exLd1 (pA H36_.nx 0) H182_=.val (sC H25_.nx 0 (n) (2*(n))) H182_ (bit (H36_.nx)) 0:=exLd1_row r190_ rfl
   have o192_:=okr (e:=e) r190_ (by omega)
   have o193_:∀ cq,(bit (H36_.nx)).testBit cq=true→cq<H182_.nx:=the_bit (P:=fun cq=>cq<H182_.nx) (by have:=r168_.lt;omega)
   have r194_:=r178_.mo ov184_.old (by omega)
   have m195_:exLdN 3 (pA H117_.nx 0) H182_=.val (.agg ⟨[iN (fin 8 us),iN k,.int .i64 (1)]⟩) H182_ (bit (H117_.nx)) 0:=exLdN_row r194_ (by show 0+3≤3;decide)
   have o196_:=okr (e:=e) r194_ (by omega)
   have o197_:∀ cq,(bit (H117_.nx)).testBit cq=true→cq<H182_.nx:=the_bit (P:=fun cq=>cq<H182_.nx) (by have:=r178_.lt;omega)
   simp +decide only [alc_r22,g7_188,g12_188,m191_,o192_,o193_,m195_,o196_,o197_,Xo 7,go_sem]
   repeat (refine And.intro (by assumption) ?_)
   refine EC.mono (uend_ok S hf185_ (Nat.le_refl _) (a:=fin 8 us) (s:=k) (m:=1) (by omega) (by omega)) fun v H200_ _ hv201_=>?_
   obtain ⟨rfl,hk202_⟩:=hv201_
   have hf203_:=hk202_.fn
   have nx204_:=hk202_.nx
   have k205_:=k187_.trans hk202_
   have ul198_:=up_lt k
   have uk199_:=up_le k
   rw [WOXk]
   have w206_:Value.int .i64 (wrapF .i64 (((fin 8 us+8+up k:Nat):Int)-(8:Int)))=.int .i64 ((((fin 8 us+8+up k)-8):Nat):Int):=wF (by omega)
   have r207_:=ov184_.row.mv hk202_
   simp +decide only [alc_r22,w206_,Xo 7,go_sem]
   repeat (refine And.intro (by assumption) ?_)
   refine EC.mono (set_ok S hf203_ (Nat.le_refl _) (p:=0) (m:=((fin 8 us+8+up k)-8)) r207_ (by omega) (by omega) (by omega) (show H25_.nx<(e.subX H200_.nx).n0→(e.subX H200_.nx).Wr (H25_.nx) from fun _=>(fun h=>absurd h (by omega)))) fun v H208_ _ hv209_=>?_
   obtain ⟨rfl,ov210_⟩:=hv209_
   have hf211_:=ov210_.fn
   have nx212_:H208_.nx=H200_.nx:=ov210_.nx
   have k213_:Kept H H208_:=⟨ov210_.fn,by have:=k205_.nx;omega,fun c hc=>(ov210_.else_ c (by omega)).trans (k205_.old c hc)⟩
   rw [WOXk]
   refine WOX.all (fun t' H'=>H208_=H'∧GT t' [(3,pA H.nx 0),(4,pA H1_.nx 0),(5,pA H9_.nx 0),(6,pA H17_.nx 0),(7,pA H36_.nx 0),(12,pA H117_.nx 0),(32,.func (.func 155) #[] #[.pointer (some ⟨H85_.nx,0,none⟩)])]) ?_ ?_
   ·simp +decide only [alc_r22,g3_188,g4_188,g5_188,g6_188,g7_188,g12_188,g32_188,Xo 7,go_sem]
    all_goals ((repeat' apply And.intro) <;> assumption)
   rintro t214_ _ ⟨rfl,g3_214,g4_214,g5_214,g6_214,g7_214,g12_214,g32_214, -⟩
   refine hK0 _ _ ?_
   refine WK.seq ?_
   refine WK.draw_xx (fun _=>False) [.q,.q,.q,.q,.p,.x,.x,.x] (by omega) rfl ?_
   refine WOX.hide fun K0 hK0=>?_
   have r216_:=(r190_.mv hk202_).ot ov210_.else_ (by omega)
   have m217_:exLd1 (pA H36_.nx 0) H208_=.val (sC H25_.nx 0 (n) (2*(n))) H208_ (bit (H36_.nx)) 0:=exLd1_row r216_ rfl
   have o218_:=okr (e:=e) r216_ (by omega)
   have o219_:∀ cq,(bit (H36_.nx)).testBit cq=true→cq<H208_.nx:=the_bit (P:=fun cq=>cq<H208_.nx) (by have:=r190_.lt;omega)
   have m220_:exToS (sC H25_.nx 0 (n) (2*(n))) H208_=.val (vS (strF (put4 (headF (put4 fb 4 (((be fb 4)+1))) (fin 8 us) k 1) 0 (((fin 8 us+8+up k)-8))) (n))) H208_ (bit (H25_.nx)) 0:=ByU.toS0 ov210_.row (by omega)
   have o221_:=okr (e:=e) ov210_.row (by omega)
   have o222_:∀ cq,(bit (H25_.nx)).testBit cq=true→cq<H208_.nx:=the_bit (P:=fun cq=>cq<H208_.nx) (by have:=ov210_.row.lt;omega)
   have r223_:=(r194_.mv hk202_).ot ov210_.else_ (by omega)
   have m224_:exLdN 3 (pA H117_.nx 0) H208_=.val (.agg ⟨[iN (fin 8 us),iN k,.int .i64 (1)]⟩) H208_ (bit (H117_.nx)) 0:=exLdN_row r223_ (by show 0+3≤3;decide)
   have o225_:=okr (e:=e) r223_ (by omega)
   have o226_:∀ cq,(bit (H117_.nx)).testBit cq=true→cq<H208_.nx:=the_bit (P:=fun cq=>cq<H208_.nx) (by have:=r194_.lt;omega)
   simp +decide only [alc_r23,g7_214,g12_214,m217_,o218_,o219_,m220_,o221_,o222_,m224_,o225_,o226_,Xo 7,go_sem]
   repeat (refine And.intro (by assumption) ?_)
   refine EC.mono (pce_ok S hf211_ (Nat.le_refl _) (a:=fin 8 us) (s:=k) (m:=1) (by omega)) fun v H227_ _ hv228_=>?_
   obtain ⟨rfl,hk229_⟩:=hv228_
   have hf230_:=hk229_.fn
   have nx231_:=hk229_.nx
   have k232_:=k213_.trans hk229_
   rw [WOXk]
   have m233_:∀ Hq,exFld false 1 0 (.agg ⟨[iN ((fin 8 us+8)),iN k]⟩) Hq=.val (iN ((fin 8 us+8))) Hq 0 0:=fun _=>rfl
   have r234_:=(((((((((r107_.mv hkr).mv hk1_).ot pb119_.else_ (by omega)).mv nb137_.kept).ot wr146_.else_ (by omega)).mv hk164_).mo ov184_.old (by omega)).mv hk202_).ot ov210_.else_ (by omega)).mv hk229_
   obtain ⟨H235_,e236_,wr237_⟩:=exSt1_at (o:=0) (v:=vS (strF (put4 (headF (put4 fb 4 (((be fb 4)+1))) (fin 8 us) k 1) 0 (((fin 8 us+8+up k)-8))) (n))) rfl hf230_ r234_ (by show 0+1≤1;decide)
   have m238_:exSt 1 (pA H1_.nx 0) (vS (strF (put4 (headF (put4 fb 4 (((be fb 4)+1))) (fin 8 us) k 1) 0 (((fin 8 us+8+up k)-8))) (n))) H227_=.val U H235_ 0 (bit (H1_.nx)):=e236_
   have hf239_:=wr237_.fn
   have nx240_:H235_.nx=H227_.nx:=wr237_.nx
   have m241_:H227_.nx≤H235_.nx:=by omega
   have r242_:Row H235_ (H1_.nx) 9 0 [vS (strF (put4 (headF (put4 fb 4 (((be fb 4)+1))) (fin 8 us) k 1) 0 (((fin 8 us+8+up k)-8))) (n))]:=wr237_.row
   have o243_:e.ok 0 (bit (H1_.nx)) H235_:=.write r242_.lt (fun h=>absurd h (by omega))
   have k244_:Kept H H235_:=⟨wr237_.fn,by have:=k232_.nx;omega,fun c hc=>(wr237_.else_ c (by omega)).trans (k232_.old c hc)⟩
   have r245_:=((((((((((r108_.mv hkr).mv hk1_).ot pb119_.else_ (by omega)).mv nb137_.kept).ot wr146_.else_ (by omega)).mv hk164_).mo ov184_.old (by omega)).mv hk202_).ot ov210_.else_ (by omega)).mv hk229_).ot wr237_.else_ (by omega)
   obtain ⟨H246_,e247_,wr248_⟩:=exSt1_at (o:=0) (v:=iN ((fin 8 us+8))) rfl hf239_ r245_ (by show 0+1≤1;decide)
   have m249_:exSt 1 (pA H9_.nx 0) (iN ((fin 8 us+8))) H235_=.val U H246_ 0 (bit (H9_.nx)):=e247_
   have hf250_:=wr248_.fn
   have nx251_:H246_.nx=H235_.nx:=wr248_.nx
   have m252_:H235_.nx≤H246_.nx:=by omega
   have r253_:Row H246_ (H9_.nx) 3 0 [iN ((fin 8 us+8))]:=wr248_.row
   have o254_:e.ok 0 (bit (H9_.nx)) H246_:=.write r253_.lt (fun h=>absurd h (by omega))
   have k255_:Kept H H246_:=⟨wr248_.fn,by have:=k244_.nx;omega,fun c hc=>(wr248_.else_ c (by omega)).trans (k244_.old c hc)⟩
   have r256_:=(((((((((((r109_.mv hkr).mv hk1_).ot pb119_.else_ (by omega)).mv nb137_.kept).ot wr146_.else_ (by omega)).mv hk164_).mo ov184_.old (by omega)).mv hk202_).ot ov210_.else_ (by omega)).mv hk229_).ot wr237_.else_ (by omega)).ot wr248_.else_ (by omega)
   obtain ⟨H257_,e258_,wr259_⟩:=exSt1_at (o:=0) (v:=.int .i64 (0)) rfl hf250_ r256_ (by show 0+1≤1;decide)
   have m260_:exSt 1 (pA H17_.nx 0) (.int .i64 (0)) H246_=.val U H257_ 0 (bit (H17_.nx)):=e258_
   have hf261_:=wr259_.fn
   have nx262_:H257_.nx=H246_.nx:=wr259_.nx
   have m263_:H246_.nx≤H257_.nx:=by omega
   have r264_:Row H257_ (H17_.nx) 36 0 [.int .i64 (0)]:=wr259_.row
   have o265_:e.ok 0 (bit (H17_.nx)) H257_:=.write r264_.lt (fun h=>absurd h (by omega))
   have k266_:Kept H H257_:=⟨wr259_.fn,by have:=k255_.nx;omega,fun c hc=>(wr259_.else_ c (by omega)).trans (k255_.old c hc)⟩
   refine WOX.all (fun t' H'=>H257_=H'∧GT t' [(3,pA H.nx 0),(4,pA H1_.nx 0),(5,pA H9_.nx 0),(6,pA H17_.nx 0),(7,pA H36_.nx 0),(32,.func (.func 155) #[] #[.pointer (some ⟨H85_.nx,0,none⟩)])]) ?_ ?_
   ·simp +decide only [alc_r23,g3_214,g4_214,g5_214,g6_214,g7_214,g12_214,g32_214,m233_,m238_,m241_,o243_,m249_,m252_,o254_,m260_,m263_,o265_,Xo 7,go_sem]
    all_goals ((repeat' apply And.intro) <;> assumption)
   rintro t267_ _ ⟨rfl,g3_267,g4_267,g5_267,g6_267,g7_267,g32_267, -⟩
   refine hK0 _ _ ?_
   have r269_:=(((((((((r131_.mv nb137_.kept).ot wr146_.else_ (by omega)).mv hk164_).mo ov184_.old (by omega)).mv hk202_).ot ov210_.else_ (by omega)).mv hk229_).ot wr237_.else_ (by omega)).ot wr248_.else_ (by omega)).ot wr259_.else_ (by omega)
   have r270_:=(r242_.ot wr248_.else_ (by omega)).ot wr259_.else_ (by omega)
   have r271_:=r253_.ot wr259_.else_ (by omega)
   have r272_:=(((ov210_.row.mv hk229_).ot wr237_.else_ (by omega)).ot wr248_.else_ (by omega)).ot wr259_.else_ (by omega)
   have r273_:=(((r216_.mv hk229_).ot wr237_.else_ (by omega)).ot wr248_.else_ (by omega)).ot wr259_.else_ (by omega)
   have r274_:=(((((((((((r113_.mv hk1_).ot pb119_.else_ (by omega)).mv nb137_.kept).ot wr146_.else_ (by omega)).mv hk164_).mo ov184_.old (by omega)).mv hk202_).ot ov210_.else_ (by omega)).mv hk229_).ot wr237_.else_ (by omega)).ot wr248_.else_ (by omega)).ot wr259_.else_ (by omega)
   have r275_:=(((((((((((hdb.mv hk1_).ot pb119_.else_ (by omega)).mv nb137_.kept).ot wr146_.else_ (by omega)).mv hk164_).mo ov184_.old (by omega)).mv hk202_).ot ov210_.else_ (by omega)).mv hk229_).ot wr237_.else_ (by omega)).ot wr248_.else_ (by omega)).ot wr259_.else_ (by omega)
   have r276_:=(((r223_.mv hk229_).ot wr237_.else_ (by omega)).ot wr248_.else_ (by omega)).ot wr259_.else_ (by omega)
   have hall:=alloc_end (f:=fb) (n:=n) (k:=k) h hk1 (by omega) (by omega)
   have hgf:endF fb (fin 8 us) k (be fb 4)=put4 (headF (put4 fb 4 (((be fb 4)+1))) (fin 8 us) k 1) 0 (((fin 8 us+8+up k)-8)):=by unfold endF;first | rfl | (congr 1;omega)
   rw [hgf] at hall
   refine WK.ret (.inr ⟨.inr rfl,H97_.nx,rfl,r275_.eq,by omega,r275_.lt,?_⟩)
   obtain ⟨H277_,ep278_,pb279_⟩:=putB hf261_ r275_.lt (.no)
   have hf280_:=pb279_.fn
   have nx281_:H277_.nx=H257_.nx:=pb279_.nx
   have k282_:Kept H H277_:=⟨pb279_.fn,by have:=k266_.nx;omega,fun c hc=>(pb279_.else_ c (by omega)).trans (k266_.old c hc)⟩
   rw [ep278_]
   have r283_:=r270_.ot pb279_.else_ (by omega)
   have r284_:=r271_.ot pb279_.else_ (by omega)
   have r285_:=r264_.ot pb279_.else_ (by omega)
   have rd286_:rd1 H277_ (H17_.nx) 0=some (.int .i64 (0)):=rd1_row r285_ rfl
   have rd287_:rd1 H277_ (H9_.nx) 0=some (iN ((fin 8 us+8))):=rd1_row r284_ rfl
   have rd288_:rd1 H277_ (H1_.nx) 0=some (vS (strF (put4 (headF (put4 fb 4 (((be fb 4)+1))) (fin 8 us) k 1) 0 (((fin 8 us+8+up k)-8))) (n))):=rd1_row r283_ rfl
   exact ⟨[vS (strF (put4 (headF (put4 fb 4 (((be fb 4)+1))) (fin 8 us) k 1) 0 (((fin 8 us+8+up k)-8))) (n)),iN ((fin 8 us+8)),.int .i64 (0)],_,(resL_cell1 rfl g4_267 rd288_ (resL_cell1 rfl g5_267 rd287_ (resL_cell1 rfl g6_267 rd286_ resL_nil))),(ok_lorR (.read r283_.lt (fun h=>absurd h (by omega))) (ok_lorR (.read r284_.lt (fun h=>absurd h (by omega))) (ok_lorR (.read r285_.lt (fun h=>absurd h (by omega))) (.zero _ _)))),⟨.inr ⟨_,_,_,rfl,hall⟩,k282_⟩⟩
 ·
  obtain ⟨f',us',off,hall,hkx,hnx1,hl1,hd1,hc4,hc5,hc6⟩:=hv
  have hf1_:=hkx.fn
  have hk1_:Kept H H1:=⟨hkx.fn,hkx.nx,fun c hc=>hkx.old c hc id⟩
  refine ⟨false,some .ret,92,t104_,[33],alc_body.sr.sr.sr.sr.sr.sl.sr.bl.ra,alc_body.sr.sr.sr.sr.sr.sl.sr.bl.rb,H97_.nx,.ret,hl1.eq,rfl,?_⟩
  obtain ⟨H115_,ep116_,pb117_⟩:=putB hf1_ hl1.lt (.no)
  have hf118_:=pb117_.fn
  have nx119_:H115_.nx=H1.nx:=pb117_.nx
  have k120_:Kept H H115_:=⟨pb117_.fn,by have:=hk1_.nx;omega,fun c hc=>(pb117_.else_ c (by omega)).trans (hk1_.old c hc)⟩
  rw [ep116_]
  have r121_:=hd1.ot pb117_.else_ (by omega)
  refine (.inr ⟨.inr rfl,H97_.nx,rfl,r121_.eq,by omega,r121_.lt,?_⟩)
  obtain ⟨H122_,ep123_,pb124_⟩:=putB hf118_ r121_.lt (.no)
  have hf125_:=pb124_.fn
  have nx126_:H122_.nx=H115_.nx:=pb124_.nx
  have k127_:Kept H H122_:=⟨pb124_.fn,by have:=k120_.nx;omega,fun c hc=>(pb124_.else_ c (by omega)).trans (k120_.old c hc)⟩
  rw [ep123_]
  have r128_:=(hc4.ot pb117_.else_ (by omega)).ot pb124_.else_ (by omega)
  have r129_:=(hc5.ot pb117_.else_ (by omega)).ot pb124_.else_ (by omega)
  have r130_:=(hc6.ot pb117_.else_ (by omega)).ot pb124_.else_ (by omega)
  have rd131_:rd1 H122_ (H17_.nx) 0=some (.int .i64 (0)):=rd1_row r130_ rfl
  have rd132_:rd1 H122_ (H9_.nx) 0=some (iN off):=rd1_row r129_ rfl
  have rd133_:rd1 H122_ (H1_.nx) 0=some (vS (strF (f') n)):=rd1_row r128_ rfl
  exact ⟨[vS (strF (f') n),iN off,.int .i64 (0)],_,(resL_cell1 rfl g4_104 rd133_ (resL_cell1 rfl g5_104 rd132_ (resL_cell1 rfl g6_104 rd131_ resL_nil))),(ok_lorR (.read r128_.lt (fun h=>absurd h (by omega))) (ok_lorR (.read r129_.lt (fun h=>absurd h (by omega))) (ok_lorR (.read r130_.lt (fun h=>absurd h (by omega))) (.zero _ _)))),⟨.inr ⟨f',us',off,rfl,hall⟩,k127_⟩⟩
end
end Go.Proofs.RS
end
