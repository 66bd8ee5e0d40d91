/-
 A part of the proof that pliantlaw15.RtsStacks returns true and leaves its arguments alone. Conditions: those of the card in the last text.
-/
import Derived.Test.YtgdejggelcpokaaGreatDoorG28
import Derived.Test.YtgdejggelcpokaaGreatDoorG30
set_option linter.unusedSimpArgs false
set_option linter.unusedVariables false
set_option linter.unusedSectionVars false
noncomputable section
namespace Go.Proofs.RS
open Go Go.Ev Go.Proofs Go.Ar
section
attribute [local go_sem] Bc_f Bc_t GT Ro_some Rv_eq WOG WOX Yj Yk Yl Ym Yn Yo Yp Yq Yr and_self and_true binV_sub callV_func dec_F dec_T evalL evalM evalO_const evalO_func evalO_tmp exEq_int exFa_ptr exPick_f exPick_t exUn_not if_false if_true no_bits ok_zero putT_none run true_and wantsV_U wantsV_ff wantsV_ft wantsV_tf wantsV_tt wants_none' wants_some
variable {sp:Nat→List Value→Hp→Option (Value×Hp×Nat×Nat)} {e:Env}
set_option maxRecDepth 10000 in
set_option maxHeartbeats 4000000 in
theorem fre_ok (S:SpX sp) {H:Hp} (hf:H.isFn=true) (he:e.n0≤H.nx) {n off k:Nat} {fb:By} {us:List U} (h:Is fb n us) (h16:16≤n) (hn:n≤8192) (hm:(off,k)∈places 8 us):EC Tb0 sp e 54 [vS (strF fb n),iN off] H fun v H'=>(∃ f' us',v=.tuple #[vS (strF f' n),vN 0]∧FreeR fb f' n us us' off k)∧Kept H H':=by
 refine EC.r2 (by rfl) fre_some fre_comp (S.no 54 (by decide) _ _) (by show 2≤89;decide) fun t0 g0 g1=>?_
 show WK Tb0 sp e ⟨7,89,none,false⟩ fre_k t0 [] H _
 unfold fre_k
 have k0_:Kept H H:=.refl hf
 have h8:=fin_ge 8 us
 have hle:=h.le
 have he8:8+be fb 0=fin 8 us:=by have:=h.fin_;omega
 have hplen:=places_len 8 us
 have hb4:=h.cnt
 have hb4lt:=be_lt fb 4
 have hpos:0<be fb 4:=by rw [hb4];exact List.length_pos_of_mem hm
 have hlo:=h.lo
 refine WK.seq ?_
 refine WK.reg_g ?_
 obtain ⟨H1_,nb2_⟩:=newB hf [iN off] 3
 have m3_:exFill (cellsO (iN off)) (fun l=>alloc1 (blkL l 3 0) H ptrTo 0 0)=.val (.pointer (some ⟨H.nx,0,none⟩)) H1_ 0 0:=nb2_.al
 have hf4_:=nb2_.kept.fn
 have nx5_:H1_.nx=H.nx+1:=nb2_.nx
 have m6_:H.nx≤H1_.nx:=by omega
 have lt7_:=nb2_.row.lt
 have k8_:=k0_.trans nb2_.kept
 refine WOG.all (fun t' H'=>H1_=H'∧GT t' [(0,vS (strF fb n)),(3,pA H.nx 0),(4,.string ⟨#[]⟩),(5,.int .i64 (0))]) ?_ ?_
 ·simp +decide only [fre_r0,g0,g1,m3_,m6_,Xo 7,go_sem]
 rintro t9_ _ ⟨rfl,g0_9,g3_9,g4_9,g5_9, -⟩
 refine WK.seq ?_
 refine WK.reg_g ?_
 refine WOG.hide fun K0 hK0=>?_
 simp +decide only [fre_r1,g0_9,Xo 7,go_sem]
 refine EC.mono (opn_ok S hf4_ (by omega) h h16 hn) fun v H12_ _ hv13_=>?_
 obtain ⟨rfl,hk14_,hro_11⟩:=hv13_
 have hf15_:=hk14_.fn
 have nx16_:=hk14_.nx
 have k17_:=k8_.trans hk14_
 have hopn11:ByU H12_ (H1_.nx) 5 fb (n):=hro_11
 have lt18_:=hopn11.lt
 rw [WOGk]
 have m19_:∀ Hq,exExt (.tuple #[sC H1_.nx 0 (n) (2*(n)),.bool true]) 0 Hq=.val (sC H1_.nx 0 (n) (2*(n))) Hq 0 0:=fun _=>rfl
 have m20_:∀ Hq,exExt (.tuple #[sC H1_.nx 0 (n) (2*(n)),.bool true]) 1 Hq=.val (.bool true) Hq 0 0:=fun _=>rfl
 refine WOG.all (fun t' H'=>H12_=H'∧GT t' [(3,pA H.nx 0),(4,.string ⟨#[]⟩),(5,.int .i64 (0)),(6,sC H1_.nx 0 (n) (2*(n))),(7,.bool true)]) ?_ ?_
 ·simp +decide only [fre_r1,g0_9,g3_9,g4_9,g5_9,m19_,m20_,Xo 7,go_sem]
 rintro t21_ _ ⟨rfl,g3_21,g4_21,g5_21,g6_21,g7_21, -⟩
 refine hK0 _ _ ?_
 refine WK.seq ?_
 refine WK.seq ?_
 refine WK.reg_g ?_
 refine WOG.all (fun t' H'=>H12_=H'∧GT t' [(3,pA H.nx 0),(4,.string ⟨#[]⟩),(5,.int .i64 (0)),(6,sC H1_.nx 0 (n) (2*(n))),(19,.bool false)]) ?_ ?_
 ·simp +decide only [fre_r2,g3_21,g4_21,g5_21,g6_21,g7_21,Xo 7,go_sem]
 rintro t23_ _ ⟨rfl,g3_23,g4_23,g5_23,g6_23,g19_23, -⟩
 refine WK.cond (v:=false) (by rw [evalO_tmp,g19_23];rfl) ?_
 refine WK.skip ?_
 refine WK.seq ?_
 refine WK.reg_g ?_
 obtain ⟨H25_,nb26_⟩:=newB hf15_ [.int .i64 (0)] 3
 have m27_:alloc1 (blkL [.int .i64 (0)] 3 0) H12_ ptrTo 0 0=.val (.pointer (some ⟨H12_.nx,0,none⟩)) H25_ 0 0:=nb26_.al
 have hf28_:=nb26_.kept.fn
 have nx29_:H25_.nx=H12_.nx+1:=nb26_.nx
 have m30_:H12_.nx≤H25_.nx:=by omega
 have lt31_:=nb26_.row.lt
 have k32_:=k17_.trans nb26_.kept
 obtain ⟨H33_,nb34_⟩:=newB hf28_ [.int .i64 (0)] 3
 have m35_:alloc1 (blkL [.int .i64 (0)] 3 0) H25_ ptrTo 0 0=.val (.pointer (some ⟨H25_.nx,0,none⟩)) H33_ 0 0:=nb34_.al
 have hf36_:=nb34_.kept.fn
 have nx37_:H33_.nx=H25_.nx+1:=nb34_.nx
 have m38_:H25_.nx≤H33_.nx:=by omega
 have lt39_:=nb34_.row.lt
 have k40_:=k32_.trans nb34_.kept
 obtain ⟨H41_,nb42_⟩:=newB hf36_ [.bool false] 4
 have m43_:alloc1 (blkL [.bool false] 4 0) H33_ ptrTo 0 0=.val (.pointer (some ⟨H33_.nx,0,none⟩)) H41_ 0 0:=nb42_.al
 have hf44_:=nb42_.kept.fn
 have nx45_:H41_.nx=H33_.nx+1:=nb42_.nx
 have m46_:H33_.nx≤H41_.nx:=by omega
 have lt47_:=nb42_.row.lt
 have k48_:=k40_.trans nb42_.kept
 have r49_:=(nb26_.row.mv nb34_.kept).mv nb42_.kept
 obtain ⟨H50_,e51_,wr52_⟩:=exSt1_at (o:=0) (v:=.int .i64 (-1)) rfl hf44_ r49_ (by show 0+1≤1;decide)
 have m53_:exSt 1 (pA H12_.nx 0) (.int .i64 (-1)) H41_=.val U H50_ 0 (bit (H12_.nx)):=e51_
 have hf54_:=wr52_.fn
 have nx55_:H50_.nx=H41_.nx:=wr52_.nx
 have m56_:H41_.nx≤H50_.nx:=by omega
 have r57_:Row H50_ (H12_.nx) 3 0 [.int .i64 (-1)]:=wr52_.row
 have o58_:e.ok 0 (bit (H12_.nx)) H50_:=.write r57_.lt (fun h=>absurd h (by omega))
 have k59_:Kept H H50_:=⟨wr52_.fn,by have:=k48_.nx;omega,fun c hc=>(wr52_.else_ c (by omega)).trans (k48_.old c hc)⟩
 have r60_:=(nb34_.row.mv nb42_.kept).ot wr52_.else_ (by omega)
 obtain ⟨H61_,e62_,wr63_⟩:=exSt1_at (o:=0) (v:=.int .i64 (-1)) rfl hf54_ r60_ (by show 0+1≤1;decide)
 have m64_:exSt 1 (pA H25_.nx 0) (.int .i64 (-1)) H50_=.val U H61_ 0 (bit (H25_.nx)):=e62_
 have hf65_:=wr63_.fn
 have nx66_:H61_.nx=H50_.nx:=wr63_.nx
 have m67_:H50_.nx≤H61_.nx:=by omega
 have r68_:Row H61_ (H25_.nx) 3 0 [.int .i64 (-1)]:=wr63_.row
 have o69_:e.ok 0 (bit (H25_.nx)) H61_:=.write r68_.lt (fun h=>absurd h (by omega))
 have k70_:Kept H H61_:=⟨wr63_.fn,by have:=k59_.nx;omega,fun c hc=>(wr63_.else_ c (by omega)).trans (k59_.old c hc)⟩
 have r71_:=(nb42_.row.ot wr52_.else_ (by omega)).ot wr63_.else_ (by omega)
 obtain ⟨H72_,e73_,wr74_⟩:=exSt1_at (o:=0) (v:=.bool false) rfl hf65_ r71_ (by show 0+1≤1;decide)
 have m75_:exSt 1 (pA H33_.nx 0) (.bool false) H61_=.val U H72_ 0 (bit (H33_.nx)):=e73_
 have hf76_:=wr74_.fn
 have nx77_:H72_.nx=H61_.nx:=wr74_.nx
 have m78_:H61_.nx≤H72_.nx:=by omega
 have r79_:Row H72_ (H33_.nx) 4 0 [.bool false]:=wr74_.row
 have o80_:e.ok 0 (bit (H33_.nx)) H72_:=.write r79_.lt (fun h=>absurd h (by omega))
 have k81_:Kept H H72_:=⟨wr74_.fn,by have:=k70_.nx;omega,fun c hc=>(wr74_.else_ c (by omega)).trans (k70_.old c hc)⟩
 refine WOG.all (fun t' H'=>H72_=H'∧GT t' [(3,pA H.nx 0),(4,.string ⟨#[]⟩),(5,.int .i64 (0)),(6,sC H1_.nx 0 (n) (2*(n))),(8,pA H12_.nx 0),(9,pA H25_.nx 0),(10,pA H33_.nx 0)]) ?_ ?_
 ·simp +decide only [fre_r4,g3_23,g4_23,g5_23,g6_23,g19_23,m27_,m30_,m35_,m38_,m43_,m46_,m53_,m56_,o58_,m64_,m67_,o69_,m75_,m78_,o80_,Xo 7,go_sem]
 rintro t82_ _ ⟨rfl,g3_82,g4_82,g5_82,g6_82,g8_82,g9_82,g10_82, -⟩
 refine WK.seq ?_
 refine WK.reg_g ?_
 have m84_:∀ t:T Value,fillL t [.int .i64 (0),.int .i64 (0),.int .i64 (0)] []=some [.int .i64 (0),.int .i64 (0),.int .i64 (0)]:=fun t=>rfl
 obtain ⟨H85_,nb86_⟩:=newB hf76_ [.int .i64 (0),.int .i64 (0),.int .i64 (0)] 195
 have m87_:alloc1 (blkL [.int .i64 (0),.int .i64 (0),.int .i64 (0)] 195 0) H72_ ptrTo 0 0=.val (.pointer (some ⟨H72_.nx,0,none⟩)) H85_ 0 0:=nb86_.al
 have hf88_:=nb86_.kept.fn
 have nx89_:H85_.nx=H72_.nx+1:=nb86_.nx
 have m90_:H72_.nx≤H85_.nx:=by omega
 have lt91_:=nb86_.row.lt
 have k92_:=k81_.trans nb86_.kept
 obtain ⟨H93_,e94_,wr95_⟩:=exStN_at (o:=0) (vs:=[.int .i64 (0),.int .i64 (0),.int .i64 (0)]) hf88_ nb86_.row (by show 0+3≤3;decide)
 have m96_:exSt 3 (pA H72_.nx 0) (.agg ⟨[.int .i64 (0),.int .i64 (0),.int .i64 (0)]⟩) H85_=.val U H93_ 0 (bit (H72_.nx)):=e94_
 have hf97_:=wr95_.fn
 have nx98_:H93_.nx=H85_.nx:=wr95_.nx
 have m99_:H85_.nx≤H93_.nx:=by omega
 have r100_:Row H93_ (H72_.nx) 195 0 [.int .i64 (0),.int .i64 (0),.int .i64 (0)]:=wr95_.row
 have o101_:e.ok 0 (bit (H72_.nx)) H93_:=.write r100_.lt (fun h=>absurd h (by omega))
 have k102_:Kept H H93_:=⟨wr95_.fn,by have:=k92_.nx;omega,fun c hc=>(wr95_.else_ c (by omega)).trans (k92_.old c hc)⟩
 refine WOG.all (fun t' H'=>H93_=H'∧GT t' [(3,pA H.nx 0),(4,.string ⟨#[]⟩),(5,.int .i64 (0)),(6,sC H1_.nx 0 (n) (2*(n))),(8,pA H12_.nx 0),(9,pA H25_.nx 0),(10,pA H33_.nx 0),(11,pA H72_.nx 0)]) ?_ ?_
 ·simp +decide only [fre_r5,g3_82,g4_82,g5_82,g6_82,g8_82,g9_82,g10_82,m84_,exFill_some,m87_,m90_,m96_,m99_,o101_,Xo 7,go_sem]
 rintro t103_ _ ⟨rfl,g3_103,g4_103,g5_103,g6_103,g8_103,g9_103,g10_103,g11_103, -⟩
 refine WK.seq ?_
 refine WK.seq ?_
 refine WK.reg_g ?_
 refine WOG.hide fun K0 hK0=>?_
 simp +decide only [fre_r6,g6_103,Xo 7,go_sem]
 refine EC.mono (unis_ok S hf97_ (by omega)) fun v H106_ _ hv107_=>?_
 obtain ⟨rfl,hk108_,hro_105⟩:=hv107_
 have hf109_:=hk108_.fn
 have nx110_:=hk108_.nx
 have k111_:=k102_.trans hk108_
 have huni105:Row H106_ (H93_.nx) 191 0 [sC H1_.nx 0 (n) (2*(n))]:=hro_105
 have lt112_:=huni105.lt
 rw [WOGk]
 refine WOG.all (fun t' H'=>H106_=H'∧GT t' [(3,pA H.nx 0),(4,.string ⟨#[]⟩),(5,.int .i64 (0)),(6,sC H1_.nx 0 (n) (2*(n))),(8,pA H12_.nx 0),(9,pA H25_.nx 0),(10,pA H33_.nx 0),(11,pA H72_.nx 0),(22,.func (.func 155) #[] #[.pointer (some ⟨H93_.nx,0,none⟩)])]) ?_ ?_
 ·simp +decide only [fre_r6,g3_103,g4_103,g5_103,g6_103,g8_103,g9_103,g10_103,g11_103,Xo 7,go_sem]
 rintro t113_ _ ⟨rfl,g3_113,g4_113,g5_113,g6_113,g8_113,g9_113,g10_113,g11_113,g22_113, -⟩
 refine hK0 _ _ ?_
 have r115_:=((((((((hopn11.mv nb26_.kept).mv nb34_.kept).mv nb42_.kept).ot wr52_.else_ (by omega)).ot wr63_.else_ (by omega)).ot wr74_.else_ (by omega)).mv nb86_.kept).ot wr95_.else_ (by omega)).mv hk108_
 refine WK.block (WK.rangef2 (g:=155) (args:=[.func (.yield (H106_.nx+1)) #[] #[],.pointer (some ⟨H93_.nx,0,none⟩)]) rfl rfl hf109_ (by rw [evalO_tmp,g22_113];rfl) rfl (by omega) fun hka hkb Hr hkr nxr hdb0 hlp0=>?_)
 have hfr:=hkr.fn
 have k116_:=k111_.trans hkr
 have hlp:IsB Hr (H106_.nx+1) (.loop true none 89 t113_ [23] fre_body.sr.sr.sr.sr.sr.sl.sr.bl.ra fre_body.sr.sr.sr.sr.sr.sl.sr.bl.rb (H106_.nx)):=hlp0
 have hdb:IsB Hr (H106_.nx) (.obj (.deferred (some []))):=hdb0
 have r117_:=(((((r57_.ot wr63_.else_ (by omega)).ot wr74_.else_ (by omega)).mv nb86_.kept).ot wr95_.else_ (by omega)).mv hk108_).mv hkr
 have r118_:=((((r68_.ot wr74_.else_ (by omega)).mv nb86_.kept).ot wr95_.else_ (by omega)).mv hk108_).mv hkr
 have r119_:=(((r79_.mv nb86_.kept).ot wr95_.else_ (by omega)).mv hk108_).mv hkr
 have r120_:=(r100_.mv hk108_).mv hkr
 have r121_:=huni105.mv hkr
 have r122_:=r115_.mv hkr
 have hX:∀ c,(fun c=>c=H106_.nx+1∨c=H12_.nx∨c=H25_.nx∨c=H33_.nx∨c=H72_.nx) c→H.nx≤c:=by intro c hc;rcases hc with h | h | h | h | h <;> omega
 refine (uni1_ok S (l:=H106_.nx+1) (c:=H93_.nx) (b:=H1_.nx) hlo hn (fun A H'=>KeptX (fun c=>c=H106_.nx+1∨c=H12_.nx∨c=H25_.nx∨c=H33_.nx∨c=H72_.nx) Hr H'∧IsB H' (H106_.nx+1) (.loop true none 89 t113_ [23] fre_body.sr.sr.sr.sr.sr.sl.sr.bl.ra fre_body.sr.sr.sr.sr.sr.sl.sr.bl.rb (H106_.nx))∧∃ la ls lm,Row H' (H72_.nx) 195 0 [vN ((la:Nat):Int),vN ((ls:Nat):Int),vN ((lm:Nat):Int)]∧Lst A la lm ∧
  ((Row H' (H12_.nx) 3 0 [vN (-1)]∧Row H' (H25_.nx) 3 0 [vN (-1)]∧Row H' (H33_.nx) 4 0 [.bool false]∧∀ p∈places 8 A,p.1≠off)∨(∃ a b,Row H' (H12_.nx) 3 0 [vN ((a:Nat):Int)]∧Row H' (H25_.nx) 3 0 [vN ((b:Nat):Int)]∧Row H' (H33_.nx) 4 0 [.bool true]∧Fnd off k A a b)))
  (fun _=>False)
  (fun A H' hi=>⟨hi.1.fn,by have:=hi.1.nx;omega,r121_.of_blk (hi.1.old _ r121_.lt (by omega)),r122_.of_blk (hi.1.old _ r122_.lt (by omega))⟩)
  ?_ (fun h=>absurd h (by omega)) (fun h=>absurd h (by omega)) ?_ ⟨.refl hfr,hlp,_,_,_,r120_,.inl ⟨rfl,rfl⟩,.inl ⟨r117_,r118_,r119_,fun p hp=>by cases hp⟩⟩).mono fun v H1 hle1 hv=>?_
 ·rintro A H1 H2 ⟨i1,i2,la,ls,lm,i3,i4,i5⟩ k
  refine ⟨i1.kept k,i2.of_blk (k.old _ i2.lt),la,ls,lm,i3.of_blk (k.old _ i3.lt),i4,?_⟩
  rcases i5 with ⟨j1,j2,j3,j4⟩ | ⟨a,b,j1,j2,j3,j4⟩
  ·exact .inl ⟨j1.of_blk (k.old _ j1.lt),j2.of_blk (k.old _ j2.lt),j3.of_blk (k.old _ j3.lt),j4⟩
  ·exact .inr ⟨a,b,j1.of_blk (k.old _ j1.lt),j2.of_blk (k.old _ j2.lt),j3.of_blk (k.old _ j3.lt),j4⟩
 ·
  rintro A u B Ha_ hus hnx ⟨i1,i2,la,ls,lm,i3,i4,i5⟩
  have hfh:=i1.fn
  have hat:=hlo.at hus
  have hsp:=hat.span
  have hst:=hat.stop
  have hge:=hat.ge
  have hat_le:=hat.le
  have hul:=up_le u.size
  have r123_:=((((((((((nb2_.row.mv hk14_).mv nb26_.kept).mv nb34_.kept).mv nb42_.kept).ot wr52_.else_ (by omega)).ot wr63_.else_ (by omega)).ot wr74_.else_ (by omega)).mv nb86_.kept).ot wr95_.else_ (by omega)).mv hk108_).mv hkr
  have r124_:Row Ha_ (H.nx) 3 0 [iN off]:=r123_.of_blk (i1.old _ r123_.lt (by omega))
  have r125_:ByU Ha_ (H1_.nx) 5 fb (n):=r122_.of_blk (i1.old _ r122_.lt (by omega))
  have r126_:Row Ha_ (H93_.nx) 191 0 [sC H1_.nx 0 (n) (2*(n))]:=r121_.of_blk (i1.old _ r121_.lt (by omega))
  have r127_:IsB Ha_ (H106_.nx) (.obj (.deferred (some []))):=hdb.of_blk (i1.old _ hdb.lt (by omega))
  have ky0:KeptX (fun c=>c=H106_.nx+1∨c=H12_.nx∨c=H25_.nx∨c=H33_.nx∨c=H72_.nx) Ha_ Ha_:=.refl hfh
  refine ER.intro (nt:=89) (lt:=t113_) (ps:=[23]) (a:=fre_body.sr.sr.sr.sr.sr.sl.sr.bl.ra) (b:=fre_body.sr.sr.sr.sr.sr.sl.sr.bl.rb) (db:=H106_.nx) (ka:=fre_f15) (kb:=fre_f16) (t:=putT 7 t113_ (some 23) (.agg ⟨[iN (fin 8 A),iN (u.size),iN (u.mark)]⟩)) i2.eq rfl hka hkb (by omega) i2.lt ?_
  have g128_:(putT 7 t113_ (some 23) (.agg ⟨[iN (fin 8 A),iN (u.size),iN (u.mark)]⟩)).get 3=pA H.nx 0:=by rw [get_putT (d:=7) (by decide) (by decide),if_neg (by decide)];exact g3_113
  have g129_:(putT 7 t113_ (some 23) (.agg ⟨[iN (fin 8 A),iN (u.size),iN (u.mark)]⟩)).get 4=.string ⟨#[]⟩:=by rw [get_putT (d:=7) (by decide) (by decide),if_neg (by decide)];exact g4_113
  have g130_:(putT 7 t113_ (some 23) (.agg ⟨[iN (fin 8 A),iN (u.size),iN (u.mark)]⟩)).get 5=.int .i64 (0):=by rw [get_putT (d:=7) (by decide) (by decide),if_neg (by decide)];exact g5_113
  have g131_:(putT 7 t113_ (some 23) (.agg ⟨[iN (fin 8 A),iN (u.size),iN (u.mark)]⟩)).get 6=sC H1_.nx 0 (n) (2*(n)):=by rw [get_putT (d:=7) (by decide) (by decide),if_neg (by decide)];exact g6_113
  have g132_:(putT 7 t113_ (some 23) (.agg ⟨[iN (fin 8 A),iN (u.size),iN (u.mark)]⟩)).get 8=pA H12_.nx 0:=by rw [get_putT (d:=7) (by decide) (by decide),if_neg (by decide)];exact g8_113
  have g133_:(putT 7 t113_ (some 23) (.agg ⟨[iN (fin 8 A),iN (u.size),iN (u.mark)]⟩)).get 9=pA H25_.nx 0:=by rw [get_putT (d:=7) (by decide) (by decide),if_neg (by decide)];exact g9_113
  have g134_:(putT 7 t113_ (some 23) (.agg ⟨[iN (fin 8 A),iN (u.size),iN (u.mark)]⟩)).get 10=pA H33_.nx 0:=by rw [get_putT (d:=7) (by decide) (by decide),if_neg (by decide)];exact g10_113
  have g135_:(putT 7 t113_ (some 23) (.agg ⟨[iN (fin 8 A),iN (u.size),iN (u.mark)]⟩)).get 11=pA H72_.nx 0:=by rw [get_putT (d:=7) (by decide) (by decide),if_neg (by decide)];exact g11_113
  have g136_:(putT 7 t113_ (some 23) (.agg ⟨[iN (fin 8 A),iN (u.size),iN (u.mark)]⟩)).get 22=.func (.func 155) #[] #[.pointer (some ⟨H93_.nx,0,none⟩)]:=by rw [get_putT (d:=7) (by decide) (by decide),if_neg (by decide)];exact g22_113
  have g23_:(putT 7 t113_ (some 23) (.agg ⟨[iN (fin 8 A),iN (u.size),iN (u.mark)]⟩)).get 23=.agg ⟨[iN (fin 8 A),iN (u.size),iN (u.mark)]⟩:=by rw [get_putT (d:=7) (by decide) (by decide),if_pos rfl]
  revert g128_ g129_ g130_ g131_ g132_ g133_ g134_ g135_ g136_ g23_
  generalize putT 7 t113_ (some 23) (.agg ⟨[iN (fin 8 A),iN (u.size),iN (u.mark)]⟩)=tr
  intro g128_ g129_ g130_ g131_ g132_ g133_ g134_ g135_ g136_ g23_
  show WK Tb0 sp e ⟨7,89,(some (H106_.nx+1)),false⟩ fre_f15 tr [] Ha_ _
  have kp0:Kept Ha_ Ha_:=.refl hfh
  unfold fre_f15
  refine WK.reg_g ?_
  obtain ⟨H137_,nb138_⟩:=newB hfh [.int .i64 (0),.int .i64 (0),.int .i64 (0)] 195
  have m139_:alloc1 (blkL [.int .i64 (0),.int .i64 (0),.int .i64 (0)] 195 0) Ha_ ptrTo 0 0=.val (.pointer (some ⟨Ha_.nx,0,none⟩)) H137_ 0 0:=nb138_.al
  have hf140_:=nb138_.kept.fn
  have nx141_:H137_.nx=Ha_.nx+1:=nb138_.nx
  have m142_:Ha_.nx≤H137_.nx:=by omega
  have lt143_:=nb138_.row.lt
  have k144_:=i1.kept nb138_.kept
  have k145_:=ky0.kept nb138_.kept
  have k146_:=kp0.trans nb138_.kept
  obtain ⟨H147_,e148_,wr149_⟩:=exStN_at (o:=0) (vs:=[iN (fin 8 A),iN (u.size),iN (u.mark)]) hf140_ nb138_.row (by show 0+3≤3;decide)
  have m150_:exSt 3 (pA Ha_.nx 0) (.agg ⟨[iN (fin 8 A),iN (u.size),iN (u.mark)]⟩) H137_=.val U H147_ 0 (bit (Ha_.nx)):=e148_
  have hf151_:=wr149_.fn
  have nx152_:H147_.nx=H137_.nx:=wr149_.nx
  have m153_:H137_.nx≤H147_.nx:=by omega
  have r154_:Row H147_ (Ha_.nx) 195 0 [iN (fin 8 A),iN (u.size),iN (u.mark)]:=wr149_.row
  have o155_:e.ok 0 (bit (Ha_.nx)) H147_:=.write r154_.lt (fun h=>absurd h (by omega))
  have k156_:=k144_.wr (b:=Ha_.nx) wr149_.fn wr149_.nx wr149_.else_ (.inr (by omega))
  have k157_:=k145_.wr (b:=Ha_.nx) wr149_.fn wr149_.nx wr149_.else_ (.inr (by omega))
  have k158_:Kept Ha_ H147_:=⟨wr149_.fn,by have:=k146_.nx;omega,fun c hc=>(wr149_.else_ c (by omega)).trans (k146_.old c hc)⟩
  refine WOG.all (fun t' H'=>H147_=H'∧GT t' [(3,pA H.nx 0),(4,.string ⟨#[]⟩),(5,.int .i64 (0)),(6,sC H1_.nx 0 (n) (2*(n))),(8,pA H12_.nx 0),(9,pA H25_.nx 0),(10,pA H33_.nx 0),(11,pA H72_.nx 0),(12,pA Ha_.nx 0),(22,.func (.func 155) #[] #[.pointer (some ⟨H93_.nx,0,none⟩)])]) ?_ ?_
  ·simp +decide only [fre_r7,g128_,g129_,g130_,g131_,g132_,g133_,g134_,g135_,g136_,g23_,m139_,m142_,m150_,m153_,o155_,Xo 7,go_sem]
  rintro t159_ _ ⟨rfl,g3_159,g4_159,g5_159,g6_159,g8_159,g9_159,g10_159,g11_159,g12_159,g22_159, -⟩
  have hkk:=k158_
  have r161_:=(i2.mv nb138_.kept).ot wr149_.else_ (by omega)
  refine ⟨rfl,rfl,r161_.eq,?_⟩
  obtain ⟨H162_,ep163_,pb164_⟩:=putB hf151_ r161_.lt (.loop false none 89 t113_ [23] fre_body.sr.sr.sr.sr.sr.sl.sr.bl.ra fre_body.sr.sr.sr.sr.sr.sl.sr.bl.rb (H106_.nx))
  have hf165_:=pb164_.fn
  have nx166_:H162_.nx=H147_.nx:=pb164_.nx
  have r167_:IsB H162_ (H106_.nx+1) (.loop false none 89 t113_ [23] fre_body.sr.sr.sr.sr.sr.sl.sr.bl.ra fre_body.sr.sr.sr.sr.sr.sl.sr.bl.rb (H106_.nx)):=⟨pb164_.at_,loop_ne⟩
  have k168_:=k156_.wr pb164_.fn pb164_.nx pb164_.else_ (.inl (.inl rfl))
  have k169_:=k157_.wr pb164_.fn pb164_.nx pb164_.else_ (.inl (.inl rfl))
  have hcarry:∀ x,x≠H106_.nx+1→x<Ha_.nx→H162_.blk x=Ha_.blk x:=fun x hx hlt=>(pb164_.else_ x hx).trans (hkk.old x hlt)
  rw [ep163_]
  show WK Tb0 sp e ⟨7,89,(some (H106_.nx+1)),false⟩ fre_f16 t159_ [] H162_ _
  unfold fre_f16
  refine WK.block ?_
  refine WK.seq ?_
  refine WK.block ?_
  refine WK.seq ?_
  rcases i5 with ⟨j1_,j2_,j3_,hnf⟩ | ⟨a,b,j1_,j2_,j3_,hfnd⟩
  ·
   have j1:Row H162_ (H12_.nx) 3 0 [.int .i64 (-1)]:=j1_.of_blk (hcarry _ (by omega) (by have:=j1_.lt;omega))
   have j2:Row H162_ (H25_.nx) 3 0 [.int .i64 (-1)]:=j2_.of_blk (hcarry _ (by omega) (by have:=j2_.lt;omega))
   have j3:Row H162_ (H33_.nx) 4 0 [.bool false]:=j3_.of_blk (hcarry _ (by omega) (by have:=j3_.lt;omega))
   cases hu:u.used with
   | true =>
    have hmk:=U.mark_t hu
    by_cases hoff:fin 8 A+8=off
    case pos =>
     refine WK.draw_xx (fun _=>False) [.p,.q,.p,.p,.q,.q,.p,.q,.p,.p,.p] (by omega) rfl ?_
     refine WOX.hide fun K0 hK0=>?_
     have r170_:=r154_.ot pb164_.else_ (by omega)
     have m171_:exLd1 (pA Ha_.nx 2) H162_=.val (iN (u.mark)) H162_ (bit (Ha_.nx)) 0:=exLd1_row r170_ rfl
     have o172_:=okr (e:=e) r170_ (by omega)
     have o173_:∀ cq,(bit (Ha_.nx)).testBit cq=true→cq<H162_.nx:=the_bit (P:=fun cq=>cq<H162_.nx) (by have:=r154_.lt;omega)
     have d174_:decide (((u.mark:Nat):Int)=(1:Int))=true:=decide_eq_true (by omega)
     have m175_:exLdN 3 (pA Ha_.nx 0) H162_=.val (.agg ⟨[iN (fin 8 A),iN (u.size),iN (u.mark)]⟩) H162_ (bit (Ha_.nx)) 0:=exLdN_row r170_ (by show 0+3≤3;decide)
     simp +decide only [fre_r8,g12_159,m171_,o172_,o173_,d174_,m175_,o172_,o173_,Xo 7,go_sem]
     repeat (refine And.intro (by assumption) ?_)
     refine EC.mono (pce_ok S hf165_ (Nat.le_refl _) (a:=fin 8 A) (s:=u.size) (m:=u.mark) (by omega)) fun v H176_ _ hv177_=>?_
     obtain ⟨rfl,hk178_⟩:=hv177_
     have hf179_:=hk178_.fn
     have nx180_:=hk178_.nx
     have k181_:=k168_.kept hk178_
     have k182_:=k169_.kept hk178_
     rw [WOXk]
     have m183_:∀ Hq,exFld false 1 0 (.agg ⟨[iN ((fin 8 A+8)),iN (u.size)]⟩) Hq=.val (iN ((fin 8 A+8))) Hq 0 0:=fun _=>rfl
     have r184_:=(((r124_.mv nb138_.kept).ot wr149_.else_ (by omega)).ot pb164_.else_ (by omega)).mv hk178_
     have m185_:exLd1 (pA H.nx 0) H176_=.val (iN off) H176_ (bit (H.nx)) 0:=exLd1_row r184_ rfl
     have o186_:=okr (e:=e) r184_ (by omega)
     have o187_:∀ cq,(bit (H.nx)).testBit cq=true→cq<H162_.nx:=the_bit (P:=fun cq=>cq<H162_.nx) (by have:=r124_.lt;omega)
     have d188_:decide ((((fin 8 A+8):Nat):Int)=((off:Nat):Int))=true:=decide_eq_true (by omega)
     refine WOX.all (fun t' H'=>H176_=H'∧GT t' [(4,.string ⟨#[]⟩),(5,.int .i64 (0)),(6,sC H1_.nx 0 (n) (2*(n))),(8,pA H12_.nx 0),(9,pA H25_.nx 0),(10,pA H33_.nx 0),(11,pA H72_.nx 0),(12,pA Ha_.nx 0),(22,.func (.func 155) #[] #[.pointer (some ⟨H93_.nx,0,none⟩)]),(24,.bool true)]) ?_ ?_
     ·simp +decide only [fre_r8,g3_159,g4_159,g5_159,g6_159,g8_159,g9_159,g10_159,g11_159,g12_159,g22_159,m183_,m185_,o186_,o187_,d188_,Xo 7,go_sem]
      all_goals ((repeat' apply And.intro) <;> assumption)
     rintro t189_ _ ⟨rfl,g4_189,g5_189,g6_189,g8_189,g9_189,g10_189,g11_189,g12_189,g22_189,g24_189, -⟩
     refine hK0 _ _ ?_
     refine WK.cond (v:=true) (by rw [evalO_tmp,g24_189];rfl) ?_
     refine WK.seq ?_
     refine WK.draw_xx (fun _=>False) [.p,.q,.q,.q,.x,.x,.x] (by omega) rfl ?_
     refine WOX.hide fun K0 hK0=>?_
     have r191_:=r170_.mv hk178_
     have m192_:exLd1 (pA Ha_.nx 0) H176_=.val (iN (fin 8 A)) H176_ (bit (Ha_.nx)) 0:=exLd1_row r191_ rfl
     have o193_:=okr (e:=e) r191_ (by omega)
     have o194_:∀ cq,(bit (Ha_.nx)).testBit cq=true→cq<H176_.nx:=the_bit (P:=fun cq=>cq<H176_.nx) (by have:=r170_.lt;omega)
     have m195_:exLdN 3 (pA Ha_.nx 0) H176_=.val (.agg ⟨[iN (fin 8 A),iN (u.size),iN (u.mark)]⟩) H176_ (bit (Ha_.nx)) 0:=exLdN_row r191_ (by show 0+3≤3;decide)
     simp +decide only [fre_r9,g12_189,m192_,o193_,o194_,m195_,o193_,o194_,Xo 7,go_sem]
     repeat (refine And.intro (by assumption) ?_)
     refine EC.mono (uend_ok S hf179_ (Nat.le_refl _) (a:=fin 8 A) (s:=u.size) (m:=u.mark) (by omega) (by omega)) fun v H198_ _ hv199_=>?_
     obtain ⟨rfl,hk200_⟩:=hv199_
     have hf201_:=hk200_.fn
     have nx202_:=hk200_.nx
     have k203_:=k181_.kept hk200_
     have k204_:=k182_.kept hk200_
     have ul196_:=up_lt u.size
     have uk197_:=up_le u.size
     rw [WOXk]
     have r205_:=(j1.mv hk178_).mv hk200_
     obtain ⟨H206_,e207_,wr208_⟩:=exSt1_at (o:=0) (v:=iN (fin 8 A)) rfl hf201_ r205_ (by show 0+1≤1;decide)
     have m209_:exSt 1 (pA H12_.nx 0) (iN (fin 8 A)) H198_=.val U H206_ 0 (bit (H12_.nx)):=e207_
     have hf210_:=wr208_.fn
     have nx211_:H206_.nx=H198_.nx:=wr208_.nx
     have m212_:H198_.nx≤H206_.nx:=by omega
     have r213_:Row H206_ (H12_.nx) 3 0 [iN (fin 8 A)]:=wr208_.row
     have o214_:e.ok 0 (bit (H12_.nx)) H206_:=.write r213_.lt (fun h=>absurd h (by omega))
     have k215_:=k203_.wr wr208_.fn wr208_.nx wr208_.else_ (.inl (.inr (.inl rfl)))
     have k216_:=k204_.wr wr208_.fn wr208_.nx wr208_.else_ (.inl (.inr (.inl rfl)))
     have r217_:=((j2.mv hk178_).mv hk200_).ot wr208_.else_ (by omega)
     obtain ⟨H218_,e219_,wr220_⟩:=exSt1_at (o:=0) (v:=iN (fin 8 A+8+up u.size)) rfl hf210_ r217_ (by show 0+1≤1;decide)
     have m221_:exSt 1 (pA H25_.nx 0) (iN (fin 8 A+8+up u.size)) H206_=.val U H218_ 0 (bit (H25_.nx)):=e219_
     have hf222_:=wr220_.fn
     have nx223_:H218_.nx=H206_.nx:=wr220_.nx
     have m224_:H206_.nx≤H218_.nx:=by omega
     have r225_:Row H218_ (H25_.nx) 3 0 [iN (fin 8 A+8+up u.size)]:=wr220_.row
     have o226_:e.ok 0 (bit (H25_.nx)) H218_:=.write r225_.lt (fun h=>absurd h (by omega))
     have k227_:=k215_.wr wr220_.fn wr220_.nx wr220_.else_ (.inl (.inr (.inr (.inl rfl))))
     have k228_:=k216_.wr wr220_.fn wr220_.nx wr220_.else_ (.inl (.inr (.inr (.inl rfl))))
     have r229_:=(((j3.mv hk178_).mv hk200_).ot wr208_.else_ (by omega)).ot wr220_.else_ (by omega)
     obtain ⟨H230_,e231_,wr232_⟩:=exSt1_at (o:=0) (v:=.bool true) rfl hf222_ r229_ (by show 0+1≤1;decide)
     have m233_:exSt 1 (pA H33_.nx 0) (.bool true) H218_=.val U H230_ 0 (bit (H33_.nx)):=e231_
     have hf234_:=wr232_.fn
     have nx235_:H230_.nx=H218_.nx:=wr232_.nx
     have m236_:H218_.nx≤H230_.nx:=by omega
     have r237_:Row H230_ (H33_.nx) 4 0 [.bool true]:=wr232_.row
     have o238_:e.ok 0 (bit (H33_.nx)) H230_:=.write r237_.lt (fun h=>absurd h (by omega))
     have k239_:=k227_.wr wr232_.fn wr232_.nx wr232_.else_ (.inl (.inr (.inr (.inr (.inl rfl)))))
     have k240_:=k228_.wr wr232_.fn wr232_.nx wr232_.else_ (.inl (.inr (.inr (.inr (.inl rfl)))))
     refine WOX.all (fun t' H'=>H230_=H'∧GT t' [(4,.string ⟨#[]⟩),(5,.int .i64 (0)),(6,sC H1_.nx 0 (n) (2*(n))),(8,pA H12_.nx 0),(9,pA H25_.nx 0),(10,pA H33_.nx 0),(11,pA H72_.nx 0),(12,pA Ha_.nx 0),(22,.func (.func 155) #[] #[.pointer (some ⟨H93_.nx,0,none⟩)])]) ?_ ?_
     ·simp +decide only [fre_r9,g4_189,g5_189,g6_189,g8_189,g9_189,g10_189,g11_189,g12_189,g22_189,g24_189,m209_,m212_,o214_,m221_,m224_,o226_,m233_,m236_,o238_,Xo 7,go_sem]
      all_goals ((repeat' apply And.intro) <;> assumption)
     rintro t241_ _ ⟨rfl,g4_241,g5_241,g6_241,g8_241,g9_241,g10_241,g11_241,g12_241,g22_241, -⟩
     refine hK0 _ _ ?_
     refine WK.seq ?_
     by_cases hlm:lm=2
     case pos =>
      obtain ⟨X_,w_,hA_,hw_,hla_⟩:=(hlm▸i4:Lst A la 2).gap
      have hfd:Fnd off k (A++[u]) la (fin 8 A+8+up u.size):=by rw [← hat.next,hla_];subst hA_;exact Fnd.at_gap (n:=n) hlo.lay hm hus hoff hw_
      refine WK.reg_g ?_
      have r243_:=(((((((i3.mv nb138_.kept).ot wr149_.else_ (by omega)).ot pb164_.else_ (by omega)).mv hk178_).mv hk200_).ot wr208_.else_ (by omega)).ot wr220_.else_ (by omega)).ot wr232_.else_ (by omega)
      have m244_:exLd1 (pA H72_.nx 2) H230_=.val (iN lm) H230_ (bit (H72_.nx)) 0:=exLd1_row r243_ rfl
      have o245_:=okr (e:=e) r243_ (by omega)
      have d246_:decide (((lm:Nat):Int)=(2:Int))=true:=decide_eq_true (by omega)
      refine WOG.all (fun t' H'=>H230_=H'∧GT t' [(4,.string ⟨#[]⟩),(5,.int .i64 (0)),(6,sC H1_.nx 0 (n) (2*(n))),(8,pA H12_.nx 0),(9,pA H25_.nx 0),(10,pA H33_.nx 0),(11,pA H72_.nx 0),(12,pA Ha_.nx 0),(22,.func (.func 155) #[] #[.pointer (some ⟨H93_.nx,0,none⟩)]),(41,.bool true)]) ?_ ?_
      ·simp +decide only [fre_r10,g4_241,g5_241,g6_241,g8_241,g9_241,g10_241,g11_241,g12_241,g22_241,m244_,o245_,d246_,Xo 7,go_sem]
      rintro t247_ _ ⟨rfl,g4_247,g5_247,g6_247,g8_247,g9_247,g10_247,g11_247,g12_247,g22_247,g41_247, -⟩
      refine WK.cond (v:=true) (by rw [evalO_tmp,g41_247];rfl) ?_
      refine WK.reg_g ?_
      have m249_:exLd1 (pA H72_.nx 0) H230_=.val (iN la) H230_ (bit (H72_.nx)) 0:=exLd1_row r243_ rfl
      have o250_:=okr (e:=e) r243_ (by omega)
      have r251_:=(r213_.ot wr220_.else_ (by omega)).ot wr232_.else_ (by omega)
      obtain ⟨H252_,e253_,wr254_⟩:=exSt1_at (o:=0) (v:=iN la) rfl hf234_ r251_ (by show 0+1≤1;decide)
      have m255_:exSt 1 (pA H12_.nx 0) (iN la) H230_=.val U H252_ 0 (bit (H12_.nx)):=e253_
      have hf256_:=wr254_.fn
      have nx257_:H252_.nx=H230_.nx:=wr254_.nx
      have m258_:H230_.nx≤H252_.nx:=by omega
      have r259_:Row H252_ (H12_.nx) 3 0 [iN la]:=wr254_.row
      have o260_:e.ok 0 (bit (H12_.nx)) H252_:=.write r259_.lt (fun h=>absurd h (by omega))
      have k261_:=k239_.wr wr254_.fn wr254_.nx wr254_.else_ (.inl (.inr (.inl rfl)))
      have k262_:=k240_.wr wr254_.fn wr254_.nx wr254_.else_ (.inl (.inr (.inl rfl)))
      refine WOG.all (fun t' H'=>H252_=H'∧GT t' [(4,.string ⟨#[]⟩),(5,.int .i64 (0)),(6,sC H1_.nx 0 (n) (2*(n))),(8,pA H12_.nx 0),(9,pA H25_.nx 0),(10,pA H33_.nx 0),(11,pA H72_.nx 0),(12,pA Ha_.nx 0),(22,.func (.func 155) #[] #[.pointer (some ⟨H93_.nx,0,none⟩)])]) ?_ ?_
      ·simp +decide only [fre_r11,g4_247,g5_247,g6_247,g8_247,g9_247,g10_247,g11_247,g12_247,g22_247,g41_247,m249_,o250_,m255_,m258_,o260_,Xo 7,go_sem]
      rintro t263_ _ ⟨rfl,g4_263,g5_263,g6_263,g8_263,g9_263,g10_263,g11_263,g12_263,g22_263, -⟩
      refine WK.reg_g ?_
      have r265_:=((((r191_.mv hk200_).ot wr208_.else_ (by omega)).ot wr220_.else_ (by omega)).ot wr232_.else_ (by omega)).ot wr254_.else_ (by omega)
      have m266_:exLdN 3 (pA Ha_.nx 0) H252_=.val (.agg ⟨[iN (fin 8 A),iN (u.size),iN (u.mark)]⟩) H252_ (bit (Ha_.nx)) 0:=exLdN_row r265_ (by show 0+3≤3;decide)
      have o267_:=okr (e:=e) r265_ (by omega)
      have r268_:=r243_.ot wr254_.else_ (by omega)
      obtain ⟨H269_,e270_,wr271_⟩:=exStN_at (o:=0) (vs:=[iN (fin 8 A),iN (u.size),iN (u.mark)]) hf256_ r268_ (by show 0+3≤3;decide)
      have m272_:exSt 3 (pA H72_.nx 0) (.agg ⟨[iN (fin 8 A),iN (u.size),iN (u.mark)]⟩) H252_=.val U H269_ 0 (bit (H72_.nx)):=e270_
      have hf273_:=wr271_.fn
      have nx274_:H269_.nx=H252_.nx:=wr271_.nx
      have m275_:H252_.nx≤H269_.nx:=by omega
      have r276_:Row H269_ (H72_.nx) 195 0 [iN (fin 8 A),iN (u.size),iN (u.mark)]:=wr271_.row
      have o277_:e.ok 0 (bit (H72_.nx)) H269_:=.write r276_.lt (fun h=>absurd h (by omega))
      have k278_:=k261_.wr wr271_.fn wr271_.nx wr271_.else_ (.inl (.inr (.inr (.inr (.inr rfl)))))
      have k279_:=k262_.wr wr271_.fn wr271_.nx wr271_.else_ (.inl (.inr (.inr (.inr (.inr rfl)))))
      refine WOG.all (fun t' H'=>H269_=H'∧GT t' [(4,.string ⟨#[]⟩),(5,.int .i64 (0)),(6,sC H1_.nx 0 (n) (2*(n))),(8,pA H12_.nx 0),(9,pA H25_.nx 0),(10,pA H33_.nx 0),(12,pA Ha_.nx 0),(22,.func (.func 155) #[] #[.pointer (some ⟨H93_.nx,0,none⟩)])]) ?_ ?_
      ·simp +decide only [fre_r14,g4_263,g5_263,g6_263,g8_263,g9_263,g10_263,g11_263,g12_263,g22_263,m266_,o267_,m272_,m275_,o277_,Xo 7,go_sem]
      rintro t280_ _ ⟨rfl,g4_280,g5_280,g6_280,g8_280,g9_280,g10_280,g12_280,g22_280, -⟩
      have r282_:=((((((r167_.mv hk178_).mv hk200_).ot wr208_.else_ (by omega)).ot wr220_.else_ (by omega)).ot wr232_.else_ (by omega)).ot wr254_.else_ (by omega)).ot wr271_.else_ (by omega)
      refine ⟨r282_.eq,none,rfl,.inl ⟨rfl,?_⟩⟩
      obtain ⟨H283_,ep284_,pb285_⟩:=putB hf273_ r282_.lt (.loop (none:Option Code).isNone none 89 t113_ [23] fre_body.sr.sr.sr.sr.sr.sl.sr.bl.ra fre_body.sr.sr.sr.sr.sr.sl.sr.bl.rb (H106_.nx))
      have hf286_:=pb285_.fn
      have nx287_:H283_.nx=H269_.nx:=pb285_.nx
      have r288_:IsB H283_ (H106_.nx+1) (.loop true none 89 t113_ [23] fre_body.sr.sr.sr.sr.sr.sl.sr.bl.ra fre_body.sr.sr.sr.sr.sr.sl.sr.bl.rb (H106_.nx)):=⟨pb285_.at_,loop_ne⟩
      have k289_:=k278_.wr pb285_.fn pb285_.nx pb285_.else_ (.inl (.inl rfl))
      have k290_:=k279_.wr pb285_.fn pb285_.nx pb285_.else_ (.inl (.inl rfl))
      rw [ep284_]
      have r291_:=(r259_.ot wr271_.else_ (by omega)).ot pb285_.else_ (by omega)
      have r292_:=(((r225_.ot wr232_.else_ (by omega)).ot wr254_.else_ (by omega)).ot wr271_.else_ (by omega)).ot pb285_.else_ (by omega)
      have r293_:=((r237_.ot wr254_.else_ (by omega)).ot wr271_.else_ (by omega)).ot pb285_.else_ (by omega)
      have r294_:=r276_.ot pb285_.else_ (by omega)
      exact ⟨by omega,⟨k289_,r288_,_,_,_,r294_,Lst.next A u,.inr ⟨_,_,r291_,r292_,r293_,hfd⟩⟩,fun x h1 h2=>k290_.old x h2 (by omega)⟩
     case neg =>
      have hfd:Fnd off k (A++[u]) (fin 8 A) (fin 8 A+8+up u.size):=by rw [← hat.next];exact Fnd.at_use (f:=fb) (n:=n) hm hus hoff (i4.no_gap hlm)
      refine WK.reg_g ?_
      have r243_:=(((((((i3.mv nb138_.kept).ot wr149_.else_ (by omega)).ot pb164_.else_ (by omega)).mv hk178_).mv hk200_).ot wr208_.else_ (by omega)).ot wr220_.else_ (by omega)).ot wr232_.else_ (by omega)
      have m244_:exLd1 (pA H72_.nx 2) H230_=.val (iN lm) H230_ (bit (H72_.nx)) 0:=exLd1_row r243_ rfl
      have o245_:=okr (e:=e) r243_ (by omega)
      have d246_:decide (((lm:Nat):Int)=(2:Int))=false:=decide_eq_false (by omega)
      refine WOG.all (fun t' H'=>H230_=H'∧GT t' [(4,.string ⟨#[]⟩),(5,.int .i64 (0)),(6,sC H1_.nx 0 (n) (2*(n))),(8,pA H12_.nx 0),(9,pA H25_.nx 0),(10,pA H33_.nx 0),(11,pA H72_.nx 0),(12,pA Ha_.nx 0),(22,.func (.func 155) #[] #[.pointer (some ⟨H93_.nx,0,none⟩)]),(41,.bool false)]) ?_ ?_
      ·simp +decide only [fre_r10,g4_241,g5_241,g6_241,g8_241,g9_241,g10_241,g11_241,g12_241,g22_241,m244_,o245_,d246_,Xo 7,go_sem]
      rintro t247_ _ ⟨rfl,g4_247,g5_247,g6_247,g8_247,g9_247,g10_247,g11_247,g12_247,g22_247,g41_247, -⟩
      refine WK.cond (v:=false) (by rw [evalO_tmp,g41_247];rfl) ?_
      refine WK.skip ?_
      refine WK.reg_g ?_
      have r249_:=(((r191_.mv hk200_).ot wr208_.else_ (by omega)).ot wr220_.else_ (by omega)).ot wr232_.else_ (by omega)
      have m250_:exLdN 3 (pA Ha_.nx 0) H230_=.val (.agg ⟨[iN (fin 8 A),iN (u.size),iN (u.mark)]⟩) H230_ (bit (Ha_.nx)) 0:=exLdN_row r249_ (by show 0+3≤3;decide)
      have o251_:=okr (e:=e) r249_ (by omega)
      obtain ⟨H252_,e253_,wr254_⟩:=exStN_at (o:=0) (vs:=[iN (fin 8 A),iN (u.size),iN (u.mark)]) hf234_ r243_ (by show 0+3≤3;decide)
      have m255_:exSt 3 (pA H72_.nx 0) (.agg ⟨[iN (fin 8 A),iN (u.size),iN (u.mark)]⟩) H230_=.val U H252_ 0 (bit (H72_.nx)):=e253_
      have hf256_:=wr254_.fn
      have nx257_:H252_.nx=H230_.nx:=wr254_.nx
      have m258_:H230_.nx≤H252_.nx:=by omega
      have r259_:Row H252_ (H72_.nx) 195 0 [iN (fin 8 A),iN (u.size),iN (u.mark)]:=wr254_.row
      have o260_:e.ok 0 (bit (H72_.nx)) H252_:=.write r259_.lt (fun h=>absurd h (by omega))
      have k261_:=k239_.wr wr254_.fn wr254_.nx wr254_.else_ (.inl (.inr (.inr (.inr (.inr rfl)))))
      have k262_:=k240_.wr wr254_.fn wr254_.nx wr254_.else_ (.inl (.inr (.inr (.inr (.inr rfl)))))
      refine WOG.all (fun t' H'=>H252_=H'∧GT t' [(4,.string ⟨#[]⟩),(5,.int .i64 (0)),(6,sC H1_.nx 0 (n) (2*(n))),(8,pA H12_.nx 0),(9,pA H25_.nx 0),(10,pA H33_.nx 0),(11,pA H72_.nx 0),(12,pA Ha_.nx 0),(22,.func (.func 155) #[] #[.pointer (some ⟨H93_.nx,0,none⟩)])]) ?_ ?_
      ·simp +decide only [fre_r14,g4_247,g5_247,g6_247,g8_247,g9_247,g10_247,g11_247,g12_247,g22_247,g41_247,m250_,o251_,m255_,m258_,o260_,Xo 7,go_sem]
      rintro t263_ _ ⟨rfl,g4_263,g5_263,g6_263,g8_263,g9_263,g10_263,g11_263,g12_263,g22_263, -⟩
      have r265_:=(((((r167_.mv hk178_).mv hk200_).ot wr208_.else_ (by omega)).ot wr220_.else_ (by omega)).ot wr232_.else_ (by omega)).ot wr254_.else_ (by omega)
      refine ⟨r265_.eq,none,rfl,.inl ⟨rfl,?_⟩⟩
      obtain ⟨H266_,ep267_,pb268_⟩:=putB hf256_ r265_.lt (.loop (none:Option Code).isNone none 89 t113_ [23] fre_body.sr.sr.sr.sr.sr.sl.sr.bl.ra fre_body.sr.sr.sr.sr.sr.sl.sr.bl.rb (H106_.nx))
      have hf269_:=pb268_.fn
      have nx270_:H266_.nx=H252_.nx:=pb268_.nx
      have r271_:IsB H266_ (H106_.nx+1) (.loop true none 89 t113_ [23] fre_body.sr.sr.sr.sr.sr.sl.sr.bl.ra fre_body.sr.sr.sr.sr.sr.sl.sr.bl.rb (H106_.nx)):=⟨pb268_.at_,loop_ne⟩
      have k272_:=k261_.wr pb268_.fn pb268_.nx pb268_.else_ (.inl (.inl rfl))
      have k273_:=k262_.wr pb268_.fn pb268_.nx pb268_.else_ (.inl (.inl rfl))
      rw [ep267_]
      have r274_:=(((r213_.ot wr220_.else_ (by omega)).ot wr232_.else_ (by omega)).ot wr254_.else_ (by omega)).ot pb268_.else_ (by omega)
      have r275_:=((r225_.ot wr232_.else_ (by omega)).ot wr254_.else_ (by omega)).ot pb268_.else_ (by omega)
      have r276_:=(r237_.ot wr254_.else_ (by omega)).ot pb268_.else_ (by omega)
      have r277_:=r259_.ot pb268_.else_ (by omega)
      exact ⟨by omega,⟨k272_,r271_,_,_,_,r277_,Lst.next A u,.inr ⟨_,_,r274_,r275_,r276_,hfd⟩⟩,fun x h1 h2=>k273_.old x h2 (by omega)⟩
    case neg =>
     have hmiss:u.used=true→fin 8 A+8≠off:=fun _=>hoff
     refine WK.draw_xx (fun _=>False) [.p,.q,.p,.p,.q,.q,.p,.q,.p,.p,.p] (by omega) rfl ?_
     refine WOX.hide fun K0 hK0=>?_
     have r170_:=r154_.ot pb164_.else_ (by omega)
     have m171_:exLd1 (pA Ha_.nx 2) H162_=.val (iN (u.mark)) H162_ (bit (Ha_.nx)) 0:=exLd1_row r170_ rfl
     have o172_:=okr (e:=e) r170_ (by omega)
     have o173_:∀ cq,(bit (Ha_.nx)).testBit cq=true→cq<H162_.nx:=the_bit (P:=fun cq=>cq<H162_.nx) (by have:=r154_.lt;omega)
     have d174_:decide (((u.mark:Nat):Int)=(1:Int))=true:=decide_eq_true (by omega)
     have m175_:exLdN 3 (pA Ha_.nx 0) H162_=.val (.agg ⟨[iN (fin 8 A),iN (u.size),iN (u.mark)]⟩) H162_ (bit (Ha_.nx)) 0:=exLdN_row r170_ (by show 0+3≤3;decide)
     simp +decide only [fre_r8,g12_159,m171_,o172_,o173_,d174_,m175_,o172_,o173_,Xo 7,go_sem]
     repeat (refine And.intro (by assumption) ?_)
     refine EC.mono (pce_ok S hf165_ (Nat.le_refl _) (a:=fin 8 A) (s:=u.size) (m:=u.mark) (by omega)) fun v H176_ _ hv177_=>?_
     obtain ⟨rfl,hk178_⟩:=hv177_
     have hf179_:=hk178_.fn
     have nx180_:=hk178_.nx
     have k181_:=k168_.kept hk178_
     have k182_:=k169_.kept hk178_
     rw [WOXk]
     have m183_:∀ Hq,exFld false 1 0 (.agg ⟨[iN ((fin 8 A+8)),iN (u.size)]⟩) Hq=.val (iN ((fin 8 A+8))) Hq 0 0:=fun _=>rfl
     have r184_:=(((r124_.mv nb138_.kept).ot wr149_.else_ (by omega)).ot pb164_.else_ (by omega)).mv hk178_
     have m185_:exLd1 (pA H.nx 0) H176_=.val (iN off) H176_ (bit (H.nx)) 0:=exLd1_row r184_ rfl
     have o186_:=okr (e:=e) r184_ (by omega)
     have o187_:∀ cq,(bit (H.nx)).testBit cq=true→cq<H162_.nx:=the_bit (P:=fun cq=>cq<H162_.nx) (by have:=r124_.lt;omega)
     have d188_:decide ((((fin 8 A+8):Nat):Int)=((off:Nat):Int))=false:=decide_eq_false (by omega)
     refine WOX.all (fun t' H'=>H176_=H'∧GT t' [(4,.string ⟨#[]⟩),(5,.int .i64 (0)),(6,sC H1_.nx 0 (n) (2*(n))),(8,pA H12_.nx 0),(9,pA H25_.nx 0),(10,pA H33_.nx 0),(11,pA H72_.nx 0),(12,pA Ha_.nx 0),(22,.func (.func 155) #[] #[.pointer (some ⟨H93_.nx,0,none⟩)]),(24,.bool false)]) ?_ ?_
     ·simp +decide only [fre_r8,g3_159,g4_159,g5_159,g6_159,g8_159,g9_159,g10_159,g11_159,g12_159,g22_159,m183_,m185_,o186_,o187_,d188_,Xo 7,go_sem]
      all_goals ((repeat' apply And.intro) <;> assumption)
     rintro t189_ _ ⟨rfl,g4_189,g5_189,g6_189,g8_189,g9_189,g10_189,g11_189,g12_189,g22_189,g24_189, -⟩
     refine hK0 _ _ ?_
     refine WK.cond (v:=false) (by rw [evalO_tmp,g24_189];rfl) ?_
     refine WK.seq ?_
     refine WK.reg_g ?_
     have r191_:=j3.mv hk178_
     have m192_:exLd1 (pA H33_.nx 0) H176_=.val (.bool false) H176_ (bit (H33_.nx)) 0:=exLd1_row r191_ rfl
     have o193_:=okr (e:=e) r191_ (by omega)
     refine WOG.all (fun t' H'=>H176_=H'∧GT t' [(4,.string ⟨#[]⟩),(5,.int .i64 (0)),(6,sC H1_.nx 0 (n) (2*(n))),(8,pA H12_.nx 0),(9,pA H25_.nx 0),(10,pA H33_.nx 0),(11,pA H72_.nx 0),(12,pA Ha_.nx 0),(22,.func (.func 155) #[] #[.pointer (some ⟨H93_.nx,0,none⟩)]),(44,.bool false)]) ?_ ?_
     ·simp +decide only [fre_r12,g4_189,g5_189,g6_189,g8_189,g9_189,g10_189,g11_189,g12_189,g22_189,g24_189,m192_,o193_,Xo 7,go_sem]
     rintro t194_ _ ⟨rfl,g4_194,g5_194,g6_194,g8_194,g9_194,g10_194,g11_194,g12_194,g22_194,g44_194, -⟩
     refine WK.cond (v:=false) (by rw [evalO_tmp,g44_194];rfl) ?_
     refine WK.skip ?_
     refine WK.reg_g ?_
     have r196_:=r170_.mv hk178_
     have m197_:exLdN 3 (pA Ha_.nx 0) H176_=.val (.agg ⟨[iN (fin 8 A),iN (u.size),iN (u.mark)]⟩) H176_ (bit (Ha_.nx)) 0:=exLdN_row r196_ (by show 0+3≤3;decide)
     have o198_:=okr (e:=e) r196_ (by omega)
     have r199_:=(((i3.mv nb138_.kept).ot wr149_.else_ (by omega)).ot pb164_.else_ (by omega)).mv hk178_
     obtain ⟨H200_,e201_,wr202_⟩:=exStN_at (o:=0) (vs:=[iN (fin 8 A),iN (u.size),iN (u.mark)]) hf179_ r199_ (by show 0+3≤3;decide)
     have m203_:exSt 3 (pA H72_.nx 0) (.agg ⟨[iN (fin 8 A),iN (u.size),iN (u.mark)]⟩) H176_=.val U H200_ 0 (bit (H72_.nx)):=e201_
     have hf204_:=wr202_.fn
     have nx205_:H200_.nx=H176_.nx:=wr202_.nx
     have m206_:H176_.nx≤H200_.nx:=by omega
     have r207_:Row H200_ (H72_.nx) 195 0 [iN (fin 8 A),iN (u.size),iN (u.mark)]:=wr202_.row
     have o208_:e.ok 0 (bit (H72_.nx)) H200_:=.write r207_.lt (fun h=>absurd h (by omega))
     have k209_:=k181_.wr wr202_.fn wr202_.nx wr202_.else_ (.inl (.inr (.inr (.inr (.inr rfl)))))
     have k210_:=k182_.wr wr202_.fn wr202_.nx wr202_.else_ (.inl (.inr (.inr (.inr (.inr rfl)))))
     refine WOG.all (fun t' H'=>H200_=H'∧GT t' [(4,.string ⟨#[]⟩),(5,.int .i64 (0)),(6,sC H1_.nx 0 (n) (2*(n))),(8,pA H12_.nx 0),(9,pA H25_.nx 0),(10,pA H33_.nx 0),(11,pA H72_.nx 0),(12,pA Ha_.nx 0),(22,.func (.func 155) #[] #[.pointer (some ⟨H93_.nx,0,none⟩)])]) ?_ ?_
     ·simp +decide only [fre_r14,g4_194,g5_194,g6_194,g8_194,g9_194,g10_194,g11_194,g12_194,g22_194,g44_194,m197_,o198_,m203_,m206_,o208_,Xo 7,go_sem]
     rintro t211_ _ ⟨rfl,g4_211,g5_211,g6_211,g8_211,g9_211,g10_211,g11_211,g12_211,g22_211, -⟩
     have r213_:=(r167_.mv hk178_).ot wr202_.else_ (by omega)
     refine ⟨r213_.eq,none,rfl,.inl ⟨rfl,?_⟩⟩
     obtain ⟨H214_,ep215_,pb216_⟩:=putB hf204_ r213_.lt (.loop (none:Option Code).isNone none 89 t113_ [23] fre_body.sr.sr.sr.sr.sr.sl.sr.bl.ra fre_body.sr.sr.sr.sr.sr.sl.sr.bl.rb (H106_.nx))
     have hf217_:=pb216_.fn
     have nx218_:H214_.nx=H200_.nx:=pb216_.nx
     have r219_:IsB H214_ (H106_.nx+1) (.loop true none 89 t113_ [23] fre_body.sr.sr.sr.sr.sr.sl.sr.bl.ra fre_body.sr.sr.sr.sr.sr.sl.sr.bl.rb (H106_.nx)):=⟨pb216_.at_,loop_ne⟩
     have k220_:=k209_.wr pb216_.fn pb216_.nx pb216_.else_ (.inl (.inl rfl))
     have k221_:=k210_.wr pb216_.fn pb216_.nx pb216_.else_ (.inl (.inl rfl))
     rw [ep215_]
     have r222_:=((j1.mv hk178_).ot wr202_.else_ (by omega)).ot pb216_.else_ (by omega)
     have r223_:=((j2.mv hk178_).ot wr202_.else_ (by omega)).ot pb216_.else_ (by omega)
     have r224_:=(r191_.ot wr202_.else_ (by omega)).ot pb216_.else_ (by omega)
     have r225_:=r207_.ot pb216_.else_ (by omega)
     exact ⟨by omega,⟨k220_,r219_,_,_,_,r225_,Lst.next A u,.inl ⟨r222_,r223_,r224_,not_found hm hus hnf hmiss⟩⟩,fun x h1 h2=>k221_.old x h2 (by omega)⟩
   | false =>
    have hmk:=U.mark_f hu
    have hmiss:u.used=true→fin 8 A+8≠off:=fun h_=>by rw [hu] at h_;cases h_
    refine WK.draw_xx (fun _=>False) [.p,.q,.p,.p,.p,.p,.p,.p,.p,.p,.p] (by omega) rfl ?_
    refine WOX.hide fun K0 hK0=>?_
    have r170_:=r154_.ot pb164_.else_ (by omega)
    have m171_:exLd1 (pA Ha_.nx 2) H162_=.val (iN (u.mark)) H162_ (bit (Ha_.nx)) 0:=exLd1_row r170_ rfl
    have o172_:=okr (e:=e) r170_ (by omega)
    have o173_:∀ cq,(bit (Ha_.nx)).testBit cq=true→cq<H162_.nx:=the_bit (P:=fun cq=>cq<H162_.nx) (by have:=r154_.lt;omega)
    have d174_:decide (((u.mark:Nat):Int)=(1:Int))=false:=decide_eq_false (by omega)
    refine WOX.all (fun t' H'=>H162_=H'∧GT t' [(4,.string ⟨#[]⟩),(5,.int .i64 (0)),(6,sC H1_.nx 0 (n) (2*(n))),(8,pA H12_.nx 0),(9,pA H25_.nx 0),(10,pA H33_.nx 0),(11,pA H72_.nx 0),(12,pA Ha_.nx 0),(22,.func (.func 155) #[] #[.pointer (some ⟨H93_.nx,0,none⟩)]),(24,.bool false)]) ?_ ?_
    ·simp +decide only [fre_r8,g3_159,g4_159,g5_159,g6_159,g8_159,g9_159,g10_159,g11_159,g12_159,g22_159,m171_,o172_,o173_,d174_,Xo 7,go_sem]
     all_goals ((repeat' apply And.intro) <;> assumption)
    rintro t175_ _ ⟨rfl,g4_175,g5_175,g6_175,g8_175,g9_175,g10_175,g11_175,g12_175,g22_175,g24_175, -⟩
    refine hK0 _ _ ?_
    refine WK.cond (v:=false) (by rw [evalO_tmp,g24_175];rfl) ?_
    refine WK.seq ?_
    refine WK.reg_g ?_
    have m177_:exLd1 (pA H33_.nx 0) H162_=.val (.bool false) H162_ (bit (H33_.nx)) 0:=exLd1_row j3 rfl
    have o178_:=okr (e:=e) j3 (by omega)
    refine WOG.all (fun t' H'=>H162_=H'∧GT t' [(4,.string ⟨#[]⟩),(5,.int .i64 (0)),(6,sC H1_.nx 0 (n) (2*(n))),(8,pA H12_.nx 0),(9,pA H25_.nx 0),(10,pA H33_.nx 0),(11,pA H72_.nx 0),(12,pA Ha_.nx 0),(22,.func (.func 155) #[] #[.pointer (some ⟨H93_.nx,0,none⟩)]),(44,.bool false)]) ?_ ?_
    ·simp +decide only [fre_r12,g4_175,g5_175,g6_175,g8_175,g9_175,g10_175,g11_175,g12_175,g22_175,g24_175,m177_,o178_,Xo 7,go_sem]
    rintro t179_ _ ⟨rfl,g4_179,g5_179,g6_179,g8_179,g9_179,g10_179,g11_179,g12_179,g22_179,g44_179, -⟩
    refine WK.cond (v:=false) (by rw [evalO_tmp,g44_179];rfl) ?_
    refine WK.skip ?_
    refine WK.reg_g ?_
    have m181_:exLdN 3 (pA Ha_.nx 0) H162_=.val (.agg ⟨[iN (fin 8 A),iN (u.size),iN (u.mark)]⟩) H162_ (bit (Ha_.nx)) 0:=exLdN_row r170_ (by show 0+3≤3;decide)
    have o182_:=okr (e:=e) r170_ (by omega)
    have r183_:=((i3.mv nb138_.kept).ot wr149_.else_ (by omega)).ot pb164_.else_ (by omega)
    obtain ⟨H184_,e185_,wr186_⟩:=exStN_at (o:=0) (vs:=[iN (fin 8 A),iN (u.size),iN (u.mark)]) hf165_ r183_ (by show 0+3≤3;decide)
    have m187_:exSt 3 (pA H72_.nx 0) (.agg ⟨[iN (fin 8 A),iN (u.size),iN (u.mark)]⟩) H162_=.val U H184_ 0 (bit (H72_.nx)):=e185_
    have hf188_:=wr186_.fn
    have nx189_:H184_.nx=H162_.nx:=wr186_.nx
    have m190_:H162_.nx≤H184_.nx:=by omega
    have r191_:Row H184_ (H72_.nx) 195 0 [iN (fin 8 A),iN (u.size),iN (u.mark)]:=wr186_.row
    have o192_:e.ok 0 (bit (H72_.nx)) H184_:=.write r191_.lt (fun h=>absurd h (by omega))
    have k193_:=k168_.wr wr186_.fn wr186_.nx wr186_.else_ (.inl (.inr (.inr (.inr (.inr rfl)))))
    have k194_:=k169_.wr wr186_.fn wr186_.nx wr186_.else_ (.inl (.inr (.inr (.inr (.inr rfl)))))
    refine WOG.all (fun t' H'=>H184_=H'∧GT t' [(4,.string ⟨#[]⟩),(5,.int .i64 (0)),(6,sC H1_.nx 0 (n) (2*(n))),(8,pA H12_.nx 0),(9,pA H25_.nx 0),(10,pA H33_.nx 0),(11,pA H72_.nx 0),(12,pA Ha_.nx 0),(22,.func (.func 155) #[] #[.pointer (some ⟨H93_.nx,0,none⟩)])]) ?_ ?_
    ·simp +decide only [fre_r14,g4_179,g5_179,g6_179,g8_179,g9_179,g10_179,g11_179,g12_179,g22_179,g44_179,m181_,o182_,m187_,m190_,o192_,Xo 7,go_sem]
    rintro t195_ _ ⟨rfl,g4_195,g5_195,g6_195,g8_195,g9_195,g10_195,g11_195,g12_195,g22_195, -⟩
    have r197_:=r167_.ot wr186_.else_ (by omega)
    refine ⟨r197_.eq,none,rfl,.inl ⟨rfl,?_⟩⟩
    obtain ⟨H198_,ep199_,pb200_⟩:=putB hf188_ r197_.lt (.loop (none:Option Code).isNone none 89 t113_ [23] fre_body.sr.sr.sr.sr.sr.sl.sr.bl.ra fre_body.sr.sr.sr.sr.sr.sl.sr.bl.rb (H106_.nx))
    have hf201_:=pb200_.fn
    have nx202_:H198_.nx=H184_.nx:=pb200_.nx
    have r203_:IsB H198_ (H106_.nx+1) (.loop true none 89 t113_ [23] fre_body.sr.sr.sr.sr.sr.sl.sr.bl.ra fre_body.sr.sr.sr.sr.sr.sl.sr.bl.rb (H106_.nx)):=⟨pb200_.at_,loop_ne⟩
    have k204_:=k193_.wr pb200_.fn pb200_.nx pb200_.else_ (.inl (.inl rfl))
    have k205_:=k194_.wr pb200_.fn pb200_.nx pb200_.else_ (.inl (.inl rfl))
    rw [ep199_]
    have r206_:=(j1.ot wr186_.else_ (by omega)).ot pb200_.else_ (by omega)
    have r207_:=(j2.ot wr186_.else_ (by omega)).ot pb200_.else_ (by omega)
    have r208_:=(j3.ot wr186_.else_ (by omega)).ot pb200_.else_ (by omega)
    have r209_:=r191_.ot pb200_.else_ (by omega)
    exact ⟨by omega,⟨k204_,r203_,_,_,_,r209_,Lst.next A u,.inl ⟨r206_,r207_,r208_,not_found hm hus hnf hmiss⟩⟩,fun x h1 h2=>k205_.old x h2 (by omega)⟩
  ·
   have j1:Row H162_ (H12_.nx) 3 0 [iN a]:=j1_.of_blk (hcarry _ (by omega) (by have:=j1_.lt;omega))
   have j2:Row H162_ (H25_.nx) 3 0 [iN b]:=j2_.of_blk (hcarry _ (by omega) (by have:=j2_.lt;omega))
   have j3:Row H162_ (H33_.nx) 4 0 [.bool true]:=j3_.of_blk (hcarry _ (by omega) (by have:=j3_.lt;omega))
   cases hu:u.used with
   | true =>
    have hmk:=U.mark_t hu
    by_cases hoff:fin 8 A+8=off
    case pos =>
     have:=hfnd.lt
     exact absurd hoff (by omega)
    case neg =>
     have hmiss:u.used=true→fin 8 A+8≠off:=fun _=>hoff
     have hfd:=hfnd.skip (u:=u) (.inl hu)
     refine WK.draw_xx (fun _=>False) [.p,.q,.p,.p,.q,.q,.p,.q,.p,.p,.p] (by omega) rfl ?_
     refine WOX.hide fun K0 hK0=>?_
     have r170_:=r154_.ot pb164_.else_ (by omega)
     have m171_:exLd1 (pA Ha_.nx 2) H162_=.val (iN (u.mark)) H162_ (bit (Ha_.nx)) 0:=exLd1_row r170_ rfl
     have o172_:=okr (e:=e) r170_ (by omega)
     have o173_:∀ cq,(bit (Ha_.nx)).testBit cq=true→cq<H162_.nx:=the_bit (P:=fun cq=>cq<H162_.nx) (by have:=r154_.lt;omega)
     have d174_:decide (((u.mark:Nat):Int)=(1:Int))=true:=decide_eq_true (by omega)
     have m175_:exLdN 3 (pA Ha_.nx 0) H162_=.val (.agg ⟨[iN (fin 8 A),iN (u.size),iN (u.mark)]⟩) H162_ (bit (Ha_.nx)) 0:=exLdN_row r170_ (by show 0+3≤3;decide)
     simp +decide only [fre_r8,g12_159,m171_,o172_,o173_,d174_,m175_,o172_,o173_,Xo 7,go_sem]
     repeat (refine And.intro (by assumption) ?_)
     refine EC.mono (pce_ok S hf165_ (Nat.le_refl _) (a:=fin 8 A) (s:=u.size) (m:=u.mark) (by omega)) fun v H176_ _ hv177_=>?_
     obtain ⟨rfl,hk178_⟩:=hv177_
     have hf179_:=hk178_.fn
     have nx180_:=hk178_.nx
     have k181_:=k168_.kept hk178_
     have k182_:=k169_.kept hk178_
     rw [WOXk]
     have m183_:∀ Hq,exFld false 1 0 (.agg ⟨[iN ((fin 8 A+8)),iN (u.size)]⟩) Hq=.val (iN ((fin 8 A+8))) Hq 0 0:=fun _=>rfl
     have r184_:=(((r124_.mv nb138_.kept).ot wr149_.else_ (by omega)).ot pb164_.else_ (by omega)).mv hk178_
     have m185_:exLd1 (pA H.nx 0) H176_=.val (iN off) H176_ (bit (H.nx)) 0:=exLd1_row r184_ rfl
     have o186_:=okr (e:=e) r184_ (by omega)
     have o187_:∀ cq,(bit (H.nx)).testBit cq=true→cq<H162_.nx:=the_bit (P:=fun cq=>cq<H162_.nx) (by have:=r124_.lt;omega)
     have d188_:decide ((((fin 8 A+8):Nat):Int)=((off:Nat):Int))=false:=decide_eq_false (by omega)
     refine WOX.all (fun t' H'=>H176_=H'∧GT t' [(4,.string ⟨#[]⟩),(5,.int .i64 (0)),(6,sC H1_.nx 0 (n) (2*(n))),(8,pA H12_.nx 0),(9,pA H25_.nx 0),(10,pA H33_.nx 0),(11,pA H72_.nx 0),(12,pA Ha_.nx 0),(22,.func (.func 155) #[] #[.pointer (some ⟨H93_.nx,0,none⟩)]),(24,.bool false)]) ?_ ?_
     ·simp +decide only [fre_r8,g3_159,g4_159,g5_159,g6_159,g8_159,g9_159,g10_159,g11_159,g12_159,g22_159,m183_,m185_,o186_,o187_,d188_,Xo 7,go_sem]
      all_goals ((repeat' apply And.intro) <;> assumption)
     rintro t189_ _ ⟨rfl,g4_189,g5_189,g6_189,g8_189,g9_189,g10_189,g11_189,g12_189,g22_189,g24_189, -⟩
     refine hK0 _ _ ?_
     refine WK.cond (v:=false) (by rw [evalO_tmp,g24_189];rfl) ?_
     refine WK.seq ?_
     refine WK.reg_g ?_
     have r191_:=j3.mv hk178_
     have m192_:exLd1 (pA H33_.nx 0) H176_=.val (.bool true) H176_ (bit (H33_.nx)) 0:=exLd1_row r191_ rfl
     have o193_:=okr (e:=e) r191_ (by omega)
     have r194_:=r170_.mv hk178_
     have m195_:exLd1 (pA Ha_.nx 2) H176_=.val (iN (u.mark)) H176_ (bit (Ha_.nx)) 0:=exLd1_row r194_ rfl
     have o196_:=okr (e:=e) r194_ (by omega)
     have d197_:decide (((u.mark:Nat):Int)=(2:Int))=false:=decide_eq_false (by omega)
     refine WOG.all (fun t' H'=>H176_=H'∧GT t' [(4,.string ⟨#[]⟩),(5,.int .i64 (0)),(6,sC H1_.nx 0 (n) (2*(n))),(8,pA H12_.nx 0),(9,pA H25_.nx 0),(10,pA H33_.nx 0),(11,pA H72_.nx 0),(12,pA Ha_.nx 0),(22,.func (.func 155) #[] #[.pointer (some ⟨H93_.nx,0,none⟩)]),(44,.bool false)]) ?_ ?_
     ·simp +decide only [fre_r12,g4_189,g5_189,g6_189,g8_189,g9_189,g10_189,g11_189,g12_189,g22_189,g24_189,m192_,o193_,m195_,o196_,d197_,Xo 7,go_sem]
     rintro t198_ _ ⟨rfl,g4_198,g5_198,g6_198,g8_198,g9_198,g10_198,g11_198,g12_198,g22_198,g44_198, -⟩
     refine WK.cond (v:=false) (by rw [evalO_tmp,g44_198];rfl) ?_
     refine WK.skip ?_
     refine WK.reg_g ?_
     have m200_:exLdN 3 (pA Ha_.nx 0) H176_=.val (.agg ⟨[iN (fin 8 A),iN (u.size),iN (u.mark)]⟩) H176_ (bit (Ha_.nx)) 0:=exLdN_row r194_ (by show 0+3≤3;decide)
     have o201_:=okr (e:=e) r194_ (by omega)
     have r202_:=(((i3.mv nb138_.kept).ot wr149_.else_ (by omega)).ot pb164_.else_ (by omega)).mv hk178_
     obtain ⟨H203_,e204_,wr205_⟩:=exStN_at (o:=0) (vs:=[iN (fin 8 A),iN (u.size),iN (u.mark)]) hf179_ r202_ (by show 0+3≤3;decide)
     have m206_:exSt 3 (pA H72_.nx 0) (.agg ⟨[iN (fin 8 A),iN (u.size),iN (u.mark)]⟩) H176_=.val U H203_ 0 (bit (H72_.nx)):=e204_
     have hf207_:=wr205_.fn
     have nx208_:H203_.nx=H176_.nx:=wr205_.nx
     have m209_:H176_.nx≤H203_.nx:=by omega
     have r210_:Row H203_ (H72_.nx) 195 0 [iN (fin 8 A),iN (u.size),iN (u.mark)]:=wr205_.row
     have o211_:e.ok 0 (bit (H72_.nx)) H203_:=.write r210_.lt (fun h=>absurd h (by omega))
     have k212_:=k181_.wr wr205_.fn wr205_.nx wr205_.else_ (.inl (.inr (.inr (.inr (.inr rfl)))))
     have k213_:=k182_.wr wr205_.fn wr205_.nx wr205_.else_ (.inl (.inr (.inr (.inr (.inr rfl)))))
     refine WOG.all (fun t' H'=>H203_=H'∧GT t' [(4,.string ⟨#[]⟩),(5,.int .i64 (0)),(6,sC H1_.nx 0 (n) (2*(n))),(8,pA H12_.nx 0),(9,pA H25_.nx 0),(10,pA H33_.nx 0),(11,pA H72_.nx 0),(12,pA Ha_.nx 0),(22,.func (.func 155) #[] #[.pointer (some ⟨H93_.nx,0,none⟩)])]) ?_ ?_
     ·simp +decide only [fre_r14,g4_198,g5_198,g6_198,g8_198,g9_198,g10_198,g11_198,g12_198,g22_198,g44_198,m200_,o201_,m206_,m209_,o211_,Xo 7,go_sem]
     rintro t214_ _ ⟨rfl,g4_214,g5_214,g6_214,g8_214,g9_214,g10_214,g11_214,g12_214,g22_214, -⟩
     have r216_:=(r167_.mv hk178_).ot wr205_.else_ (by omega)
     refine ⟨r216_.eq,none,rfl,.inl ⟨rfl,?_⟩⟩
     obtain ⟨H217_,ep218_,pb219_⟩:=putB hf207_ r216_.lt (.loop (none:Option Code).isNone none 89 t113_ [23] fre_body.sr.sr.sr.sr.sr.sl.sr.bl.ra fre_body.sr.sr.sr.sr.sr.sl.sr.bl.rb (H106_.nx))
     have hf220_:=pb219_.fn
     have nx221_:H217_.nx=H203_.nx:=pb219_.nx
     have r222_:IsB H217_ (H106_.nx+1) (.loop true none 89 t113_ [23] fre_body.sr.sr.sr.sr.sr.sl.sr.bl.ra fre_body.sr.sr.sr.sr.sr.sl.sr.bl.rb (H106_.nx)):=⟨pb219_.at_,loop_ne⟩
     have k223_:=k212_.wr pb219_.fn pb219_.nx pb219_.else_ (.inl (.inl rfl))
     have k224_:=k213_.wr pb219_.fn pb219_.nx pb219_.else_ (.inl (.inl rfl))
     rw [ep218_]
     have r225_:=((j1.mv hk178_).ot wr205_.else_ (by omega)).ot pb219_.else_ (by omega)
     have r226_:=((j2.mv hk178_).ot wr205_.else_ (by omega)).ot pb219_.else_ (by omega)
     have r227_:=(r191_.ot wr205_.else_ (by omega)).ot pb219_.else_ (by omega)
     have r228_:=r210_.ot pb219_.else_ (by omega)
     exact ⟨by omega,⟨k223_,r222_,_,_,_,r228_,Lst.next A u,.inr ⟨_,_,r225_,r226_,r227_,hfd⟩⟩,fun x h1 h2=>k224_.old x h2 (by omega)⟩
   | false =>
    have hmk:=U.mark_f hu
    have hmiss:u.used=true→fin 8 A+8≠off:=fun h_=>by rw [hu] at h_;cases h_
    refine WK.draw_xx (fun _=>False) [.p,.q,.p,.p,.p,.p,.p,.p,.p,.p,.p] (by omega) rfl ?_
    refine WOX.hide fun K0 hK0=>?_
    have r170_:=r154_.ot pb164_.else_ (by omega)
    have m171_:exLd1 (pA Ha_.nx 2) H162_=.val (iN (u.mark)) H162_ (bit (Ha_.nx)) 0:=exLd1_row r170_ rfl
    have o172_:=okr (e:=e) r170_ (by omega)
    have o173_:∀ cq,(bit (Ha_.nx)).testBit cq=true→cq<H162_.nx:=the_bit (P:=fun cq=>cq<H162_.nx) (by have:=r154_.lt;omega)
    have d174_:decide (((u.mark:Nat):Int)=(1:Int))=false:=decide_eq_false (by omega)
    refine WOX.all (fun t' H'=>H162_=H'∧GT t' [(4,.string ⟨#[]⟩),(5,.int .i64 (0)),(6,sC H1_.nx 0 (n) (2*(n))),(8,pA H12_.nx 0),(9,pA H25_.nx 0),(10,pA H33_.nx 0),(11,pA H72_.nx 0),(12,pA Ha_.nx 0),(22,.func (.func 155) #[] #[.pointer (some ⟨H93_.nx,0,none⟩)]),(24,.bool false)]) ?_ ?_
    ·simp +decide only [fre_r8,g3_159,g4_159,g5_159,g6_159,g8_159,g9_159,g10_159,g11_159,g12_159,g22_159,m171_,o172_,o173_,d174_,Xo 7,go_sem]
     all_goals ((repeat' apply And.intro) <;> assumption)
    rintro t175_ _ ⟨rfl,g4_175,g5_175,g6_175,g8_175,g9_175,g10_175,g11_175,g12_175,g22_175,g24_175, -⟩
    refine hK0 _ _ ?_
    refine WK.cond (v:=false) (by rw [evalO_tmp,g24_175];rfl) ?_
    refine WK.seq ?_
    by_cases hto:fin 8 A=b
    case pos =>
     have hfd:Fnd off k (A++[u]) a (fin 8 A+8+up u.size):=by rw [← hat.next];exact hfnd.more hu hto
     refine WK.reg_g ?_
     have m177_:exLd1 (pA H33_.nx 0) H162_=.val (.bool true) H162_ (bit (H33_.nx)) 0:=exLd1_row j3 rfl
     have o178_:=okr (e:=e) j3 (by omega)
     have m179_:exLd1 (pA Ha_.nx 2) H162_=.val (iN (u.mark)) H162_ (bit (Ha_.nx)) 0:=exLd1_row r170_ rfl
     have o180_:=okr (e:=e) r170_ (by omega)
     have d181_:decide (((u.mark:Nat):Int)=(2:Int))=true:=decide_eq_true (by omega)
     have m182_:exLd1 (pA Ha_.nx 0) H162_=.val (iN (fin 8 A)) H162_ (bit (Ha_.nx)) 0:=exLd1_row r170_ rfl
     have m183_:exLd1 (pA H25_.nx 0) H162_=.val (iN b) H162_ (bit (H25_.nx)) 0:=exLd1_row j2 rfl
     have o184_:=okr (e:=e) j2 (by omega)
     have d185_:decide (((fin 8 A:Nat):Int)=((b:Nat):Int))=true:=decide_eq_true (by omega)
     refine WOG.all (fun t' H'=>H162_=H'∧GT t' [(4,.string ⟨#[]⟩),(5,.int .i64 (0)),(6,sC H1_.nx 0 (n) (2*(n))),(8,pA H12_.nx 0),(9,pA H25_.nx 0),(10,pA H33_.nx 0),(11,pA H72_.nx 0),(12,pA Ha_.nx 0),(22,.func (.func 155) #[] #[.pointer (some ⟨H93_.nx,0,none⟩)]),(44,.bool true)]) ?_ ?_
     ·simp +decide only [fre_r12,g4_175,g5_175,g6_175,g8_175,g9_175,g10_175,g11_175,g12_175,g22_175,g24_175,m177_,o178_,m179_,o180_,d181_,m182_,o180_,m183_,o184_,d185_,Xo 7,go_sem]
     rintro t186_ _ ⟨rfl,g4_186,g5_186,g6_186,g8_186,g9_186,g10_186,g11_186,g12_186,g22_186,g44_186, -⟩
     refine WK.cond (v:=true) (by rw [evalO_tmp,g44_186];rfl) ?_
     refine WK.reg_g ?_
     refine WOG.hide fun K0 hK0=>?_
     have m188_:exLdN 3 (pA Ha_.nx 0) H162_=.val (.agg ⟨[iN (fin 8 A),iN (u.size),iN (u.mark)]⟩) H162_ (bit (Ha_.nx)) 0:=exLdN_row r170_ (by show 0+3≤3;decide)
     have o189_:=okr (e:=e) r170_ (by omega)
     simp +decide only [fre_r13,g12_186,m188_,o189_,Xo 7,go_sem]
     refine EC.mono (uend_ok S hf165_ (by omega) (a:=fin 8 A) (s:=u.size) (m:=u.mark) (by omega) (by omega)) fun v H192_ _ hv193_=>?_
     obtain ⟨rfl,hk194_⟩:=hv193_
     have hf195_:=hk194_.fn
     have nx196_:=hk194_.nx
     have k197_:=k168_.kept hk194_
     have k198_:=k169_.kept hk194_
     have ul190_:=up_lt u.size
     have uk191_:=up_le u.size
     rw [WOGk]
     have r199_:=j2.mv hk194_
     obtain ⟨H200_,e201_,wr202_⟩:=exSt1_at (o:=0) (v:=iN (fin 8 A+8+up u.size)) rfl hf195_ r199_ (by show 0+1≤1;decide)
     have m203_:exSt 1 (pA H25_.nx 0) (iN (fin 8 A+8+up u.size)) H192_=.val U H200_ 0 (bit (H25_.nx)):=e201_
     have hf204_:=wr202_.fn
     have nx205_:H200_.nx=H192_.nx:=wr202_.nx
     have m206_:H192_.nx≤H200_.nx:=by omega
     have r207_:Row H200_ (H25_.nx) 3 0 [iN (fin 8 A+8+up u.size)]:=wr202_.row
     have o208_:e.ok 0 (bit (H25_.nx)) H200_:=.write r207_.lt (fun h=>absurd h (by omega))
     have k209_:=k197_.wr wr202_.fn wr202_.nx wr202_.else_ (.inl (.inr (.inr (.inl rfl))))
     have k210_:=k198_.wr wr202_.fn wr202_.nx wr202_.else_ (.inl (.inr (.inr (.inl rfl))))
     refine WOG.all (fun t' H'=>H200_=H'∧GT t' [(4,.string ⟨#[]⟩),(5,.int .i64 (0)),(6,sC H1_.nx 0 (n) (2*(n))),(8,pA H12_.nx 0),(9,pA H25_.nx 0),(10,pA H33_.nx 0),(11,pA H72_.nx 0),(12,pA Ha_.nx 0),(22,.func (.func 155) #[] #[.pointer (some ⟨H93_.nx,0,none⟩)])]) ?_ ?_
     ·simp +decide only [fre_r13,g4_186,g5_186,g6_186,g8_186,g9_186,g10_186,g11_186,g12_186,g22_186,g44_186,m203_,m206_,o208_,Xo 7,go_sem]
     rintro t211_ _ ⟨rfl,g4_211,g5_211,g6_211,g8_211,g9_211,g10_211,g11_211,g12_211,g22_211, -⟩
     refine hK0 _ _ ?_
     refine WK.reg_g ?_
     have r213_:=(r170_.mv hk194_).ot wr202_.else_ (by omega)
     have m214_:exLdN 3 (pA Ha_.nx 0) H200_=.val (.agg ⟨[iN (fin 8 A),iN (u.size),iN (u.mark)]⟩) H200_ (bit (Ha_.nx)) 0:=exLdN_row r213_ (by show 0+3≤3;decide)
     have o215_:=okr (e:=e) r213_ (by omega)
     have r216_:=((((i3.mv nb138_.kept).ot wr149_.else_ (by omega)).ot pb164_.else_ (by omega)).mv hk194_).ot wr202_.else_ (by omega)
     obtain ⟨H217_,e218_,wr219_⟩:=exStN_at (o:=0) (vs:=[iN (fin 8 A),iN (u.size),iN (u.mark)]) hf204_ r216_ (by show 0+3≤3;decide)
     have m220_:exSt 3 (pA H72_.nx 0) (.agg ⟨[iN (fin 8 A),iN (u.size),iN (u.mark)]⟩) H200_=.val U H217_ 0 (bit (H72_.nx)):=e218_
     have hf221_:=wr219_.fn
     have nx222_:H217_.nx=H200_.nx:=wr219_.nx
     have m223_:H200_.nx≤H217_.nx:=by omega
     have r224_:Row H217_ (H72_.nx) 195 0 [iN (fin 8 A),iN (u.size),iN (u.mark)]:=wr219_.row
     have o225_:e.ok 0 (bit (H72_.nx)) H217_:=.write r224_.lt (fun h=>absurd h (by omega))
     have k226_:=k209_.wr wr219_.fn wr219_.nx wr219_.else_ (.inl (.inr (.inr (.inr (.inr rfl)))))
     have k227_:=k210_.wr wr219_.fn wr219_.nx wr219_.else_ (.inl (.inr (.inr (.inr (.inr rfl)))))
     refine WOG.all (fun t' H'=>H217_=H'∧GT t' [(4,.string ⟨#[]⟩),(5,.int .i64 (0)),(6,sC H1_.nx 0 (n) (2*(n))),(8,pA H12_.nx 0),(9,pA H25_.nx 0),(10,pA H33_.nx 0),(11,pA H72_.nx 0),(12,pA Ha_.nx 0),(22,.func (.func 155) #[] #[.pointer (some ⟨H93_.nx,0,none⟩)])]) ?_ ?_
     ·simp +decide only [fre_r14,g4_211,g5_211,g6_211,g8_211,g9_211,g10_211,g11_211,g12_211,g22_211,m214_,o215_,m220_,m223_,o225_,Xo 7,go_sem]
     rintro t228_ _ ⟨rfl,g4_228,g5_228,g6_228,g8_228,g9_228,g10_228,g11_228,g12_228,g22_228, -⟩
     have r230_:=((r167_.mv hk194_).ot wr202_.else_ (by omega)).ot wr219_.else_ (by omega)
     refine ⟨r230_.eq,none,rfl,.inl ⟨rfl,?_⟩⟩
     obtain ⟨H231_,ep232_,pb233_⟩:=putB hf221_ r230_.lt (.loop (none:Option Code).isNone none 89 t113_ [23] fre_body.sr.sr.sr.sr.sr.sl.sr.bl.ra fre_body.sr.sr.sr.sr.sr.sl.sr.bl.rb (H106_.nx))
     have hf234_:=pb233_.fn
     have nx235_:H231_.nx=H217_.nx:=pb233_.nx
     have r236_:IsB H231_ (H106_.nx+1) (.loop true none 89 t113_ [23] fre_body.sr.sr.sr.sr.sr.sl.sr.bl.ra fre_body.sr.sr.sr.sr.sr.sl.sr.bl.rb (H106_.nx)):=⟨pb233_.at_,loop_ne⟩
     have k237_:=k226_.wr pb233_.fn pb233_.nx pb233_.else_ (.inl (.inl rfl))
     have k238_:=k227_.wr pb233_.fn pb233_.nx pb233_.else_ (.inl (.inl rfl))
     rw [ep232_]
     have r239_:=(((j1.mv hk194_).ot wr202_.else_ (by omega)).ot wr219_.else_ (by omega)).ot pb233_.else_ (by omega)
     have r240_:=(r207_.ot wr219_.else_ (by omega)).ot pb233_.else_ (by omega)
     have r241_:=(((j3.mv hk194_).ot wr202_.else_ (by omega)).ot wr219_.else_ (by omega)).ot pb233_.else_ (by omega)
     have r242_:=r224_.ot pb233_.else_ (by omega)
     exact ⟨by omega,⟨k237_,r236_,_,_,_,r242_,Lst.next A u,.inr ⟨_,_,r239_,r240_,r241_,hfd⟩⟩,fun x h1 h2=>k238_.old x h2 (by omega)⟩
    case neg =>
     have hfd:=hfnd.skip (u:=u) (.inr hto)
     refine WK.reg_g ?_
     have m177_:exLd1 (pA H33_.nx 0) H162_=.val (.bool true) H162_ (bit (H33_.nx)) 0:=exLd1_row j3 rfl
     have o178_:=okr (e:=e) j3 (by omega)
     have m179_:exLd1 (pA Ha_.nx 2) H162_=.val (iN (u.mark)) H162_ (bit (Ha_.nx)) 0:=exLd1_row r170_ rfl
     have o180_:=okr (e:=e) r170_ (by omega)
     have d181_:decide (((u.mark:Nat):Int)=(2:Int))=true:=decide_eq_true (by omega)
     have m182_:exLd1 (pA Ha_.nx 0) H162_=.val (iN (fin 8 A)) H162_ (bit (Ha_.nx)) 0:=exLd1_row r170_ rfl
     have m183_:exLd1 (pA H25_.nx 0) H162_=.val (iN b) H162_ (bit (H25_.nx)) 0:=exLd1_row j2 rfl
     have o184_:=okr (e:=e) j2 (by omega)
     have d185_:decide (((fin 8 A:Nat):Int)=((b:Nat):Int))=false:=decide_eq_false (by omega)
     refine WOG.all (fun t' H'=>H162_=H'∧GT t' [(4,.string ⟨#[]⟩),(5,.int .i64 (0)),(6,sC H1_.nx 0 (n) (2*(n))),(8,pA H12_.nx 0),(9,pA H25_.nx 0),(10,pA H33_.nx 0),(11,pA H72_.nx 0),(12,pA Ha_.nx 0),(22,.func (.func 155) #[] #[.pointer (some ⟨H93_.nx,0,none⟩)]),(44,.bool false)]) ?_ ?_
     ·simp +decide only [fre_r12,g4_175,g5_175,g6_175,g8_175,g9_175,g10_175,g11_175,g12_175,g22_175,g24_175,m177_,o178_,m179_,o180_,d181_,m182_,o180_,m183_,o184_,d185_,Xo 7,go_sem]
     rintro t186_ _ ⟨rfl,g4_186,g5_186,g6_186,g8_186,g9_186,g10_186,g11_186,g12_186,g22_186,g44_186, -⟩
     refine WK.cond (v:=false) (by rw [evalO_tmp,g44_186];rfl) ?_
     refine WK.skip ?_
     refine WK.reg_g ?_
     have m188_:exLdN 3 (pA Ha_.nx 0) H162_=.val (.agg ⟨[iN (fin 8 A),iN (u.size),iN (u.mark)]⟩) H162_ (bit (Ha_.nx)) 0:=exLdN_row r170_ (by show 0+3≤3;decide)
     have o189_:=okr (e:=e) r170_ (by omega)
     have r190_:=((i3.mv nb138_.kept).ot wr149_.else_ (by omega)).ot pb164_.else_ (by omega)
     obtain ⟨H191_,e192_,wr193_⟩:=exStN_at (o:=0) (vs:=[iN (fin 8 A),iN (u.size),iN (u.mark)]) hf165_ r190_ (by show 0+3≤3;decide)
     have m194_:exSt 3 (pA H72_.nx 0) (.agg ⟨[iN (fin 8 A),iN (u.size),iN (u.mark)]⟩) H162_=.val U H191_ 0 (bit (H72_.nx)):=e192_
     have hf195_:=wr193_.fn
     have nx196_:H191_.nx=H162_.nx:=wr193_.nx
     have m197_:H162_.nx≤H191_.nx:=by omega
     have r198_:Row H191_ (H72_.nx) 195 0 [iN (fin 8 A),iN (u.size),iN (u.mark)]:=wr193_.row
     have o199_:e.ok 0 (bit (H72_.nx)) H191_:=.write r198_.lt (fun h=>absurd h (by omega))
     have k200_:=k168_.wr wr193_.fn wr193_.nx wr193_.else_ (.inl (.inr (.inr (.inr (.inr rfl)))))
     have k201_:=k169_.wr wr193_.fn wr193_.nx wr193_.else_ (.inl (.inr (.inr (.inr (.inr rfl)))))
     refine WOG.all (fun t' H'=>H191_=H'∧GT t' [(4,.string ⟨#[]⟩),(5,.int .i64 (0)),(6,sC H1_.nx 0 (n) (2*(n))),(8,pA H12_.nx 0),(9,pA H25_.nx 0),(10,pA H33_.nx 0),(11,pA H72_.nx 0),(12,pA Ha_.nx 0),(22,.func (.func 155) #[] #[.pointer (some ⟨H93_.nx,0,none⟩)])]) ?_ ?_
     ·simp +decide only [fre_r14,g4_186,g5_186,g6_186,g8_186,g9_186,g10_186,g11_186,g12_186,g22_186,g44_186,m188_,o189_,m194_,m197_,o199_,Xo 7,go_sem]
     rintro t202_ _ ⟨rfl,g4_202,g5_202,g6_202,g8_202,g9_202,g10_202,g11_202,g12_202,g22_202, -⟩
     have r204_:=r167_.ot wr193_.else_ (by omega)
     refine ⟨r204_.eq,none,rfl,.inl ⟨rfl,?_⟩⟩
     obtain ⟨H205_,ep206_,pb207_⟩:=putB hf195_ r204_.lt (.loop (none:Option Code).isNone none 89 t113_ [23] fre_body.sr.sr.sr.sr.sr.sl.sr.bl.ra fre_body.sr.sr.sr.sr.sr.sl.sr.bl.rb (H106_.nx))
     have hf208_:=pb207_.fn
     have nx209_:H205_.nx=H191_.nx:=pb207_.nx
     have r210_:IsB H205_ (H106_.nx+1) (.loop true none 89 t113_ [23] fre_body.sr.sr.sr.sr.sr.sl.sr.bl.ra fre_body.sr.sr.sr.sr.sr.sl.sr.bl.rb (H106_.nx)):=⟨pb207_.at_,loop_ne⟩
     have k211_:=k200_.wr pb207_.fn pb207_.nx pb207_.else_ (.inl (.inl rfl))
     have k212_:=k201_.wr pb207_.fn pb207_.nx pb207_.else_ (.inl (.inl rfl))
     rw [ep206_]
     have r213_:=(j1.ot wr193_.else_ (by omega)).ot pb207_.else_ (by omega)
     have r214_:=(j2.ot wr193_.else_ (by omega)).ot pb207_.else_ (by omega)
     have r215_:=(j3.ot wr193_.else_ (by omega)).ot pb207_.else_ (by omega)
     have r216_:=r198_.ot pb207_.else_ (by omega)
     exact ⟨by omega,⟨k211_,r210_,_,_,_,r216_,Lst.next A u,.inr ⟨_,_,r213_,r214_,r215_,hfd⟩⟩,fun x h1 h2=>k212_.old x h2 (by omega)⟩
 obtain ⟨_,hv⟩:=hv
 rcases hv with hv | hv
 rotate_left
 ·exact hv.elim
 obtain ⟨i1,i2,la,ls,lm,i3,i4,i5⟩:=hv
 rcases i5 with ⟨j1,j2,j3,j4⟩ | ⟨a,b,j1,j2,j3,hfnd⟩
 ·exact absurd rfl (j4 _ hm)
 have hf1_:=i1.fn
 have hk1_:Kept H H1:=k116_.ofX i1 hX
 have hab:=hfnd.ab
 have r123_:=((((((((((nb2_.row.mv hk14_).mv nb26_.kept).mv nb34_.kept).mv nb42_.kept).ot wr52_.else_ (by omega)).ot wr63_.else_ (by omega)).ot wr74_.else_ (by omega)).mv nb86_.kept).ot wr95_.else_ (by omega)).mv hk108_).mv hkr
 have r124_:Row H1 (H.nx) 3 0 [iN off]:=r123_.of_blk (i1.old _ r123_.lt (by omega))
 have r125_:ByU H1 (H1_.nx) 5 fb (n):=r122_.of_blk (i1.old _ r122_.lt (by omega))
 have r126_:Row H1 (H93_.nx) 191 0 [sC H1_.nx 0 (n) (2*(n))]:=r121_.of_blk (i1.old _ r121_.lt (by omega))
 have r127_:IsB H1 (H106_.nx) (.obj (.deferred (some []))):=hdb.of_blk (i1.old _ hdb.lt (by omega))
 refine ⟨true,none,89,t113_,[23],fre_body.sr.sr.sr.sr.sr.sl.sr.bl.ra,fre_body.sr.sr.sr.sr.sr.sl.sr.bl.rb,H106_.nx,.normal,i2.eq,rfl,?_⟩
 obtain ⟨H128_,ep129_,pb130_⟩:=putB hf1_ i2.lt (.no)
 have hf131_:=pb130_.fn
 have nx132_:H128_.nx=H1.nx:=pb130_.nx
 have k133_:Kept H H128_:=⟨pb130_.fn,by have:=hk1_.nx;omega,fun c hc=>(pb130_.else_ c (by omega)).trans (hk1_.old c hc)⟩
 rw [ep129_]
 refine WK.seq ?_
 refine WK.seq ?_
 refine WK.reg_g ?_
 have r134_:=j3.ot pb130_.else_ (by omega)
 have m135_:exLd1 (pA H33_.nx 0) H128_=.val (.bool true) H128_ (bit (H33_.nx)) 0:=exLd1_row r134_ rfl
 have o136_:=okr (e:=e) r134_ (by omega)
 refine WOG.all (fun t' H'=>H128_=H'∧GT t' [(3,pA H.nx 0),(4,.string ⟨#[]⟩),(5,.int .i64 (0)),(6,sC H1_.nx 0 (n) (2*(n))),(8,pA H12_.nx 0),(9,pA H25_.nx 0),(10,pA H33_.nx 0),(11,pA H72_.nx 0),(22,.func (.func 155) #[] #[.pointer (some ⟨H93_.nx,0,none⟩)]),(61,.bool false)]) ?_ ?_
 ·simp +decide only [fre_r17,g3_113,g4_113,g5_113,g6_113,g8_113,g9_113,g10_113,g11_113,g22_113,m135_,o136_,Xo 7,go_sem]
 rintro t137_ _ ⟨rfl,g3_137,g4_137,g5_137,g6_137,g8_137,g9_137,g10_137,g11_137,g22_137,g61_137, -⟩
 refine WK.cond (v:=false) (by rw [evalO_tmp,g61_137];rfl) ?_
 refine WK.skip ?_
 refine WK.seq ?_
 refine WK.reg_g ?_
 have r139_:=j1.ot pb130_.else_ (by omega)
 have m140_:exLd1 (pA H12_.nx 0) H128_=.val (iN a) H128_ (bit (H12_.nx)) 0:=exLd1_row r139_ rfl
 have o141_:=okr (e:=e) r139_ (by omega)
 have r142_:=j2.ot pb130_.else_ (by omega)
 have m143_:exLd1 (pA H25_.nx 0) H128_=.val (iN b) H128_ (bit (H25_.nx)) 0:=exLd1_row r142_ rfl
 have o144_:=okr (e:=e) r142_ (by omega)
 have m145_:∀ Hq,exSlL 1 (sC H1_.nx 0 (n) (2*(n))) (some (iN a)) (some (iN b)) none Hq=.val (sC H1_.nx a (b-a) (2*((n)-a))) Hq 0 0:=fun Hq=>(slL_lh (o:=0) Hq (by omega) (by omega) (by omega)).trans (by rw [Nat.zero_add])
 have r146_:=r125_.ot pb130_.else_ (by omega)
 obtain ⟨H147_,e148_,wr149_⟩:=clearB (o:=a) (k:=b-a) (c:=2*((n)-a)) hf131_ r146_ (by omega)
 have m150_:exClear [.int .u8 0] (sC H1_.nx a (b-a) (2*((n)-a))) H128_=.val (.tuple #[]) H147_ 0 (bit (H1_.nx)):=e148_
 have hf151_:=wr149_.fn
 have nx152_:H147_.nx=H128_.nx:=wr149_.nx
 have m153_:H128_.nx≤H147_.nx:=by omega
 have o154_:e.ok 0 (bit (H1_.nx)) H147_:=.write wr149_.row.lt (fun h=>absurd h (by omega))
 have k155_:Kept H H147_:=⟨wr149_.fn,by have:=k133_.nx;omega,fun c hc=>(wr149_.else_ c (by omega)).trans (k133_.old c hc)⟩
 refine WOG.all (fun t' H'=>H147_=H'∧GT t' [(3,pA H.nx 0),(4,.string ⟨#[]⟩),(5,.int .i64 (0)),(6,sC H1_.nx 0 (n) (2*(n))),(8,pA H12_.nx 0),(9,pA H25_.nx 0),(10,pA H33_.nx 0),(11,pA H72_.nx 0),(22,.func (.func 155) #[] #[.pointer (some ⟨H93_.nx,0,none⟩)])]) ?_ ?_
 ·simp +decide only [fre_r19,g3_137,g4_137,g5_137,g6_137,g8_137,g9_137,g10_137,g11_137,g22_137,g61_137,m140_,o141_,m143_,o144_,m145_,m150_,m153_,o154_,Xo 7,go_sem]
 rintro t156_ _ ⟨rfl,g3_156,g4_156,g5_156,g6_156,g8_156,g9_156,g10_156,g11_156,g22_156, -⟩
 have r158_:ByU H147_ (H1_.nx) 5 (clr fb a b) (n):=ByU.congr wr149_.row (fun i hi=>over_clr (by omega))
 have hbc4:be (clr fb a b) 4=be fb 4:=be_congr fun i h1 h2=>clr_ne (by omega)
 refine WK.seq ?_
 refine WK.reg_g ?_
 refine WOG.hide fun K0 hK0=>?_
 simp +decide only [fre_r20,g6_156,Xo 7,go_sem]
 refine EC.mono ((get_ok S hf151_ (by omega) (p:=4) r158_ (by omega) (by omega) (fun h=>absurd h (by omega))).mono fun v H1 _ h_=>by rwa [hbc4] at h_) fun v H159_ _ hv160_=>?_
 obtain ⟨rfl,hh161_⟩:=hv160_
 rw [hh161_];clear hh161_
 rw [WOGk]
 have w162_:Value.int .i64 (wrapF .i64 (((be fb 4:Nat):Int)-(1:Int)))=.int .i64 ((((be fb 4)-1):Nat):Int):=wF (by omega)
 simp +decide only [fre_r20,w162_,Xo 7,go_sem]
 refine EC.mono (set_ok S hf151_ (by omega) (p:=4) (m:=((be fb 4)-1)) r158_ (by omega) (by omega) (by omega) (fun h=>absurd h (by omega))) fun v H163_ _ hv164_=>?_
 obtain ⟨rfl,ov165_⟩:=hv164_
 have hf166_:=ov165_.fn
 have nx167_:H163_.nx=H147_.nx:=ov165_.nx
 have k168_:Kept H H163_:=⟨ov165_.fn,by have:=k155_.nx;omega,fun c hc=>(ov165_.else_ c (by omega)).trans (k155_.old c hc)⟩
 rw [WOGk]
 refine WOG.all (fun t' H'=>H163_=H'∧GT t' [(3,pA H.nx 0),(4,.string ⟨#[]⟩),(5,.int .i64 (0)),(6,sC H1_.nx 0 (n) (2*(n))),(8,pA H12_.nx 0),(9,pA H25_.nx 0),(10,pA H33_.nx 0),(11,pA H72_.nx 0),(22,.func (.func 155) #[] #[.pointer (some ⟨H93_.nx,0,none⟩)])]) ?_ ?_
 ·simp +decide only [fre_r20,g3_156,g4_156,g5_156,g6_156,g8_156,g9_156,g10_156,g11_156,g22_156,Xo 7,go_sem]
 rintro t169_ _ ⟨rfl,g3_169,g4_169,g5_169,g6_169,g8_169,g9_169,g10_169,g11_169,g22_169, -⟩
 refine hK0 _ _ ?_
 have he8q:8+be (put4 (clr fb a b) 4 (be fb 4-1)) 0=fin 8 us:=by rw [be_congr (g:=fb) fun i h1 h2=>by rw [put4_ne (by omega),clr_ne (by omega)]];exact he8
 refine WK.seq ?_
 refine WK.seq ?_
 by_cases hbe:b=fin 8 us
 case pos =>
  refine WK.draw_xx (fun _=>False) [.q,.p,.q,.p] (by omega) rfl ?_
  refine WOX.hide fun K0 hK0=>?_
  have r171_:=(r142_.ot wr149_.else_ (by omega)).ot ov165_.else_ (by omega)
  have m172_:exLd1 (pA H25_.nx 0) H163_=.val (iN b) H163_ (bit (H25_.nx)) 0:=exLd1_row r171_ rfl
  have o173_:=okr (e:=e) r171_ (by omega)
  have o174_:∀ cq,(bit (H25_.nx)).testBit cq=true→cq<H163_.nx:=the_bit (P:=fun cq=>cq<H163_.nx) (by have:=r142_.lt;omega)
  simp +decide only [fre_r21,g6_169,g9_169,m172_,o173_,o174_,Xo 7,go_sem]
  repeat (refine And.intro (by assumption) ?_)
  refine EC.mono ((hend_ok S hf166_ (Nat.le_refl _) ov165_.row (by omega) (by omega) (show H1_.nx<(e.sub H163_.nx H163_.nx).n0→(e.sub H163_.nx H163_.nx).Rd (H1_.nx) from fun _=>⟨by have:=ov165_.row.lt;omega,(fun h=>absurd h (by omega))⟩)).mono fun v H1 _ h_=>by rwa [he8q] at h_) fun v H175_ _ hv176_=>?_
  obtain ⟨rfl,hh177_⟩:=hv176_
  rw [hh177_];clear hh177_
  rw [WOXk]
  have d178_:decide (((b:Nat):Int)=((fin 8 us:Nat):Int))=true:=decide_eq_true (by omega)
  refine WOX.all (fun t' H'=>H163_=H'∧GT t' [(3,pA H.nx 0),(4,.string ⟨#[]⟩),(5,.int .i64 (0)),(6,sC H1_.nx 0 (n) (2*(n))),(8,pA H12_.nx 0),(9,pA H25_.nx 0),(10,pA H33_.nx 0),(11,pA H72_.nx 0),(22,.func (.func 155) #[] #[.pointer (some ⟨H93_.nx,0,none⟩)]),(74,.bool true)]) ?_ ?_
  ·simp +decide only [fre_r21,g3_169,g4_169,g5_169,g6_169,g8_169,g9_169,g10_169,g11_169,g22_169,d178_,Xo 7,go_sem]
   all_goals ((repeat' apply And.intro) <;> assumption)
  rintro t179_ _ ⟨rfl,g3_179,g4_179,g5_179,g6_179,g8_179,g9_179,g10_179,g11_179,g22_179,g74_179, -⟩
  refine hK0 _ _ ?_
  refine WK.cond (v:=true) (by rw [evalO_tmp,g74_179];rfl) ?_
  refine WK.reg_g ?_
  refine WOG.hide fun K0 hK0=>?_
  have r181_:=(r139_.ot wr149_.else_ (by omega)).ot ov165_.else_ (by omega)
  have m182_:exLd1 (pA H12_.nx 0) H163_=.val (iN a) H163_ (bit (H12_.nx)) 0:=exLd1_row r181_ rfl
  have o183_:=okr (e:=e) r181_ (by omega)
  have w184_:Value.int .i64 (wrapF .i64 (((a:Nat):Int)-(8:Int)))=.int .i64 (((a-8):Nat):Int):=wF (by omega)
  simp +decide only [fre_r22,g6_179,g8_179,m182_,o183_,w184_,Xo 7,go_sem]
  refine EC.mono (set_ok S hf166_ (by omega) (p:=0) (m:=(a-8)) ov165_.row (by omega) (by omega) (by omega) (fun h=>absurd h (by omega))) fun v H185_ _ hv186_=>?_
  obtain ⟨rfl,ov187_⟩:=hv186_
  have hf188_:=ov187_.fn
  have nx189_:H185_.nx=H163_.nx:=ov187_.nx
  have k190_:Kept H H185_:=⟨ov187_.fn,by have:=k168_.nx;omega,fun c hc=>(ov187_.else_ c (by omega)).trans (k168_.old c hc)⟩
  rw [WOGk]
  refine WOG.all (fun t' H'=>H185_=H'∧GT t' [(3,pA H.nx 0),(4,.string ⟨#[]⟩),(5,.int .i64 (0)),(6,sC H1_.nx 0 (n) (2*(n))),(8,pA H12_.nx 0),(9,pA H25_.nx 0),(10,pA H33_.nx 0),(11,pA H72_.nx 0),(22,.func (.func 155) #[] #[.pointer (some ⟨H93_.nx,0,none⟩)])]) ?_ ?_
  ·simp +decide only [fre_r22,g3_179,g4_179,g5_179,g6_179,g8_179,g9_179,g10_179,g11_179,g22_179,g74_179,Xo 7,go_sem]
  rintro t191_ _ ⟨rfl,g3_191,g4_191,g5_191,g6_191,g8_191,g9_191,g10_191,g11_191,g22_191, -⟩
  refine hK0 _ _ ?_
  refine WK.seq ?_
  refine WK.reg_g ?_
  have m193_:exToS (sC H1_.nx 0 (n) (2*(n))) H185_=.val (vS (strF (put4 (put4 (clr fb a b) 4 (((be fb 4)-1))) 0 ((a-8))) (n))) H185_ (bit (H1_.nx)) 0:=ByU.toS0 ov187_.row (by omega)
  have o194_:=okr (e:=e) ov187_.row (by omega)
  refine WOG.all (fun t' H'=>H185_=H'∧GT t' [(3,pA H.nx 0),(4,vS (strF (put4 (put4 (clr fb a b) 4 (((be fb 4)-1))) 0 ((a-8))) (n))),(5,.int .i64 (0)),(6,sC H1_.nx 0 (n) (2*(n))),(8,pA H12_.nx 0),(9,pA H25_.nx 0),(10,pA H33_.nx 0),(11,pA H72_.nx 0),(22,.func (.func 155) #[] #[.pointer (some ⟨H93_.nx,0,none⟩)])]) ?_ ?_
  ·simp +decide only [fre_r24,g3_191,g4_191,g5_191,g6_191,g8_191,g9_191,g10_191,g11_191,g22_191,m193_,o194_,Xo 7,go_sem]
  rintro t195_ _ ⟨rfl,g3_195,g4_195,g5_195,g6_195,g8_195,g9_195,g10_195,g11_195,g22_195, -⟩
  obtain ⟨us',hfr_⟩:=hfnd.free h (by omega)
  have hgf:freeF fb a b (fin 8 us) (be fb 4)=put4 (put4 (clr fb a b) 4 (((be fb 4)-1))) 0 ((a-8)):=by unfold freeF;rw [if_pos hbe]
  rw [hgf] at hfr_
  have r197_:=(((r127_.ot pb130_.else_ (by omega)).ot wr149_.else_ (by omega)).ot ov165_.else_ (by omega)).ot ov187_.else_ (by omega)
  refine WK.ret (.inr ⟨.inr rfl,H106_.nx,rfl,r197_.eq,by omega,r197_.lt,?_⟩)
  obtain ⟨H198_,ep199_,pb200_⟩:=putB hf188_ r197_.lt (.no)
  have hf201_:=pb200_.fn
  have nx202_:H198_.nx=H185_.nx:=pb200_.nx
  have k203_:Kept H H198_:=⟨pb200_.fn,by have:=k190_.nx;omega,fun c hc=>(pb200_.else_ c (by omega)).trans (k190_.old c hc)⟩
  rw [ep199_]
  refine ⟨[vS (strF (put4 (put4 (clr fb a b) 4 (((be fb 4)-1))) 0 ((a-8))) (n)),.int .i64 (0)],0,?_,.zero _ _,⟨_,us',rfl,hfr_⟩,k203_⟩
  show resL Tb0 89 t195_ _ [.tmp 4,.tmp 5]=_
  simp only [resL,g4_195,g5_195];rfl
 case neg =>
  refine WK.draw_xx (fun _=>False) [.q,.p,.q,.p] (by omega) rfl ?_
  refine WOX.hide fun K0 hK0=>?_
  have r171_:=(r142_.ot wr149_.else_ (by omega)).ot ov165_.else_ (by omega)
  have m172_:exLd1 (pA H25_.nx 0) H163_=.val (iN b) H163_ (bit (H25_.nx)) 0:=exLd1_row r171_ rfl
  have o173_:=okr (e:=e) r171_ (by omega)
  have o174_:∀ cq,(bit (H25_.nx)).testBit cq=true→cq<H163_.nx:=the_bit (P:=fun cq=>cq<H163_.nx) (by have:=r142_.lt;omega)
  simp +decide only [fre_r21,g6_169,g9_169,m172_,o173_,o174_,Xo 7,go_sem]
  repeat (refine And.intro (by assumption) ?_)
  refine EC.mono ((hend_ok S hf166_ (Nat.le_refl _) ov165_.row (by omega) (by omega) (show H1_.nx<(e.sub H163_.nx H163_.nx).n0→(e.sub H163_.nx H163_.nx).Rd (H1_.nx) from fun _=>⟨by have:=ov165_.row.lt;omega,(fun h=>absurd h (by omega))⟩)).mono fun v H1 _ h_=>by rwa [he8q] at h_) fun v H175_ _ hv176_=>?_
  obtain ⟨rfl,hh177_⟩:=hv176_
  rw [hh177_];clear hh177_
  rw [WOXk]
  have d178_:decide (((b:Nat):Int)=((fin 8 us:Nat):Int))=false:=decide_eq_false (by omega)
  refine WOX.all (fun t' H'=>H163_=H'∧GT t' [(3,pA H.nx 0),(4,.string ⟨#[]⟩),(5,.int .i64 (0)),(6,sC H1_.nx 0 (n) (2*(n))),(8,pA H12_.nx 0),(9,pA H25_.nx 0),(10,pA H33_.nx 0),(11,pA H72_.nx 0),(22,.func (.func 155) #[] #[.pointer (some ⟨H93_.nx,0,none⟩)]),(74,.bool false)]) ?_ ?_
  ·simp +decide only [fre_r21,g3_169,g4_169,g5_169,g6_169,g8_169,g9_169,g10_169,g11_169,g22_169,d178_,Xo 7,go_sem]
   all_goals ((repeat' apply And.intro) <;> assumption)
  rintro t179_ _ ⟨rfl,g3_179,g4_179,g5_179,g6_179,g8_179,g9_179,g10_179,g11_179,g22_179,g74_179, -⟩
  refine hK0 _ _ ?_
  refine WK.cond (v:=false) (by rw [evalO_tmp,g74_179];rfl) ?_
  refine WK.reg_g ?_
  refine WOG.hide fun K0 hK0=>?_
  have r181_:=(r139_.ot wr149_.else_ (by omega)).ot ov165_.else_ (by omega)
  have m182_:exLd1 (pA H12_.nx 0) H163_=.val (iN a) H163_ (bit (H12_.nx)) 0:=exLd1_row r181_ rfl
  have o183_:=okr (e:=e) r181_ (by omega)
  have m184_:exLd1 (pA H25_.nx 0) H163_=.val (iN b) H163_ (bit (H25_.nx)) 0:=exLd1_row r171_ rfl
  have o185_:=okr (e:=e) r171_ (by omega)
  have m186_:exLd1 (pA H12_.nx 0) H163_=.val (iN a) H163_ (bit (H12_.nx)) 0:=exLd1_row r181_ rfl
  have w187_:Value.int .i64 (wrapF .i64 (((b:Nat):Int)-((a:Nat):Int)))=.int .i64 (((b-a):Nat):Int):=wF (by omega)
  have w188_:Value.int .i64 (wrapF .i64 ((((b-a):Nat):Int)-(8:Int)))=.int .i64 (((((b-a))-8):Nat):Int):=wF (by omega)
  have m189_:∀ t:T Value,t.get 80=iN a→t.get 84=iN ((((b-a))-8))→fillL t [.int .i64 (0),.int .i64 (0),.int .i64 (0)] [(0,1,(.tmp 80)),(1,1,(.tmp 84)),(2,1,(.const (.int .i64 (2))))]=some [iN a,iN ((((b-a))-8)),.int .i64 (2)]:=fun t h0 h1=>by simp only [fillL,evalO_tmp,evalO_const,h0,h1];rfl
  simp +decide only [fre_r23,g6_179,g8_179,g9_179,m182_,o183_,m184_,o185_,m186_,o183_,w187_,w188_,m189_,exFill_some,Xo 7,go_sem]
  refine EC.mono (hed_ok S hf166_ (by omega) (a:=a) (s:=(((b-a))-8)) (m:=2) ov165_.row (by omega) (by omega) (by omega) (by omega) (fun h=>absurd h (by omega))) fun v H190_ _ hv191_=>?_
  obtain ⟨rfl,ov192_⟩:=hv191_
  have hf193_:=ov192_.fn
  have nx194_:=ov192_.nx
  have k195_:Kept H H190_:=⟨ov192_.fn,by have:=k168_.nx;have:=ov192_.nx;omega,fun c hc=>(ov192_.old c (by have:=k168_.nx;omega) (by omega)).trans (k168_.old c hc)⟩
  rw [WOGk]
  refine WOG.all (fun t' H'=>H190_=H'∧GT t' [(3,pA H.nx 0),(4,.string ⟨#[]⟩),(5,.int .i64 (0)),(6,sC H1_.nx 0 (n) (2*(n))),(8,pA H12_.nx 0),(9,pA H25_.nx 0),(10,pA H33_.nx 0),(11,pA H72_.nx 0),(22,.func (.func 155) #[] #[.pointer (some ⟨H93_.nx,0,none⟩)])]) ?_ ?_
  ·simp +decide only [fre_r23,g3_179,g4_179,g5_179,g6_179,g8_179,g9_179,g10_179,g11_179,g22_179,g74_179,Xo 7,go_sem]
  rintro t196_ _ ⟨rfl,g3_196,g4_196,g5_196,g6_196,g8_196,g9_196,g10_196,g11_196,g22_196, -⟩
  refine hK0 _ _ ?_
  refine WK.seq ?_
  refine WK.reg_g ?_
  have m198_:exToS (sC H1_.nx 0 (n) (2*(n))) H190_=.val (vS (strF (headF (put4 (clr fb a b) 4 (((be fb 4)-1))) a ((((b-a))-8)) 2) (n))) H190_ (bit (H1_.nx)) 0:=ByU.toS0 ov192_.row (by omega)
  have o199_:=okr (e:=e) ov192_.row (by omega)
  refine WOG.all (fun t' H'=>H190_=H'∧GT t' [(3,pA H.nx 0),(4,vS (strF (headF (put4 (clr fb a b) 4 (((be fb 4)-1))) a ((((b-a))-8)) 2) (n))),(5,.int .i64 (0)),(6,sC H1_.nx 0 (n) (2*(n))),(8,pA H12_.nx 0),(9,pA H25_.nx 0),(10,pA H33_.nx 0),(11,pA H72_.nx 0),(22,.func (.func 155) #[] #[.pointer (some ⟨H93_.nx,0,none⟩)])]) ?_ ?_
  ·simp +decide only [fre_r24,g3_196,g4_196,g5_196,g6_196,g8_196,g9_196,g10_196,g11_196,g22_196,m198_,o199_,Xo 7,go_sem]
  rintro t200_ _ ⟨rfl,g3_200,g4_200,g5_200,g6_200,g8_200,g9_200,g10_200,g11_200,g22_200, -⟩
  obtain ⟨us',hfr_⟩:=hfnd.free h (by omega)
  have hgf:freeF fb a b (fin 8 us) (be fb 4)=headF (put4 (clr fb a b) 4 (((be fb 4)-1))) a ((((b-a))-8)) 2:=by unfold freeF;rw [if_neg hbe]
  rw [hgf] at hfr_
  have r202_:=(((r127_.ot pb130_.else_ (by omega)).ot wr149_.else_ (by omega)).ot ov165_.else_ (by omega)).mo ov192_.old (by omega)
  refine WK.ret (.inr ⟨.inr rfl,H106_.nx,rfl,r202_.eq,by omega,r202_.lt,?_⟩)
  obtain ⟨H203_,ep204_,pb205_⟩:=putB hf193_ r202_.lt (.no)
  have hf206_:=pb205_.fn
  have nx207_:H203_.nx=H190_.nx:=pb205_.nx
  have k208_:Kept H H203_:=⟨pb205_.fn,by have:=k195_.nx;omega,fun c hc=>(pb205_.else_ c (by omega)).trans (k195_.old c hc)⟩
  rw [ep204_]
  refine ⟨[vS (strF (headF (put4 (clr fb a b) 4 (((be fb 4)-1))) a ((((b-a))-8)) 2) (n)),.int .i64 (0)],0,?_,.zero _ _,⟨_,us',rfl,hfr_⟩,k208_⟩
  show resL Tb0 89 t200_ _ [.tmp 4,.tmp 5]=_
  simp only [resL,g4_200,g5_200];rfl
end
end Go.Proofs.RS
end
