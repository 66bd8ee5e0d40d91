/-
 A part of the proof that pliantlaw15.RtsStacks returns true and leaves its arguments alone. Conditions: those of the card in the last text.
-/
import Derived.ChangeArms
import Derived.Deep.Slices
import Derived.OpenShut
import Derived.Test.YtgdejggelcpokaaGreatDoorG40
set_option linter.unusedSimpArgs false
set_option linter.unusedVariables false
set_option linter.unusedSectionVars false
noncomputable section
namespace Go.Ev
theorem ArgS.flat1 {ng:Nat} {W:World} {β:Mp} {H:Hp} (h:ArgS ng W β H) {α:Type} {Q:α→List Value→Prop} (hq:∀ x vs,Q x vs→vs.all oneC=true∧∀ β:Mp,LRel β vs vs) {v:Value} {l:List α} (hv:SlW W 1 Q v l) :
 ∃ H' β' v0,ArgS ng W β' H'∧Mp.le β β'∧Kept H H'∧H'.nx≤H.nx+1∧VRel β' v0 v∧RowR eT H' 1 Q v0 l:=by
 rcases hv with ⟨rfl,rfl⟩ | ⟨a,rfl,rfl⟩ | ⟨blk,off,cap,cs,ty,fr,rfl,hblk,hfit,hcell⟩
 ·exact ⟨H,β,.slice none 0 0,h,Mp.le.refl _,.refl h.fn,by omega,.sl0 0 0,.nil 0⟩
 ·exact ⟨H,β,.slice (some ⟨0,0,some 0⟩) 0 0,h,Mp.le.refl _,.refl h.fn,by omega,.slX 0 0 0 a,.odd 0 0 0⟩
 ·have hat:∀ (i:Nat) x,l[i]?=some x→∃ u,cs[off+i]?=some u∧Q x [u]:=fun i x hx=>by
   obtain ⟨vs,h1,h2,h3⟩:=hcell i x hx
   match vs,h1 with
   | [u],_=>exact ⟨u,by have:=h2 0 u rfl;rwa [Nat.mul_one,Nat.add_zero] at this,h3⟩
  let L:=(cs.toList.drop off).take l.length
  have hLl:L.length=l.length:=by
   show ((cs.toList.drop off).take l.length).length=_
   have:cs.toList.length=cs.size:=rfl
   rw [List.length_take,List.length_drop];omega
  have hLg:∀ i,i<l.length→L[i]?=cs[off+i]?:=fun i hi=>by
   show ((cs.toList.drop off).take l.length)[i]?=_
   rw [List.getElem?_take,if_pos hi,List.getElem?_drop,Array.getElem?_toList]
  have hfit':off+L.length≤cs.size:=by omega
  obtain ⟨H2,β2,b1,b2,b3,bn,b4,b5⟩:=h.push (L:=L) 1 hblk hfit' (fun i u hu=>by
   have hi:i<l.length:=by
    rcases Nat.lt_or_ge i L.length with h' | h'
    ·omega
    ·rw [List.getElem?_eq_none h'] at hu;cases hu
   obtain ⟨u',h1,h2⟩:=hat i l[i] (by simp [hi])
   rw [hLg i hi,h1] at hu
   cases hu
   obtain ⟨k1,k2⟩:=hq _ _ h2
   refine ⟨by simpa using k1,u,h1,?_⟩
   obtain ⟨w,e1,e2⟩:=(k2 β).get (i:=0) (v:=u) rfl
   cases e1
   exact e2) l.length cap
  refine ⟨H2,β2,_,b1,b2,b3,?_,b5,RowR.inRow H.nx 0 (2*cap) ty 2 l L b4 (fun h=>absurd h (Nat.not_lt_zero _)) (by omega) fun i x hx=>?_⟩
  ·omega
  ·have hi:i<l.length:=by
    rcases Nat.lt_or_ge i l.length with h' | h'
    ·exact h'
    ·rw [List.getElem?_eq_none h'] at hx;cases hx
   obtain ⟨u,h1,h2⟩:=hat i x hx
   refine ⟨by omega,?_⟩
   have h3:L[i]?=some u:=(hLg i hi).trans h1
   have:(L.drop (0+i*1)).take 1=[u]:=by
    rw [Nat.zero_add,Nat.mul_one]
    have hlt:i<L.length:=by omega
    rw [List.drop_eq_getElem_cons hlt]
    rw [List.getElem?_eq_getElem hlt] at h3
    rw [Option.some.inj h3];rfl
   rw [this];exact h2
end Go.Ev
namespace Go.Proofs.RS
open Go Go.Ev Go.Proofs Go.Ar
open Go.RowKit (Below)
section
variable {P:Program} {tb:Tb} {W0:World} {β0:Mp} {cx:Cx} {t:T Value} {ds:List Deferred} {H HA:Hp} {k:KC} {K:Ex→T Value→List Deferred→Hp→Prop}
theorem revive_one (hA:ArgS NG W0 β0 HA) {b:Nat} (hb:b<13) (hf:H.isFn=true) (hx:13≤H.nx) (hno:H.blk b=.no)
 (h:∀ H':Hp,H'.isFn=true→H'.nx=H.nx→(∀ c,c≠b→H'.blk c=H.blk c)→H'.blk b=HA.blk b→SK P tb W0 β0 13 cx k t ds H' K):SK P tb W0 β0 13 cx k t ds H K:=by
 by_cases hz:HA.blk b=.no
 ·exact h H hf rfl (fun _ _=>rfl) (hno.trans hz.symm)
 ·obtain ⟨m,e,o,ho,hr⟩:=hA.rel b ((alive_iff _ _).2 hz)
  obtain ⟨H1,e1,p⟩:=putB hf (show b<H.nx by omega) (HA.blk b)
  refine SK.revive hb e (hA.dom b m e) (fun β hle=>⟨o,ho,hr.mono hle⟩) ?_
  rw [e1]
  exact h H1 p.fn p.nx p.else_ p.at_
end
theorem H0_five:H0.blk 5=g5:=rfl
theorem H0_none {b:Nat} (h:b≠5):H0.blk b=.no:=by
 show Bc (Nat.blt b 13) (Bc (Nat.beq b 5) g5 .no) .no=.no
 rw [show Nat.beq b 5=false from by
  cases hh:Nat.beq b 5 with
  | false=>rfl
  | true=>exact absurd ((beq_iff _ _).1 hh) h]
 cases Nat.blt b 13 <;> rfl
def intI (x:Int) (vs:List Value):Prop:=vs=[.int .i64 x]
noncomputable def hE5:Hp:=rH (exSt 1 (.pointer (some ⟨23,5,none⟩)) (.slice none 0 0) hD)
theorem stE5:exSt 1 (.pointer (some ⟨23,5,none⟩)) (.slice none 0 0) hD=.val U hE5 0 (bit 23):=by kernel_rfl
theorem lookE5:(hE5.isFn,hE5.nx,(List.range 23).map hE5.blk,rdB (hE5.blk 23),rdB (hE5.blk 24))=(true,25,(List.range 13).map H0.blk++((List.range 10).map fun b=>hD.blk (13+b)),
 some ([.slice (some ⟨15,0,none⟩) 2 4,.int .i64 32,.slice none 0 0,.slice (some ⟨16,0,none⟩) 2 4,.slice (some ⟨17,0,none⟩) 1 2,.slice none 0 0],29,0,0,0),some ([.slice (some ⟨20,0,none⟩) 2 4,.slice (some ⟨22,0,none⟩) 2 4,.int .i64 3],32,0,0,0)):=by kernel_rfl
theorem lowE5 {b:Nat} (hb:b<13):hE5.blk b=H0.blk b:=by
 have h:=lookE5
 simp only [Prod.mk.injEq] at h
 have h3:=congrArg (fun l:List Blk=>l[b]?) h.2.2.1
 rw [List.getElem?_append_left (by simp;omega),List.getElem?_map,List.getElem?_map,List.getElem?_range (by omega),List.getElem?_range hb] at h3
 exact Option.some.inj h3
theorem midE5 {b:Nat} (h1:13≤b) (h2:b<23):hE5.blk b=hD.blk b:=by
 have h:=lookE5
 simp only [Prod.mk.injEq] at h
 have h3:=congrArg (fun l:List Blk=>l[b]?) h.2.2.1
 rw [List.getElem?_append_right (by simp;omega),List.getElem?_map,List.getElem?_map,List.getElem?_range h2,List.length_map,List.length_range,List.getElem?_range (by omega)] at h3
 have h4:hE5.blk b=hD.blk (13+(b-13)):=Option.some.inj h3
 rwa [show 13+(b-13)=b by omega] at h4
theorem csV_eq (ss:List Int):(ss.map fun x=>((8*szm x:Nat):Int)).map iV=csV ss:=by rw [List.map_map];rfl
theorem csV_szs (ss:List Int):(ss.map szm).map (fun m=>iN (8*m))=csV ss:=by rw [List.map_map];rfl
section
attribute [local go_sem] WOR WOG WOC WOGk WOCk wants_none' wants_some wantsV_U wantsV_tt wantsV_tf wantsV_ft wantsV_ff run evalO_tmp evalO_const evalO_func evalL callV_func Rv_eq Ro_some ok_zero true_and and_true exLen_str binV_geq binV_leq binV_lss binV_gtr binV_add binV_mul exEq_int exEq_str exPick_t exPick_f dec_T dec_F Yj Yk Bc_t Bc_f if_false if_true and_self exFa_ptr putT_none Yl Ym Yn exUn_not
variable {sv lv:Value} {W0:World} {β0:Mp}
set_option maxRecDepth 10000 in
set_option maxHeartbeats 4000000 in
theorem stacks_sk {HA:Hp} {ss l:List Int} (hA:ArgS NG W0 β0 HA) (hn:HA.nx≤13) (hb:∀ b,b<11→HA.blk b=H0.blk b) (hs:RowR (envS 13) HA 1 intI sv ss) (hl:RowR (envS 13) HA 1 intI lv l) :
 SK Tryz.prog Tb0 W0 β0 13 (cxOf Tryz.f3) stk_k (enterT Tryz.f3 [sv,lv]) [] H0 (Go.Ev.Leaves Tb0 (envS 13) Tryz.f3 fun v _=>v=.bool true):=by
 have g0:(enterT Tryz.f3 [sv,lv]).get 0=sv:=by rw [enterT_get (by show 2≤208;decide) (by show 0<208;decide)];rfl
 have g1:(enterT Tryz.f3 [sv,lv]).get 1=lv:=by rw [enterT_get (by show 2≤208;decide) (by show 1<208;decide)];rfl
 revert g0 g1
 generalize enterT Tryz.f3 [sv,lv]=t0
 intro g0 g1
 show SK Tryz.prog Tb0 W0 β0 13 ⟨8,208,none,false⟩ stk_k t0 [] H0 _
 unfold stk_k
 have fin:∀ (t:T Value) (H:Hp),t.get 4=.bool true→Go.Ev.Leaves Tb0 (envS 13) Tryz.f3 (fun v _=>v=.bool true) .ret t [] H:=fun t H h4=>by
  refine ⟨.inr rfl,rfl,[.bool true],0,?_,.zero _ _,rfl⟩
  show resL Tb0 208 t _ [.tmp 4]=_
  simp only [resL,h4];rfl
 obtain ⟨n,hsn⟩:∃ n,ss.length=n:=⟨_,rfl⟩
 have hlen0:∀ Hq:Hp,exLen 1 sv Hq=.val (vN ((n:Nat):Int)) Hq 0 0:=fun Hq=>by rw [← hsn];cases hs <;> rfl
 have hlen:∀ Hq:Hp,exLen 1 lv Hq=.val (vN ((l.length:Nat):Int)) Hq 0 0:=fun Hq=>by cases hl <;> rfl
 refine SK.seq (SK.of_wk tb_ok lp_ok spL_ok rfl (by decide) (WK.reg_rr (fun t'=>t'.get 0=sv∧t'.get 1=lv∧t'.get 4=.bool false) ?_ ?_))
 ·simp +decide only [stk_r0,g0,g1,Xo 8,go_sem]
 clear g0 g1
 rintro t1 ⟨g0,g1,g4⟩
 refine SK.seq (SK.seq (SK.of_wk tb_ok lp_ok spL_ok rfl (by decide) (WK.reg_gg (fun t' H'=>t'.get 0=sv∧t'.get 1=lv∧t'.get 27=.bool false∧H'=H0) ?_ ?_)))
 ·simp +decide only [stk_r1,g0,g1,g4,Xo 8,go_sem]
  refine EC.of_sp (v:=.bool true) (H':=H0) (r:=bit 5) (w:=0) (spSane_at H0_five) (.read (by decide) fun _=>trivial) (Nat.le_refl _) ?_
  simp +decide only [stk_r1,g0,g1,g4,Xo 8,go_sem]
 clear g0 g1 g4
 rintro t2 H2 ⟨g0,g1,g27,rfl⟩
 refine SK.of_wk tb_ok lp_ok spL_ok rfl (by decide) (WK.cond (v:=false) (by rw [evalO_tmp,g27];rfl) (WK.skip ?_))
 by_cases h1:n<1
 case pos =>
  have e1:decide (((n:Nat):Int)<(1:Int))=true:=decide_eq_true (by omega)
  refine SK.seq (SK.seq (SK.of_wk tb_ok lp_ok spL_ok rfl (by decide) (WK.reg_rr (fun t'=>t'.get 40=.bool true) ?_ ?_)))
  ·simp +decide only [stk_r3,g0,g1,hlen0,hlen,e1,Xo 8,go_sem]
  rintro t3 g40
  refine SK.cond (v:=true) (by rw [evalO_tmp,g40];rfl) ?_
  refine SK.seq (SK.of_wk tb_ok lp_ok spL_ok rfl (by decide) (WK.reg_rr (fun t'=>t'.get 4=.bool true) ?_ ?_))
  ·simp +decide only [stk_r4,Xo 8,go_sem]
  intro t4 g4
  exact SK.of_wk tb_ok lp_ok spL_ok rfl (by decide) (WK.ret (fin t4 _ g4))
 case neg =>
 by_cases h2:8<n
 case pos =>
  have e1:decide (((n:Nat):Int)<(1:Int))=false:=decide_eq_false (by omega)
  have e2:decide ((8:Int)<((n:Nat):Int))=true:=decide_eq_true (by omega)
  refine SK.seq (SK.seq (SK.of_wk tb_ok lp_ok spL_ok rfl (by decide) (WK.reg_rr (fun t'=>t'.get 40=.bool true) ?_ ?_)))
  ·simp +decide only [stk_r3,g0,g1,hlen0,hlen,e1,e2,Xo 8,go_sem]
  rintro t3 g40
  refine SK.cond (v:=true) (by rw [evalO_tmp,g40];rfl) ?_
  refine SK.seq (SK.of_wk tb_ok lp_ok spL_ok rfl (by decide) (WK.reg_rr (fun t'=>t'.get 4=.bool true) ?_ ?_))
  ·simp +decide only [stk_r4,Xo 8,go_sem]
  intro t4 g4
  exact SK.of_wk tb_ok lp_ok spL_ok rfl (by decide) (WK.ret (fin t4 _ g4))
 case neg =>
 by_cases h3:60<l.length
 case pos =>
  have e1:decide (((n:Nat):Int)<(1:Int))=false:=decide_eq_false (by omega)
  have e2:decide ((8:Int)<((n:Nat):Int))=false:=decide_eq_false (by omega)
  have e3:decide ((60:Int)<((l.length:Nat):Int))=true:=decide_eq_true (by omega)
  refine SK.seq (SK.seq (SK.of_wk tb_ok lp_ok spL_ok rfl (by decide) (WK.reg_rr (fun t'=>t'.get 40=.bool true) ?_ ?_)))
  ·simp +decide only [stk_r3,g0,g1,hlen0,hlen,e1,e2,e3,Xo 8,go_sem]
  rintro t3 g40
  refine SK.cond (v:=true) (by rw [evalO_tmp,g40];rfl) ?_
  refine SK.seq (SK.of_wk tb_ok lp_ok spL_ok rfl (by decide) (WK.reg_rr (fun t'=>t'.get 4=.bool true) ?_ ?_))
  ·simp +decide only [stk_r4,Xo 8,go_sem]
  intro t4 g4
  exact SK.of_wk tb_ok lp_ok spL_ok rfl (by decide) (WK.ret (fin t4 _ g4))
 case neg =>
 have e1:decide (((n:Nat):Int)<(1:Int))=false:=decide_eq_false (by omega)
 have e2:decide ((8:Int)<((n:Nat):Int))=false:=decide_eq_false (by omega)
 have e3:decide ((60:Int)<((l.length:Nat):Int))=false:=decide_eq_false (by omega)
 refine SK.seq (SK.seq (SK.of_wk tb_ok lp_ok spL_ok rfl (by decide) (WK.reg_rr (fun t'=>t'.get 0=sv∧t'.get 1=lv∧t'.get 40=.bool false) ?_ ?_)))
 ·simp +decide only [stk_r3,g0,g1,hlen0,hlen,e1,e2,e3,Xo 8,go_sem]
 clear g0 g1 g27
 rintro t3 ⟨g0,g1,g40⟩
 refine SK.of_wk tb_ok lp_ok spL_ok rfl (by decide) (WK.cond (v:=false) (by rw [evalO_tmp,g40];rfl) (WK.skip ?_))
 obtain ⟨H7,hA',hB',hC',hD',hE',H8,hM',r7,w7,r8,w8,s⟩:∃ H7 hA' hB' hC' hD' hE' H8 hM' r7 w7 r8 w8,hD'=hD∧Start H7 hA' hB' hC' hD' hE' H8 hM' r7 w7 r8 w8:=⟨_,_,_,_,_,_,_,_,_,_,_,_,rfl,start⟩
 obtain ⟨hDe,s⟩:=s
 obtain ⟨n1,n2,n3,n4,n5⟩:=s.nxs
 have aA:=s.alA
 have aB:=s.alB
 have sC:=s.stC
 have sD:=s.stD
 have oC:(envS 13).ok 0 (bit 23) hC':=.write (by omega) fun h=>absurd h (by decide)
 have oD:(envS 13).ok 0 (bit 24) hD':=.write (by omega) fun h=>absurd h (by decide)
 have p1:H7.nx≤hA'.nx:=by rw [s.nx7,n1];decide
 have p2:hA'.nx≤hB'.nx:=by rw [n1,n2];decide
 have p3:hB'.nx≤hC'.nx:=by rw [n2,n3];decide
 have p4:hC'.nx≤hD'.nx:=by rw [n3,n4];decide
 have a0:=fun H=>exExt_tup [pV,inV] 0 _ rfl H
 have a1:=fun H=>exExt_tup [pV,inV] 1 _ rfl H
 refine SK.seq (SK.of_wk tb_ok lp_ok spL_ok rfl (by decide) (WK.reg_gg (fun t' H'=>t'.get 0=sv∧t'.get 1=lv∧t'.get 5=.pointer (some ⟨23,0,none⟩)∧t'.get 6=.pointer (some ⟨24,0,none⟩)∧H'=hD') ?_ ?_))
 ·simp +decide only [stk_r5,g0,g1,a0,a1,aA,aB,sC,sD,oC,oD,p1,p2,p3,p4,Xo 8,go_sem]
  refine EC.of_run s.run7 s.ok7 (by rw [s.nx7];decide) ?_
  simp +decide only [stk_r5,g0,g1,a0,a1,aA,aB,sC,sD,oC,oD,p1,p2,p3,p4,Xo 8,go_sem]
 clear g0 g1 g40
 rintro t5 H5 ⟨g0,g1,g5,g6,hH5⟩
 rw [hH5,hDe]
 clear hH5 aA aB sC sD oC oD p1 p2 p3 p4 n1 n2 n3 n5
 rw [hDe] at n4
 have lk:=lookE5
 simp only [Prod.mk.injEq] at lk
 obtain ⟨kf,kn, -,k23,k24⟩:=lk
 have sE:=stE5
 have oE:(envS 13).ok 0 (bit 23) hE5:=.write (by omega) fun h=>absurd h (by decide)
 have p5:hD.nx≤hE5.nx:=by rw [n4,kn];decide
 refine SK.seq (SK.of_wk tb_ok lp_ok spL_ok rfl (by decide) (WK.reg_gg (fun t' H'=>t'.get 0=sv∧t'.get 1=lv∧t'.get 5=.pointer (some ⟨23,0,none⟩)∧t'.get 6=.pointer (some ⟨24,0,none⟩)∧H'=hE5) ?_ ?_))
 ·simp +decide only [stk_r6,g0,g1,g5,g6,sE,oE,p5,Xo 8,go_sem]
 clear g0 g1 g5 g6
 rintro t6 H6 ⟨g0,g1,g5,g6,rfl⟩
 have hlow:∀ b,b<13→hE5.blk b=H0.blk b:=fun b hb=>lowE5 hb
 refine revive_one hA (b:=11) (by decide) kf (by rw [kn];decide) ((hlow 11 (by decide)).trans (H0_none (by decide))) fun HR r1 r2 r3 r4=>?_
 refine revive_one hA (b:=12) (by decide) r1 (by rw [r2,kn];decide) ((r3 12 (by decide)).trans ((hlow 12 (by decide)).trans (H0_none (by decide)))) fun HS q1 q2 q3 q4=>?_
 have hRA:∀ b,b<13→HS.blk b=HA.blk b:=fun b hlt=>by
  by_cases h12:b=12
  ·subst h12;exact q4
  ·rw [q3 b h12]
   by_cases h11:b=11
   ·subst h11;exact r4
   ·rw [r3 b h11,hlow b hlt];exact (hb b (by omega)).symm
 have hmid:∀ b,13≤b→HS.blk b=hE5.blk b:=fun b hb=>(q3 b (by omega)).trans (r3 b (by omega))
 have hnS:HS.nx=25:=by rw [q2,r2,kn]
 have hsR:∀ H':Hp,(∀ b,b<13→H'.blk b=HS.blk b)→RowR (envS 13) H' 1 (fun (x:Int) vs=>vs=[.int .i64 x]) sv ss:=fun H h=>RowR.mono hs (fun b hlt=>(h b (by omega)).trans (hRA b (by omega))) fun _ _ h=>h
 have hlR:∀ H':Hp,(∀ b,b<13→H'.blk b=HS.blk b)→RowR (envS 13) H' 1 (fun (x:Int) vs=>vs=[.int .i64 x]) lv l:=fun H h=>RowR.mono hl (fun b hlt=>(h b (by omega)).trans (hRA b (by omega))) fun _ _ h=>h
 have hp0:=(rdB_row k23).of_blk (hmid 23 (by decide))
 have hi0:=(rdB_row k24).of_blk (hmid 24 (by decide))
 refine SK.seq (SK.of_wk tb_ok lp_ok spL_ok rfl (by decide) (sizes_ok (by decide) q1 hnS hsn (by omega) hlen0 hsR hp0 g0 g5 fun t7 H7' b0 b1 b5 b6 bf bn bc bp bo=>?_))
 rw [g1] at b1
 rw [g6] at b6
 have hcv:ctlV n=ctlS n:=by unfold ctlV;rw [if_neg (by omega)]
 rw [hcv] at bp
 have hi1:=hi0.of_blk (bo 24 (by decide) (by decide))
 have hcs:H7'.blk (24+2*n)=blkL ((ss.map fun x=>((8*szm x:Nat):Int)).map iV) 3 2:=by rw [csV_eq];exact bc.blk (by omega)
 have hnew:=new_ok (H:=H7') (k:=n) (l:=ss.map fun x=>((8*szm x:Nat):Int)) bf bn (by rw [List.length_map,hsn]) (by omega) (by omega) (by rw [bo 5 (by decide) (by decide),hRA 5 (by decide),hb 5 (by decide)];exact H0_five) (fun b h1 h2=>by rw [bo b (by omega) (by omega),hmid b h1];exact midE5 h1 h2) hcs (fun x hx=>by
  obtain ⟨y,_,rfl⟩:=List.mem_map.1 hx
  exact ⟨szm y,rfl,szm_b y⟩)
 refine SK.seq (SK.of_wk tb_ok lp_ok spL_ok rfl (by decide) (r13_ok (by decide) bf hnew bp hi1 b0 b1 b5 b6 fun t8 HN H8' c0 c1 c5 c9 c10 hN hk hn8 hps=>?_))
 rw [csV_eq] at hN
 obtain ⟨tc,tc1,tc2⟩:=blkL_eq (csV ss) 3 2
 have hcb:Row HN (24+2*n) 3 2 (csV ss):=⟨tc,by rw [hN.bct,tc1],tc2⟩
 have hlE:∀ H':Hp,(∀ b,b<13→H'.blk b=H8'.blk b)→RowR (envS 13) H' 1 (fun (x:Int) vs=>vs=[.int .i64 x]) lv l:=fun H h=>hlR H fun b hb=>by rw [h b hb,hk.old b (by rw [hN.nx];omega),hN.low b hb,bo b (by omega) (by omega)]
 exact SK.of_wk tb_ok lp_ok spM_ok rfl (by decide) (tailS_ok spX_m (by decide) (q:=2*n) (k:=n) (cq:=2*n+1) (szs:=ss.map szm) (L:=stS n) (Pc:=prL) hk.fn hn8 (by omega) (by omega) hlen0 hlen rfl (by omega) hlE (hN.st.mv hk) rfl rfl rfl rfl rfl rfl (hN.pr.mv hk) rfl (hN.ac.mv hk) (by rw [csV_szs];exact hN.ct.mv hk) ((bp.of_blk hN.b23).mv hk) rfl (by rw [csV_szs];exact hcb.mv hk) hps (by rw [List.length_map,hsn]) (fun m hm=>by obtain ⟨y,_,rfl⟩:=List.mem_map.1 hm;exact szm_b y) (hN.mem.mv hk) (hN.gn.mv hk) c0 c1 c5 c9 c10)
end
def PowA (W:World):Prop:=∃ cs fr,W.heap[5]?=some (.cells cs 391 fr)∧cs.size=20∧∀ (i:Nat) v,pow10[i]?=some v→cs[i]?=some v
def βA:Mp:=fun b=>if b<NG then some ⟨b,0,if b=5 then 20 else 0,0⟩ else none
def HSA:Hp:=.fn (fun b=>Bc (Nat.beq b 5) g5 .no) NG
theorem HSA_5:HSA.blk 5=g5:=rfl
theorem HSA_no {b:Nat} (h:b≠5):HSA.blk b=.no:=by
 show Bc (Nat.blt b 11) (Bc (Nat.beq b 5) g5 .no) .no=.no
 rw [show Nat.beq b 5=false from by
  cases hh:Nat.beq b 5 with
  | false=>rfl
  | true=>exact absurd ((beq_iff _ _).1 hh) h]
 cases Nat.blt b 11 <;> rfl
theorem powA_bok {W:World} (h:PowA W) (β:Mp):BOk β W g5 ⟨5,0,20,0⟩:=by
 obtain ⟨cs,fr,h1,h2,h3⟩:=h
 obtain ⟨t,hg,ht⟩:=g5_cells
 rw [hg]
 refine ⟨.cells cs 391 fr,h1,cs,fr,rfl,h2,by decide,fun _=>⟨rfl,rfl⟩,(fun k h=>by cases h),fun i hi=>?_,.inr (.inr ⟨rfl,by decide⟩)⟩
 obtain ⟨n,hn⟩:=pow10_int i hi
 rw [ht i _ hn]
 exact ⟨rfl,_,by rw [Nat.zero_add];exact h3 i _ hn,.int _ _⟩
theorem startA5 {W:World} (hW:NG≤W.heap.size) (h:PowA W):ArgS NG W βA HSA:=by
 refine ⟨rfl,fun g hlt=>⟨⟨g,0,if g=5 then 20 else 0,0⟩,if_pos hlt,rfl,rfl⟩,fun b ha=>?_,fun b hb=>?_,fun b m e=>?_⟩
 ·have hb:b=5:=by
   by_cases hb:b=5
   ·exact hb
   ·exact absurd (HSA_no hb) ha.2
  subst hb
  exact ⟨⟨5,0,20,0⟩,rfl,by rw [HSA_5];exact powA_bok h _⟩
 ·have hb':NG≤b:=hb
  show (if b<NG then _ else none)=none
  rw [if_neg (by omega)]
 ·have e':(if b<NG then some (⟨b,0,if b=5 then 20 else 0,0⟩:Bm) else none)=some m:=e
  split at e'
  ·cases e';show b<_;omega
  ·cases e'
theorem intI_flat:∀ (x:Int) vs,intI x vs→vs.all oneC=true∧∀ β:Mp,LRel β vs vs:=fun x vs h=>by
 unfold intI at h;subst h
 exact ⟨rfl,fun β=>.cons (.int _ _) (.nil β)⟩
theorem stacks_calls (W:World) (hW:NG≤W.heap.size) (h5:PowA W) {sv lv:Value} {ss l:List Int} (hs:SlW W 1 intI sv ss) (hl:SlW W 1 intI lv l) :
 Calls Tryz.prog 3 #[sv,lv] W fun e W'=>e=.returned (.bool true)∧Below W.heap.size W W':=by
 obtain ⟨H1,β1,s0,a1,a2,a3,a4,a5,a6⟩:=(startA5 hW h5).flat1 intI_flat hs
 obtain ⟨H2,β2,l0,d1,d2,d3,d4,d5,d6⟩:=a1.flat1 intI_flat hl
 have hn:H2.nx≤13:=by have:HSA.nx=11:=rfl;omega
 have hle1:HSA.nx≤H1.nx:=a3.nx
 have hblk:∀ b,b<11→H2.blk b=H0.blk b:=fun b hb=>by
  have hlt:b<HSA.nx:=hb
  rw [d3.old b (by omega),a3.old b hlt]
  by_cases h:b=5
  ·subst h;rfl
  ·rw [HSA_no h,H0_none h]
 have hR:∀ {v:Value} {l:List Int} {H:Hp},RowR eT H 1 intI v l→RowR (envS 13) H 1 intI v l:=fun h=>RowR.env (RowR.mono h (fun _ _=>rfl) fun _ _ h=>h) (fun _ _ h=>h) fun _ _ _ _=>trivial
 have a6':RowR eT H2 1 intI s0 ss:=RowR.mono a6 (fun b hb=>d3.old b hb) fun _ _ h=>h
 have hsk:=stacks_sk (W0:=W) (β0:=β2) d1 hn hblk (hR a6') (hR d6)
 have hal:∀ b,alive H0 b→b=5:=fun b ha=>by
  by_cases hb:b=5
  ·exact hb
  ·exact absurd (H0_none hb) ha.2
 refine (calls_of_sk (β:=β2) tb_ok lp_ok (f:=3) (fn:=Tryz.f3) (by rfl) stk_some stk_comp (by show 2≤208;decide) (args':=#[sv,lv]) (fun a ha=>?_) (LRel.cons (a5.mono d2) (LRel.cons d5 (LRel.nil _))) hsk).mono fun e W' hR=>?_
 ·refine ⟨trivial,Nat.le_refl _,d1.g,ha,fun b hb=>?_,fun b hb=>d1.fresh b (by have:H0.nx=13:=rfl;omega),d1.dom,fun b m _ e=>d1.dom b m e,fun b m hge hb _=>?_,fun b c mb mc hb _ hab _ _ _ _=>?_,.refl _ _,Mp.le.refl _⟩
  ·have e:=hal b hb;subst e
   obtain ⟨m,e1,e2⟩:=d1.rel 5 ((alive_iff _ _).2 (by rw [hblk 5 (by decide),H0_five];obtain ⟨t,hg,_⟩:=g5_cells;rw [hg];simp))
   refine ⟨m,e1,?_⟩
   rw [hblk 5 (by decide)] at e2
   exact e2
  ·have:=hal b hb;omega
  ·have:=hal b hab;omega
 ·obtain ⟨β',v,v',H',rfl,hv,rfl,hB⟩:=hR
  cases hv
  exact ⟨rfl,hB⟩
end Go.Proofs.RS
end
noncomputable section
namespace Go.Ev
open Go Go.ChangeShapes Go.Deep
structure Bulky (H:Type) (bk:DataW H→Nat) (bka:List (DataW H)→Nat):Prop where
 sl:∀ D S,bka D≤bk (.slice D S)
 ag:∀ D,bka D≤bk (.agg D)
 mem:∀ D d,d∈D→bk d≤bka D
 len:∀ D,D.length≤bka D
section
variable {H:Type} {enc:TypeId×Value→H} {P:Program} {W:World} {held:Bool} {bk:DataW H→Nat} {bka:List (DataW H)→Nat}
theorem slW_of {α:Type} (bb:Bulky H bk bka) {t e:TypeId} {w:Nat} {Q:α→List Value→Prop} {B:α→DataW H→Prop} (ht:P.underlying t=some (.slice e)) (hw:P.cellsOf e=w) (hw0:0<w)
 (hQ:∀ n cs x,DataW.trod enc P W 0 (fun _=>true) held n e cs=some x→cs.length=w→∃ y,Q y cs∧B y x.1)
 {fuel:Nat} {v:Value} {x:DataW H×List MemPlace} (h:DataW.trod enc P W 0 (fun _=>true) held fuel t [v]=some x) :
 ∃ l:List α,SlW W w Q v l∧l.length≤bk x.1∧∀ y∈l,∃ d,B y d∧bk d≤bk x.1:=by
 rcases open_slice ht h with ⟨hcs,_⟩ | ⟨a,len,cap,m,n,D,Pl,hcs,_,hl,hm,hmm,hx,hcell⟩
 ·simp only [List.cons.injEq,and_true] at hcs
  exact ⟨[],.inl ⟨hcs,rfl⟩,Nat.zero_le _,fun y hy=>by cases hy⟩
 ·simp only [List.cons.injEq,and_true] at hcs
  subst hcs
  replace hmm:m=cap:=by rw [hmm,if_pos rfl]
  subst hmm
  rw [hw] at hcell
  cases m with
  | zero =>
   obtain rfl:len=0:=by omega
   exact ⟨[],.inr (.inl ⟨a,rfl,rfl⟩),Nat.zero_le _,fun y hy=>by cases hy⟩
  | succ m =>
   have hblk:∃ cs ty fr,a.spot=none∧W.heap[a.block]?=some (.cells cs ty fr):=by
    obtain ⟨c,h1,h2⟩:=hcell 0 (by omega)
    obtain ⟨_,h3,h4⟩:=World.cells?_some h1
    have h5:=h4 0 hw0
    have hz:(a.add (0*w)).add 0=a:=by unfold Addr.add;simp
    rw [hz] at h5
    have h6:∃ v,W.cell? a=some v:=⟨c[0],by rw [h5];simp [h3,hw0]⟩
    obtain ⟨v,h7⟩:=h6
    unfold World.cell? at h7
    split at h7
    ·rename_i cs ty fr hb
     split at h7
     ·cases h7
     ·rename_i hs
      refine ⟨cs,ty,fr,?_,hb⟩
      cases hsp:a.spot with
      | none=>rfl
      | some k=>rw [hsp] at hs;exact absurd rfl hs
    ·cases h7
   obtain ⟨cs,ty,fr,hspot,hblk⟩:=hblk
   obtain ⟨blk,off,spot⟩:=a
   simp only at hspot hblk
   subst hspot
   have hadd:∀ k j,(Addr.add ⟨blk,off,none⟩ k).add j=⟨blk,off+k+j,none⟩:=by
    intro k j
    rw [add_add]
    unfold Addr.add
    split
    ·rename_i hk;rw [show k=0 by omega,show j=0 by omega];rfl
    ·simp [Nat.add_assoc]
   have hat:∀ i,i<m+1→∃ vs:List Value,vs.length=w∧(∀ (j:Nat) v,vs[j]?=some v→cs[off+i*w+j]?=some v)∧DataW.trod enc P W 0 (fun _=>true) held n e vs=some (D i,Pl i):=by
    intro i hi
    obtain ⟨c,h1,h2⟩:=hcell i hi
    obtain ⟨_,h3,h4⟩:=World.cells?_some h1
    refine ⟨c,h3,fun j v hv=>?_,h2⟩
    have hj:j<w:=by
     rcases Nat.lt_or_ge j w with h' | h'
     ·exact h'
     ·rw [List.getElem?_eq_none (by omega)] at hv;cases hv
    have h5:=h4 j hj
    rw [hadd,hv] at h5
    simpa [World.cell?,hblk] using h5
   have hel:∀ i,i<len→∃ y:α,(∃ vs:List Value,vs.length=w∧(∀ (j:Nat) v,vs[j]?=some v→cs[off+i*w+j]?=some v)∧Q y vs)∧B y (D i):=by
    intro i hi
    obtain ⟨vs,h1,h2,h3⟩:=hat i (by omega)
    obtain ⟨y,h4,h5⟩:=hQ _ _ _ h3 h1
    exact ⟨y,⟨vs,h1,h2,h4⟩,h5⟩
   let f:Fin len→α:=fun i=>Classical.choose (hel i.1 i.2)
   have hf:∀ i:Fin len,(∃ vs:List Value,vs.length=w∧(∀ (j:Nat) v,vs[j]?=some v→cs[off+i.1*w+j]?=some v)∧Q (f i) vs)∧B (f i) (D i.1):=fun i=>Classical.choose_spec (hel i.1 i.2)
   have hlen:(List.ofFn f).length=len:=List.length_ofFn
   have hget:∀ (i:Nat) y,(List.ofFn f)[i]?=some y→∃ h:i<len,f ⟨i,h⟩=y:=by
    intro i y hy
    rcases Nat.lt_or_ge i len with h' | h'
    ·refine ⟨h',?_⟩
     rw [List.getElem?_eq_getElem (by omega),List.getElem_ofFn] at hy
     exact Option.some.inj hy
    ·rw [List.getElem?_eq_none (by omega)] at hy;cases hy
   have hD:x.1=.slice ((List.range len).map D) ((List.range (m+1-len)).map fun j=>D (len+j)):=by rw [hx]
   have hbk:bka ((List.range len).map D)≤bk x.1:=by rw [hD];exact bb.sl _ _
   refine ⟨List.ofFn f,.inr (.inr ⟨blk,off,m+1,cs,ty,fr,by rw [hlen],hblk,?_,fun i y hi=>?_⟩),?_,fun y hy=>?_⟩
   ·rw [hlen]
    have hfit:∀ i,i<m+1→off+i*w+w≤cs.size:=by
     intro i hi
     obtain ⟨vs,h1,h2,_⟩:=hat i hi
     have:=h2 (w-1) vs[w-1] (by simp)
     have hlt:off+i*w+(w-1)<cs.size:=by
      rcases Nat.lt_or_ge (off+i*w+(w-1)) cs.size with h' | h'
      ·exact h'
      ·rw [Array.getElem?_eq_none h'] at this;cases this
     omega
    cases len with
    | zero=>have:=hfit 0 (by omega);omega
    | succ k=>have:=hfit k (by omega);rw [Nat.add_mul,Nat.one_mul];omega
   ·obtain ⟨h',rfl⟩:=hget i y hi
    exact (hf ⟨i,h'⟩).1
   ·rw [hlen]
    have:=bb.len ((List.range len).map D)
    rw [List.length_map,List.length_range] at this
    omega
   ·obtain ⟨i,hi⟩:=List.getElem?_of_mem hy
    obtain ⟨h',rfl⟩:=hget i y hi
    refine ⟨D i,(hf ⟨i,h'⟩).2,?_⟩
    have:=bb.mem ((List.range len).map D) (D i) (List.mem_map.2 ⟨i,List.mem_range.2 h',rfl⟩)
    omega
end
end Go.Ev
end
