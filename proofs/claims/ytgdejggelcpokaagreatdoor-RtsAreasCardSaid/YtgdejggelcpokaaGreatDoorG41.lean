/-
 A part of the proof that pliantlaw15.RtsAreas returns true and leaves its arguments alone. Conditions: those of the card in the last text.
-/
import Derived.ChangeArms
import Derived.Deep.Slices
import Derived.OpenShut
import Derived.Test.YtgdejggelcpokaaGreatDoorG09
import Derived.Test.YtgdejggelcpokaaGreatDoorG12
import Derived.Test.YtgdejggelcpokaaGreatDoorG40
set_option linter.unusedSimpArgs false
set_option linter.unusedVariables false
set_option linter.unusedSectionVars false
noncomputable section
namespace Go.Proofs.RS
open Go Go.Ev Go.Proofs Go.Ar
section
attribute [local go_sem] GT Ro_some Rv_eq WOG Yn and_self and_true evalO_const evalO_tmp exLen_str if_false if_true ok_zero putT_none run true_and wants_none'
variable {sp:Nat→List Value→Hp→Option (Value×Hp×Nat×Nat)} {e:Env}
set_option maxRecDepth 10000 in
set_option maxHeartbeats 4000000 in
theorem end_ok (S:SpX sp) (Sd:∀ args H,sp 17 args H=spDelB args H) (he0:e.n0≤76) {n len:Nat} {lv:Value} {l:List Int} (hn:n≤512) (h16:16≤n) (hlen:∀ Hq:Hp,exLen 1 lv Hq=.val (vN ((len:Nat):Int)) Hq 0 0) (hll:l.length=len) (hl30:len≤30)
 {t:T Value} {H:Hp} (hl:∀ H':Hp,(∀ b,b<13→H'.blk b=H.blk b)→RowR e H' 1 (fun (x:Int) vs=>vs=[.int .i64 x]) lv l) (hf:H.isFn=true) (hnx:H.nx=106) (hst:Row H 78 104 0 stA) (hmem:ByU H 76 171 (fun _=>0) 65536) (hact:H.blk 104≠.no)
 (g0:t.get 0=vN ((n:Nat):Int)) (g1:t.get 1=lv) (g7:t.get 7=.pointer (some ⟨78,0,none⟩)) (g9:t.get 9=vN ((8*16:Nat):Int)) (g11:t.get 11=vN ((8*1040:Nat):Int)) :
 WK Tb0 sp e ⟨9,305,none,false⟩ (.seq (.reg areas_r15) (.seq (.reg areas_r16) (.seq (.seq (.reg areas_r17) (.block 0 (.loop areas_body.sr.sr.sr.sr.sr.sr.sr.sr.sr.sr.sr.sr.sr.sl.sr.bl.lp areas_l66))) (.seq (.reg areas_r67) .ret)))) t [] H (Go.Ev.Leaves Tb0 e Tryz.f4 fun v _=>v=.bool true):=by
 have lt1_:=hst.lt
 have lt2_:=hmem.lt
 refine WK.seq ?_
 have hk0:Kept H H:=.refl hf
 refine WK.reg_g ?_
 have m3_:∀ t:T Value,fillL t [.int .i64 (0),.int .i64 (0),.int .i64 (0),.bool false,.string ⟨#[]⟩] [(0,1,(.const (.int .i64 (3)))),(1,1,(.const (.int .i64 (1))))]=some [.int .i64 (3),.int .i64 (1),.int .i64 (0),.bool false,.string ⟨#[]⟩]:=fun t=>by simp only [fillL,evalO_tmp,evalO_const];rfl
 obtain ⟨H4_,nb5_⟩:=newB hf [.int .i64 (0),.int .i64 (0),.int .i64 (0),.bool false,.string ⟨#[]⟩] 40
 have m6_:alloc1 (blkL [.int .i64 (0),.int .i64 (0),.int .i64 (0),.bool false,.string ⟨#[]⟩] 40 0) H ptrTo 0 0=.val (.pointer (some ⟨H.nx,0,none⟩)) H4_ 0 0:=nb5_.al
 have hf7_:=nb5_.kept.fn
 have nx8_:H4_.nx=H.nx+1:=nb5_.nx
 have m9_:H.nx≤H4_.nx:=by omega
 have lt10_:=nb5_.row.lt
 have k11_:=hk0.trans nb5_.kept
 obtain ⟨H12_,e13_,wr14_⟩:=exStN_at (o:=0) (vs:=[.int .i64 (3),.int .i64 (1),.int .i64 (0),.bool false,.string ⟨#[]⟩]) hf7_ nb5_.row (by show 0+5≤5;decide)
 have m15_:exSt 5 (pA H.nx 0) (.agg ⟨[.int .i64 (3),.int .i64 (1),.int .i64 (0),.bool false,.string ⟨#[]⟩]⟩) H4_=.val U H12_ 0 (bit (H.nx)):=e13_
 have hf16_:=wr14_.fn
 have nx17_:H12_.nx=H4_.nx:=wr14_.nx
 have m18_:H4_.nx≤H12_.nx:=by omega
 have r19_:Row H12_ (H.nx) 40 0 [.int .i64 (3),.int .i64 (1),.int .i64 (0),.bool false,.string ⟨#[]⟩]:=wr14_.row
 have o20_:e.ok 0 (bit (H.nx)) H12_:=.write r19_.lt (fun h=>absurd h (by omega))
 have k21_:Kept H H12_:=⟨wr14_.fn,by have:=k11_.nx;omega,fun c hc=>(wr14_.else_ c (by omega)).trans (k11_.old c hc)⟩
 refine WOG.all (fun t' H'=>H12_=H'∧GT t' [(0,iN n),(1,lv),(7,pA 78 0),(9,iN (8*16)),(11,iN (8*1040)),(12,pA H.nx 0)]) ?_ ?_
 ·simp +decide only [areas_r15,g0,g1,g7,g9,g11,m3_,exFill_some,m6_,m9_,m15_,m18_,o20_,Xo 9,go_sem]
 rintro t22_ _ ⟨rfl,g0_22,g1_22,g7_22,g9_22,g11_22,g12_22, -⟩
 have htc:Row H12_ 106 40 0 tcL:=by have h_:=r19_;rw [hnx] at h_;exact h_
 have g24_:t22_.get 12=pA 106 0:=by rw [g12_22,hnx]
 have hnL:H12_.nx=107:=by omega
 have hactL:H12_.blk 104≠.no:=by rw [k21_.old _ (by omega)];exact hact
 have r25_:=(hst.mv nb5_.kept).ot wr14_.else_ (by omega)
 have r26_:=(hmem.mv nb5_.kept).ot wr14_.else_ (by omega)
 have hsit:Sit H12_ H12_ (fun _=>0) 104 (.slice none 0 0) []:=⟨hf16_,by omega,.refl hf16_,r25_,htc,r26_,⟨hactL,.inl ⟨rfl,rfl⟩⟩,.inl rfl⟩
 have hlL:∀ H':Hp,(∀ b,b<13→H'.blk b=H12_.blk b)→RowR e H' 1 (fun (x:Int) vs=>vs=[.int .i64 x]) lv l:=fun H' h_=>hl H' fun b hb=>(h_ b hb).trans (k21_.old _ (by omega))
 refine WK.seq ?_
 refine WK.reg_g ?_
 refine WOG.all (fun t' H'=>H12_=H'∧GT t' [(0,iN n),(1,lv),(7,pA 78 0),(9,iN (8*16)),(11,iN (8*1040)),(12,pA 106 0),(13,.slice none 0 0)]) ?_ ?_
 ·simp +decide only [areas_r16,g0_22,g1_22,g7_22,g9_22,g11_22,g24_,Xo 9,go_sem]
 rintro t27_ _ ⟨rfl,g0_27,g1_27,g7_27,g9_27,g11_27,g12_27,g13_27, -⟩
 refine WK.seq ?_
 refine WK.seq ?_
 refine WK.reg_g ?_
 have m29_:∀ Hq,exLen 1 lv Hq=.val (vN ((len:Nat):Int)) Hq 0 0:=hlen
 refine WOG.all (fun t' H'=>H12_=H'∧GT t' [(0,iN n),(1,lv),(7,pA 78 0),(9,iN (8*16)),(11,iN (8*1040)),(12,pA 106 0),(13,.slice none 0 0),(73,lv),(74,iN len),(75,.int .i64 (0))]) ?_ ?_
 ·simp +decide only [areas_r17,g0_27,g1_27,g7_27,g9_27,g11_27,g12_27,g13_27,m29_,Xo 9,go_sem]
 rintro t30_ _ ⟨rfl,g0_30,g1_30,g7_30,g9_30,g11_30,g12_30,g13_30,g73_30,g74_30,g75_30, -⟩
 refine loop_ok S Sd he0 hnL hn h16 hlen hll hl30 hlL hsit g0_30 g7_30 g9_30 g11_30 g12_30 g13_30 g73_30 g74_30 g75_30 fun t2 H2=>?_
 refine WK.seq ?_
 refine WK.reg_g ?_
 refine WOG.all (fun t' H'=>H2=H'∧t'.get 4=.bool true) ?_ ?_
 ·simp +decide only [areas_r67,Xo 9,go_sem]
 rintro t32_ _ ⟨rfl,g4_32⟩
 refine WK.ret ⟨.inr rfl,rfl,[.bool true],0,?_,.zero _ _,rfl⟩
 show resL Tb0 305 t32_ _ [.tmp 4]=_
 simp only [resL,g4_32];rfl
end
end Go.Proofs.RS
end
noncomputable section
namespace Go.Ev
def SlW (W:World) (w:Nat) {α:Type} (Q:α→List Value→Prop) (v:Value) (l:List α):Prop :=
 (v=.slice none 0 0∧l=[])∨(∃ a:Addr,v=.slice (some a) 0 0∧l=[])∨∃ blk off cap cs ty fr,v=.slice (some ⟨blk,off,none⟩) l.length cap∧W.heap[blk]?=some (.cells cs ty fr)∧off+l.length*w≤cs.size ∧
  ∀ (i:Nat) x,l[i]?=some x→∃ vs:List Value,vs.length=w∧(∀ (j:Nat) v,vs[j]?=some v→cs[off+i*w+j]?=some v)∧Q x vs
structure ArgS (ng:Nat) (W:World) (β:Mp) (H:Hp):Prop where
 fn:H.isFn=true
 g:GRel ng β
 rel:∀ b,alive H b→∃ m,β b=some m∧BOk β W (H.blk b) m
 fresh:∀ b,H.nx≤b→β b=none
 dom:∀ b m,β b=some m→m.rb<W.heap.size
abbrev eT:Env:=⟨0,fun _=>True,fun _=>False⟩
theorem ArgS.push {ng:Nat} {W:World} {β:Mp} {H:Hp} (h:ArgS ng W β H) {rb off:Nat} {cs:Array Value} {ty:TypeId} {fr:Nat×Nat} {L:List Value} (w:Nat) (hrb:W.heap[rb]?=some (.cells cs ty fr)) (hfit:off+L.length≤cs.size)
 (hL:∀ (i:Nat) v,L[i]?=some v→oneC v=true∧∃ v',cs[off+i]?=some v'∧VRel β v v') (len cap:Nat) :
 ∃ H' β',ArgS ng W β' H'∧Mp.le β β'∧Kept H H'∧H'.nx=H.nx+1∧RowG H' H.nx ty (w+1) L∧VRel β' (.slice (some ⟨H.nx,0,none⟩) len (2*cap)) (.slice (some ⟨rb,off,none⟩) len cap):=by
 obtain ⟨t,_,hg⟩:=blkL_eq L ty (w+1)
 have hroom:=fn_room h.fn
 have hf:β H.nx=none:=h.fresh _ (Nat.le_refl _)
 have hlt:rb<W.heap.size:=by
  rcases Nat.lt_or_ge rb W.heap.size with h' | h'
  ·exact h'
  ·rw [Array.getElem?_eq_none h'] at hrb;cases hrb
 let x:Blk:=.cells t L.length ty (w+1) 0 (cs.size+1)
 let m:Bm:=⟨rb,off,cs.size,w⟩
 have hle:Mp.le β (β.put H.nx m):=Mp.le_put m hf
 refine ⟨H.push x,β.put H.nx m,⟨by rw [isFn_push];exact h.fn,fun g hlt=>?_,fun b ha=>?_,fun b hb=>?_,fun b m' e=>?_⟩,hle,⟨by rw [isFn_push];exact h.fn,by rw [nx_push];omega,fun b hb=>blk_push_old hroom _ hb⟩,nx_push _ _,⟨t,0,cs.size+1,by rw [blk_push _ hroom,if_pos rfl],hg⟩,?_⟩
 ·obtain ⟨m',h1,h2⟩:=h.g g hlt
  exact ⟨m',hle _ _ h1,h2⟩
 ·rw [blk_push _ hroom]
  by_cases e:b=H.nx
  ·subst e
   rw [if_pos rfl]
   refine ⟨m,Mp.put_same _ _ _,.cells cs ty fr,hrb,cs,fr,rfl,rfl,hfit,(fun h=>by cases h),(fun k h=>by cases h;rfl),fun i hi=>?_,.inr (.inr ⟨rfl,Nat.lt_succ_self _⟩)⟩
   have hv:L[i]?=some L[i]:=by simp [hi]
   obtain ⟨h1,v',h2,h3⟩:=hL i _ hv
   rw [hg i _ hv]
   exact ⟨h1,v',h2,h3.mono hle⟩
  ·rw [if_neg e]
   have ha':alive H b:=(alive_iff H b).2 (by
    have:=(alive_iff _ b).1 ha
    rwa [blk_push _ hroom,if_neg e] at this)
   obtain ⟨m',e1,o,ho,hr⟩:=h.rel b ha'
   exact ⟨m',hle _ _ e1,o,ho,hr.mono hle⟩
 ·rw [nx_push] at hb
  rw [Mp.put_ne β m (by omega)]
  exact h.fresh b (by omega)
 ·by_cases e1:b=H.nx
  ·subst e1;rw [Mp.put_same] at e;cases e;exact hlt
  ·rw [Mp.put_ne β m e1] at e;exact h.dom b m' e
 ·have:=VRel.sl (β:=β.put H.nx m) H.nx 0 len (2*cap) cap m (Mp.put_same _ _ _) ⟨fun _=>by omega,fun h=>by omega⟩
  simpa [m] using this
end Go.Ev
end
noncomputable section
namespace Go.Ev
theorem ArgS.flat1 {ng:Nat} {W:World} {β:Mp} {H:Hp} (h:ArgS ng W β H) {α:Type} {Q:α→List Value→Prop} (hq:∀ x vs,Q x vs→vs.all oneC=true∧∀ β:Mp,LRel β vs vs) {v:Value} {l:List α} (hv:SlW W 1 Q v l) :
 ∃ H' β' v0,ArgS ng W β' H'∧Mp.le β β'∧Kept H H'∧H'.nx≤H.nx+1∧VRel β' v0 v∧RowR eT H' 1 Q v0 l:=by
 rcases hv with ⟨rfl,rfl⟩ | ⟨a,rfl,rfl⟩ | ⟨blk,off,cap,cs,ty,fr,rfl,hblk,hfit,hcell⟩
 ·exact ⟨H,β,.slice none 0 0,h,Mp.le.refl _,.refl h.fn,by omega,.sl0 0 0,.nil 0⟩
 ·exact ⟨H,β,.slice (some ⟨0,0,some 0⟩) 0 0,h,Mp.le.refl _,.refl h.fn,by omega,.slX 0 0 0 a,.odd 0 0 0⟩
 ·have hat:∀ (i:Nat) x,l[i]?=some x→∃ u,cs[off+i]?=some u∧Q x [u]:=fun i x hx=>by
   obtain ⟨vs,h1,h2,h3⟩:=hcell i x hx
   match vs,h1 with
   | [u],_=>exact ⟨u,by have:=h2 0 u rfl;rwa [Nat.mul_one,Nat.add_zero] at this,h3⟩
  let L:=(cs.toList.drop off).take l.length
  have hLl:L.length=l.length:=by
   show ((cs.toList.drop off).take l.length).length=_
   have:cs.toList.length=cs.size:=rfl
   rw [List.length_take,List.length_drop];omega
  have hLg:∀ i,i<l.length→L[i]?=cs[off+i]?:=fun i hi=>by
   show ((cs.toList.drop off).take l.length)[i]?=_
   rw [List.getElem?_take,if_pos hi,List.getElem?_drop,Array.getElem?_toList]
  have hfit':off+L.length≤cs.size:=by omega
  obtain ⟨H2,β2,b1,b2,b3,bn,b4,b5⟩:=h.push (L:=L) 1 hblk hfit' (fun i u hu=>by
   have hi:i<l.length:=by
    rcases Nat.lt_or_ge i L.length with h' | h'
    ·omega
    ·rw [List.getElem?_eq_none h'] at hu;cases hu
   obtain ⟨u',h1,h2⟩:=hat i l[i] (by simp [hi])
   rw [hLg i hi,h1] at hu
   cases hu
   obtain ⟨k1,k2⟩:=hq _ _ h2
   refine ⟨by simpa using k1,u,h1,?_⟩
   obtain ⟨w,e1,e2⟩:=(k2 β).get (i:=0) (v:=u) rfl
   cases e1
   exact e2) l.length cap
  refine ⟨H2,β2,_,b1,b2,b3,?_,b5,RowR.inRow H.nx 0 (2*cap) ty 2 l L b4 (fun h=>absurd h (Nat.not_lt_zero _)) (by omega) fun i x hx=>?_⟩
  ·omega
  ·have hi:i<l.length:=by
    rcases Nat.lt_or_ge i l.length with h' | h'
    ·exact h'
    ·rw [List.getElem?_eq_none h'] at hx;cases hx
   obtain ⟨u,h1,h2⟩:=hat i x hx
   refine ⟨by omega,?_⟩
   have h3:L[i]?=some u:=(hLg i hi).trans h1
   have:(L.drop (0+i*1)).take 1=[u]:=by
    rw [Nat.zero_add,Nat.mul_one]
    have hlt:i<L.length:=by omega
    rw [List.drop_eq_getElem_cons hlt]
    rw [List.getElem?_eq_getElem hlt] at h3
    rw [Option.some.inj h3];rfl
   rw [this];exact h2
end Go.Ev
namespace Go.Proofs.RS
open Go Go.Ev Go.Proofs Go.Ar
open Go.RowKit (Below)
section
variable {P:Program} {tb:Tb} {W0:World} {β0:Mp} {cx:Cx} {t:T Value} {ds:List Deferred} {H HA:Hp} {k:KC} {K:Ex→T Value→List Deferred→Hp→Prop}
theorem revive_one (hA:ArgS NG W0 β0 HA) {b:Nat} (hb:b<13) (hf:H.isFn=true) (hx:13≤H.nx) (hno:H.blk b=.no)
 (h:∀ H':Hp,H'.isFn=true→H'.nx=H.nx→(∀ c,c≠b→H'.blk c=H.blk c)→H'.blk b=HA.blk b→SK P tb W0 β0 13 cx k t ds H' K):SK P tb W0 β0 13 cx k t ds H K:=by
 by_cases hz:HA.blk b=.no
 ·exact h H hf rfl (fun _ _=>rfl) (hno.trans hz.symm)
 ·obtain ⟨m,e,o,ho,hr⟩:=hA.rel b ((alive_iff _ _).2 hz)
  obtain ⟨H1,e1,p⟩:=putB hf (show b<H.nx by omega) (HA.blk b)
  refine SK.revive hb e (hA.dom b m e) (fun β hle=>⟨o,ho,hr.mono hle⟩) ?_
  rw [e1]
  exact h H1 p.fn p.nx p.else_ p.at_
end
theorem H0_five:H0.blk 5=g5:=rfl
theorem H0_none {b:Nat} (h:b≠5):H0.blk b=.no:=by
 show Bc (Nat.blt b 13) (Bc (Nat.beq b 5) g5 .no) .no=.no
 rw [show Nat.beq b 5=false from by
  cases hh:Nat.beq b 5 with
  | false=>rfl
  | true=>exact absurd ((beq_iff _ _).1 hh) h]
 cases Nat.blt b 13 <;> rfl
theorem rdB_some {b:Blk} (h:(rdB b).isSome=true):b≠.no:=by
 intro e;subst e;cases h
def intI (x:Int) (vs:List Value):Prop:=vs=[.int .i64 x]
section
variable {x0:Int} {lv:Value} {W0:World} {β0:Mp}
set_option maxRecDepth 10000 in
set_option maxHeartbeats 4000000 in
theorem areas_sk {HA:Hp} {l:List Int} (hA:ArgS NG W0 β0 HA) (hn:HA.nx≤12) (hb:∀ b,b<11→HA.blk b=H0.blk b) (hl:RowR (envS 13) HA 1 intI lv l) :
 SK Tryz.prog Tb0 W0 β0 13 (cxOf Tryz.f4) areas_k (enterT Tryz.f4 [.int .i64 x0,lv]) [] H0 (Go.Ev.Leaves Tb0 (envS 13) Tryz.f4 fun v _=>v=.bool true):=by
 have g0:(enterT Tryz.f4 [.int .i64 x0,lv]).get 0=.int .i64 x0:=by rw [enterT_get (by show 2≤305;decide) (by show 0<305;decide)];rfl
 have g1:(enterT Tryz.f4 [.int .i64 x0,lv]).get 1=lv:=by rw [enterT_get (by show 2≤305;decide) (by show 1<305;decide)];rfl
 revert g0 g1
 generalize enterT Tryz.f4 [.int .i64 x0,lv]=t0
 intro g0 g1
 show SK Tryz.prog Tb0 W0 β0 13 ⟨9,305,none,false⟩ areas_k t0 [] H0 _
 unfold areas_k
 obtain ⟨H7,hA',hB,hC,hD,hE,H8,H10,r7,w7,r8,w8,r10,w10,s⟩:=startA
 obtain ⟨n1,n2,n3,n4,n5⟩:=s.nxs
 have fin:∀ (t:T Value) (H:Hp),t.get 4=.bool true→Go.Ev.Leaves Tb0 (envS 13) Tryz.f4 (fun v _=>v=.bool true) .ret t [] H:=fun t H h4=>by
  refine ⟨.inr rfl,rfl,[.bool true],0,?_,.zero _ _,rfl⟩
  show resL Tb0 305 t _ [.tmp 4]=_
  simp only [resL,h4];rfl
 have hlen:∀ Hq:Hp,exLen 1 lv Hq=.val (vN ((l.length:Nat):Int)) Hq 0 0:=fun Hq=>by cases hl <;> rfl
 refine SK.seq (SK.of_wk tb_ok lp_ok spL_ok rfl (by decide) (WK.reg_rr (fun t'=>t'.get 0=.int .i64 x0∧t'.get 1=lv∧t'.get 4=.bool false) ?_ ?_))
 ·simp (config:={ maxSteps:=1000000 }) only [areas_r0,g0,g1,WOR,WOG,WOC,WOGk,WOCk,wants_none',wants_some,wantsV_U,wantsV_tt,wantsV_tf,wantsV_ft,wantsV_ff,run,evalO_tmp,evalO_const,evalO_func,evalL,callV_func,Rv_eq,Ro_some,ok_zero,true_and,and_true,get_putT (d:=9),exLen_str,binV_geq,binV_leq,binV_lss,binV_gtr,binV_add,binV_mul,exEq_int,exEq_str,exPick_t,exPick_f,dec_T,dec_F,Bool.not_true,Bool.not_false,Bc_t,Bc_f,Nat.reducePow,Nat.reduceLT,Nat.reduceEqDiff,Nat.reduceAdd,if_false,reduceIte,and_self,exFa_ptr,putT_none,Nat.zero_add,Nat.add_zero,Nat.le_refl,exUn_not]
 clear g0 g1
 rintro t1 ⟨g0,g1,g4⟩
 refine SK.seq (SK.seq (SK.of_wk tb_ok lp_ok spL_ok rfl (by decide) (WK.reg_gg (fun t' H'=>t'.get 0=.int .i64 x0∧t'.get 1=lv∧t'.get 36=.bool false∧H'=H0) ?_ ?_)))
 ·simp (config:={ maxSteps:=1000000 }) only [areas_r1,g0,g1,g4,WOR,WOG,WOC,WOGk,WOCk,wants_none',wants_some,wantsV_U,wantsV_tt,wantsV_tf,wantsV_ft,wantsV_ff,run,evalO_tmp,evalO_const,evalO_func,evalL,callV_func,Rv_eq,Ro_some,ok_zero,true_and,and_true,get_putT (d:=9),exLen_str,binV_geq,binV_leq,binV_lss,binV_gtr,binV_add,binV_mul,exEq_int,exEq_str,exPick_t,exPick_f,dec_T,dec_F,Bool.not_true,Bool.not_false,Bc_t,Bc_f,Nat.reducePow,Nat.reduceLT,Nat.reduceEqDiff,Nat.reduceAdd,if_false,reduceIte,and_self,exFa_ptr,putT_none,Nat.zero_add,Nat.add_zero,Nat.le_refl,exUn_not]
  refine EC.of_sp (v:=.bool true) (H':=H0) (r:=bit 5) (w:=0) (spSane_at H0_five) (.read (by decide) fun _=>trivial) (Nat.le_refl _) ?_
  simp (config:={ maxSteps:=1000000 }) only [areas_r1,g0,g1,g4,WOR,WOG,WOC,WOGk,WOCk,wants_none',wants_some,wantsV_U,wantsV_tt,wantsV_tf,wantsV_ft,wantsV_ff,run,evalO_tmp,evalO_const,evalO_func,evalL,callV_func,Rv_eq,Ro_some,ok_zero,true_and,and_true,get_putT (d:=9),exLen_str,binV_geq,binV_leq,binV_lss,binV_gtr,binV_add,binV_mul,exEq_int,exEq_str,exPick_t,exPick_f,dec_T,dec_F,Bool.not_true,Bool.not_false,Bc_t,Bc_f,Nat.reducePow,Nat.reduceLT,Nat.reduceEqDiff,Nat.reduceAdd,if_false,reduceIte,and_self,exFa_ptr,putT_none,Nat.zero_add,Nat.add_zero,Nat.le_refl,exUn_not]
 clear g0 g1 g4
 rintro t2 H2 ⟨g0,g1,g36,rfl⟩
 refine SK.of_wk tb_ok lp_ok spL_ok rfl (by decide) (WK.cond (v:=false) (by rw [evalO_tmp,g36];rfl) (WK.skip ?_))
 by_cases hout:30<l.length
 case pos =>
  have e1:decide ((30:Int)<((l.length:Nat):Int))=true:=decide_eq_true (by omega)
  refine SK.seq (SK.seq (SK.of_wk tb_ok lp_ok spL_ok rfl (by decide) (WK.reg_rr (fun t'=>t'.get 39=.bool true) ?_ ?_)))
  ·simp (config:={ maxSteps:=1000000 }) only [areas_r3,g0,g1,hlen,e1,WOR,WOG,WOC,WOGk,WOCk,wants_none',wants_some,wantsV_U,wantsV_tt,wantsV_tf,wantsV_ft,wantsV_ff,run,evalO_tmp,evalO_const,evalO_func,evalL,callV_func,Rv_eq,Ro_some,ok_zero,true_and,and_true,get_putT (d:=9),exLen_str,binV_geq,binV_leq,binV_lss,binV_gtr,binV_add,binV_mul,exEq_int,exEq_str,exPick_t,exPick_f,dec_T,dec_F,Bool.not_true,Bool.not_false,Bc_t,Bc_f,Nat.reducePow,Nat.reduceLT,Nat.reduceEqDiff,Nat.reduceAdd,if_false,reduceIte,and_self,exFa_ptr,putT_none,Nat.zero_add,Nat.add_zero,Nat.le_refl,exUn_not]
  intro t3 g39
  refine SK.cond (v:=true) (by rw [evalO_tmp,g39];rfl) ?_
  refine SK.seq (SK.of_wk tb_ok lp_ok spL_ok rfl (by decide) (WK.reg_rr (fun t'=>t'.get 4=.bool true) ?_ ?_))
  ·simp (config:={ maxSteps:=1000000 }) only [areas_r4,WOR,WOG,WOC,WOGk,WOCk,wants_none',wants_some,wantsV_U,wantsV_tt,wantsV_tf,wantsV_ft,wantsV_ff,run,evalO_tmp,evalO_const,evalO_func,evalL,callV_func,Rv_eq,Ro_some,ok_zero,true_and,and_true,get_putT (d:=9),exLen_str,binV_geq,binV_leq,binV_lss,binV_gtr,binV_add,binV_mul,exEq_int,exEq_str,exPick_t,exPick_f,dec_T,dec_F,Bool.not_true,Bool.not_false,Bc_t,Bc_f,Nat.reducePow,Nat.reduceLT,Nat.reduceEqDiff,Nat.reduceAdd,if_false,reduceIte,and_self,exFa_ptr,putT_none,Nat.zero_add,Nat.add_zero,Nat.le_refl,exUn_not]
  intro t4 g4
  exact SK.of_wk tb_ok lp_ok spL_ok rfl (by decide) (WK.ret (fin t4 _ g4))
 case neg =>
 have e1:decide ((30:Int)<((l.length:Nat):Int))=false:=decide_eq_false (by omega)
 refine SK.seq (SK.seq (SK.of_wk tb_ok lp_ok spL_ok rfl (by decide) (WK.reg_rr (fun t'=>t'.get 0=.int .i64 x0∧t'.get 1=lv∧t'.get 39=.bool false) ?_ ?_)))
 ·simp (config:={ maxSteps:=1000000 }) only [areas_r3,g0,g1,hlen,e1,WOR,WOG,WOC,WOGk,WOCk,wants_none',wants_some,wantsV_U,wantsV_tt,wantsV_tf,wantsV_ft,wantsV_ff,run,evalO_tmp,evalO_const,evalO_func,evalL,callV_func,Rv_eq,Ro_some,ok_zero,true_and,and_true,get_putT (d:=9),exLen_str,binV_geq,binV_leq,binV_lss,binV_gtr,binV_add,binV_mul,exEq_int,exEq_str,exPick_t,exPick_f,dec_T,dec_F,Bool.not_true,Bool.not_false,Bc_t,Bc_f,Nat.reducePow,Nat.reduceLT,Nat.reduceEqDiff,Nat.reduceAdd,if_false,reduceIte,and_self,exFa_ptr,putT_none,Nat.zero_add,Nat.add_zero,Nat.le_refl,exUn_not]
 clear g0 g1 g36
 rintro t3 ⟨g0,g1,g39⟩
 refine SK.of_wk tb_ok lp_ok spL_ok rfl (by decide) (WK.cond (v:=false) (by rw [evalO_tmp,g39];rfl) (WK.skip ?_))
 obtain ⟨m,hm,hmm⟩:∃ m:Nat,m<63∧(x0.tmod (63:Int)+(63:Int)).tmod (63:Int)=(m:Int):=modL x0 (L:=63) (by decide)
 obtain ⟨hb1_,hb2_⟩ : -(63:Int)<x0.tmod (63:Int)∧x0.tmod (63:Int)<(63:Int):=tmod_b x0 (L:=63) (by decide)
 obtain ⟨n,hnn⟩:∃ n:Nat,n=16+8*m:=⟨_,rfl⟩
 have q1:∀ Hq,R.o (binV .rem (.int .i64 x0) (.int .i64 63)) Hq=.val (.int .i64 (x0.tmod (63:Int))) Hq 0 0:=fun Hq=>remI (by decide) Hq
 have q2:Value.int .i64 (wrapF .i64 (x0.tmod (63:Int)+63))=.int .i64 (x0.tmod (63:Int)+(63:Int)):=congrArg _ (wrapF_i64 (by omega) (by omega))
 have q3:∀ Hq,R.o (binV .rem (.int .i64 (x0.tmod (63:Int)+(63:Int))) (.int .i64 63)) Hq=.val (vN ((m:Nat):Int)) Hq 0 0:=fun Hq=>by rw [remI (by decide),hmm]
 have q4:Value.int .i64 (wrapF .i64 (8*((m:Nat):Int)))=vN ((8*m:Nat):Int):=congrArg _ (by rw [wrapF_i64 (by omega) (by omega)];omega)
 have q5:Value.int .i64 (wrapF .i64 (16+((8*m:Nat):Int)))=vN ((n:Nat):Int):=congrArg _ (by rw [wrapF_i64 (by omega) (by omega)];omega)
 refine SK.seq (SK.of_wk tb_ok lp_ok spL_ok rfl (by decide) (WK.reg_rr (fun t'=>t'.get 0=vN ((n:Nat):Int)∧t'.get 1=lv) ?_ ?_))
 ·simp (config:={ maxSteps:=1000000 }) only [areas_r5,g0,g1,q1,q2,q3,q4,q5,WOR,WOG,WOC,WOGk,WOCk,wants_none',wants_some,wantsV_U,wantsV_tt,wantsV_tf,wantsV_ft,wantsV_ff,run,evalO_tmp,evalO_const,evalO_func,evalL,callV_func,Rv_eq,Ro_some,ok_zero,true_and,and_true,get_putT (d:=9),exLen_str,binV_geq,binV_leq,binV_lss,binV_gtr,binV_add,binV_mul,exEq_int,exEq_str,exPick_t,exPick_f,dec_T,dec_F,Bool.not_true,Bool.not_false,Bc_t,Bc_f,Nat.reducePow,Nat.reduceLT,Nat.reduceEqDiff,Nat.reduceAdd,if_false,reduceIte,and_self,exFa_ptr,putT_none,Nat.zero_add,Nat.add_zero,Nat.le_refl,exUn_not]
 clear g0 g1 g39
 rintro t4 ⟨g0,g1⟩
 have aA:=s.alA
 have aB:=s.alB
 have sC:=s.stC
 have sD:=s.stD
 have oC:(envS 13).ok 0 (bit 23) hC:=.write (by omega) fun h=>absurd h (by decide)
 have oD:(envS 13).ok 0 (bit 24) hD:=.write (by omega) fun h=>absurd h (by decide)
 have p1:H7.nx≤hA'.nx:=by rw [s.nx7,n1];decide
 have p2:hA'.nx≤hB.nx:=by rw [n1,n2];decide
 have p3:hB.nx≤hC.nx:=by rw [n2,n3];decide
 have p4:hC.nx≤hD.nx:=by rw [n3,n4];decide
 have p5:hD.nx≤hE.nx:=by rw [n4,n5];decide
 have a0:=fun H=>exExt_tup [pV,inV] 0 _ rfl H
 have a1:=fun H=>exExt_tup [pV,inV] 1 _ rfl H
 refine SK.seq (SK.of_wk tb_ok lp_ok spL_ok rfl (by decide) (WK.reg_gg (fun t' H'=>t'.get 0=vN ((n:Nat):Int)∧t'.get 1=lv∧t'.get 5=.pointer (some ⟨23,0,none⟩)∧t'.get 6=.pointer (some ⟨24,0,none⟩)∧H'=hD) ?_ ?_))
 ·simp (config:={ maxSteps:=1000000 }) only [areas_r6,g0,g1,a0,a1,aA,aB,sC,sD,oC,oD,p1,p2,p3,p4,WOR,WOG,WOC,WOGk,WOCk,wants_none',wants_some,wantsV_U,wantsV_tt,wantsV_tf,wantsV_ft,wantsV_ff,run,evalO_tmp,evalO_const,evalO_func,evalL,callV_func,Rv_eq,Ro_some,ok_zero,true_and,and_true,get_putT (d:=9),exLen_str,binV_geq,binV_leq,binV_lss,binV_gtr,binV_add,binV_mul,exEq_int,exEq_str,exPick_t,exPick_f,dec_T,dec_F,Bool.not_true,Bool.not_false,Bc_t,Bc_f,Nat.reducePow,Nat.reduceLT,Nat.reduceEqDiff,Nat.reduceAdd,if_false,reduceIte,and_self,exFa_ptr,putT_none,Nat.zero_add,Nat.add_zero,Nat.le_refl,exUn_not]
  refine EC.of_run s.run7 s.ok7 (by rw [s.nx7];decide) ?_
  simp (config:={ maxSteps:=1000000 }) only [areas_r6,g0,g1,a0,a1,aA,aB,sC,sD,oC,oD,p1,p2,p3,p4,WOR,WOG,WOC,WOGk,WOCk,wants_none',wants_some,wantsV_U,wantsV_tt,wantsV_tf,wantsV_ft,wantsV_ff,run,evalO_tmp,evalO_const,evalO_func,evalL,callV_func,Rv_eq,Ro_some,ok_zero,true_and,and_true,get_putT (d:=9),exLen_str,binV_geq,binV_leq,binV_lss,binV_gtr,binV_add,binV_mul,exEq_int,exEq_str,exPick_t,exPick_f,dec_T,dec_F,Bool.not_true,Bool.not_false,Bc_t,Bc_f,Nat.reducePow,Nat.reduceLT,Nat.reduceEqDiff,Nat.reduceAdd,if_false,reduceIte,and_self,exFa_ptr,putT_none,Nat.zero_add,Nat.add_zero,Nat.le_refl,exUn_not]
 clear g0 g1
 rintro t5 H5 ⟨g0,g1,g5,g6,rfl⟩
 have sE:=s.stE
 have oE:(envS 13).ok 0 (bit 23) hE:=.write (by omega) fun h=>absurd h (by decide)
 refine SK.seq (SK.of_wk tb_ok lp_ok spL_ok rfl (by decide) (WK.reg_gg (fun t' H'=>t'.get 0=vN ((n:Nat):Int)∧t'.get 1=lv∧t'.get 5=.pointer (some ⟨23,0,none⟩)∧t'.get 6=.pointer (some ⟨24,0,none⟩)∧H'=hE) ?_ ?_))
 ·simp (config:={ maxSteps:=1000000 }) only [areas_r7,g0,g1,g5,g6,sE,oE,p5,WOR,WOG,WOC,WOGk,WOCk,wants_none',wants_some,wantsV_U,wantsV_tt,wantsV_tf,wantsV_ft,wantsV_ff,run,evalO_tmp,evalO_const,evalO_func,evalL,callV_func,Rv_eq,Ro_some,ok_zero,true_and,and_true,get_putT (d:=9),exLen_str,binV_geq,binV_leq,binV_lss,binV_gtr,binV_add,binV_mul,exEq_int,exEq_str,exPick_t,exPick_f,dec_T,dec_F,Bool.not_true,Bool.not_false,Bc_t,Bc_f,Nat.reducePow,Nat.reduceLT,Nat.reduceEqDiff,Nat.reduceAdd,if_false,reduceIte,and_self,exFa_ptr,putT_none,Nat.zero_add,Nat.add_zero,Nat.le_refl,exUn_not]
 clear g0 g1 g5 g6
 rintro t6 H6 ⟨g0,g1,g5,g6,rfl⟩
 have lE:=s.ldE
 have lF:=s.ldF
 have oE1:(envS 13).ok (bit 23) 0 H6:=.read (by omega) fun _=>trivial
 have oE2:(envS 13).ok (bit 24) 0 H6:=.read (by omega) fun _=>trivial
 have b0:=fun H=>exExt_tup [sA,.int .i64 0] 0 _ rfl H
 have b1:=fun H=>exExt_tup [sA,.int .i64 0] 1 _ rfl H
 refine SK.seq (SK.of_wk tb_ok lp_ok spL_ok rfl (by decide) (WK.reg_gg (fun t' H'=>t'.get 0=vN ((n:Nat):Int)∧t'.get 1=lv∧t'.get 7=sA∧t'.get 8=.int .i64 0∧H'=H8) ?_ ?_))
 ·simp (config:={ maxSteps:=1000000 }) only [areas_r8,g0,g1,g5,g6,lE,lF,oE1,oE2,b0,b1,WOR,WOG,WOC,WOGk,WOCk,wants_none',wants_some,wantsV_U,wantsV_tt,wantsV_tf,wantsV_ft,wantsV_ff,run,evalO_tmp,evalO_const,evalO_func,evalL,callV_func,Rv_eq,Ro_some,ok_zero,true_and,and_true,get_putT (d:=9),exLen_str,binV_geq,binV_leq,binV_lss,binV_gtr,binV_add,binV_mul,exEq_int,exEq_str,exPick_t,exPick_f,dec_T,dec_F,Bool.not_true,Bool.not_false,Bc_t,Bc_f,Nat.reducePow,Nat.reduceLT,Nat.reduceEqDiff,Nat.reduceAdd,if_false,reduceIte,and_self,exFa_ptr,putT_none,Nat.zero_add,Nat.add_zero,Nat.le_refl,exUn_not]
  refine EC.of_run s.run8 s.ok8 (by rw [n5,s.nx8];decide) ?_
  simp (config:={ maxSteps:=1000000 }) only [areas_r8,g0,g1,g5,g6,lE,lF,oE1,oE2,b0,b1,WOR,WOG,WOC,WOGk,WOCk,wants_none',wants_some,wantsV_U,wantsV_tt,wantsV_tf,wantsV_ft,wantsV_ff,run,evalO_tmp,evalO_const,evalO_func,evalL,callV_func,Rv_eq,Ro_some,ok_zero,true_and,and_true,get_putT (d:=9),exLen_str,binV_geq,binV_leq,binV_lss,binV_gtr,binV_add,binV_mul,exEq_int,exEq_str,exPick_t,exPick_f,dec_T,dec_F,Bool.not_true,Bool.not_false,Bc_t,Bc_f,Nat.reducePow,Nat.reduceLT,Nat.reduceEqDiff,Nat.reduceAdd,if_false,reduceIte,and_self,exFa_ptr,putT_none,Nat.zero_add,Nat.add_zero,Nat.le_refl,exUn_not]
 clear g0 g1 g5 g6
 rintro t7 H9 ⟨g0,g1,g7,g8,rfl⟩
 have c1:exEq true (.one .i) (.int .i64 0) (.int .i64 0) H9=.val (.bool false) H9 0 0:=rfl
 have c2:exEq false (.one .p) sA (.pointer none) H9=.val (.bool false) H9 0 0:=rfl
 refine SK.seq (SK.seq (SK.of_wk tb_ok lp_ok spL_ok rfl (by decide) (WK.reg_rr (fun t'=>t'.get 0=vN ((n:Nat):Int)∧t'.get 1=lv∧t'.get 7=sA∧t'.get 62=.bool false) ?_ ?_)))
 ·simp (config:={ maxSteps:=1000000 }) only [areas_r9,g0,g1,g7,g8,c1,c2,WOR,WOG,WOC,WOGk,WOCk,wants_none',wants_some,wantsV_U,wantsV_tt,wantsV_tf,wantsV_ft,wantsV_ff,run,evalO_tmp,evalO_const,evalO_func,evalL,callV_func,Rv_eq,Ro_some,ok_zero,true_and,and_true,get_putT (d:=9),exLen_str,binV_geq,binV_leq,binV_lss,binV_gtr,binV_add,binV_mul,exEq_int,exEq_str,exPick_t,exPick_f,dec_T,dec_F,Bool.not_true,Bool.not_false,Bc_t,Bc_f,Nat.reducePow,Nat.reduceLT,Nat.reduceEqDiff,Nat.reduceAdd,if_false,reduceIte,and_self,exFa_ptr,putT_none,Nat.zero_add,Nat.add_zero,Nat.le_refl,exUn_not]
 clear g0 g1 g7 g8
 rintro t8 ⟨g0,g1,g7,g62⟩
 refine SK.of_wk tb_ok lp_ok spL_ok rfl (by decide) (WK.cond (v:=false) (by rw [evalO_tmp,g62];rfl) (WK.skip ?_))
 have d0:=fun H=>exExt_tup [vN 128,vN 0] 0 _ rfl H
 have d1:=fun H=>exExt_tup [vN 128,vN 0] 1 _ rfl H
 refine SK.seq (SK.of_wk tb_ok lp_ok spL_ok rfl (by decide) (WK.reg_gg (fun t' H'=>t'.get 0=vN ((n:Nat):Int)∧t'.get 1=lv∧t'.get 7=sA∧t'.get 9=vN 128∧t'.get 10=vN 0∧H'=H10) ?_ ?_))
 ·simp (config:={ maxSteps:=1000000 }) only [areas_r11,g0,g1,g7,d0,d1,WOR,WOG,WOC,WOGk,WOCk,wants_none',wants_some,wantsV_U,wantsV_tt,wantsV_tf,wantsV_ft,wantsV_ff,run,evalO_tmp,evalO_const,evalO_func,evalL,callV_func,Rv_eq,Ro_some,ok_zero,true_and,and_true,get_putT (d:=9),exLen_str,binV_geq,binV_leq,binV_lss,binV_gtr,binV_add,binV_mul,exEq_int,exEq_str,exPick_t,exPick_f,dec_T,dec_F,Bool.not_true,Bool.not_false,Bc_t,Bc_f,Nat.reducePow,Nat.reduceLT,Nat.reduceEqDiff,Nat.reduceAdd,if_false,reduceIte,and_self,exFa_ptr,putT_none,Nat.zero_add,Nat.add_zero,Nat.le_refl,exUn_not]
  refine EC.of_run s.run10 s.ok10 (by rw [s.nx8,s.nx10];decide) ?_
  simp (config:={ maxSteps:=1000000 }) only [areas_r11,g0,g1,g7,d0,d1,WOR,WOG,WOC,WOGk,WOCk,wants_none',wants_some,wantsV_U,wantsV_tt,wantsV_tf,wantsV_ft,wantsV_ff,run,evalO_tmp,evalO_const,evalO_func,evalL,callV_func,Rv_eq,Ro_some,ok_zero,true_and,and_true,get_putT (d:=9),exLen_str,binV_geq,binV_leq,binV_lss,binV_gtr,binV_add,binV_mul,exEq_int,exEq_str,exPick_t,exPick_f,dec_T,dec_F,Bool.not_true,Bool.not_false,Bc_t,Bc_f,Nat.reducePow,Nat.reduceLT,Nat.reduceEqDiff,Nat.reduceAdd,if_false,reduceIte,and_self,exFa_ptr,putT_none,Nat.zero_add,Nat.add_zero,Nat.le_refl,exUn_not]
 clear g0 g1 g7 g62
 rintro t9 HX ⟨g0,g1,g7,g9,g10,rfl⟩
 have q6:Value.int .i64 (wrapF .i64 (128+8192))=vN ((8*1040:Nat):Int):=rfl
 refine SK.seq (SK.of_wk tb_ok lp_ok spL_ok rfl (by decide) (WK.reg_rr (fun t'=>t'.get 0=vN ((n:Nat):Int)∧t'.get 1=lv∧t'.get 7=sA∧t'.get 9=vN 128∧t'.get 10=vN 0∧t'.get 11=vN ((8*1040:Nat):Int)) ?_ ?_))
 ·simp (config:={ maxSteps:=1000000 }) only [areas_r12,g0,g1,g7,g9,g10,q6,WOR,WOG,WOC,WOGk,WOCk,wants_none',wants_some,wantsV_U,wantsV_tt,wantsV_tf,wantsV_ft,wantsV_ff,run,evalO_tmp,evalO_const,evalO_func,evalL,callV_func,Rv_eq,Ro_some,ok_zero,true_and,and_true,get_putT (d:=9),exLen_str,binV_geq,binV_leq,binV_lss,binV_gtr,binV_add,binV_mul,exEq_int,exEq_str,exPick_t,exPick_f,dec_T,dec_F,Bool.not_true,Bool.not_false,Bc_t,Bc_f,Nat.reducePow,Nat.reduceLT,Nat.reduceEqDiff,Nat.reduceAdd,if_false,reduceIte,and_self,exFa_ptr,putT_none,Nat.zero_add,Nat.add_zero,Nat.le_refl,exUn_not]
 clear g0 g1 g7 g9 g10
 rintro t10 ⟨g0,g1,g7,g9,g10,g11⟩
 have c3:exEq true (.one .i) (vN 0) (.int .i64 0) HX=.val (.bool false) HX 0 0:=rfl
 refine SK.seq (SK.seq (SK.of_wk tb_ok lp_ok spL_ok rfl (by decide) (WK.reg_rr (fun t'=>t'.get 0=vN ((n:Nat):Int)∧t'.get 1=lv∧t'.get 7=sA∧t'.get 9=vN 128∧t'.get 11=vN ((8*1040:Nat):Int)∧t'.get 71=.bool false) ?_ ?_)))
 ·simp (config:={ maxSteps:=1000000 }) only [areas_r13,g0,g1,g7,g9,g10,g11,c3,WOR,WOG,WOC,WOGk,WOCk,wants_none',wants_some,wantsV_U,wantsV_tt,wantsV_tf,wantsV_ft,wantsV_ff,run,evalO_tmp,evalO_const,evalO_func,evalL,callV_func,Rv_eq,Ro_some,ok_zero,true_and,and_true,get_putT (d:=9),exLen_str,binV_geq,binV_leq,binV_lss,binV_gtr,binV_add,binV_mul,exEq_int,exEq_str,exPick_t,exPick_f,dec_T,dec_F,Bool.not_true,Bool.not_false,Bc_t,Bc_f,Nat.reducePow,Nat.reduceLT,Nat.reduceEqDiff,Nat.reduceAdd,if_false,reduceIte,and_self,exFa_ptr,putT_none,Nat.zero_add,Nat.add_zero,Nat.le_refl,exUn_not]
 clear g0 g1 g7 g9 g10 g11
 rintro t11 ⟨g0,g1,g7,g9,g11,g71⟩
 refine SK.of_wk tb_ok lp_ok spL_ok rfl (by decide) (WK.cond (v:=false) (by rw [evalO_tmp,g71];rfl) (WK.skip ?_))
 have hlow:∀ b,b<13→HX.blk b=H0.blk b:=fun b hb=>map_range_eq s.low hb
 refine revive_one hA (b:=11) (by decide) s.fn10 (by rw [s.nx10];decide) ((hlow 11 (by decide)).trans (H0_none (by decide))) fun HR r1 r2 r3 r4=>?_
 have hRA:∀ b,b<13→HR.blk b=HA.blk b:=fun b hlt=>by
  by_cases h11:b=11
  ·subst h11;exact r4
  ·rw [r3 b h11,hlow b hlt]
   by_cases h12:b=12
   ·subst h12
    rw [H0_none (by decide)]
    by_cases hz:HA.blk 12=.no
    ·exact hz.symm
    ·have:=((alive_iff _ _).2 hz).1;omega
   ·exact (hb b (by omega)).symm
 have hlR:∀ H':Hp,(∀ b,b<13→H'.blk b=HR.blk b)→RowR (envS 13) H' 1 (fun (x:Int) vs=>vs=[.int .i64 x]) lv l:=fun H h=>RowR.mono hl (fun b hlt=>(h b (by omega)).trans (hRA b (by omega))) fun _ _ h=>h
 have hmem:ByU HX 76 171 (fun _=>0) 65536:=by
  refine ⟨_,by rw [s.mem,bys_len],fun i v hv=>?_⟩
  have hi:i<65536:=by
   rcases Nat.lt_or_ge i 65536 with h | h
   ·exact h
   ·rw [List.getElem?_eq_none (by rw [bys_len];exact h)] at hv;cases hv
  rw [bys_get hi] at hv
  exact Option.some.inj hv
 exact SK.of_wk tb_ok lp_ok spN_ok rfl (by decide) (end_ok spX_n spN_del (by decide) (by omega) (by omega) hlen rfl (by omega) hlR r1 (by rw [r2,s.nx10]) ((rdB_row s.st).of_blk (r3 _ (by decide))) (hmem.of_blk (r3 _ (by decide))) (by rw [r3 _ (by decide)];exact rdB_some s.acts) g0 g1 g7 g9 g11)
end
def PowA (W:World):Prop:=∃ cs fr,W.heap[5]?=some (.cells cs 391 fr)∧cs.size=20∧∀ (i:Nat) v,pow10[i]?=some v→cs[i]?=some v
def βA:Mp:=fun b=>if b<NG then some ⟨b,0,if b=5 then 20 else 0,0⟩ else none
def HSA:Hp:=.fn (fun b=>Bc (Nat.beq b 5) g5 .no) NG
theorem HSA_5:HSA.blk 5=g5:=rfl
theorem HSA_no {b:Nat} (h:b≠5):HSA.blk b=.no:=by
 show Bc (Nat.blt b 11) (Bc (Nat.beq b 5) g5 .no) .no=.no
 rw [show Nat.beq b 5=false from by
  cases hh:Nat.beq b 5 with
  | false=>rfl
  | true=>exact absurd ((beq_iff _ _).1 hh) h]
 cases Nat.blt b 11 <;> rfl
theorem powA_bok {W:World} (h:PowA W) (β:Mp):BOk β W g5 ⟨5,0,20,0⟩:=by
 obtain ⟨cs,fr,h1,h2,h3⟩:=h
 obtain ⟨t,hg,ht⟩:=g5_cells
 rw [hg]
 refine ⟨.cells cs 391 fr,h1,cs,fr,rfl,h2,by decide,fun _=>⟨rfl,rfl⟩,(fun k h=>by cases h),fun i hi=>?_,.inr (.inr ⟨rfl,by decide⟩)⟩
 obtain ⟨n,hn⟩:=pow10_int i hi
 rw [ht i _ hn]
 exact ⟨rfl,_,by rw [Nat.zero_add];exact h3 i _ hn,.int _ _⟩
theorem startA5 {W:World} (hW:NG≤W.heap.size) (h:PowA W):ArgS NG W βA HSA:=by
 refine ⟨rfl,fun g hlt=>⟨⟨g,0,if g=5 then 20 else 0,0⟩,if_pos hlt,rfl,rfl⟩,fun b ha=>?_,fun b hb=>?_,fun b m e=>?_⟩
 ·have hb:b=5:=by
   by_cases hb:b=5
   ·exact hb
   ·exact absurd (HSA_no hb) ha.2
  subst hb
  exact ⟨⟨5,0,20,0⟩,rfl,by rw [HSA_5];exact powA_bok h _⟩
 ·have hb':NG≤b:=hb
  show (if b<NG then _ else none)=none
  rw [if_neg (by omega)]
 ·have e':(if b<NG then some (⟨b,0,if b=5 then 20 else 0,0⟩:Bm) else none)=some m:=e
  split at e'
  ·cases e';show b<_;omega
  ·cases e'
theorem intI_flat:∀ (x:Int) vs,intI x vs→vs.all oneC=true∧∀ β:Mp,LRel β vs vs:=fun x vs h=>by
 unfold intI at h;subst h
 exact ⟨rfl,fun β=>.cons (.int _ _) (.nil β)⟩
theorem areas_calls (W:World) (hW:NG≤W.heap.size) (h5:PowA W) {x0:Int} {lv:Value} {l:List Int} (hl:SlW W 1 intI lv l) :
 Calls Tryz.prog 4 #[.int .i64 x0,lv] W fun e W'=>e=.returned (.bool true)∧Below W.heap.size W W':=by
 obtain ⟨H1,β1,l0,a1,a2,a3,a4,a5,a6⟩:=(startA5 hW h5).flat1 intI_flat hl
 have hn:H1.nx≤12:=by have:HSA.nx=11:=rfl;omega
 have hblk:∀ b,b<11→H1.blk b=H0.blk b:=fun b hb=>by
  have hlt:b<HSA.nx:=hb
  rw [a3.old b hlt]
  by_cases h:b=5
  ·subst h;rfl
  ·rw [HSA_no h,H0_none h]
 have hsk:=areas_sk (x0:=x0) (W0:=W) (β0:=β1) a1 hn hblk (RowR.env (RowR.mono a6 (fun _ _=>rfl) fun _ _ h=>h) (fun _ _ h=>h) fun _ _ _ _=>trivial)
 have hal:∀ b,alive H0 b→b=5:=fun b ha=>by
  by_cases hb:b=5
  ·exact hb
  ·exact absurd (H0_none hb) ha.2
 refine (calls_of_sk (β:=β1) tb_ok lp_ok (f:=4) (fn:=Tryz.f4) (by rfl) areas_some areas_comp (by show 2≤305;decide) (args':=#[.int .i64 x0,lv]) (fun a ha=>?_) (LRel.cons (.int _ _) (LRel.cons a5 (LRel.nil _))) hsk).mono fun e W' hR=>?_
 ·refine ⟨trivial,Nat.le_refl _,a1.g,ha,fun b hb=>?_,fun b hb=>a1.fresh b (by have:H0.nx=13:=rfl;omega),a1.dom,fun b m _ e=>a1.dom b m e,fun b m hge hb _=>?_,fun b c mb mc hb _ hab _ _ _ _=>?_,.refl _ _,Mp.le.refl _⟩
  ·have e:=hal b hb;subst e
   obtain ⟨m,e1,e2⟩:=a1.rel 5 ((alive_iff _ _).2 (by rw [hblk 5 (by decide),H0_five];obtain ⟨t,hg,_⟩:=g5_cells;rw [hg];simp))
   refine ⟨m,e1,?_⟩
   rw [hblk 5 (by decide)] at e2
   exact e2
  ·have:=hal b hb;omega
  ·have:=hal b hab;omega
 ·obtain ⟨β',v,v',H',rfl,hv,rfl,hB⟩:=hR
  cases hv
  exact ⟨rfl,hB⟩
end Go.Proofs.RS
end
noncomputable section
namespace Go.Ev
open Go Go.ChangeShapes Go.Deep
structure Bulky (H:Type) (bk:DataW H→Nat) (bka:List (DataW H)→Nat):Prop where
 sl:∀ D S,bka D≤bk (.slice D S)
 ag:∀ D,bka D≤bk (.agg D)
 mem:∀ D d,d∈D→bk d≤bka D
 len:∀ D,D.length≤bka D
section
variable {H:Type} {enc:TypeId×Value→H} {P:Program} {W:World} {held:Bool} {bk:DataW H→Nat} {bka:List (DataW H)→Nat}
theorem slW_of {α:Type} (bb:Bulky H bk bka) {t e:TypeId} {w:Nat} {Q:α→List Value→Prop} {B:α→DataW H→Prop} (ht:P.underlying t=some (.slice e)) (hw:P.cellsOf e=w) (hw0:0<w)
 (hQ:∀ n cs x,DataW.trod enc P W 0 (fun _=>true) held n e cs=some x→cs.length=w→∃ y,Q y cs∧B y x.1)
 {fuel:Nat} {v:Value} {x:DataW H×List MemPlace} (h:DataW.trod enc P W 0 (fun _=>true) held fuel t [v]=some x) :
 ∃ l:List α,SlW W w Q v l∧l.length≤bk x.1∧∀ y∈l,∃ d,B y d∧bk d≤bk x.1:=by
 rcases open_slice ht h with ⟨hcs,_⟩ | ⟨a,len,cap,m,n,D,Pl,hcs,_,hl,hm,hmm,hx,hcell⟩
 ·simp only [List.cons.injEq,and_true] at hcs
  exact ⟨[],.inl ⟨hcs,rfl⟩,Nat.zero_le _,fun y hy=>by cases hy⟩
 ·simp only [List.cons.injEq,and_true] at hcs
  subst hcs
  replace hmm:m=cap:=by rw [hmm,if_pos rfl]
  subst hmm
  rw [hw] at hcell
  cases m with
  | zero =>
   obtain rfl:len=0:=by omega
   exact ⟨[],.inr (.inl ⟨a,rfl,rfl⟩),Nat.zero_le _,fun y hy=>by cases hy⟩
  | succ m =>
   have hblk:∃ cs ty fr,a.spot=none∧W.heap[a.block]?=some (.cells cs ty fr):=by
    obtain ⟨c,h1,h2⟩:=hcell 0 (by omega)
    obtain ⟨_,h3,h4⟩:=World.cells?_some h1
    have h5:=h4 0 hw0
    have hz:(a.add (0*w)).add 0=a:=by unfold Addr.add;simp
    rw [hz] at h5
    have h6:∃ v,W.cell? a=some v:=⟨c[0],by rw [h5];simp [h3,hw0]⟩
    obtain ⟨v,h7⟩:=h6
    unfold World.cell? at h7
    split at h7
    ·rename_i cs ty fr hb
     split at h7
     ·cases h7
     ·rename_i hs
      refine ⟨cs,ty,fr,?_,hb⟩
      cases hsp:a.spot with
      | none=>rfl
      | some k=>rw [hsp] at hs;exact absurd rfl hs
    ·cases h7
   obtain ⟨cs,ty,fr,hspot,hblk⟩:=hblk
   obtain ⟨blk,off,spot⟩:=a
   simp only at hspot hblk
   subst hspot
   have hadd:∀ k j,(Addr.add ⟨blk,off,none⟩ k).add j=⟨blk,off+k+j,none⟩:=by
    intro k j
    rw [add_add]
    unfold Addr.add
    split
    ·rename_i hk;rw [show k=0 by omega,show j=0 by omega];rfl
    ·simp [Nat.add_assoc]
   have hat:∀ i,i<m+1→∃ vs:List Value,vs.length=w∧(∀ (j:Nat) v,vs[j]?=some v→cs[off+i*w+j]?=some v)∧DataW.trod enc P W 0 (fun _=>true) held n e vs=some (D i,Pl i):=by
    intro i hi
    obtain ⟨c,h1,h2⟩:=hcell i hi
    obtain ⟨_,h3,h4⟩:=World.cells?_some h1
    refine ⟨c,h3,fun j v hv=>?_,h2⟩
    have hj:j<w:=by
     rcases Nat.lt_or_ge j w with h' | h'
     ·exact h'
     ·rw [List.getElem?_eq_none (by omega)] at hv;cases hv
    have h5:=h4 j hj
    rw [hadd,hv] at h5
    simpa [World.cell?,hblk] using h5
   have hel:∀ i,i<len→∃ y:α,(∃ vs:List Value,vs.length=w∧(∀ (j:Nat) v,vs[j]?=some v→cs[off+i*w+j]?=some v)∧Q y vs)∧B y (D i):=by
    intro i hi
    obtain ⟨vs,h1,h2,h3⟩:=hat i (by omega)
    obtain ⟨y,h4,h5⟩:=hQ _ _ _ h3 h1
    exact ⟨y,⟨vs,h1,h2,h4⟩,h5⟩
   let f:Fin len→α:=fun i=>Classical.choose (hel i.1 i.2)
   have hf:∀ i:Fin len,(∃ vs:List Value,vs.length=w∧(∀ (j:Nat) v,vs[j]?=some v→cs[off+i.1*w+j]?=some v)∧Q (f i) vs)∧B (f i) (D i.1):=fun i=>Classical.choose_spec (hel i.1 i.2)
   have hlen:(List.ofFn f).length=len:=List.length_ofFn
   have hget:∀ (i:Nat) y,(List.ofFn f)[i]?=some y→∃ h:i<len,f ⟨i,h⟩=y:=by
    intro i y hy
    rcases Nat.lt_or_ge i len with h' | h'
    ·refine ⟨h',?_⟩
     rw [List.getElem?_eq_getElem (by omega),List.getElem_ofFn] at hy
     exact Option.some.inj hy
    ·rw [List.getElem?_eq_none (by omega)] at hy;cases hy
   have hD:x.1=.slice ((List.range len).map D) ((List.range (m+1-len)).map fun j=>D (len+j)):=by rw [hx]
   have hbk:bka ((List.range len).map D)≤bk x.1:=by rw [hD];exact bb.sl _ _
   refine ⟨List.ofFn f,.inr (.inr ⟨blk,off,m+1,cs,ty,fr,by rw [hlen],hblk,?_,fun i y hi=>?_⟩),?_,fun y hy=>?_⟩
   ·rw [hlen]
    have hfit:∀ i,i<m+1→off+i*w+w≤cs.size:=by
     intro i hi
     obtain ⟨vs,h1,h2,_⟩:=hat i hi
     have:=h2 (w-1) vs[w-1] (by simp)
     have hlt:off+i*w+(w-1)<cs.size:=by
      rcases Nat.lt_or_ge (off+i*w+(w-1)) cs.size with h' | h'
      ·exact h'
      ·rw [Array.getElem?_eq_none h'] at this;cases this
     omega
    cases len with
    | zero=>have:=hfit 0 (by omega);omega
    | succ k=>have:=hfit k (by omega);rw [Nat.add_mul,Nat.one_mul];omega
   ·obtain ⟨h',rfl⟩:=hget i y hi
    exact (hf ⟨i,h'⟩).1
   ·rw [hlen]
    have:=bb.len ((List.range len).map D)
    rw [List.length_map,List.length_range] at this
    omega
   ·obtain ⟨i,hi⟩:=List.getElem?_of_mem hy
    obtain ⟨h',rfl⟩:=hget i y hi
    refine ⟨D i,(hf ⟨i,h'⟩).2,?_⟩
    have:=bb.mem ((List.range len).map D) (D i) (List.mem_map.2 ⟨i,List.mem_range.2 h',rfl⟩)
    omega
end
end Go.Ev
end
