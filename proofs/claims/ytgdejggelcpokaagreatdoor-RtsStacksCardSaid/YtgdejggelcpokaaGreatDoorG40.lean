/-
 A part of the proof that pliantlaw15.RtsStacks returns true and leaves its arguments alone. Conditions: those of the card in the last text.
-/
import Derived.Test.YtgdejggelcpokaaGreatDoorG09
import Derived.Test.YtgdejggelcpokaaGreatDoorG13
import Derived.Test.YtgdejggelcpokaaGreatDoorG39
set_option linter.unusedSimpArgs false
set_option linter.unusedVariables false
set_option linter.unusedSectionVars false
noncomputable section
namespace Go.Proofs.RS
open Go Go.Ev Go.Proofs Go.Ar
theorem max0 (n:Nat) (Hq:Hp):exMin false (.int .i64 (0)) (iN n) Hq=.val (iN n) Hq 0 0:=by cases n <;> rfl
theorem get_set_self {α:Type} {l:List α} {i:Nat} {x y:α} (h:l[i]?=some x):(l.set i y)[i]?=some y:=by
 rw [List.getElem?_set_self (lt_of_get h)]
theorem set_self {α:Type} {l:List α} {i:Nat} {x:α} (h:l[i]?=some x):l.set i x=l:=by
 apply List.ext_getElem?;intro j;rw [List.getElem?_set];split
 ·rename_i e;subst e;rw [if_pos (lt_of_get h),h]
 ·rfl
section
attribute [local go_sem] Bc_f Bc_t GT Ro_some Rv_eq WOG Yj Yk Yl Ym Yn Yo Yp Yq Yr and_self and_true binV_add binV_gtr binV_lss binV_sub callV_func dec_F dec_T evalL evalM evalO_const evalO_func evalO_tmp exEq_int exFa_ptr exLen_str exUn_not if_false if_true ok_zero putT_none run true_and wants_none'
variable {sp:Nat→List Value→Hp→Option (Value×Hp×Nat×Nat)} {e:Env}
set_option maxRecDepth 10000 in
set_option maxHeartbeats 4000000 in
theorem main_ok (S:SpX sp) {HL:Hp} {q k cq len:Nat} {szs:List Nat} {L Lp Pc:List Value} {sv lv:Value} (c:StcS HL q k szs L Lp Pc cq) (he0:e.n0≤23) (hlen0:∀ Hq:Hp,exLen 1 sv Hq=.val (vN ((k:Nat):Int)) Hq 0 0) (hlen:∀ Hq:Hp,exLen 1 lv Hq=.val (vN ((len:Nat):Int)) Hq 0 0) {l:List Int} (hsl:l.length=len) (hl60:len≤60) (hk1:1≤k) (hl:∀ H':Hp,(∀ b,b<13→H'.blk b=HL.blk b)→RowR e H' 1 (fun (x:Int) vs=>vs=[.int .i64 x]) lv l) {F0:By} {gs0 hs0:List Value} {bl0:Nat→Nat} {ss0:List Stk} {us0:List U} {H:Hp} (hsi:SitS HL H q F0 gs0 hs0 bl0 ss0 ss0 szs) (hPi:Ps F0 us0 ss0) (hni:∀ s∈ss0,s.2.length≤0) {d:Code} {t:T Value} (g0:t.get 0=sv) (g1:t.get 1=lv) (g5:t.get 5=pA 23 0) (g9:t.get 9=pA (105+q) 0) (g11:t.get 11=pA (106+q) 0) (g12:t.get 12=sC (107+q) 0 (k) (2*k)) (g13:t.get 13=.func (.func 9) #[] #[pA (105+q) 0,pA 23 0,pA (106+q) 0]) (g81:t.get 81=lv) (g82:t.get 82=iN len) (g83:t.get 83=iN 0)
 {K:Ex→T Value→List Deferred→Hp→Prop} (hK:∀ t' H',K .normal t' [] H') :
 WK Tb0 sp e ⟨8,208,none,false⟩ (.block 2 (.loop d stk_l51)) t [] H K:=by
 have cnx:=c.nx
 have ck8:=c.k8
 have csl:=c.sl
 have hf_1:=hsi.fn
 have nx_1:=hsi.nx
 have hk_1:Kept H H:=.refl hf_1
 refine WK.block (WK.loop_ind (fun m t' ds' H'=>ds'=[]∧∃ i:Nat,∃ F:By,∃ us:List U,∃ gs:List Value,∃ hs:List Value,∃ bl:Nat→Nat,∃ ss:List Stk,m=len-i∧i≤len∧SitS HL H' q F gs hs bl ss ss szs∧Ps F us ss∧(∀ s∈ss,s.2.length≤i)∧t'.get 0=sv∧t'.get 1=lv∧t'.get 5=pA 23 0∧t'.get 9=pA (105+q) 0∧t'.get 11=pA (106+q) 0∧t'.get 12=sC (107+q) 0 (k) (2*k)∧t'.get 13=.func (.func 9) #[] #[pA (105+q) 0,pA 23 0,pA (106+q) 0]∧t'.get 81=lv∧t'.get 82=iN len∧t'.get 83=iN i) ?_ _ t [] H ⟨rfl,0,F0,us0,gs0,hs0,bl0,ss0,rfl,by omega,hsi,hPi,hni,g0,g1,g5,g9,g11,g12,g13,g81,g82,g83⟩)
 rintro m_l2 t_l2 ds_ H_l2 ⟨rfl,i,F,us,gs,hs,bl,ss,rfl,hi,hsM,hPM,hnM,g0_l2,g1_l2,g5_l2,g9_l2,g11_l2,g12_l2,g13_l2,g81_l2,g82_l2,g83_l2⟩
 have hf_3:=hsM.fn
 have nx_3:=hsM.nx
 have hk_3:Kept H_l2 H_l2:=.refl hf_3
 unfold stk_l51
 refine WK.seq ?_
 by_cases hlt:i<len
 case pos =>
  obtain ⟨x,hx⟩:∃ x,l[i]?=some x:=⟨_,List.getElem?_eq_getElem (by omega)⟩
  obtain ⟨lb,lo,vs,hel,hvs⟩:=(hl H_l2 fun b hb=>hsM.old (by omega) (by omega) (by omega) (by omega)).el hx
  subst hvs
  refine WK.reg_g ?_
  have d4_:decide (((i:Nat):Int)<((len:Nat):Int))=true:=decide_eq_true (by omega)
  refine WOG.all (fun t' H'=>H_l2=H'∧GT t' [(0,sv),(1,lv),(5,pA 23 0),(9,pA (105+q) 0),(11,pA (106+q) 0),(12,sC (107+q) 0 (k) (2*k)),(13,.func (.func 9) #[] #[pA (105+q) 0,pA 23 0,pA (106+q) 0]),(81,lv),(82,iN len),(83,iN i),(84,.bool true)]) ?_ ?_
  ·simp +decide only [stk_r20,g0_l2,g1_l2,g5_l2,g9_l2,g11_l2,g12_l2,g13_l2,g81_l2,g82_l2,g83_l2,d4_,Xo 8,go_sem]
  rintro t5_ _ ⟨rfl,g0_5,g1_5,g5_5,g9_5,g11_5,g12_5,g13_5,g81_5,g82_5,g83_5,g84_5, -⟩
  refine WK.seq ?_
  refine WK.cond (v:=true) (by rw [evalO_tmp,g84_5];rfl) ?_
  refine WK.skip ?_
  refine WK.seq ?_
  refine WK.block ?_
  refine WK.seq ?_
  refine WK.reg_g ?_
  have m7_:exIaS 1 lv (iN i) H_l2=.val (pA lb lo) H_l2 0 0:=hel.addr
  have m8_:exLd1 (pA lb lo) H_l2=.val (.int .i64 (x)) H_l2 (bit (lb)) 0:=hel.ld1 0 _ rfl
  have o9_:e.ok (bit (lb)) 0 H_l2:=hel.ok
  refine WOG.all (fun t' H'=>H_l2=H'∧GT t' [(0,sv),(1,lv),(5,pA 23 0),(9,pA (105+q) 0),(11,pA (106+q) 0),(12,sC (107+q) 0 (k) (2*k)),(13,.func (.func 9) #[] #[pA (105+q) 0,pA 23 0,pA (106+q) 0]),(14,iN i),(15,.int .i64 (x)),(81,lv),(82,iN len),(83,iN i)]) ?_ ?_
  ·simp +decide only [stk_r21,g0_5,g1_5,g5_5,g9_5,g11_5,g12_5,g13_5,g81_5,g82_5,g83_5,g84_5,m7_,m8_,o9_,Xo 8,go_sem]
  rintro t10_ _ ⟨rfl,g0_10,g1_10,g5_10,g9_10,g11_10,g12_10,g13_10,g14_10,g15_10,g81_10,g82_10,g83_10, -⟩
  refine WK.seq ?_
  obtain ⟨kk,hkk,hkm⟩:=modL x (L:=k) (by omega)
  obtain ⟨hb1_,hb2_⟩:=tmod_b x (L:=k) (by omega)
  obtain ⟨s,hss⟩:∃ s,ss[kk]?=some s:=⟨_,List.getElem?_eq_getElem (by rw [hsM.len_g];omega)⟩
  obtain ⟨v,hv⟩:∃ v,hs[kk]?=some v:=⟨_,List.getElem?_eq_getElem (by rw [hsM.lh];omega)⟩
  have hsln:=hnM s (List.mem_of_getElem? hss)
  obtain ⟨hz, -,hz1,hz2⟩:=hsM.size c hss
  obtain ⟨A,B,hsp,hset⟩:=set_split hss
  refine WK.reg_g ?_
  have m12_:∀ Hq,exLen 1 sv Hq=.val (vN ((k:Nat):Int)) Hq 0 0:=hlen0
  have m13_:∀ Hq,R.o (binV .rem (.int .i64 (x)) (iN k)) Hq=.val (.int .i64 (x.tmod ((k:Nat):Int))) Hq 0 0:=fun Hq=>remI (by omega) Hq
  have m14_:∀ Hq,exLen 1 sv Hq=.val (vN ((k:Nat):Int)) Hq 0 0:=hlen0
  have w15_:Value.int .i64 (wrapF .i64 (((x.tmod ((k:Nat):Int)))+((k:Nat):Int)))=.int .i64 (((x.tmod ((k:Nat):Int)))+((k:Nat):Int)):=congrArg _ (wrapF_i64 (by omega) (by omega))
  have m16_:∀ Hq,exLen 1 sv Hq=.val (vN ((k:Nat):Int)) Hq 0 0:=hlen0
  have m17_:∀ Hq,R.o (binV .rem (.int .i64 ((((x.tmod ((k:Nat):Int)))+((k:Nat):Int)))) (iN k)) Hq=.val (iN kk) Hq 0 0:=fun Hq=>by rw [remI (by omega),hkm]
  refine WOG.all (fun t' H'=>H_l2=H'∧GT t' [(0,sv),(1,lv),(5,pA 23 0),(9,pA (105+q) 0),(11,pA (106+q) 0),(12,sC (107+q) 0 (k) (2*k)),(13,.func (.func 9) #[] #[pA (105+q) 0,pA 23 0,pA (106+q) 0]),(14,iN i),(15,.int .i64 (x)),(16,iN kk),(81,lv),(82,iN len),(83,iN i)]) ?_ ?_
  ·simp +decide only [stk_r22,g0_10,g1_10,g5_10,g9_10,g11_10,g12_10,g13_10,g14_10,g15_10,g81_10,g82_10,g83_10,m12_,m13_,m14_,w15_,m16_,m17_,Xo 8,go_sem]
  rintro t18_ _ ⟨rfl,g0_18,g1_18,g5_18,g9_18,g11_18,g12_18,g13_18,g14_18,g15_18,g16_18,g81_18,g82_18,g83_18, -⟩
  refine WK.seq ?_
  refine WK.seq ?_
  by_cases hneg:x<0
  case pos =>
   refine WK.reg_g ?_
   have d20_:decide (x<(0:Int))=true:=decide_eq_true (by omega)
   refine WOG.all (fun t' H'=>H_l2=H'∧GT t' [(0,sv),(1,lv),(5,pA 23 0),(9,pA (105+q) 0),(11,pA (106+q) 0),(12,sC (107+q) 0 (k) (2*k)),(13,.func (.func 9) #[] #[pA (105+q) 0,pA 23 0,pA (106+q) 0]),(14,iN i),(16,iN kk),(81,lv),(82,iN len),(83,iN i),(99,.bool true)]) ?_ ?_
   ·simp +decide only [stk_r23,g0_18,g1_18,g5_18,g9_18,g11_18,g12_18,g13_18,g14_18,g15_18,g16_18,g81_18,g82_18,g83_18,d20_,Xo 8,go_sem]
   rintro t21_ _ ⟨rfl,g0_21,g1_21,g5_21,g9_21,g11_21,g12_21,g13_21,g14_21,g16_21,g81_21,g82_21,g83_21,g99_21, -⟩
   refine WK.cond (v:=true) (by rw [evalO_tmp,g99_21];rfl) ?_
   refine WK.seq ?_
   refine WK.reg_g ?_
   have m23_:∀ Hq,exIaS 1 (sC (107+q) 0 (k) (2*k)) (iN kk) Hq=.val (pA (107+q) kk) Hq 0 0:=fun Hq=>by rw [exIaS_int (by omega) (by omega)];simp
   have m24_:exLd1 (pA (107+q) kk) H_l2=.val (v) H_l2 (bit (107+q)) 0:=exLd1_row hsM.rh hv
   have o25_:e.ok (bit (107+q)) 0 H_l2:=.read hsM.rh.lt (fun h=>absurd h (by omega))
   have m26_:∀ Hq,exLen 1 v Hq=.val (vN ((s.2.length:Nat):Int)) Hq 0 0:=fun Hq=>sit_len (hsM.hl _ _ _ hv hss) Hq
   refine WOG.all (fun t' H'=>H_l2=H'∧GT t' [(0,sv),(1,lv),(5,pA 23 0),(9,pA (105+q) 0),(11,pA (106+q) 0),(12,sC (107+q) 0 (k) (2*k)),(13,.func (.func 9) #[] #[pA (105+q) 0,pA 23 0,pA (106+q) 0]),(14,iN i),(16,iN kk),(17,iN (s.2.length)),(81,lv),(82,iN len),(83,iN i)]) ?_ ?_
   ·simp +decide only [stk_r24,g0_21,g1_21,g5_21,g9_21,g11_21,g12_21,g13_21,g14_21,g16_21,g81_21,g82_21,g83_21,g99_21,m23_,m24_,o25_,m26_,Xo 8,go_sem]
   rintro t27_ _ ⟨rfl,g0_27,g1_27,g5_27,g9_27,g11_27,g12_27,g13_27,g14_27,g16_27,g17_27,g81_27,g82_27,g83_27, -⟩
   refine WK.seq ?_
   refine WK.seq ?_
   refine WK.reg_g ?_
   refine WOG.hide fun K0 hK0=>?_
   have m29_:exLd1 (pA (105+q) 0) H_l2=.val (pA (78+q) 0) H_l2 (bit (105+q)) 0:=exLd1_row (c.at hsM c.ps (by omega) (by omega) (by omega)) rfl
   have o30_:=okr (e:=e) (c.at hsM c.ps (by omega) (by omega) (by omega)) (by omega)
   have hs31_:=hsM.kept c hk_3
   simp +decide only [stk_r25,g9_27,g16_27,m29_,o30_,Xo 8,go_sem]
   refine EC.mono (hs31_.pop c S he0 hPM hss (by omega)) fun v H32_ _ hv33_=>?_
   rcases hv33_ with ⟨hnil,rfl,hE⟩ | ⟨st0,e0,F1,us1,gs1,hst,rfl,hsP,hPP⟩
   ·
    rw [hE];clear hE
    have hls:s.2.length=0:=by rw [hnil];rfl
    rw [WOGk]
    refine WOG.all (fun t' H'=>H_l2=H'∧GT t' [(0,sv),(1,lv),(5,pA 23 0),(9,pA (105+q) 0),(11,pA (106+q) 0),(12,sC (107+q) 0 (k) (2*k)),(13,.func (.func 9) #[] #[pA (105+q) 0,pA 23 0,pA (106+q) 0]),(14,iN i),(16,iN kk),(17,iN (s.2.length)),(18,.int .i64 (2)),(81,lv),(82,iN len),(83,iN i)]) ?_ ?_
    ·simp +decide only [stk_r25,g0_27,g1_27,g5_27,g9_27,g11_27,g12_27,g13_27,g14_27,g16_27,g17_27,g81_27,g82_27,g83_27,Xo 8,go_sem]
    rintro t34_ _ ⟨rfl,g0_34,g1_34,g5_34,g9_34,g11_34,g12_34,g13_34,g14_34,g16_34,g17_34,g18_34,g81_34,g82_34,g83_34, -⟩
    refine hK0 _ _ ?_
    refine WK.seq ?_
    refine WK.reg_g ?_
    have d36_:decide ((2:Int)=(0:Int))=false:=decide_eq_false (by omega)
    have d37_:decide ((0:Int)<((s.2.length:Nat):Int))=false:=decide_eq_false (by omega)
    have m38_:∀ Hq,exEq true (.one .b) (.bool false) (.bool false) Hq=.val (.bool false) Hq 0 0:=fun Hq=>rfl
    refine WOG.all (fun t' H'=>H_l2=H'∧GT t' [(0,sv),(1,lv),(5,pA 23 0),(9,pA (105+q) 0),(11,pA (106+q) 0),(12,sC (107+q) 0 (k) (2*k)),(13,.func (.func 9) #[] #[pA (105+q) 0,pA 23 0,pA (106+q) 0]),(14,iN i),(16,iN kk),(17,iN (s.2.length)),(81,lv),(82,iN len),(83,iN i),(112,.bool false)]) ?_ ?_
    ·simp +decide only [stk_r26,g0_34,g1_34,g5_34,g9_34,g11_34,g12_34,g13_34,g14_34,g16_34,g17_34,g18_34,g81_34,g82_34,g83_34,d36_,d37_,m38_,Xo 8,go_sem]
    rintro t39_ _ ⟨rfl,g0_39,g1_39,g5_39,g9_39,g11_39,g12_39,g13_39,g14_39,g16_39,g17_39,g81_39,g82_39,g83_39,g112_39, -⟩
    refine WK.cond (v:=false) (by rw [evalO_tmp,g112_39];rfl) ?_
    refine WK.skip ?_
    have hs41_:=hsM.kept c hk_3
    have hsQ:=hs41_
    obtain ⟨v2,HC,hC1,hC2,hC3,hC4,hsC⟩:=hsQ.cutst c he0 hv hss (j:=0) (by omega)
    refine WK.reg_g ?_
    have m42_:∀ Hq,exIaS 1 (sC (107+q) 0 (k) (2*k)) (iN kk) Hq=.val (pA (107+q) kk) Hq 0 0:=fun Hq=>by rw [exIaS_int (by omega) (by omega)];simp
    have m43_:exLd1 (pA (107+q) kk) H_l2=.val (v) H_l2 (bit (107+q)) 0:=exLd1_row hsM.rh hv
    have o44_:e.ok (bit (107+q)) 0 H_l2:=.read hsM.rh.lt (fun h=>absurd h (by omega))
    have m45_:Value.int .i64 (wrapF .i64 (((s.2.length:Nat):Int)-(1:Int)))=.int .i64 (-1):=wF (by omega)
    have m46_:∀ Hq,exMin false (.int .i64 (0)) (.int .i64 (-1)) Hq=.val (.int .i64 (0)) Hq 0 0:=fun Hq=>rfl
    have m47_:∀ Hq,exSlL 1 v none (some (.int .i64 (0))) none Hq=.val v2 Hq 0 0:=fun Hq=>hC1 Hq
    have m48_:∀ Hq,exIaS 1 (sC (107+q) 0 (k) (2*k)) (iN kk) Hq=.val (pA (107+q) kk) Hq 0 0:=fun Hq=>by rw [exIaS_int (by omega) (by omega)];simp
    have hC2:exSt 1 (pA (107+q) kk) v2 H_l2=.val U HC 0 (bit (107+q)):=hC2
    refine WOG.all (fun t' H'=>HC=H'∧GT t' [(0,sv),(1,lv),(5,pA 23 0),(9,pA (105+q) 0),(11,pA (106+q) 0),(12,sC (107+q) 0 (k) (2*k)),(13,.func (.func 9) #[] #[pA (105+q) 0,pA 23 0,pA (106+q) 0]),(14,iN i),(16,iN kk),(81,lv),(82,iN len),(83,iN i)]) ?_ ?_
    ·simp +decide only [stk_r28,g0_39,g1_39,g5_39,g9_39,g11_39,g12_39,g13_39,g14_39,g16_39,g17_39,g81_39,g82_39,g83_39,g112_39,m42_,m43_,o44_,m45_,m46_,m47_,m48_,hC2,hC3,hC4,Xo 8,go_sem]
    rintro t49_ _ ⟨rfl,g0_49,g1_49,g5_49,g9_49,g11_49,g12_49,g13_49,g14_49,g16_49,g81_49,g82_49,g83_49, -⟩
    have hsE:SitS HL HC q F gs ((hs.set kk v2)) bl ss ss szs:=by
     have h_:=hsC
     rwa [hnil,List.take_nil,show (s.1,([]:List (Nat×UInt8)))=s from by rw [← hnil],set_self hss] at h_
    have hf_51:=hsE.fn
    have nx_51:=hsE.nx
    have hk_51:Kept HC HC:=.refl hf_51
    refine WK.seq ?_
    refine WK.reg_g ?_
    have m52_:∀ Hq,exLen 1 (sC (107+q) 0 (k) (2*k)) Hq=.val (vN ((k:Nat))) Hq 0 0:=fun _=>rfl
    refine WOG.all (fun t' H'=>HC=H'∧GT t' [(0,sv),(1,lv),(5,pA 23 0),(9,pA (105+q) 0),(11,pA (106+q) 0),(12,sC (107+q) 0 (k) (2*k)),(13,.func (.func 9) #[] #[pA (105+q) 0,pA 23 0,pA (106+q) 0]),(14,iN i),(16,iN kk),(81,lv),(82,iN len),(83,iN i),(147,sC (107+q) 0 (k) (2*k)),(148,iN k),(149,.int .i64 (0))]) ?_ ?_
    ·simp +decide only [stk_r33,g0_49,g1_49,g5_49,g9_49,g11_49,g12_49,g13_49,g14_49,g16_49,g81_49,g82_49,g83_49,m52_,Xo 8,go_sem]
    rintro t53_ _ ⟨rfl,g0_53,g1_53,g5_53,g9_53,g11_53,g12_53,g13_53,g14_53,g16_53,g81_53,g82_53,g83_53,g147_53,g148_53,g149_53, -⟩
    have hs55_:=hsE.kept c hk_51
    refine look_ok S c he0 hlen0 hlen hs55_ hPM (fun s_ h_=>by have:=hnM s_ h_;omega) g0_53 g1_53 g5_53 g9_53 g11_53 g12_53 g13_53 g81_53 g82_53 g83_53 g148_53 g147_53 g149_53 fun t2 H2 hsG G0 G1 G5 G9 G11 G12 G13 G81 G82 G83=>?_
    have hf_56:=hsG.fn
    have nx_56:=hsG.nx
    have hk_56:Kept H2 H2:=.refl hf_56
    refine WK.reg_g ?_
    have w57_:Value.int .i64 (wrapF .i64 (((i:Nat):Int)+(1:Int)))=.int .i64 (((i+1):Nat):Int):=wF (by omega)
    refine WOG.all (fun t' H'=>H2=H'∧GT t' [(0,sv),(1,lv),(5,pA 23 0),(9,pA (105+q) 0),(11,pA (106+q) 0),(12,sC (107+q) 0 (k) (2*k)),(13,.func (.func 9) #[] #[pA (105+q) 0,pA 23 0,pA (106+q) 0]),(81,lv),(82,iN len),(83,iN ((i+1)))]) ?_ ?_
    ·simp +decide only [stk_r50,G0,G1,G5,G9,G11,G12,G13,G81,G82,G83,w57_,Xo 8,go_sem]
    rintro t58_ _ ⟨rfl,g0_58,g1_58,g5_58,g9_58,g11_58,g12_58,g13_58,g81_58,g82_58,g83_58, -⟩
    have hs60_:=hsG.kept c hk_56
    exact ⟨_,by omega,rfl,i+1,F,us,gs,((hs.set kk v2)),bl,ss,rfl,by omega,hs60_,hPM,fun s_ h_=>by have:=hnM s_ h_;omega,g0_58,g1_58,g5_58,g9_58,g11_58,g12_58,g13_58,g81_58,g82_58,g83_58⟩
   ·
    have hls:s.2.length=st0.length+1:=by rw [hst];simp
    have hf_34:=hsP.fn
    have nx_34:=hsP.nx
    have hk_34:Kept H32_ H32_:=.refl hf_34
    rw [WOGk]
    refine WOG.all (fun t' H'=>H32_=H'∧GT t' [(0,sv),(1,lv),(5,pA 23 0),(9,pA (105+q) 0),(11,pA (106+q) 0),(12,sC (107+q) 0 (k) (2*k)),(13,.func (.func 9) #[] #[pA (105+q) 0,pA 23 0,pA (106+q) 0]),(14,iN i),(16,iN kk),(17,iN (s.2.length)),(18,.int .i64 (0)),(81,lv),(82,iN len),(83,iN i)]) ?_ ?_
    ·simp +decide only [stk_r25,g0_27,g1_27,g5_27,g9_27,g11_27,g12_27,g13_27,g14_27,g16_27,g17_27,g81_27,g82_27,g83_27,Xo 8,go_sem]
    rintro t35_ _ ⟨rfl,g0_35,g1_35,g5_35,g9_35,g11_35,g12_35,g13_35,g14_35,g16_35,g17_35,g18_35,g81_35,g82_35,g83_35, -⟩
    refine hK0 _ _ ?_
    refine WK.seq ?_
    refine WK.reg_g ?_
    have d37_:decide ((0:Int)=(0:Int))=true:=decide_eq_true (by omega)
    have d38_:decide ((0:Int)<((s.2.length:Nat):Int))=true:=decide_eq_true (by omega)
    have m39_:∀ Hq,exEq true (.one .b) (.bool true) (.bool true) Hq=.val (.bool false) Hq 0 0:=fun Hq=>rfl
    refine WOG.all (fun t' H'=>H32_=H'∧GT t' [(0,sv),(1,lv),(5,pA 23 0),(9,pA (105+q) 0),(11,pA (106+q) 0),(12,sC (107+q) 0 (k) (2*k)),(13,.func (.func 9) #[] #[pA (105+q) 0,pA 23 0,pA (106+q) 0]),(14,iN i),(16,iN kk),(17,iN (s.2.length)),(81,lv),(82,iN len),(83,iN i),(112,.bool false)]) ?_ ?_
    ·simp +decide only [stk_r26,g0_35,g1_35,g5_35,g9_35,g11_35,g12_35,g13_35,g14_35,g16_35,g17_35,g18_35,g81_35,g82_35,g83_35,d37_,d38_,m39_,Xo 8,go_sem]
    rintro t40_ _ ⟨rfl,g0_40,g1_40,g5_40,g9_40,g11_40,g12_40,g13_40,g14_40,g16_40,g17_40,g81_40,g82_40,g83_40,g112_40, -⟩
    refine WK.cond (v:=false) (by rw [evalO_tmp,g112_40];rfl) ?_
    refine WK.skip ?_
    have hs42_:=hsP.kept c hk_34
    have hsQ:=hs42_
    obtain ⟨v2,HC,hC1,hC2,hC3,hC4,hsC⟩:=hsQ.cutst c he0 hv hss (j:=st0.length) (by omega)
    refine WK.reg_g ?_
    have m43_:∀ Hq,exIaS 1 (sC (107+q) 0 (k) (2*k)) (iN kk) Hq=.val (pA (107+q) kk) Hq 0 0:=fun Hq=>by rw [exIaS_int (by omega) (by omega)];simp
    have m44_:exLd1 (pA (107+q) kk) H32_=.val (v) H32_ (bit (107+q)) 0:=exLd1_row hsP.rh hv
    have o45_:e.ok (bit (107+q)) 0 H32_:=.read hsP.rh.lt (fun h=>absurd h (by omega))
    have m46_:Value.int .i64 (wrapF .i64 (((s.2.length:Nat):Int)-(1:Int)))=iN (st0.length):=wF (by omega)
    have m47_:∀ Hq,exMin false (.int .i64 (0)) (iN (st0.length)) Hq=.val (iN (st0.length)) Hq 0 0:=fun Hq=>max0 _ Hq
    have m48_:∀ Hq,exSlL 1 v none (some (iN (st0.length))) none Hq=.val v2 Hq 0 0:=fun Hq=>hC1 Hq
    have m49_:∀ Hq,exIaS 1 (sC (107+q) 0 (k) (2*k)) (iN kk) Hq=.val (pA (107+q) kk) Hq 0 0:=fun Hq=>by rw [exIaS_int (by omega) (by omega)];simp
    have hC2:exSt 1 (pA (107+q) kk) v2 H32_=.val U HC 0 (bit (107+q)):=hC2
    refine WOG.all (fun t' H'=>HC=H'∧GT t' [(0,sv),(1,lv),(5,pA 23 0),(9,pA (105+q) 0),(11,pA (106+q) 0),(12,sC (107+q) 0 (k) (2*k)),(13,.func (.func 9) #[] #[pA (105+q) 0,pA 23 0,pA (106+q) 0]),(14,iN i),(16,iN kk),(81,lv),(82,iN len),(83,iN i)]) ?_ ?_
    ·simp +decide only [stk_r28,g0_40,g1_40,g5_40,g9_40,g11_40,g12_40,g13_40,g14_40,g16_40,g17_40,g81_40,g82_40,g83_40,g112_40,m43_,m44_,o45_,m46_,m47_,m48_,m49_,hC2,hC3,hC4,Xo 8,go_sem]
    rintro t50_ _ ⟨rfl,g0_50,g1_50,g5_50,g9_50,g11_50,g12_50,g13_50,g14_50,g16_50,g81_50,g82_50,g83_50, -⟩
    have hsE:SitS HL HC q F1 gs1 ((hs.set kk v2)) bl ((ss.set kk (s.1,st0))) ((ss.set kk (s.1,st0))) szs:=by
     have h_:=hsC
     rwa [show s.2.take st0.length=st0 from by rw [hst];simp] at h_
    have hf_52:=hsE.fn
    have nx_52:=hsE.nx
    have hk_52:Kept HC HC:=.refl hf_52
    refine WK.seq ?_
    refine WK.reg_g ?_
    have m53_:∀ Hq,exLen 1 (sC (107+q) 0 (k) (2*k)) Hq=.val (vN ((k:Nat))) Hq 0 0:=fun _=>rfl
    refine WOG.all (fun t' H'=>HC=H'∧GT t' [(0,sv),(1,lv),(5,pA 23 0),(9,pA (105+q) 0),(11,pA (106+q) 0),(12,sC (107+q) 0 (k) (2*k)),(13,.func (.func 9) #[] #[pA (105+q) 0,pA 23 0,pA (106+q) 0]),(14,iN i),(16,iN kk),(81,lv),(82,iN len),(83,iN i),(147,sC (107+q) 0 (k) (2*k)),(148,iN k),(149,.int .i64 (0))]) ?_ ?_
    ·simp +decide only [stk_r33,g0_50,g1_50,g5_50,g9_50,g11_50,g12_50,g13_50,g14_50,g16_50,g81_50,g82_50,g83_50,m53_,Xo 8,go_sem]
    rintro t54_ _ ⟨rfl,g0_54,g1_54,g5_54,g9_54,g11_54,g12_54,g13_54,g14_54,g16_54,g81_54,g82_54,g83_54,g147_54,g148_54,g149_54, -⟩
    have hs56_:=hsE.kept c hk_52
    refine look_ok S c he0 hlen0 hlen hs56_ hPP (fun s_ h_=>by rcases List.mem_or_eq_of_mem_set h_ with h_ | rfl <;> first | (have:=hnM s_ h_;omega) | (show st0.length≤_;omega)) g0_54 g1_54 g5_54 g9_54 g11_54 g12_54 g13_54 g81_54 g82_54 g83_54 g148_54 g147_54 g149_54 fun t2 H2 hsG G0 G1 G5 G9 G11 G12 G13 G81 G82 G83=>?_
    have hf_57:=hsG.fn
    have nx_57:=hsG.nx
    have hk_57:Kept H2 H2:=.refl hf_57
    refine WK.reg_g ?_
    have w58_:Value.int .i64 (wrapF .i64 (((i:Nat):Int)+(1:Int)))=.int .i64 (((i+1):Nat):Int):=wF (by omega)
    refine WOG.all (fun t' H'=>H2=H'∧GT t' [(0,sv),(1,lv),(5,pA 23 0),(9,pA (105+q) 0),(11,pA (106+q) 0),(12,sC (107+q) 0 (k) (2*k)),(13,.func (.func 9) #[] #[pA (105+q) 0,pA 23 0,pA (106+q) 0]),(81,lv),(82,iN len),(83,iN ((i+1)))]) ?_ ?_
    ·simp +decide only [stk_r50,G0,G1,G5,G9,G11,G12,G13,G81,G82,G83,w58_,Xo 8,go_sem]
    rintro t59_ _ ⟨rfl,g0_59,g1_59,g5_59,g9_59,g11_59,g12_59,g13_59,g81_59,g82_59,g83_59, -⟩
    have hs61_:=hsG.kept c hk_57
    exact ⟨_,by omega,rfl,i+1,F1,us1,gs1,((hs.set kk v2)),bl,((ss.set kk (s.1,st0))),rfl,by omega,hs61_,hPP,fun s_ h_=>by rcases List.mem_or_eq_of_mem_set h_ with h_ | rfl <;> first | (have:=hnM s_ h_;omega) | (show st0.length≤_;omega),g0_59,g1_59,g5_59,g9_59,g11_59,g12_59,g13_59,g81_59,g82_59,g83_59⟩
  case neg =>
   refine WK.reg_g ?_
   have d20_:decide (x<(0:Int))=false:=decide_eq_false (by omega)
   refine WOG.all (fun t' H'=>H_l2=H'∧GT t' [(0,sv),(1,lv),(5,pA 23 0),(9,pA (105+q) 0),(11,pA (106+q) 0),(12,sC (107+q) 0 (k) (2*k)),(13,.func (.func 9) #[] #[pA (105+q) 0,pA 23 0,pA (106+q) 0]),(14,iN i),(16,iN kk),(81,lv),(82,iN len),(83,iN i),(99,.bool false)]) ?_ ?_
   ·simp +decide only [stk_r23,g0_18,g1_18,g5_18,g9_18,g11_18,g12_18,g13_18,g14_18,g15_18,g16_18,g81_18,g82_18,g83_18,d20_,Xo 8,go_sem]
   rintro t21_ _ ⟨rfl,g0_21,g1_21,g5_21,g9_21,g11_21,g12_21,g13_21,g14_21,g16_21,g81_21,g82_21,g83_21,g99_21, -⟩
   refine WK.cond (v:=false) (by rw [evalO_tmp,g99_21];rfl) ?_
   refine WK.seq ?_
   refine WK.reg_g ?_
   refine WOG.hide fun K0 hK0=>?_
   have m23_:exLd1 (pA (105+q) 0) H_l2=.val (pA (78+q) 0) H_l2 (bit (105+q)) 0:=exLd1_row (c.at hsM c.ps (by omega) (by omega) (by omega)) rfl
   have o24_:=okr (e:=e) (c.at hsM c.ps (by omega) (by omega) (by omega)) (by omega)
   have hs25_:=hsM.kept c hk_3
   simp +decide only [stk_r29,g9_21,g16_21,m23_,o24_,Xo 8,go_sem]
   refine EC.mono (hs25_.push c S he0 hPM hss (by omega) (UInt8.ofNat (33+i))) fun v H26_ _ hv27_=>?_
   rcases hv27_ with ⟨rfl,hsA⟩ | ⟨off,F1,us1,gs1,bl1,rfl,hsB,hN⟩
   ·
    have hf_28:=hsA.fn
    have nx_28:=hsA.nx
    have hk_28:Kept H26_ H26_:=.refl hf_28
    rw [WOGk]
    have d29_:decide ((5:Int)=(0:Int))=false:=decide_eq_false (by omega)
    refine WOG.all (fun t' H'=>H26_=H'∧GT t' [(0,sv),(1,lv),(5,pA 23 0),(9,pA (105+q) 0),(11,pA (106+q) 0),(12,sC (107+q) 0 (k) (2*k)),(13,.func (.func 9) #[] #[pA (105+q) 0,pA 23 0,pA (106+q) 0]),(14,iN i),(16,iN kk),(81,lv),(82,iN len),(83,iN i),(127,.bool false)]) ?_ ?_
    ·simp +decide only [stk_r29,g0_21,g1_21,g5_21,g9_21,g11_21,g12_21,g13_21,g14_21,g16_21,g81_21,g82_21,g83_21,g99_21,d29_,Xo 8,go_sem]
    rintro t30_ _ ⟨rfl,g0_30,g1_30,g5_30,g9_30,g11_30,g12_30,g13_30,g14_30,g16_30,g81_30,g82_30,g83_30,g127_30, -⟩
    refine hK0 _ _ ?_
    refine WK.cond (v:=false) (by rw [evalO_tmp,g127_30];rfl) ?_
    refine WK.skip ?_
    refine WK.seq ?_
    refine WK.reg_g ?_
    have m32_:∀ Hq,exLen 1 (sC (107+q) 0 (k) (2*k)) Hq=.val (vN ((k:Nat))) Hq 0 0:=fun _=>rfl
    refine WOG.all (fun t' H'=>H26_=H'∧GT t' [(0,sv),(1,lv),(5,pA 23 0),(9,pA (105+q) 0),(11,pA (106+q) 0),(12,sC (107+q) 0 (k) (2*k)),(13,.func (.func 9) #[] #[pA (105+q) 0,pA 23 0,pA (106+q) 0]),(14,iN i),(16,iN kk),(81,lv),(82,iN len),(83,iN i),(147,sC (107+q) 0 (k) (2*k)),(148,iN k),(149,.int .i64 (0))]) ?_ ?_
    ·simp +decide only [stk_r33,g0_30,g1_30,g5_30,g9_30,g11_30,g12_30,g13_30,g14_30,g16_30,g81_30,g82_30,g83_30,g127_30,m32_,Xo 8,go_sem]
    rintro t33_ _ ⟨rfl,g0_33,g1_33,g5_33,g9_33,g11_33,g12_33,g13_33,g14_33,g16_33,g81_33,g82_33,g83_33,g147_33,g148_33,g149_33, -⟩
    have hs35_:=hsA.kept c hk_28
    refine look_ok S c he0 hlen0 hlen hs35_ hPM (fun s_ h_=>by have:=hnM s_ h_;omega) g0_33 g1_33 g5_33 g9_33 g11_33 g12_33 g13_33 g81_33 g82_33 g83_33 g148_33 g147_33 g149_33 fun t2 H2 hsG G0 G1 G5 G9 G11 G12 G13 G81 G82 G83=>?_
    have hf_36:=hsG.fn
    have nx_36:=hsG.nx
    have hk_36:Kept H2 H2:=.refl hf_36
    refine WK.reg_g ?_
    have w37_:Value.int .i64 (wrapF .i64 (((i:Nat):Int)+(1:Int)))=.int .i64 (((i+1):Nat):Int):=wF (by omega)
    refine WOG.all (fun t' H'=>H2=H'∧GT t' [(0,sv),(1,lv),(5,pA 23 0),(9,pA (105+q) 0),(11,pA (106+q) 0),(12,sC (107+q) 0 (k) (2*k)),(13,.func (.func 9) #[] #[pA (105+q) 0,pA 23 0,pA (106+q) 0]),(81,lv),(82,iN len),(83,iN ((i+1)))]) ?_ ?_
    ·simp +decide only [stk_r50,G0,G1,G5,G9,G11,G12,G13,G81,G82,G83,w37_,Xo 8,go_sem]
    rintro t38_ _ ⟨rfl,g0_38,g1_38,g5_38,g9_38,g11_38,g12_38,g13_38,g81_38,g82_38,g83_38, -⟩
    have hs40_:=hsG.kept c hk_36
    exact ⟨_,by omega,rfl,i+1,F,us,gs,hs,bl,ss,rfl,by omega,hs40_,hPM,fun s_ h_=>by have:=hnM s_ h_;omega,g0_38,g1_38,g5_38,g9_38,g11_38,g12_38,g13_38,g81_38,g82_38,g83_38⟩
   ·
    have hNlo:=hN.lo
    have hNhi:=hN.hi
    have hf_28:=hsB.fn
    have nx_28:=hsB.nx
    have hk_28:Kept H26_ H26_:=.refl hf_28
    rw [WOGk]
    have d29_:decide ((0:Int)=(0:Int))=true:=decide_eq_true (by omega)
    refine WOG.all (fun t' H'=>H26_=H'∧GT t' [(0,sv),(1,lv),(5,pA 23 0),(9,pA (105+q) 0),(11,pA (106+q) 0),(12,sC (107+q) 0 (k) (2*k)),(13,.func (.func 9) #[] #[pA (105+q) 0,pA 23 0,pA (106+q) 0]),(14,iN i),(16,iN kk),(81,lv),(82,iN len),(83,iN i),(127,.bool true)]) ?_ ?_
    ·simp +decide only [stk_r29,g0_21,g1_21,g5_21,g9_21,g11_21,g12_21,g13_21,g14_21,g16_21,g81_21,g82_21,g83_21,g99_21,d29_,Xo 8,go_sem]
    rintro t30_ _ ⟨rfl,g0_30,g1_30,g5_30,g9_30,g11_30,g12_30,g13_30,g14_30,g16_30,g81_30,g82_30,g83_30,g127_30, -⟩
    refine hK0 _ _ ?_
    refine WK.cond (v:=true) (by rw [evalO_tmp,g127_30];rfl) ?_
    refine WK.seq ?_
    have hs32_:=hsB.kept c hk_28
    have hsQ:=hs32_
    refine WK.reg_g ?_
    have m33_:∀ Hq,exIaS 1 (sC (107+q) 0 (k) (2*k)) (iN kk) Hq=.val (pA (107+q) kk) Hq 0 0:=fun Hq=>by rw [exIaS_int (by omega) (by omega)];simp
    have m34_:exLd1 (pA (107+q) kk) H26_=.val (v) H26_ (bit (107+q)) 0:=exLd1_row hsB.rh hv
    have o35_:e.ok (bit (107+q)) 0 H26_:=.read hsB.rh.lt (fun h=>absurd h (by omega))
    have w36_:Value.int .i64 (wrapF .i64 ((33:Int)+((i:Nat):Int)))=.int .i64 (((33+i):Nat):Int):=wF (by omega)
    have m37_:∀ Hq,exCInt .u8 (iN ((33+i))) Hq=.val (uB (UInt8.ofNat ((33+i)))) Hq 0 0:=cU8 _
    obtain ⟨H38_,e39_,rw40_,kp41_,nx42_⟩:=bsl_one hf_28 (UInt8.ofNat ((33+i)))
    have m43_:∀ t:T Value,t.get 136=uB (UInt8.ofNat ((33+i)))→fillL t [.int .u8 (0)] [(0,1,.tmp 136)]=some [uB (UInt8.ofNat ((33+i)))]:=fun t h0=>by simp only [fillL,evalO_tmp,h0];rfl
    have m44_:alloc1 (blkL [uB (UInt8.ofNat ((33+i)))] 5 0) H26_ (fun i=>mkSlV (some (i,0)) 1 1 false) 0 0=.val (.slice (some ⟨H26_.nx,0,none⟩) (1) (2*1)) H38_ 0 0:=e39_
    have hf45_:=kp41_.fn
    have m46_:H26_.nx≤H38_.nx:=by omega
    have k47_:=hk_28.trans kp41_
    have lt48_:=rw40_.lt
    obtain ⟨v2,HA,rA,wA,HC,hA1,hA2,hA3,hA4,hA5,hA6,bl2,hsE⟩:=hsQ.appst c he0 hv hss (by omega) (u:=UInt8.ofNat (33+i)) (off:=off) kp41_ nx42_ rw40_
    have m49_:∀ Hq,exIaS 1 (sC (107+q) 0 (k) (2*k)) (iN kk) Hq=.val (pA (107+q) kk) Hq 0 0:=fun Hq=>by rw [exIaS_int (by omega) (by omega)];simp
    refine WOG.all (fun t' H'=>HC=H'∧GT t' [(0,sv),(1,lv),(5,pA 23 0),(9,pA (105+q) 0),(11,pA (106+q) 0),(12,sC (107+q) 0 (k) (2*k)),(13,.func (.func 9) #[] #[pA (105+q) 0,pA 23 0,pA (106+q) 0]),(14,iN i),(16,iN kk),(81,lv),(82,iN len),(83,iN i)]) ?_ ?_
    ·simp +decide only [stk_r30,g0_30,g1_30,g5_30,g9_30,g11_30,g12_30,g13_30,g14_30,g16_30,g81_30,g82_30,g83_30,g127_30,m33_,m34_,o35_,w36_,m37_,m43_,exFill_some,m44_,m46_,hA1,hA2,hA3,m49_,hA4,hA5,hA6,Xo 8,go_sem]
    rintro t50_ _ ⟨rfl,g0_50,g1_50,g5_50,g9_50,g11_50,g12_50,g13_50,g14_50,g16_50,g81_50,g82_50,g83_50, -⟩
    have hf_52:=hsE.fn
    have nx_52:=hsE.nx
    have hk_52:Kept HC HC:=.refl hf_52
    refine WK.seq ?_
    refine WK.reg_g ?_
    refine WOG.hide fun K0 hK0=>?_
    have w53_:Value.int .i64 (wrapF .i64 ((33:Int)+((i:Nat):Int)))=.int .i64 (((33+i):Nat):Int):=wF (by omega)
    have m54_:∀ Hq,exCInt .u8 (iN ((33+i))) Hq=.val (uB (UInt8.ofNat ((33+i)))) Hq 0 0:=cU8 _
    have hPF_:Ps (fill F1 (57344+off) s.1 (UInt8.ofNat (33+i))) us1 (ss.set kk (s.1,s.2++[(off,UInt8.ofNat (33+i))])):=by
     rw [hset];refine PgN.push ?_ _;have h_:=hN;rwa [hsp] at h_
    have hs55_:=hsE.kept c hk_52
    simp +decide only [stk_r31,g13_50,g14_50,g16_50,w53_,m54_,Xo 8,go_sem]
    refine EC.mono (hs55_.fill c S he0 (s:=(s.1,s.2++[(off,UInt8.ofNat (33+i))])) (off:=off) (st0:=s.2) (u:=UInt8.ofNat (33+i)) (u0:=UInt8.ofNat (33+i)) (get_set_self hss) rfl hNhi (by rw [List.length_append];show s.2.length+1≤_;omega)) fun v H56_ _ hv57_=>?_
    obtain ⟨rfl,hsF⟩:=hv57_
    have hPF:=hPF_
    have hf_58:=hsF.fn
    have nx_58:=hsF.nx
    have hk_58:Kept H56_ H56_:=.refl hf_58
    rw [WOGk]
    refine WOG.all (fun t' H'=>H56_=H'∧GT t' [(0,sv),(1,lv),(5,pA 23 0),(9,pA (105+q) 0),(11,pA (106+q) 0),(12,sC (107+q) 0 (k) (2*k)),(13,.func (.func 9) #[] #[pA (105+q) 0,pA 23 0,pA (106+q) 0]),(16,iN kk),(81,lv),(82,iN len),(83,iN i),(146,.bool false)]) ?_ ?_
    ·simp +decide only [stk_r31,g0_50,g1_50,g5_50,g9_50,g11_50,g12_50,g13_50,g14_50,g16_50,g81_50,g82_50,g83_50,Xo 8,go_sem]
    rintro t59_ _ ⟨rfl,g0_59,g1_59,g5_59,g9_59,g11_59,g12_59,g13_59,g16_59,g81_59,g82_59,g83_59,g146_59, -⟩
    refine hK0 _ _ ?_
    refine WK.cond (v:=false) (by rw [evalO_tmp,g146_59];rfl) ?_
    refine WK.skip ?_
    refine WK.seq ?_
    refine WK.reg_g ?_
    have m61_:∀ Hq,exLen 1 (sC (107+q) 0 (k) (2*k)) Hq=.val (vN ((k:Nat))) Hq 0 0:=fun _=>rfl
    refine WOG.all (fun t' H'=>H56_=H'∧GT t' [(0,sv),(1,lv),(5,pA 23 0),(9,pA (105+q) 0),(11,pA (106+q) 0),(12,sC (107+q) 0 (k) (2*k)),(13,.func (.func 9) #[] #[pA (105+q) 0,pA 23 0,pA (106+q) 0]),(16,iN kk),(81,lv),(82,iN len),(83,iN i),(147,sC (107+q) 0 (k) (2*k)),(148,iN k),(149,.int .i64 (0))]) ?_ ?_
    ·simp +decide only [stk_r33,g0_59,g1_59,g5_59,g9_59,g11_59,g12_59,g13_59,g16_59,g81_59,g82_59,g83_59,g146_59,m61_,Xo 8,go_sem]
    rintro t62_ _ ⟨rfl,g0_62,g1_62,g5_62,g9_62,g11_62,g12_62,g13_62,g16_62,g81_62,g82_62,g83_62,g147_62,g148_62,g149_62, -⟩
    have hs64_:=hsF.kept c hk_58
    refine look_ok S c he0 hlen0 hlen hs64_ hPF (fun s_ h_=>by rcases List.mem_or_eq_of_mem_set h_ with h_ | rfl <;> first | (have:=hnM s_ h_;omega) | (show (s.2++_).length≤_;rw [List.length_append];show s.2.length+1≤_;omega)) g0_62 g1_62 g5_62 g9_62 g11_62 g12_62 g13_62 g81_62 g82_62 g83_62 g148_62 g147_62 g149_62 fun t2 H2 hsG G0 G1 G5 G9 G11 G12 G13 G81 G82 G83=>?_
    have hf_65:=hsG.fn
    have nx_65:=hsG.nx
    have hk_65:Kept H2 H2:=.refl hf_65
    refine WK.reg_g ?_
    have w66_:Value.int .i64 (wrapF .i64 (((i:Nat):Int)+(1:Int)))=.int .i64 (((i+1):Nat):Int):=wF (by omega)
    refine WOG.all (fun t' H'=>H2=H'∧GT t' [(0,sv),(1,lv),(5,pA 23 0),(9,pA (105+q) 0),(11,pA (106+q) 0),(12,sC (107+q) 0 (k) (2*k)),(13,.func (.func 9) #[] #[pA (105+q) 0,pA 23 0,pA (106+q) 0]),(81,lv),(82,iN len),(83,iN ((i+1)))]) ?_ ?_
    ·simp +decide only [stk_r50,G0,G1,G5,G9,G11,G12,G13,G81,G82,G83,w66_,Xo 8,go_sem]
    rintro t67_ _ ⟨rfl,g0_67,g1_67,g5_67,g9_67,g11_67,g12_67,g13_67,g81_67,g82_67,g83_67, -⟩
    have hs69_:=hsG.kept c hk_65
    exact ⟨_,by omega,rfl,i+1,((fill F1 (57344+off) s.1 (UInt8.ofNat (33+i)))),us1,gs1,((hs.set kk v2)),bl2,((ss.set kk (s.1,s.2++[(off,UInt8.ofNat (33+i))]))),rfl,by omega,hs69_,hPF,fun s_ h_=>by rcases List.mem_or_eq_of_mem_set h_ with h_ | rfl <;> first | (have:=hnM s_ h_;omega) | (show (s.2++_).length≤_;rw [List.length_append];show s.2.length+1≤_;omega),g0_67,g1_67,g5_67,g9_67,g11_67,g12_67,g13_67,g81_67,g82_67,g83_67⟩
 case neg =>
  refine WK.reg_g ?_
  have d4_:decide (((i:Nat):Int)<((len:Nat):Int))=false:=decide_eq_false (by omega)
  refine WOG.all (fun t' H'=>H_l2=H'∧GT t' [(0,sv),(1,lv),(5,pA 23 0),(9,pA (105+q) 0),(11,pA (106+q) 0),(12,sC (107+q) 0 (k) (2*k)),(13,.func (.func 9) #[] #[pA (105+q) 0,pA 23 0,pA (106+q) 0]),(81,lv),(82,iN len),(83,iN i),(84,.bool false)]) ?_ ?_
  ·simp +decide only [stk_r20,g0_l2,g1_l2,g5_l2,g9_l2,g11_l2,g12_l2,g13_l2,g81_l2,g82_l2,g83_l2,d4_,Xo 8,go_sem]
  rintro t5_ _ ⟨rfl,g0_5,g1_5,g5_5,g9_5,g11_5,g12_5,g13_5,g81_5,g82_5,g83_5,g84_5, -⟩
  refine WK.seq ?_
  refine WK.cond (v:=false) (by rw [evalO_tmp,g84_5];rfl) ?_
  refine WK.exit ?_
  exact hK _ _
end
section
attribute [local go_sem] Bc_f Bc_t GT Ro_some Rv_eq WOG Yj Yk Yn and_self and_true callV_func dec_F dec_T evalL evalO_const evalO_func evalO_tmp exEq_int exLen_str exPick_f exPick_t if_false if_true ok_zero putT_none run true_and wantsV_U wantsV_ff wantsV_ft wantsV_tf wantsV_tt wants_none' wants_some
variable {sp:Nat→List Value→Hp→Option (Value×Hp×Nat×Nat)} {e:Env}
set_option maxRecDepth 10000 in
set_option maxHeartbeats 4000000 in
theorem tailS_ok (S:SpX sp) (he0:e.n0≤23) {H:Hp} {q k cq len:Nat} {szs:List Nat} {L Lp Pc:List Value} {sv lv:Value} {l:List Int} (hf:H.isFn=true) (hnx:H.nx=106+q) (hk1:1≤k) (hk8:k≤8) (hlen0:∀ Hq:Hp,exLen 1 sv Hq=.val (vN ((k:Nat):Int)) Hq 0 0) (hlen:∀ Hq:Hp,exLen 1 lv Hq=.val (vN ((len:Nat):Int)) Hq 0 0)
 (hsl:l.length=len) (hl60:len≤60) (hl:∀ H':Hp,(∀ b,b<13→H'.blk b=H.blk b)→RowR e H' 1 (fun (x:Int) vs=>vs=[.int .i64 x]) lv l)
 (st:Row H (78+q) 104 0 L) (h0:L[0]?=some (.slice (some ⟨75+q,0,none⟩) 2 5)) (h5:L[5]?=some (.slice (some ⟨68+q,0,none⟩) k cq)) (h6:L[6]?=some (.pointer (some ⟨76+q,0,none⟩))) (h7:L[7]?=some (.slice (some ⟨104+q,0,none⟩) 1 3)) (h12:L[12]?=some (.slice (some ⟨77+q,0,none⟩) k (2*k))) (h19:L[19]?=some (.bool false))
 (pr:Row H (75+q) 88 8 Pc) (p1:Pc[1]?=some (.int .i64 (-1))) (ac:Row H (104+q) 128 11 acL) (ct:Row H (68+q) 3 2 (szs.map fun m=>iN (8*m))) (pb:Row H 23 29 0 Lp) (p5:Lp[5]?=some (.slice (some ⟨24+q,0,none⟩) k cq)) (cb:Row H (24+q) 3 2 (szs.map fun m=>iN (8*m))) (ps:Row H (105+q) 35 0 [pA (78+q) 0])
 (zl:szs.length=k) (zb:∀ m∈szs,1≤m∧m≤64) (mem:ByU H (76+q) 171 (fun _=>0) 65536) (gn:Row H (77+q) 22 0 (List.replicate k (.slice none 0 0)))
 {t:T Value} (g0:t.get 0=sv) (g1:t.get 1=lv) (g5:t.get 5=pA 23 0) (g9:t.get 9=pA (105+q) 0) (g10:t.get 10=.int .i64 (0)) :
 WK Tb0 sp e ⟨8,208,none,false⟩ (.seq (.seq (.reg stk_r14) (.cond (.tmp 75) (.seq (.reg stk_r15) .ret) .skip)) (.seq (.reg stk_r16) (.seq (.reg stk_r17) (.seq (.reg stk_r18) (.seq (.seq (.reg stk_r19) (.block 2 (.loop stk_body.sr.sr.sr.sr.sr.sr.sr.sr.sr.sr.sr.sl.sr.bl.lp stk_l51))) (.seq (.reg stk_r52) .ret)))))) t [] H (Go.Ev.Leaves Tb0 e Tryz.f3 fun v _=>v=.bool true):=by
 have hk0:Kept H H:=.refl hf
 have lt1_:=ps.lt
 refine WK.seq ?_
 refine WK.seq ?_
 refine WK.reg_g ?_
 have d2_:decide ((0:Int)=(0:Int))=true:=decide_eq_true (by omega)
 have m3_:exLd1 (pA (105+q) 0) H=.val (pA (78+q) 0) H (bit (105+q)) 0:=exLd1_row ps rfl
 have o4_:=okr (e:=e) ps (by omega)
 have m5_:∀ Hq,exEq false (.one .p) (pA (78+q) 0) (.pointer none) Hq=.val (.bool false) Hq 0 0:=fun Hq=>rfl
 refine WOG.all (fun t' H'=>H=H'∧GT t' [(0,sv),(1,lv),(5,pA 23 0),(9,pA (105+q) 0),(75,.bool false)]) ?_ ?_
 ·simp +decide only [stk_r14,g0,g1,g5,g9,g10,d2_,m3_,o4_,m5_,Xo 8,go_sem]
 rintro t6_ _ ⟨rfl,g0_6,g1_6,g5_6,g9_6,g75_6, -⟩
 refine WK.cond (v:=false) (by rw [evalO_tmp,g75_6];rfl) ?_
 refine WK.skip ?_
 refine WK.seq ?_
 refine WK.reg_g ?_
 have m8_:∀ t:T Value,fillL t [.int .i64 (0),.int .i64 (0),.int .i64 (0),.bool false,.string ⟨#[]⟩] [(0,1,(.const (.int .i64 (3)))),(1,1,(.const (.int .i64 (1))))]=some [.int .i64 (3),.int .i64 (1),.int .i64 (0),.bool false,.string ⟨#[]⟩]:=fun t=>by simp only [fillL,evalO_tmp,evalO_const];rfl
 obtain ⟨H9_,nb10_⟩:=newB hf [.int .i64 (0),.int .i64 (0),.int .i64 (0),.bool false,.string ⟨#[]⟩] 40
 have m11_:alloc1 (blkL [.int .i64 (0),.int .i64 (0),.int .i64 (0),.bool false,.string ⟨#[]⟩] 40 0) H ptrTo 0 0=.val (.pointer (some ⟨H.nx,0,none⟩)) H9_ 0 0:=nb10_.al
 have hf12_:=nb10_.kept.fn
 have nx13_:H9_.nx=H.nx+1:=nb10_.nx
 have m14_:H.nx≤H9_.nx:=by omega
 have lt15_:=nb10_.row.lt
 have k16_:=hk0.trans nb10_.kept
 obtain ⟨H17_,e18_,wr19_⟩:=exStN_at (o:=0) (vs:=[.int .i64 (3),.int .i64 (1),.int .i64 (0),.bool false,.string ⟨#[]⟩]) hf12_ nb10_.row (by show 0+5≤5;decide)
 have m20_:exSt 5 (pA H.nx 0) (.agg ⟨[.int .i64 (3),.int .i64 (1),.int .i64 (0),.bool false,.string ⟨#[]⟩]⟩) H9_=.val U H17_ 0 (bit (H.nx)):=e18_
 have hf21_:=wr19_.fn
 have nx22_:H17_.nx=H9_.nx:=wr19_.nx
 have m23_:H9_.nx≤H17_.nx:=by omega
 have r24_:Row H17_ (H.nx) 40 0 [.int .i64 (3),.int .i64 (1),.int .i64 (0),.bool false,.string ⟨#[]⟩]:=wr19_.row
 have o25_:e.ok 0 (bit (H.nx)) H17_:=.write r24_.lt (fun h=>absurd h (by omega))
 have k26_:Kept H H17_:=⟨wr19_.fn,by have:=k16_.nx;omega,fun c hc=>(wr19_.else_ c (by omega)).trans (k16_.old c hc)⟩
 refine WOG.all (fun t' H'=>H17_=H'∧GT t' [(0,sv),(1,lv),(5,pA 23 0),(9,pA (105+q) 0),(11,pA H.nx 0)]) ?_ ?_
 ·simp +decide only [stk_r16,g0_6,g1_6,g5_6,g9_6,g75_6,m8_,exFill_some,m11_,m14_,m20_,m23_,o25_,Xo 8,go_sem]
 rintro t27_ _ ⟨rfl,g0_27,g1_27,g5_27,g9_27,g11_27, -⟩
 have hpcR:Row H17_ (106+q) 40 0 [.int .i64 (3),.int .i64 (1),.int .i64 (0),.bool false,vS []]:=by have h_:=r24_;rw [hnx] at h_;exact h_
 have g29_:t27_.get 11=pA (106+q) 0:=by rw [g11_27,hnx]
 refine WK.seq ?_
 refine WK.reg_g ?_
 have m30_:∀ Hq,exLen 1 sv Hq=.val (vN ((k:Nat):Int)) Hq 0 0:=hlen0
 obtain ⟨H31_,e32_,rw33_,kp34_,nx35_⟩:=newSn hf21_ (n:=k) (by omega)
 have hf36_:=kp34_.fn
 have m37_:H17_.nx≤H31_.nx:=by omega
 have k38_:=k26_.trans kp34_
 have lt39_:=rw33_.lt
 refine WOG.all (fun t' H'=>H31_=H'∧GT t' [(0,sv),(1,lv),(5,pA 23 0),(9,pA (105+q) 0),(11,pA (106+q) 0),(12,sC H17_.nx 0 (k) (2*k))]) ?_ ?_
 ·simp +decide only [stk_r17,g0_27,g1_27,g5_27,g9_27,g29_,m30_,e32_,m37_,Xo 8,go_sem]
 rintro t40_ _ ⟨rfl,g0_40,g1_40,g5_40,g9_40,g11_40,g12_40, -⟩
 have hhas:Row H31_ (107+q) 45 0 (List.replicate k (.slice none 0 0)):=by have h_:=rw33_;rw [show H17_.nx=107+q by omega] at h_;exact h_
 have g42_:t40_.get 12=sC (107+q) 0 (k) (2*k):=by rw [g12_40,show H17_.nx=107+q by omega]
 refine WK.seq ?_
 refine WK.reg_g ?_
 refine WOG.all (fun t' H'=>H31_=H'∧GT t' [(0,sv),(1,lv),(5,pA 23 0),(9,pA (105+q) 0),(11,pA (106+q) 0),(12,sC (107+q) 0 (k) (2*k)),(13,.func (.func 9) #[] #[pA (105+q) 0,pA 23 0,pA (106+q) 0])]) ?_ ?_
 ·simp +decide only [stk_r18,g0_40,g1_40,g5_40,g9_40,g11_40,g42_,Xo 8,go_sem]
 rintro t43_ _ ⟨rfl,g0_43,g1_43,g5_43,g9_43,g11_43,g12_43,g13_43, -⟩
 refine WK.seq ?_
 refine WK.seq ?_
 refine WK.reg_g ?_
 have m45_:∀ Hq,exLen 1 lv Hq=.val (vN ((len:Nat):Int)) Hq 0 0:=hlen
 refine WOG.all (fun t' H'=>H31_=H'∧GT t' [(0,sv),(1,lv),(5,pA 23 0),(9,pA (105+q) 0),(11,pA (106+q) 0),(12,sC (107+q) 0 (k) (2*k)),(13,.func (.func 9) #[] #[pA (105+q) 0,pA 23 0,pA (106+q) 0]),(81,lv),(82,iN len),(83,.int .i64 (0))]) ?_ ?_
 ·simp +decide only [stk_r19,g0_43,g1_43,g5_43,g9_43,g11_43,g12_43,g13_43,m45_,Xo 8,go_sem]
 rintro t46_ _ ⟨rfl,g0_46,g1_46,g5_46,g9_46,g11_46,g12_46,g13_46,g81_46,g82_46,g83_46, -⟩
 have r48_:=((ps.mv nb10_.kept).ot wr19_.else_ (by omega)).mv kp34_
 have r49_:=hpcR.mv kp34_
 have hnL:H31_.nx=108+q:=by omega
 have c:StcS H31_ q k szs L Lp Pc cq:=⟨hnL,hk8,st.mv k38_,h0,h5,h6,h7,h12,h19,pr.mv k38_,p1,ac.mv k38_,ct.mv k38_,pb.mv k38_,p5,cb.mv k38_,r48_,r49_,zl,zb⟩
 obtain ⟨ss,hss⟩:∃ ss:List Stk,ss=szs.map fun m=>(m,[]):=⟨_,rfl⟩
 have hnil:∀ s∈ss,s.2=[]:=fun s hs=>by rw [hss] at hs;obtain ⟨m,_,rfl⟩:=List.mem_map.1 hs;rfl
 have hfst:ss.map Prod.fst=szs:=by rw [hss,List.map_map];exact List.map_id _
 have hrep:∀ (i:Nat) (v:Value),(List.replicate k (Value.slice none 0 0))[i]?=some v→v=.slice none 0 0:=fun i v h_=>by rw [List.getElem?_replicate] at h_;split at h_ <;> first | exact (Option.some.inj h_).symm | cases h_
 have hsit:SitS H31_ H31_ q (fun _=>0) (List.replicate k (.slice none 0 0)) (List.replicate k (.slice none 0 0)) (fun x=>x) ss ss szs:=by
  refine ⟨hf36_,Nat.le_refl _,.refl hf36_,mem.mv k38_,gn.mv k38_,hhas,by rw [List.length_replicate,zl],by rw [List.length_replicate,zl],hfst,hfst,fun i v s h1 h2=>?_,fun i v s h1 h2=>?_,fun x hx=>by omega,fun x y _ _ h=>h⟩
  ·rw [hrep i v h1,show gcV s=[] from by unfold gcV;rw [hnil s (List.mem_of_getElem? h2)];rfl];exact .nil
  ·rw [hrep i v h1,show hcV s=[] from by unfold hcV;rw [hnil s (List.mem_of_getElem? h2)];rfl];exact .nil
 have hlL:∀ H':Hp,(∀ b,b<13→H'.blk b=H31_.blk b)→RowR e H' 1 (fun (x:Int) vs=>vs=[.int .i64 x]) lv l:=fun H' h_=>hl H' fun b hb=>(h_ b hb).trans (k38_.old _ (by omega))
 refine main_ok S c he0 hlen0 hlen hsl hl60 hk1 hlL hsit (Ps.start hnil) (fun s hs=>by rw [hnil s hs];exact Nat.le_refl _) g0_46 g1_46 g5_46 g9_46 g11_46 g12_46 g13_46 g81_46 g82_46 g83_46 fun t2 H2=>?_
 refine WK.seq ?_
 refine WK.reg_g ?_
 refine WOG.all (fun t' H'=>H2=H'∧t'.get 4=.bool true) ?_ ?_
 ·simp +decide only [stk_r52,Xo 8,go_sem]
 rintro t50_ _ ⟨rfl,g4_50⟩
 refine WK.ret ⟨.inr rfl,rfl,[.bool true],0,?_,.zero _ _,rfl⟩
 show resL Tb0 208 t50_ _ [.tmp 4]=_
 simp only [resL,g4_50];rfl
end
section
attribute [local go_sem] GT Ro_some Rv_eq WOG Yn Yo Yp Yq Yr and_self and_true callV_func evalL evalO_const evalO_func evalO_tmp if_false if_true ok_zero putT_none run true_and wants_none'
variable {sp:Nat→List Value→Hp→Option (Value×Hp×Nat×Nat)} {e:Env}
set_option maxRecDepth 10000 in
set_option maxHeartbeats 4000000 in
theorem r13_ok (he0:e.n0≤23) {H:Hp} (hf:H.isFn=true) {k:Nat} {cs:List Value} {sv lv:Value} (hE:EC Tb0 sp e 8 [pS k,inV] H fun v H'=>v=.tuple #[.pointer (some ⟨78+2*k,0,none⟩),.int .i64 0]∧NewS H H' k cs)
 (hp:Row H 23 29 0 [.slice (some ⟨15,0,none⟩) 2 4,.int .i64 (32),.slice none 0 0,.slice (some ⟨16,0,none⟩) 2 4,.slice (some ⟨17,0,none⟩) 1 2,ctlS k]) (hi:Row H 24 32 0 [.slice (some ⟨20,0,none⟩) 2 4,.slice (some ⟨22,0,none⟩) 2 4,.int .i64 (3)]) {t:T Value} (g0:t.get 0=sv) (g1:t.get 1=lv) (g5:t.get 5=pA 23 0) (g6:t.get 6=pA 24 0) {K:Ex→T Value→List Deferred→Hp→Prop}
 (hK:∀ t' HN H',t'.get 0=sv→t'.get 1=lv→t'.get 5=pA 23 0→t'.get 9=pA (105+2*k) 0→t'.get 10=.int .i64 (0)→NewS H HN k cs→Kept HN H'→H'.nx=106+2*k→Row H' (105+2*k) 35 0 [pA (78+2*k) 0]→K .normal t' [] H') :
 WK Tb0 sp e ⟨8,208,none,false⟩ (.reg stk_r13) t [] H K:=by
 have lt1_:=hp.lt
 have lt2_:=hi.lt
 refine WK.reg_g ?_
 refine WOG.hide fun K0 hK0=>?_
 have m3_:exLdN 6 (pA 23 0) H=.val (.agg ⟨[.slice (some ⟨15,0,none⟩) 2 4,.int .i64 (32),.slice none 0 0,.slice (some ⟨16,0,none⟩) 2 4,.slice (some ⟨17,0,none⟩) 1 2,ctlS k]⟩) H (bit (23)) 0:=exLdN_row hp (by show 0+6≤6;decide)
 have o4_:=okr (e:=e) hp (by omega)
 have m5_:exLdN 3 (pA 24 0) H=.val (.agg ⟨[.slice (some ⟨20,0,none⟩) 2 4,.slice (some ⟨22,0,none⟩) 2 4,.int .i64 (3)]⟩) H (bit (24)) 0:=exLdN_row hi (by show 0+3≤3;decide)
 have o6_:=okr (e:=e) hi (by omega)
 simp +decide only [stk_r13,g5,g6,m3_,o4_,m5_,o6_,Xo 8,go_sem]
 refine EC.mono (hE) fun v H7_ _ hv8_=>?_
 obtain ⟨rfl,hN⟩:=hv8_
 have nxN:=hN.nx
 have hkN:Kept H7_ H7_:=.refl hN.fn
 rw [WOGk]
 have m9_:∀ Hq,exExt (.tuple #[pA (78+2*k) 0,.int .i64 (0)]) 0 Hq=.val (pA (78+2*k) 0) Hq 0 0:=fun _=>rfl
 have m10_:∀ Hq,exExt (.tuple #[pA (78+2*k) 0,.int .i64 (0)]) 1 Hq=.val (.int .i64 (0)) Hq 0 0:=fun _=>rfl
 obtain ⟨H11_,nb12_⟩:=newB hN.fn [.pointer none] 35
 have m13_:alloc1 (blkL [.pointer none] 35 0) H7_ ptrTo 0 0=.val (.pointer (some ⟨H7_.nx,0,none⟩)) H11_ 0 0:=nb12_.al
 have hf14_:=nb12_.kept.fn
 have nx15_:H11_.nx=H7_.nx+1:=nb12_.nx
 have m16_:H7_.nx≤H11_.nx:=by omega
 have lt17_:=nb12_.row.lt
 have k18_:=hkN.trans nb12_.kept
 obtain ⟨H19_,e20_,wr21_⟩:=exSt1_at (o:=0) (v:=pA (78+2*k) 0) rfl hf14_ nb12_.row (by show 0+1≤1;decide)
 have m22_:exSt 1 (pA H7_.nx 0) (pA (78+2*k) 0) H11_=.val U H19_ 0 (bit (H7_.nx)):=e20_
 have hf23_:=wr21_.fn
 have nx24_:H19_.nx=H11_.nx:=wr21_.nx
 have m25_:H11_.nx≤H19_.nx:=by omega
 have r26_:Row H19_ (H7_.nx) 35 0 [pA (78+2*k) 0]:=wr21_.row
 have o27_:e.ok 0 (bit (H7_.nx)) H19_:=.write r26_.lt (fun h=>absurd h (by omega))
 have k28_:Kept H7_ H19_:=⟨wr21_.fn,by have:=k18_.nx;omega,fun c hc=>(wr21_.else_ c (by omega)).trans (k18_.old c hc)⟩
 refine WOG.all (fun t' H'=>H19_=H'∧GT t' [(0,sv),(1,lv),(5,pA 23 0),(6,pA 24 0),(9,pA H7_.nx 0),(10,.int .i64 (0))]) ?_ ?_
 ·simp +decide only [stk_r13,g0,g1,g5,g6,m9_,m10_,m13_,m16_,m22_,m25_,o27_,Xo 8,go_sem]
 rintro t29_ _ ⟨rfl,g0_29,g1_29,g5_29,g6_29,g9_29,g10_29, -⟩
 refine hK0 _ _ ?_
 exact hK _ _ _ g0_29 g1_29 g5_29 (by rw [g9_29,show H7_.nx=105+2*k by omega]) g10_29 hN k28_ (by omega) (by have h_:=r26_;rw [show H7_.nx=105+2*k by omega] at h_;exact h_)
end
end Go.Proofs.RS
end
noncomputable section
namespace Go.Ev
def SlW (W:World) (w:Nat) {α:Type} (Q:α→List Value→Prop) (v:Value) (l:List α):Prop :=
 (v=.slice none 0 0∧l=[])∨(∃ a:Addr,v=.slice (some a) 0 0∧l=[])∨∃ blk off cap cs ty fr,v=.slice (some ⟨blk,off,none⟩) l.length cap∧W.heap[blk]?=some (.cells cs ty fr)∧off+l.length*w≤cs.size ∧
  ∀ (i:Nat) x,l[i]?=some x→∃ vs:List Value,vs.length=w∧(∀ (j:Nat) v,vs[j]?=some v→cs[off+i*w+j]?=some v)∧Q x vs
structure ArgS (ng:Nat) (W:World) (β:Mp) (H:Hp):Prop where
 fn:H.isFn=true
 g:GRel ng β
 rel:∀ b,alive H b→∃ m,β b=some m∧BOk β W (H.blk b) m
 fresh:∀ b,H.nx≤b→β b=none
 dom:∀ b m,β b=some m→m.rb<W.heap.size
abbrev eT:Env:=⟨0,fun _=>True,fun _=>False⟩
theorem ArgS.push {ng:Nat} {W:World} {β:Mp} {H:Hp} (h:ArgS ng W β H) {rb off:Nat} {cs:Array Value} {ty:TypeId} {fr:Nat×Nat} {L:List Value} (w:Nat) (hrb:W.heap[rb]?=some (.cells cs ty fr)) (hfit:off+L.length≤cs.size)
 (hL:∀ (i:Nat) v,L[i]?=some v→oneC v=true∧∃ v',cs[off+i]?=some v'∧VRel β v v') (len cap:Nat) :
 ∃ H' β',ArgS ng W β' H'∧Mp.le β β'∧Kept H H'∧H'.nx=H.nx+1∧RowG H' H.nx ty (w+1) L∧VRel β' (.slice (some ⟨H.nx,0,none⟩) len (2*cap)) (.slice (some ⟨rb,off,none⟩) len cap):=by
 obtain ⟨t,_,hg⟩:=blkL_eq L ty (w+1)
 have hroom:=fn_room h.fn
 have hf:β H.nx=none:=h.fresh _ (Nat.le_refl _)
 have hlt:rb<W.heap.size:=by
  rcases Nat.lt_or_ge rb W.heap.size with h' | h'
  ·exact h'
  ·rw [Array.getElem?_eq_none h'] at hrb;cases hrb
 let x:Blk:=.cells t L.length ty (w+1) 0 (cs.size+1)
 let m:Bm:=⟨rb,off,cs.size,w⟩
 have hle:Mp.le β (β.put H.nx m):=Mp.le_put m hf
 refine ⟨H.push x,β.put H.nx m,⟨by rw [isFn_push];exact h.fn,fun g hlt=>?_,fun b ha=>?_,fun b hb=>?_,fun b m' e=>?_⟩,hle,⟨by rw [isFn_push];exact h.fn,by rw [nx_push];omega,fun b hb=>blk_push_old hroom _ hb⟩,nx_push _ _,⟨t,0,cs.size+1,by rw [blk_push _ hroom,if_pos rfl],hg⟩,?_⟩
 ·obtain ⟨m',h1,h2⟩:=h.g g hlt
  exact ⟨m',hle _ _ h1,h2⟩
 ·rw [blk_push _ hroom]
  by_cases e:b=H.nx
  ·subst e
   rw [if_pos rfl]
   refine ⟨m,Mp.put_same _ _ _,.cells cs ty fr,hrb,cs,fr,rfl,rfl,hfit,(fun h=>by cases h),(fun k h=>by cases h;rfl),fun i hi=>?_,.inr (.inr ⟨rfl,Nat.lt_succ_self _⟩)⟩
   have hv:L[i]?=some L[i]:=by simp [hi]
   obtain ⟨h1,v',h2,h3⟩:=hL i _ hv
   rw [hg i _ hv]
   exact ⟨h1,v',h2,h3.mono hle⟩
  ·rw [if_neg e]
   have ha':alive H b:=(alive_iff H b).2 (by
    have:=(alive_iff _ b).1 ha
    rwa [blk_push _ hroom,if_neg e] at this)
   obtain ⟨m',e1,o,ho,hr⟩:=h.rel b ha'
   exact ⟨m',hle _ _ e1,o,ho,hr.mono hle⟩
 ·rw [nx_push] at hb
  rw [Mp.put_ne β m (by omega)]
  exact h.fresh b (by omega)
 ·by_cases e1:b=H.nx
  ·subst e1;rw [Mp.put_same] at e;cases e;exact hlt
  ·rw [Mp.put_ne β m e1] at e;exact h.dom b m' e
 ·have:=VRel.sl (β:=β.put H.nx m) H.nx 0 len (2*cap) cap m (Mp.put_same _ _ _) ⟨fun _=>by omega,fun h=>by omega⟩
  simpa [m] using this
end Go.Ev
end
