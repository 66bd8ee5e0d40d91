/-
 A part of the proof that pliantlaw15.RtsStacks returns true and leaves its arguments alone. Conditions: those of the card in the last text.
-/
import Derived.KernelRfl
import Derived.Test.YtgdejggelcpokaaGreatDoorG10
import Derived.Test.YtgdejggelcpokaaGreatDoorG11
import Derived.Test.YtgdejggelcpokaaGreatDoorG12
import Derived.Test.YtgdejggelcpokaaGreatDoorG26
set_option linter.unusedSimpArgs false
set_option linter.unusedVariables false
set_option linter.unusedSectionVars false
noncomputable section
namespace Go.Proofs.RS
open Go Go.Ev Go.Proofs
noncomputable def alc_body:Code:=(Tryz.f56.body).getD .skip
def alc_r0:List CO:=[
 oN 3 (.box 3 (.tmp 1)),
 oN 4 (.alloc (blkL [.string ⟨#[]⟩] 9 0)),
 oN 5 (.alloc (blkL [.int .i64 (0)] 3 0)),
 oN 6 (.alloc (blkL [.int .i64 (0)] 36 0))]
def alc_r1:List CO:=[
 oN 14 (.mv (.tmp 0)),
 oN 15 (.call (.func 105) [(.tmp 14)]),
 oN 13 (.mv (.tmp 15)),
 oN 16 (.ext (.tmp 13) 0),
 oN 17 (.ext (.tmp 13) 1),
 oN 7 (.alloc (blkL [.slice none 0 0] 191 0)),
 oU (.st 1 (.tmp 7) (.tmp 16)),
 oN 8 (.mv (.tmp 17))]
def alc_r2:List CO:=[
 oN 18 (.mv (.tmp 8)),
 oN 19 (.un .not (.tmp 18))]
def alc_r3:List CO:=[
 oU (.st 1 (.tmp 4) (.const (.string ⟨#[]⟩))),
 oU (.st 1 (.tmp 5) (oK 0)),
 oU (.st 1 (.tmp 6) (oK 120))]
def alc_r4:List CO:=[
 oN 20 (.ld1 (.tmp 3)),
 oN 21 (.bin .lss (.tmp 20) (oK 1)),
 oN 22 (.mv (.tmp 21)),
 ⟨(some 23),(some (22,false)),.ld1 (.tmp 3)⟩,
 ⟨(some 24),(some (22,false)),.bin .gtr (.tmp 23) (.const (.int .i64 (8192)))⟩,
 oN 25 (.pick (.tmp 22) (.const (.bool true)) (.tmp 24))]
def alc_r5:List CO:=[
 oU (.st 1 (.tmp 4) (.const (.string ⟨#[]⟩))),
 oU (.st 1 (.tmp 5) (oK 0)),
 oU (.st 1 (.tmp 6) (oK 1))]
def alc_r6:List CO:=[
 oN 26 (.ld1 (.tmp 7)),
 oN 27 (.ld1 (.tmp 7)),
 oN 28 (.call (.func 110) [(.tmp 27),(oK 4)]),
 oN 29 (.bin .add (.tmp 28) (oK 1)),
 oN 30 (.call (.func 109) [(.tmp 26),(oK 4),(.tmp 29)])]
def alc_r7:List CO:=[
 oN 31 (.ld1 (.tmp 7)),
 oN 32 (.call (.func 106) [(.tmp 31)])]
def alc_r8:List CO:=[
 oN 9 (.alloc (blkL [.int .i64 (0),.int .i64 (0),.int .i64 (0)] 195 0)),
 oU (.st 3 (.tmp 9) (.tmp 33))]
def alc_r9:List CO:=[
 oN 34 (.fa 0 (.tmp 9)),
 oN 35 (.ld1 (.tmp 34)),
 oN 36 (.ld1 (.tmp 3)),
 oN 37 (.build [.int .i64 (0),.int .i64 (0),.int .i64 (0)] [(0,1,(.tmp 35)),(1,1,(.tmp 36)),(2,1,(oK 1))]),
 oN 10 (.alloc (blkL [.int .i64 (0),.int .i64 (0),.int .i64 (0)] 195 0)),
 oU (.st 3 (.tmp 10) (.tmp 37))]
def alc_r10:List CO:=[
 oN 38 (.fa 2 (.tmp 9)),
 oN 39 (.ld1 (.tmp 38)),
 oN 40 (.eq false (.one .i) (.tmp 39) (oK 1)),
 oN 41 (.mv (.tmp 40)),
 ⟨(some 42),(some (41,false)),.ldN 3 (.tmp 10)⟩,
 ⟨(some 43),(some (41,false)),.call (.func 108) [(.tmp 42)]⟩,
 ⟨(some 44),(some (41,false)),.ldN 3 (.tmp 9)⟩,
 ⟨(some 45),(some (41,false)),.call (.func 108) [(.tmp 44)]⟩,
 ⟨(some 46),(some (41,false)),.bin .gtr (.tmp 43) (.tmp 45)⟩,
 oN 47 (.pick (.tmp 41) (.const (.bool true)) (.tmp 46))]
def alc_r11:List CO:=[
 oN 48 (.ld1 (.tmp 7)),
 oN 49 (.ldN 3 (.tmp 10)),
 oN 50 (.call (.func 112) [(.tmp 48),(.tmp 49)])]
def alc_r12:List CO:=[
 oN 51 (.ldN 3 (.tmp 9)),
 oN 52 (.call (.func 108) [(.tmp 51)]),
 oN 53 (.ldN 3 (.tmp 10)),
 oN 54 (.call (.func 108) [(.tmp 53)]),
 oN 55 (.bin .sub (.tmp 52) (.tmp 54)),
 oN 11 (.mv (.tmp 55))]
def alc_r13:List CO:=[
 oN 56 (.mv (.tmp 11)),
 oN 57 (.bin .gtr (.tmp 56) (oK 0))]
def alc_r14:List CO:=[
 oN 58 (.ld1 (.tmp 7)),
 oN 59 (.ldN 3 (.tmp 10)),
 oN 60 (.call (.func 108) [(.tmp 59)]),
 oN 61 (.mv (.tmp 11)),
 oN 62 (.bin .sub (.tmp 61) (oK 8)),
 oN 63 (.build [.int .i64 (0),.int .i64 (0),.int .i64 (0)] [(0,1,(.tmp 60)),(1,1,(.tmp 62)),(2,1,(oK 2))]),
 oN 64 (.call (.func 112) [(.tmp 58),(.tmp 63)])]
def alc_r15:List CO:=[
 oN 65 (.ld1 (.tmp 7)),
 oN 66 (.cToS (.tmp 65)),
 oN 67 (.ldN 3 (.tmp 10)),
 oN 68 (.call (.func 107) [(.tmp 67)]),
 oN 69 (.fld false 1 0 (.tmp 68)),
 oU (.st 1 (.tmp 4) (.tmp 66)),
 oU (.st 1 (.tmp 5) (.tmp 69)),
 oU (.st 1 (.tmp 6) (oK 0))]
noncomputable def alc_f16:KC :=
 (.reg alc_r8)
noncomputable def alc_f17:KC :=
 (.block 1 (.seq (.reg alc_r9)
  (.seq (.seq (.draw #[0,1,3,7,15,31,15,127,255,511] alc_r10)
  (.cond (.tmp 47) (.exit 1)
   .skip))
  (.seq (.reg alc_r11)
  (.seq (.seq (.draw #[0,1,0,7,15,31] alc_r12)
  (.seq (.reg alc_r13)
  (.cond (.tmp 57) (.draw #[0,0,2,0,8,30,63] alc_r14)
   .skip)))
  (.seq (.draw #[0,1,0,4,12,15,63,127] alc_r15)
  .ret))))))
def alc_r18:List CO:=[
 oN 70 (.ld1 (.tmp 7)),
 oN 71 (.call (.func 111) [(.tmp 70)]),
 oN 72 (.ld1 (.tmp 3)),
 oN 73 (.build [.int .i64 (0),.int .i64 (0),.int .i64 (0)] [(0,1,(.tmp 71)),(1,1,(.tmp 72)),(2,1,(oK 1))]),
 oN 12 (.alloc (blkL [.int .i64 (0),.int .i64 (0),.int .i64 (0)] 195 0)),
 oU (.st 3 (.tmp 12) (.tmp 73))]
def alc_r19:List CO:=[
 oN 74 (.ldN 3 (.tmp 12)),
 oN 75 (.call (.func 108) [(.tmp 74)]),
 oN 76 (.ld1 (.tmp 7)),
 oN 77 (.len 1 (.tmp 76)),
 oN 78 (.bin .gtr (.tmp 75) (.tmp 77))]
def alc_r20:List CO:=[
 oU (.st 1 (.tmp 4) (.const (.string ⟨#[]⟩))),
 oU (.st 1 (.tmp 5) (oK 0)),
 oU (.st 1 (.tmp 6) (oK 121))]
def alc_r21:List CO:=[
 oN 79 (.ld1 (.tmp 7)),
 oN 80 (.ldN 3 (.tmp 12)),
 oN 81 (.call (.func 112) [(.tmp 79),(.tmp 80)])]
def alc_r22:List CO:=[
 oN 82 (.ld1 (.tmp 7)),
 oN 83 (.ldN 3 (.tmp 12)),
 oN 84 (.call (.func 108) [(.tmp 83)]),
 oN 85 (.bin .sub (.tmp 84) (oK 8)),
 oN 86 (.call (.func 109) [(.tmp 82),(oK 0),(.tmp 85)])]
def alc_r23:List CO:=[
 oN 87 (.ld1 (.tmp 7)),
 oN 88 (.cToS (.tmp 87)),
 oN 89 (.ldN 3 (.tmp 12)),
 oN 90 (.call (.func 107) [(.tmp 89)]),
 oN 91 (.fld false 1 0 (.tmp 90)),
 oU (.st 1 (.tmp 4) (.tmp 88)),
 oU (.st 1 (.tmp 5) (.tmp 91)),
 oU (.st 1 (.tmp 6) (oK 0))]
noncomputable def alc_k:KC :=
 (.seq (.reg alc_r0)
 (.seq (.reg alc_r1)
 (.seq (.seq (.reg alc_r2)
 (.cond (.tmp 19) (.seq (.reg alc_r3)
  .ret)
  .skip))
 (.seq (.seq (.reg alc_r4)
 (.cond (.tmp 25) (.seq (.reg alc_r5)
  .ret)
  .skip))
 (.seq (.draw #[0,0,2,6,15] alc_r6)
 (.seq (.seq (.reg alc_r7)
 (.block 0 (.rangef (.tmp 32) #[33] alc_body.sr.sr.sr.sr.sr.sl.sr.bl.ra alc_body.sr.sr.sr.sr.sr.sl.sr.bl.rb alc_f16 alc_f17)))
 (.seq (.draw #[0,1,0,7,0,31] alc_r18)
 (.seq (.seq (.draw #[0,1,0,4,15] alc_r19)
 (.cond (.tmp 78) (.seq (.reg alc_r20)
  .ret)
  .skip))
 (.seq (.reg alc_r21)
 (.seq (.draw #[0,0,2,6,15] alc_r22)
 (.seq (.draw #[0,1,0,4,12,15,63,127] alc_r23)
 .ret)))))))))))
theorem alc_comp:kcomp Tb0 Tryz.f56.ntmps alc_body=alc_k:=by kernel_rfl
theorem alc_some:Tryz.f56.body=some alc_body:=rfl
noncomputable def fre_body:Code:=(Tryz.f54.body).getD .skip
def fre_r0:List CO:=[
 oN 3 (.box 3 (.tmp 1)),
 oN 4 (.mv (.const (.string ⟨#[]⟩))),
 oN 5 (.mv (oK 0))]
def fre_r1:List CO:=[
 oN 14 (.mv (.tmp 0)),
 oN 15 (.call (.func 105) [(.tmp 14)]),
 oN 13 (.mv (.tmp 15)),
 oN 16 (.ext (.tmp 13) 0),
 oN 17 (.ext (.tmp 13) 1),
 oN 6 (.mv (.tmp 16)),
 oN 7 (.mv (.tmp 17))]
def fre_r2:List CO:=[
 oN 18 (.mv (.tmp 7)),
 oN 19 (.un .not (.tmp 18))]
def fre_r3:List CO:=[
 oN 4 (.mv (.const (.string ⟨#[]⟩))),
 oN 5 (.mv (oK 120))]
def fre_r4:List CO:=[
 oN 8 (.alloc (blkL [.int .i64 (0)] 3 0)),
 oN 9 (.alloc (blkL [.int .i64 (0)] 3 0)),
 oN 10 (.alloc (blkL [.bool false] 4 0)),
 oU (.st 1 (.tmp 8) (oK (-1))),
 oU (.st 1 (.tmp 9) (oK (-1))),
 oU (.st 1 (.tmp 10) (.const (.bool false)))]
def fre_r5:List CO:=[
 oN 20 (.build [.int .i64 (0),.int .i64 (0),.int .i64 (0)] []),
 oN 11 (.alloc (blkL [.int .i64 (0),.int .i64 (0),.int .i64 (0)] 195 0)),
 oU (.st 3 (.tmp 11) (.tmp 20))]
def fre_r6:List CO:=[
 oN 21 (.mv (.tmp 6)),
 oN 22 (.call (.func 106) [(.tmp 21)])]
def fre_r7:List CO:=[
 oN 12 (.alloc (blkL [.int .i64 (0),.int .i64 (0),.int .i64 (0)] 195 0)),
 oU (.st 3 (.tmp 12) (.tmp 23))]
def fre_r8:List CO:=[
 oN 25 (.fa 2 (.tmp 12)),
 oN 26 (.ld1 (.tmp 25)),
 oN 27 (.eq false (.one .i) (.tmp 26) (oK 1)),
 oN 28 (.mv (.tmp 27)),
 ⟨(some 29),(some (28,true)),.ldN 3 (.tmp 12)⟩,
 ⟨(some 30),(some (28,true)),.call (.func 107) [(.tmp 29)]⟩,
 ⟨(some 31),(some (28,true)),.fld false 1 0 (.tmp 30)⟩,
 ⟨(some 32),(some (28,true)),.ld1 (.tmp 3)⟩,
 ⟨(some 33),(some (28,true)),.eq false (.one .i) (.tmp 31) (.tmp 32)⟩,
 oN 34 (.pick (.tmp 28) (.tmp 33) (.const (.bool false))),
 oN 24 (.mv (.tmp 34))]
def fre_r9:List CO:=[
 oN 35 (.fa 0 (.tmp 12)),
 oN 36 (.ld1 (.tmp 35)),
 oN 37 (.ldN 3 (.tmp 12)),
 oN 38 (.call (.func 108) [(.tmp 37)]),
 oU (.st 1 (.tmp 8) (.tmp 36)),
 oU (.st 1 (.tmp 9) (.tmp 38)),
 oU (.st 1 (.tmp 10) (.const (.bool true)))]
def fre_r10:List CO:=[
 oN 39 (.fa 2 (.tmp 11)),
 oN 40 (.ld1 (.tmp 39)),
 oN 41 (.eq false (.one .i) (.tmp 40) (oK 2))]
def fre_r11:List CO:=[
 oN 42 (.fa 0 (.tmp 11)),
 oN 43 (.ld1 (.tmp 42)),
 oU (.st 1 (.tmp 8) (.tmp 43))]
def fre_r12:List CO:=[
 oN 45 (.ld1 (.tmp 10)),
 oN 46 (.mv (.tmp 45)),
 ⟨(some 47),(some (46,true)),.fa 2 (.tmp 12)⟩,
 ⟨(some 48),(some (46,true)),.ld1 (.tmp 47)⟩,
 ⟨(some 49),(some (46,true)),.eq false (.one .i) (.tmp 48) (.const (.int .i64 (2)))⟩,
 oN 50 (.pick (.tmp 46) (.tmp 49) (.const (.bool false))),
 oN 51 (.mv (.tmp 50)),
 ⟨(some 52),(some (51,true)),.fa 0 (.tmp 12)⟩,
 ⟨(some 53),(some (51,true)),.ld1 (.tmp 52)⟩,
 ⟨(some 54),(some (51,true)),.ld1 (.tmp 9)⟩,
 ⟨(some 55),(some (51,true)),.eq false (.one .i) (.tmp 53) (.tmp 54)⟩,
 oN 56 (.pick (.tmp 51) (.tmp 55) (.const (.bool false))),
 oN 44 (.mv (.tmp 56))]
def fre_r13:List CO:=[
 oN 57 (.ldN 3 (.tmp 12)),
 oN 58 (.call (.func 108) [(.tmp 57)]),
 oU (.st 1 (.tmp 9) (.tmp 58))]
def fre_r14:List CO:=[
 oN 59 (.ldN 3 (.tmp 12)),
 oU (.st 3 (.tmp 11) (.tmp 59))]
noncomputable def fre_f15:KC :=
 (.reg fre_r7)
noncomputable def fre_f16:KC :=
 (.block 1 (.seq (.block 2 (.seq (.draw #[0,1,3,7,15,31,63,15,255,511,1023] fre_r8)
  (.cond (.tmp 24) (.seq (.draw #[0,1,0,4,15,31,63] fre_r9)
   (.seq (.reg fre_r10)
   (.cond (.tmp 41) (.reg fre_r11)
    .skip)))
   (.seq (.reg fre_r12)
   (.cond (.tmp 44) (.reg fre_r13)
    .skip)))))
  (.reg fre_r14)))
def fre_r17:List CO:=[
 oN 60 (.ld1 (.tmp 10)),
 oN 61 (.un .not (.tmp 60))]
def fre_r18:List CO:=[
 oN 4 (.mv (.const (.string ⟨#[]⟩))),
 oN 5 (.mv (oK 122))]
def fre_r19:List CO:=[
 oN 62 (.mv (.tmp 6)),
 oN 63 (.ld1 (.tmp 8)),
 oN 64 (.ld1 (.tmp 9)),
 oN 65 (.slL 1 (.tmp 62) (some (.tmp 63)) (some (.tmp 64)) none),
 oU (.clear [.int .u8 (0)] (.tmp 65))]
def fre_r20:List CO:=[
 oN 66 (.mv (.tmp 6)),
 oN 67 (.mv (.tmp 6)),
 oN 68 (.call (.func 110) [(.tmp 67),(oK 4)]),
 oN 69 (.bin .sub (.tmp 68) (oK 1)),
 oN 70 (.call (.func 109) [(.tmp 66),(oK 4),(.tmp 69)])]
def fre_r21:List CO:=[
 oN 71 (.ld1 (.tmp 9)),
 oN 72 (.mv (.tmp 6)),
 oN 73 (.call (.func 111) [(.tmp 72)]),
 oN 74 (.eq false (.one .i) (.tmp 71) (.tmp 73))]
def fre_r22:List CO:=[
 oN 75 (.mv (.tmp 6)),
 oN 76 (.ld1 (.tmp 8)),
 oN 77 (.bin .sub (.tmp 76) (oK 8)),
 oN 78 (.call (.func 109) [(.tmp 75),(oK 0),(.tmp 77)])]
def fre_r23:List CO:=[
 oN 79 (.mv (.tmp 6)),
 oN 80 (.ld1 (.tmp 8)),
 oN 81 (.ld1 (.tmp 9)),
 oN 82 (.ld1 (.tmp 8)),
 oN 83 (.bin .sub (.tmp 81) (.tmp 82)),
 oN 84 (.bin .sub (.tmp 83) (oK 8)),
 oN 85 (.build [.int .i64 (0),.int .i64 (0),.int .i64 (0)] [(0,1,(.tmp 80)),(1,1,(.tmp 84)),(2,1,(oK 2))]),
 oN 86 (.call (.func 112) [(.tmp 79),(.tmp 85)])]
def fre_r24:List CO:=[
 oN 87 (.mv (.tmp 6)),
 oN 88 (.cToS (.tmp 87)),
 oN 4 (.mv (.tmp 88)),
 oN 5 (.mv (oK 0))]
noncomputable def fre_k:KC :=
 (.seq (.reg fre_r0)
 (.seq (.reg fre_r1)
 (.seq (.seq (.reg fre_r2)
 (.cond (.tmp 19) (.seq (.reg fre_r3)
  .ret)
  .skip))
 (.seq (.reg fre_r4)
 (.seq (.reg fre_r5)
 (.seq (.seq (.reg fre_r6)
 (.block 0 (.rangef (.tmp 22) #[23] fre_body.sr.sr.sr.sr.sr.sl.sr.bl.ra fre_body.sr.sr.sr.sr.sr.sl.sr.bl.rb fre_f15 fre_f16)))
 (.seq (.seq (.reg fre_r17)
 (.cond (.tmp 61) (.seq (.reg fre_r18)
  .ret)
  .skip))
 (.seq (.reg fre_r19)
 (.seq (.reg fre_r20)
 (.seq (.seq (.draw #[0,0,2,7] fre_r21)
 (.cond (.tmp 74) (.reg fre_r22)
  (.reg fre_r23)))
 (.seq (.reg fre_r24)
 .ret)))))))))))
theorem fre_comp:kcomp Tb0 Tryz.f54.ntmps fre_body=fre_k:=by kernel_rfl
theorem fre_some:Tryz.f54.body=some fre_body:=rfl
end Go.Proofs.RS
end
noncomputable section
namespace Go.Proofs.RS
open Go Go.Ev Go.Proofs Go.Ar
section
attribute [local go_sem] Bc_f Bc_t GT Ro_some Rv_eq WOG WOGk WOR WOX WOXk Yj Yk Yl Ym Yn Yo Yp Yq Yr and_self and_true binV_add binV_geq binV_gtr binV_leq binV_lss binV_mul binV_sub callV_func dec_F dec_T evalL evalM evalO_const evalO_func evalO_tmp exEq_int exFa_ptr exLen_str exPick_f exPick_t exUn_not if_false if_true no_bits ok_zero putT_none run true_and wantsV_U wantsV_ff wantsV_ft wantsV_tf wantsV_tt wants_none' wants_some
variable {sp:Nat→List Value→Hp→Option (Value×Hp×Nat×Nat)} {e:Env}
set_option maxRecDepth 10000 in
set_option maxHeartbeats 4000000 in
theorem achk_ok (S:SpX sp) {H:Hp} (hf:H.isFn=true) (he:e.n0≤H.nx) {n:Nat} {fb:By} {us:List U} (h:Is fb n us) (h16:16≤n) (hn:n≤8192):EC Tb0 sp e 104 [vS (strF fb n)] H fun v H'=>v=vN 0∧Kept H H':=by
 refine EC.i1 (by rfl) achk_some achk_comp (S.no 104 (by decide) _ _) (by show 1≤12;decide) fun t0 g0=>?_
 show WK Tb0 sp e ⟨4,12,none,false⟩ achk_k t0 [] H _
 unfold achk_k
 have k0_:Kept H H:=.refl hf
 refine WK.seq ?_
 refine WK.reg_g ?_
 refine WOG.all (fun t' H'=>H=H'∧GT t' [(0,vS (strF fb n)),(2,.int .i64 (0))]) ?_ ?_
 ·simp +decide only [achk_r0,g0,Xo 4,go_sem]
 rintro t1_ _ ⟨rfl,g0_1,g2_1, -⟩
 refine WK.seq ?_
 refine WK.seq ?_
 refine WK.reg_g ?_
 refine WOG.hide fun K0 hK0=>?_
 simp +decide only [achk_r1,g0_1,Xo 4,go_sem]
 refine EC.mono (opn_ok S hf (by omega) h h16 hn) fun v H4_ _ hv5_=>?_
 obtain ⟨rfl,hk6_,hro_3⟩:=hv5_
 have hf7_:=hk6_.fn
 have nx8_:=hk6_.nx
 have k9_:=k0_.trans hk6_
 have hopn9:ByU H4_ (H.nx) 5 fb (n):=hro_3
 have lt10_:=hopn9.lt
 rw [WOGk]
 have m11_:∀ Hq,exExt (.tuple #[sC H.nx 0 (n) (2*(n)),.bool true]) 0 Hq=.val (sC H.nx 0 (n) (2*(n))) Hq 0 0:=fun _=>rfl
 have m12_:∀ Hq,exExt (.tuple #[sC H.nx 0 (n) (2*(n)),.bool true]) 1 Hq=.val (.bool true) Hq 0 0:=fun _=>rfl
 refine WOG.all (fun t' H'=>H4_=H'∧GT t' [(2,.int .i64 (0)),(4,.bool true)]) ?_ ?_
 ·simp +decide only [achk_r1,g0_1,g2_1,m11_,m12_,Xo 4,go_sem]
 rintro t13_ _ ⟨rfl,g2_13,g4_13, -⟩
 refine hK0 _ _ ?_
 refine WK.seq ?_
 refine WK.reg_g ?_
 refine WOG.all (fun t' H'=>H4_=H'∧GT t' [(2,.int .i64 (0)),(11,.bool false)]) ?_ ?_
 ·simp +decide only [achk_r2,g2_13,g4_13,Xo 4,go_sem]
 rintro t15_ _ ⟨rfl,g2_15,g11_15, -⟩
 refine WK.cond (v:=false) (by rw [evalO_tmp,g11_15];rfl) ?_
 refine WK.skip ?_
 refine WK.seq ?_
 refine WK.reg_g ?_
 refine WOG.all (fun t' H'=>H4_=H'∧t'.get 2=.int .i64 (0)) ?_ ?_
 ·simp +decide only [achk_r4,g2_15,g11_15,Xo 4,go_sem]
 rintro t17_ _ ⟨rfl,g2_17⟩
 refine WK.ret ⟨.inr rfl,rfl,[.int .i64 (0)],0,?_,.zero _ _,rfl,k9_⟩
 show resL Tb0 12 t17_ _ [.tmp 2]=_
 simp only [resL,g2_17];rfl
set_option maxRecDepth 10000 in
set_option maxHeartbeats 4000000 in
theorem unis_ok (S:SpX sp) {H:Hp} (hf:H.isFn=true) (he:e.n0≤H.nx) {b n:Nat}:EC Tb0 sp e 106 [sC b 0 (n) (2*n)] H fun v H'=>v=.func (.func 155) #[] #[.pointer (some ⟨H.nx,0,none⟩)]∧Kept H H'∧Row H' H.nx 191 0 [sC b 0 (n) (2*n)]:=by
 refine EC.i1 (by rfl) uni_some uni_comp (S.no 106 (by decide) _ _) (by show 1≤4;decide) fun t0 g0=>?_
 show WK Tb0 sp e ⟨3,4,none,false⟩ uni_k t0 [] H _
 unfold uni_k
 have k0_:Kept H H:=.refl hf
 refine WK.seq ?_
 refine WK.reg_g ?_
 obtain ⟨H1_,nb2_⟩:=newB hf [sC b 0 (n) (2*n)] 191
 have m3_:exFill (cellsO (sC b 0 (n) (2*n))) (fun l=>alloc1 (blkL l 191 0) H ptrTo 0 0)=.val (.pointer (some ⟨H.nx,0,none⟩)) H1_ 0 0:=nb2_.al
 have hf4_:=nb2_.kept.fn
 have nx5_:H1_.nx=H.nx+1:=nb2_.nx
 have m6_:H.nx≤H1_.nx:=by omega
 have lt7_:=nb2_.row.lt
 have k8_:=k0_.trans nb2_.kept
 refine WOG.all (fun t' H'=>H1_=H'∧GT t' [(1,pA H.nx 0),(2,.nilFunc)]) ?_ ?_
 ·simp +decide only [uni_r0,g0,m3_,m6_,Xo 3,go_sem]
 rintro t9_ _ ⟨rfl,g1_9,g2_9, -⟩
 refine WK.seq ?_
 refine WK.reg_g ?_
 refine WOG.all (fun t' H'=>H1_=H'∧t'.get 2=.func (.func 155) #[] #[pA H.nx 0]) ?_ ?_
 ·simp +decide only [uni_r1,g1_9,g2_9,Xo 3,go_sem]
 rintro t11_ _ ⟨rfl,g2_11⟩
 refine WK.ret ⟨.inr rfl,rfl,[.func (.func 155) #[] #[pA H.nx 0]],0,?_,.zero _ _,rfl,k8_,nb2_.row⟩
 show resL Tb0 4 t11_ _ [.tmp 2]=_
 simp only [resL,g2_11];rfl
set_option maxRecDepth 10000 in
set_option maxHeartbeats 4000000 in
theorem uni1_ok (S:SpX sp) {l c b n:Nat} {fb:By} {us:List U} (h:Lo fb n us) (hn:n≤8192) (I:List U→Hp→Prop) (Q:Hp→Prop)
 (hI:∀ A H',I A H'→H'.isFn=true∧e.n0≤H'.nx∧Row H' c 191 0 [.slice (some ⟨b,0,none⟩) (n) (2*(n))]∧ByU H' b 5 fb n)
 (hK:∀ A H1 H2,I A H1→Kept H1 H2→I A H2) (hpc:c<e.n0→e.Rd c) (hpb:b<e.n0→e.Rd b) {H:Hp}
 (hr:∀ A u B H',us=A++u::B→H.nx≤H'.nx→I A H'→ER Tb0 sp e l [.agg ⟨[vN ((fin 8 A:Nat):Int),vN ((u.size:Nat):Int),vN ((u.mark:Nat):Int)]⟩] H' fun v H''=>(v=.bool true∧H'.nx≤H''.nx∧I (A++[u]) H''∧∀ x,H.nx≤x→x<H'.nx→H''.blk x=H'.blk x)∨(v=.bool false∧Q H''))
 (h0:I [] H):EC Tb0 sp e 155 [.func (.yield l) #[] #[],.pointer (some ⟨c,0,none⟩)] H fun v H'=>v=.tuple #[]∧(I us H'∨Q H'):=by
 have hf:H.isFn=true:=(hI _ _ h0).1
 have he:e.n0≤H.nx:=(hI _ _ h0).2.1
 refine EC.i2 (by rfl) uni1_some uni1_comp (S.no 155 (by decide) _ _) (by show 2≤24;decide) fun t0 g0 g1=>?_
 show WK Tb0 sp e ⟨5,24,none,false⟩ uni1_k t0 [] H _
 unfold uni1_k
 have hle:=h.le
 have h8:=fin_ge 8 us
 have he8:8+be fb 0=fin 8 us:=by have:=h.fin_;omega
 refine WK.seq ?_
 refine WK.reg_g ?_
 refine WOG.all (fun t' H'=>H=H'∧GT t' [(0,.func (.yield l) #[] #[]),(1,pA c 0),(3,.int .i64 (8))]) ?_ ?_
 ·simp +decide only [uni1_r0,g0,g1,Xo 5,go_sem]
 rintro t1_ _ ⟨rfl,g0_1,g1_1,g3_1, -⟩
 refine WK.block (WK.loop_ind (fun m t' ds' H'=>ds'=[]∧∃ A:List U,∃ B:List U,m=B.length∧H.nx≤H'.nx∧us=A++B∧I A H'∧t'.get 0=.func (.yield l) #[] #[]∧t'.get 1=pA c 0∧t'.get 3=iN (fin 8 A)) ?_ _ t1_ [] H ⟨rfl,[],us,rfl,(Nat.le_refl _),rfl,h0,g0_1,g1_1,g3_1⟩)
 rintro m_l3 t_l3 ds_ H_l3 ⟨rfl,A,B,rfl,hnx,hus,hi,g0_l3,g1_l3,g3_l3⟩
 obtain ⟨hf_i,he_i,hrc,hrb⟩:=hI _ _ hi
 have ki_:Kept H_l3 H_l3:=.refl hf_i
 have lt4_:=hrc.lt
 have lt5_:=hrb.lt
 unfold uni1_l5
 refine WK.seq ?_
 refine WK.seq ?_
 by_cases hB:B=[]
 case pos =>
  subst hB
  have hAu:A=us:=by rw [hus,List.append_nil]
  have hAf:fin 8 A=fin 8 us:=by rw [hAu]
  refine WK.reg_g ?_
  refine WOG.hide fun K0 hK0=>?_
  have m6_:exLd1 (pA c 0) H_l3=.val (sC b 0 ((n)) (2*(n))) H_l3 (bit (c)) 0:=exLd1_row hrc rfl
  have o7_:e.ok (bit (c)) 0 H_l3:=.read hrc.lt hpc
  simp +decide only [uni1_r1,g1_l3,g3_l3,m6_,o7_,Xo 5,go_sem]
  refine EC.mono ((hend_ok S hf_i (by omega) hrb (by omega) (by omega) hpb).mono fun v H1 _ h_=>by rwa [he8] at h_) fun v H8_ _ hv9_=>?_
  obtain ⟨rfl,hh10_⟩:=hv9_
  rw [hh10_];clear hh10_
  rw [WOGk]
  have d11_:decide (((fin 8 A:Nat):Int)<((fin 8 us:Nat):Int))=false:=decide_eq_false (by omega)
  refine WOG.all (fun t' H'=>H_l3=H'∧GT t' [(0,.func (.yield l) #[] #[]),(1,pA c 0),(3,iN (fin 8 A)),(8,.bool false)]) ?_ ?_
  ·simp +decide only [uni1_r1,g0_l3,g1_l3,g3_l3,d11_,Xo 5,go_sem]
  rintro t12_ _ ⟨rfl,g0_12,g1_12,g3_12,g8_12, -⟩
  refine hK0 _ _ ?_
  refine WK.cond (v:=false) (by rw [evalO_tmp,g8_12];rfl) ?_
  refine WK.exit ?_
  exact ⟨.inl rfl,rfl,[],0,rfl,.zero _ _,rfl,.inl (hAu▸hK _ _ _ hi ki_)⟩
 case neg =>
  obtain ⟨u,B,rfl⟩:∃ u B_,B=u::B_:=by
   cases B with
   | nil=>exact absurd rfl hB
   | cons u B=>exact ⟨u,B,rfl⟩
  have hat:=h.at hus
  have hsp:=hat.span
  have hst:=hat.stop
  have hge:=hat.ge
  have hul:=up_le u.size
  refine WK.reg_g ?_
  refine WOG.hide fun K0 hK0=>?_
  have m6_:exLd1 (pA c 0) H_l3=.val (sC b 0 ((n)) (2*(n))) H_l3 (bit (c)) 0:=exLd1_row hrc rfl
  have o7_:e.ok (bit (c)) 0 H_l3:=.read hrc.lt hpc
  simp +decide only [uni1_r1,g1_l3,g3_l3,m6_,o7_,Xo 5,go_sem]
  refine EC.mono ((hend_ok S hf_i (by omega) hrb (by omega) (by omega) hpb).mono fun v H1 _ h_=>by rwa [he8] at h_) fun v H8_ _ hv9_=>?_
  obtain ⟨rfl,hh10_⟩:=hv9_
  rw [hh10_];clear hh10_
  rw [WOGk]
  have d11_:decide (((fin 8 A:Nat):Int)<((fin 8 us:Nat):Int))=true:=decide_eq_true (by omega)
  refine WOG.all (fun t' H'=>H_l3=H'∧GT t' [(0,.func (.yield l) #[] #[]),(1,pA c 0),(3,iN (fin 8 A)),(8,.bool true)]) ?_ ?_
  ·simp +decide only [uni1_r1,g0_l3,g1_l3,g3_l3,d11_,Xo 5,go_sem]
  rintro t12_ _ ⟨rfl,g0_12,g1_12,g3_12,g8_12, -⟩
  refine hK0 _ _ ?_
  refine WK.cond (v:=true) (by rw [evalO_tmp,g8_12];rfl) ?_
  refine WK.skip ?_
  refine WK.block ?_
  refine WK.seq ?_
  refine WK.draw_xx (fun _=>False) [.p,.q,.p,.q,.q,.p,.p,.q,.p,.q,.l] (by omega) rfl ?_
  refine WOX.hide fun K0 hK0=>?_
  have m14_:exLd1 (pA c 0) H_l3=.val (sC b 0 ((n)) (2*(n))) H_l3 (bit (c)) 0:=exLd1_row hrc rfl
  have o15_:e.ok (bit (c)) 0 H_l3:=.read hrc.lt hpc
  have o16_:∀ cq,(bit (c)).testBit cq=true→cq<H_l3.nx:=the_bit (P:=fun cq=>cq<H_l3.nx) (by have:=hrc.lt;omega)
  simp +decide only [uni1_r2,g1_12,g3_12,m14_,o15_,o16_,Xo 5,go_sem]
  repeat (refine And.intro (by assumption) ?_)
  refine EC.mono ((get_ok S hf_i (Nat.le_refl _) (p:=fin 8 A) hrb (by omega) (by omega) (show b<(e.sub H_l3.nx H_l3.nx).n0→(e.sub H_l3.nx H_l3.nx).Rd (b) from fun _=>⟨by have:=hrb.lt;omega,hpb⟩)).mono fun v H1 _ h_=>by rwa [hat.ok.size] at h_) fun v H17_ _ hv18_=>?_
  obtain ⟨rfl,hh19_⟩:=hv18_
  rw [hh19_];clear hh19_
  rw [WOXk]
  have m20_:exLd1 (pA c 0) H_l3=.val (sC b 0 ((n)) (2*(n))) H_l3 (bit (c)) 0:=exLd1_row hrc rfl
  have w21_:Value.int .i64 (wrapF .i64 (((fin 8 A:Nat):Int)+(4:Int)))=.int .i64 ((((fin 8 A)+4):Nat):Int):=wF (by omega)
  simp +decide only [uni1_r2,g1_12,g3_12,m20_,o15_,o16_,w21_,Xo 5,go_sem]
  repeat (refine And.intro (by assumption) ?_)
  refine EC.mono ((get_ok S hf_i (Nat.le_refl _) (p:=fin 8 A+4) hrb (by omega) (by omega) (show b<(e.sub H_l3.nx H_l3.nx).n0→(e.sub H_l3.nx H_l3.nx).Rd (b) from fun _=>⟨by have:=hrb.lt;omega,hpb⟩)).mono fun v H1 _ h_=>by rwa [hat.ok.mark] at h_) fun v H22_ _ hv23_=>?_
  obtain ⟨rfl,hh24_⟩:=hv23_
  rw [hh24_];clear hh24_
  rw [WOXk]
  have m25_:∀ t:T Value,t.get 9=iN (fin 8 A)→t.get 12=iN (u.size)→t.get 16=iN (u.mark)→fillL t [.int .i64 (0),.int .i64 (0),.int .i64 (0)] [(0,1,(.tmp 9)),(1,1,(.tmp 12)),(2,1,(.tmp 16))]=some [iN (fin 8 A),iN (u.size),iN (u.mark)]:=fun t h0 h1 h2=>by simp only [fillL,evalO_tmp,evalO_const,h0,h1,h2];rfl
  obtain ⟨H26_,nb27_⟩:=newB hf_i [.int .i64 (0),.int .i64 (0),.int .i64 (0)] 195
  have m28_:alloc1 (blkL [.int .i64 (0),.int .i64 (0),.int .i64 (0)] 195 0) H_l3 ptrTo 0 0=.val (.pointer (some ⟨H_l3.nx,0,none⟩)) H26_ 0 0:=nb27_.al
  have hf29_:=nb27_.kept.fn
  have nx30_:H26_.nx=H_l3.nx+1:=nb27_.nx
  have m31_:H_l3.nx≤H26_.nx:=by omega
  have lt32_:=nb27_.row.lt
  have k33_:=ki_.trans nb27_.kept
  obtain ⟨H34_,e35_,wr36_⟩:=exStN_at (o:=0) (vs:=[iN (fin 8 A),iN (u.size),iN (u.mark)]) hf29_ nb27_.row (by show 0+3≤3;decide)
  have m37_:exSt 3 (pA H_l3.nx 0) (.agg ⟨[iN (fin 8 A),iN (u.size),iN (u.mark)]⟩) H26_=.val U H34_ 0 (bit (H_l3.nx)):=e35_
  have hf38_:=wr36_.fn
  have nx39_:H34_.nx=H26_.nx:=wr36_.nx
  have m40_:H26_.nx≤H34_.nx:=by omega
  have r41_:Row H34_ (H_l3.nx) 195 0 [iN (fin 8 A),iN (u.size),iN (u.mark)]:=wr36_.row
  have o42_:e.ok 0 (bit (H_l3.nx)) H34_:=.write r41_.lt (fun h=>absurd h (by omega))
  have o43_:∀ cq,(bit (H_l3.nx)).testBit cq=true→H_l3.nx≤cq:=the_bit (P:=fun cq=>H_l3.nx≤cq) (by omega)
  have k44_:Kept H_l3 H34_:=⟨wr36_.fn,by have:=k33_.nx;omega,fun c hc=>(wr36_.else_ c (by omega)).trans (k33_.old c hc)⟩
  refine WOX.all (fun t' H'=>H34_=H'∧GT t' [(0,.func (.yield l) #[] #[]),(1,pA c 0),(3,iN (fin 8 A)),(4,pA H_l3.nx 0)]) ?_ ?_
  ·simp +decide only [uni1_r2,g0_12,g1_12,g3_12,g8_12,m25_,exFill_some,m28_,m31_,m37_,m40_,o42_,o43_,Xo 5,go_sem]
   all_goals ((repeat' apply And.intro) <;> assumption)
  rintro t45_ _ ⟨rfl,g0_45,g1_45,g3_45,g4_45, -⟩
  refine hK0 _ _ ?_
  refine WK.seq ?_
  refine WK.seq ?_
  have m47_:exLdN 3 (pA H_l3.nx 0) H34_=.val (.agg ⟨[iN (fin 8 A),iN (u.size),iN (u.mark)]⟩) H34_ (bit (H_l3.nx)) 0:=exLdN_row r41_ (by show 0+3≤3;decide)
  have o48_:=okr (e:=e) r41_ (by omega)
  refine WK.reg_round 2 (fun t' H'=>H'=H34_∧t'.get 0=.func (.yield l) #[] #[]∧t'.get 1=pA c 0∧t'.get 3=iN (fin 8 A)∧t'.get 4=pA H_l3.nx 0∧t'.get 18=.func (.yield l) #[] #[]∧t'.get 19=.agg ⟨[iN (fin 8 A),iN (u.size),iN (u.mark)]⟩) ?_ ?_
  ·simp +decide only [uni1_r3,g0_45,g1_45,g3_45,g4_45,m47_,o48_,Xo 5,go_sem]
  rintro t49_ Hx51_ ⟨hh50_,g0_49,g1_49,g3_49,g4_49,g18_49,g19_49⟩
  rw [hh50_];clear hh50_
  refine ⟨_,_,l,[.agg ⟨[vN ((fin 8 A:Nat):Int),vN ((u.size:Nat):Int),vN ((u.mark:Nat):Int)]⟩],rfl,rfl,by simp +decide only [uni1_r3,g0_49,g1_49,g3_49,g4_49,g18_49,g19_49,Xo 5,go_sem] <;> rfl,?_⟩
  refine (hr A u B _ hus (by omega) (hK _ _ _ hi k44_)).mono fun v HR_ hle_ hv=>?_
  rcases hv with ⟨rfl,hle2_,hi2,hown⟩ | ⟨rfl,hq⟩
  ·
   obtain ⟨hf_j,he_j,hrc_j,hrb_j⟩:=hI _ _ hi2
   have kj_:Kept HR_ HR_:=.refl hf_j
   have r52_:=(hrc.mv nb27_.kept).ot wr36_.else_ (by omega)
   have r53_:=(hrb.mv nb27_.kept).ot wr36_.else_ (by omega)
   have hun_j:Row HR_ (H_l3.nx) 195 0 [iN (fin 8 A),iN (u.size),iN (u.mark)]:=r41_.of_blk (hown _ (by omega) r41_.lt)
   refine WOG.all (fun t' H'=>HR_=H'∧GT t' [(0,.func (.yield l) #[] #[]),(1,pA c 0),(3,iN (fin 8 A)),(4,pA H_l3.nx 0),(21,.bool false)]) ?_ ?_
   ·simp +decide only [uni1_r3,g0_49,g1_49,g3_49,g4_49,g18_49,g19_49,Xo 5,go_sem]
   rintro t54_ _ ⟨rfl,g0_54,g1_54,g3_54,g4_54,g21_54, -⟩
   refine WK.cond (v:=false) (by rw [evalO_tmp,g21_54];rfl) ?_
   refine WK.skip ?_
   refine WK.reg_g ?_
   refine WOG.hide fun K0 hK0=>?_
   have m56_:exLdN 3 (pA H_l3.nx 0) HR_=.val (.agg ⟨[iN (fin 8 A),iN (u.size),iN (u.mark)]⟩) HR_ (bit (H_l3.nx)) 0:=exLdN_row hun_j (by show 0+3≤3;decide)
   have o57_:=okr (e:=e) hun_j (by omega)
   simp +decide only [uni1_r4,g4_54,m56_,o57_,Xo 5,go_sem]
   refine EC.mono (uend_ok S hf_j (by omega) (a:=fin 8 A) (s:=u.size) (m:=u.mark) (by omega) (by omega)) fun v H60_ _ hv61_=>?_
   obtain ⟨rfl,hk62_⟩:=hv61_
   have hf63_:=hk62_.fn
   have nx64_:=hk62_.nx
   have k65_:=kj_.trans hk62_
   have ul58_:=up_lt u.size
   have uk59_:=up_le u.size
   rw [WOGk]
   refine WOG.all (fun t' H'=>H60_=H'∧GT t' [(0,.func (.yield l) #[] #[]),(1,pA c 0),(3,iN (fin 8 A+8+up u.size))]) ?_ ?_
   ·simp +decide only [uni1_r4,g0_54,g1_54,g3_54,g4_54,g21_54,Xo 5,go_sem]
   rintro t66_ _ ⟨rfl,g0_66,g1_66,g3_66, -⟩
   refine hK0 _ _ ?_
   have e3:t66_.get 3=vN ((fin 8 (A++[u]):Nat):Int):=by rw [hat.next];exact g3_66
   exact ⟨_,by simp,rfl,A++[u],B,rfl,(by omega),hat.add,hK _ _ _ hi2 k65_,g0_66,g1_66,e3⟩
  ·
   refine WOG.all (fun t' H'=>HR_=H'∧GT t' [(0,.func (.yield l) #[] #[]),(1,pA c 0),(3,iN (fin 8 A)),(4,pA H_l3.nx 0),(21,.bool true)]) ?_ ?_
   ·simp +decide only [uni1_r3,g0_49,g1_49,g3_49,g4_49,g18_49,g19_49,Xo 5,go_sem]
   rintro t52_ _ ⟨rfl,g0_52,g1_52,g3_52,g4_52,g21_52, -⟩
   refine WK.cond (v:=true) (by rw [evalO_tmp,g21_52];rfl) ?_
   refine WK.ret ⟨.inr rfl,rfl,[],0,rfl,.zero _ _,rfl,.inr hq⟩
end
end Go.Proofs.RS
end
