/-
 A part of the proof that pliantlaw15.RtsStacks returns true and leaves its arguments alone. Conditions: those of the card in the last text.
-/
import Derived.KernelRfl
import Derived.Test.YtgdejggelcpokaaGreatDoorG10
import Derived.Test.YtgdejggelcpokaaGreatDoorG11
set_option linter.unusedSimpArgs false
set_option linter.unusedVariables false
set_option linter.unusedSectionVars false
noncomputable section
namespace Go.Proofs.RS
open Go Go.Ev Go.Proofs
noncomputable def newest_body:Code:=(Tryz.f48.body).getD .skip
def newest_r0:List CO:=[
 oN 2 (.mv (.const (.pointer none)))]
def newest_r1:List CO:=[
 oN 3 (.mv (.tmp 0)),
 oN 4 (.nilc (.tmp 3)),
 oN 5 (.fa 7 (.tmp 4)),
 oN 6 (.ld1 (.tmp 5)),
 oN 7 (.mv (.tmp 0)),
 oN 8 (.nilc (.tmp 7)),
 oN 9 (.fa 7 (.tmp 8)),
 oN 10 (.ld1 (.tmp 9)),
 oN 11 (.len 1 (.tmp 10)),
 oN 12 (.bin .sub (.tmp 11) (oK 1)),
 oN 13 (.iaS 10 (.tmp 6) (.tmp 12)),
 oN 2 (.mv (.tmp 13))]
noncomputable def newest_k:KC :=
 (.seq (.reg newest_r0)
 (.seq (.draw #[0,1,3,7,0,16,48,112,240,496,1023,2047] newest_r1)
 .ret))
theorem newest_comp:kcomp Tb0 Tryz.f48.ntmps newest_body=newest_k:=by kernel_rfl
theorem newest_some:Tryz.f48.body=some newest_body:=rfl
noncomputable def around_body:Code:=(Tryz.f49.body).getD .skip
def around_r0:List CO:=[
 oN 6 (.mv (oK 0))]
def around_r1:List CO:=[
 oN 7 (.mv (.tmp 2)),
 oN 8 (.mv (oK 0))]
def around_r2:List CO:=[
 oN 9 (.bin .lss (.tmp 8) (.tmp 7))]
def around_r3:List CO:=[
 oN 10 (.mv (.tmp 0)),
 oN 11 (.nilc (.tmp 10)),
 oN 12 (.fa 7 (.tmp 11)),
 oN 13 (.ld1 (.tmp 12)),
 oN 14 (.mv (.tmp 1)),
 oN 15 (.iaS 10 (.tmp 13) (.tmp 14)),
 oN 16 (.fa 3 (.tmp 15)),
 oN 17 (.ld1 (.tmp 16)),
 oN 1 (.mv (.tmp 17))]
def around_r4:List CO:=[
 oN 18 (.bin .add (.tmp 8) (oK 1)),
 oN 8 (.mv (.tmp 18))]
noncomputable def around_l5:KC :=
 (.seq (.reg around_r2)
 (.seq (.cond (.tmp 9) .skip
  (.exit 0))
 (.seq (.block 1 (.reg around_r3))
 (.reg around_r4))))
def around_r6:List CO:=[
 oN 19 (.mv (.tmp 1)),
 oN 6 (.mv (.tmp 19))]
noncomputable def around_k:KC :=
 (.seq (.reg around_r0)
 (.seq (.seq (.reg around_r1)
 (.block 0 (.loop around_body.sr.sl.sr.bl.lp around_l5)))
 (.seq (.reg around_r6)
 .ret)))
theorem around_comp:kcomp Tb0 Tryz.f49.ntmps around_body=around_k:=by kernel_rfl
theorem around_some:Tryz.f49.body=some around_body:=rfl
noncomputable def base_body:Code:=(Tryz.f10.body).getD .skip
def base_r0:List CO:=[
 oN 8 (.mv (oK 0)),
 oN 9 (.mv (oK 0))]
def base_r1:List CO:=[
 oN 15 (.mv (.tmp 0)),
 oN 16 (.call (.func 47) [(.tmp 15)])]
def base_r2:List CO:=[
 oN 8 (.mv (oK 0)),
 oN 9 (.mv (oK (-1)))]
def base_r3:List CO:=[
 oN 17 (.mv (.tmp 0)),
 oN 18 (.call (.func 48) [(.tmp 17)]),
 oN 10 (.mv (.tmp 18))]
def base_r4:List CO:=[
 oN 11 (.mv (oK 0))]
def base_r5:List CO:=[
 oN 19 (.mv (.tmp 0)),
 oN 20 (.nilc (.tmp 19)),
 oN 21 (.fa 0 (.tmp 20)),
 oN 22 (.fa 0 (.tmp 21)),
 oN 23 (.ld1 (.tmp 22)),
 oN 24 (.mv (.tmp 10)),
 oN 25 (.nilc (.tmp 24)),
 oN 26 (.fa 0 (.tmp 25)),
 oN 27 (.ld1 (.tmp 26)),
 oN 28 (.iaS 7 (.tmp 23) (.tmp 27)),
 oN 29 (.fa 1 (.tmp 28)),
 oN 30 (.ld1 (.tmp 29)),
 oN 12 (.mv (.tmp 30))]
def base_r6:List CO:=[
 oN 31 (.mv (.tmp 12)),
 oN 32 (.bin .geq (.tmp 31) (oK 0))]
def base_r7:List CO:=[
 oN 42 (.mv (.tmp 11)),
 oN 43 (.bin .add (.tmp 42) (oK 1)),
 oN 11 (.mv (.tmp 43))]
def base_r8:List CO:=[
 oN 33 (.mv (.tmp 0)),
 oN 34 (.nilc (.tmp 33)),
 oN 35 (.fa 0 (.tmp 34)),
 oN 36 (.fa 0 (.tmp 35)),
 oN 37 (.ld1 (.tmp 36)),
 oN 38 (.mv (.tmp 12)),
 oN 39 (.iaS 7 (.tmp 37) (.tmp 38)),
 oN 40 (.fa 1 (.tmp 39)),
 oN 41 (.ld1 (.tmp 40)),
 oN 12 (.mv (.tmp 41))]
noncomputable def base_l9:KC :=
 (.seq (.seq (.reg base_r6)
 (.cond (.tmp 32) .skip
  (.exit 0)))
 (.seq (.block 1 (.reg base_r7))
 (.reg base_r8)))
def base_r10:List CO:=[
 oN 44 (.mv (.tmp 2)),
 oN 45 (.bin .lss (.tmp 44) (oK 0)),
 oN 46 (.mv (.tmp 45)),
 ⟨(some 47),(some (46,false)),.mv (.tmp 2)⟩,
 ⟨(some 48),(some (46,false)),.mv (.tmp 11)⟩,
 ⟨(some 49),(some (46,false)),.bin .gtr (.tmp 47) (.tmp 48)⟩,
 oN 50 (.pick (.tmp 46) (.const (.bool true)) (.tmp 49)),
 oN 51 (.mv (.tmp 50)),
 ⟨(some 52),(some (51,false)),.mv (.tmp 3)⟩,
 ⟨(some 53),(some (51,false)),.bin .lss (.tmp 52) (.const (.int .i64 (0)))⟩,
 oN 54 (.pick (.tmp 51) (.const (.bool true)) (.tmp 53))]
def base_r11:List CO:=[
 oN 8 (.mv (oK 0)),
 oN 9 (.mv (oK (-1)))]
def base_r12:List CO:=[
 oN 55 (.mv (.tmp 0)),
 oN 56 (.nilc (.tmp 55)),
 oN 57 (.fa 7 (.tmp 56)),
 oN 58 (.ld1 (.tmp 57)),
 oN 59 (.mv (.tmp 0)),
 oN 60 (.mv (.tmp 0)),
 oN 61 (.nilc (.tmp 60)),
 oN 62 (.fa 7 (.tmp 61)),
 oN 63 (.ld1 (.tmp 62)),
 oN 64 (.len 1 (.tmp 63)),
 oN 65 (.bin .sub (.tmp 64) (oK 1)),
 oN 66 (.mv (.tmp 2)),
 oN 67 (.call (.func 49) [(.tmp 59),(.tmp 65),(.tmp 66)]),
 oN 68 (.iaS 10 (.tmp 58) (.tmp 67)),
 oN 69 (.ldN 10 (.tmp 68)),
 oN 13 (.alloc (blkL [.int .i64 (0),.slice none 0 0,.int .i64 (0),.int .i64 (0),.slice none 0 0,.int .i64 (0),.int .i64 (0),.int .i64 (0),.string ⟨#[]⟩,.string ⟨#[]⟩] 128 0)),
 oU (.st 10 (.tmp 13) (.tmp 69))]
def base_r13:List CO:=[
 oN 71 (.mv (.tmp 1)),
 oN 72 (.eq false (.one .i) (.tmp 71) (oK 1)),
 oN 73 (.mv (.tmp 72)),
 ⟨(some 74),(some (73,true)),.mv (.tmp 3)⟩,
 ⟨(some 75),(some (73,true)),.eq false (.one .i) (.tmp 74) (.const (.int .i64 (0)))⟩,
 oN 76 (.pick (.tmp 73) (.tmp 75) (.const (.bool false))),
 oN 70 (.mv (.tmp 76))]
def base_r14:List CO:=[
 oN 77 (.fa 2 (.tmp 13)),
 oN 78 (.ld1 (.tmp 77)),
 oN 79 (.bin .mul (oK 8) (.tmp 78)),
 oN 8 (.mv (.tmp 79)),
 oN 9 (.mv (oK 0))]
def base_r15:List CO:=[
 oN 81 (.mv (.tmp 1)),
 oN 82 (.eq false (.one .i) (.tmp 81) (oK 2)),
 oN 83 (.mv (.tmp 82)),
 ⟨(some 84),(some (83,true)),.mv (.tmp 3)⟩,
 ⟨(some 85),(some (83,true)),.eq false (.one .i) (.tmp 84) (.const (.int .i64 (0)))⟩,
 oN 86 (.pick (.tmp 83) (.tmp 85) (.const (.bool false))),
 oN 87 (.mv (.tmp 86)),
 ⟨(some 88),(some (87,true)),.mv (.tmp 2)⟩,
 ⟨(some 89),(some (87,true)),.eq false (.one .i) (.tmp 88) (.const (.int .i64 (0)))⟩,
 oN 90 (.pick (.tmp 87) (.tmp 89) (.const (.bool false))),
 oN 80 (.mv (.tmp 90))]
def base_r16:List CO:=[
 oN 8 (.mv (oK 128)),
 oN 9 (.mv (oK 0))]
def base_r17:List CO:=[
 oN 92 (.mv (.tmp 1)),
 oN 93 (.eq false (.one .i) (.tmp 92) (oK 3)),
 oN 94 (.mv (.tmp 93)),
 ⟨(some 95),(some (94,true)),.mv (.tmp 3)⟩,
 ⟨(some 96),(some (94,true)),.fa 1 (.tmp 13)⟩,
 ⟨(some 97),(some (94,true)),.ld1 (.tmp 96)⟩,
 ⟨(some 98),(some (94,true)),.len 1 (.tmp 97)⟩,
 ⟨(some 99),(some (94,true)),.bin .lss (.tmp 95) (.tmp 98)⟩,
 oN 100 (.pick (.tmp 94) (.tmp 99) (.const (.bool false))),
 oN 91 (.mv (.tmp 100))]
def base_r18:List CO:=[
 oN 101 (.fa 1 (.tmp 13)),
 oN 102 (.ld1 (.tmp 101)),
 oN 103 (.mv (.tmp 3)),
 oN 104 (.iaS 1 (.tmp 102) (.tmp 103)),
 oN 105 (.ld1 (.tmp 104)),
 oN 8 (.mv (.tmp 105)),
 oN 9 (.mv (oK 0))]
def base_r19:List CO:=[
 oN 107 (.mv (.tmp 1)),
 oN 108 (.eq false (.one .i) (.tmp 107) (oK 5)),
 oN 109 (.mv (.tmp 108)),
 ⟨(some 110),(some (109,true)),.mv (.tmp 2)⟩,
 ⟨(some 111),(some (109,true)),.eq false (.one .i) (.tmp 110) (.const (.int .i64 (0)))⟩,
 oN 112 (.pick (.tmp 109) (.tmp 111) (.const (.bool false))),
 oN 113 (.mv (.tmp 112)),
 ⟨(some 114),(some (113,true)),.mv (.tmp 3)⟩,
 ⟨(some 115),(some (113,true)),.mv (.tmp 0)⟩,
 ⟨(some 116),(some (113,true)),.nilc (.tmp 115)⟩,
 ⟨(some 117),(some (113,true)),.fa 12 (.tmp 116)⟩,
 ⟨(some 118),(some (113,true)),.ld1 (.tmp 117)⟩,
 ⟨(some 119),(some (113,true)),.len 1 (.tmp 118)⟩,
 ⟨(some 120),(some (113,true)),.bin .lss (.tmp 114) (.tmp 119)⟩,
 oN 121 (.pick (.tmp 113) (.tmp 120) (.const (.bool false))),
 oN 106 (.mv (.tmp 121))]
def base_r20:List CO:=[
 oN 122 (.mv (.tmp 0)),
 oN 123 (.nilc (.tmp 122)),
 oN 124 (.fa 12 (.tmp 123)),
 oN 125 (.ld1 (.tmp 124)),
 oN 126 (.mv (.tmp 3)),
 oN 127 (.iaS 1 (.tmp 125) (.tmp 126)),
 oN 128 (.ld1 (.tmp 127)),
 oN 14 (.mv (.tmp 128))]
def base_r21:List CO:=[
 oN 129 (.mv (.tmp 14)),
 oN 130 (.len 1 (.tmp 129)),
 oN 131 (.bin .gtr (.tmp 130) (oK 0))]
def base_r22:List CO:=[
 oN 132 (.mv (.tmp 14)),
 oN 133 (.mv (.tmp 14)),
 oN 134 (.len 1 (.tmp 133)),
 oN 135 (.bin .sub (.tmp 134) (oK 1)),
 oN 136 (.iaS 1 (.tmp 132) (.tmp 135)),
 oN 137 (.ld1 (.tmp 136)),
 oN 8 (.mv (.tmp 137)),
 oN 9 (.mv (oK 0))]
def base_r23:List CO:=[
 oN 8 (.mv (oK 0)),
 oN 9 (.mv (oK 2))]
def base_r24:List CO:=[
 oN 8 (.mv (oK 0)),
 oN 9 (.mv (oK (-1)))]
noncomputable def base_k:KC :=
 (.seq (.reg base_r0)
 (.seq (.seq (.reg base_r1)
 (.cond (.tmp 16) (.seq (.reg base_r2)
  .ret)
  .skip))
 (.seq (.reg base_r3)
 (.seq (.reg base_r4)
 (.seq (.seq (.draw #[0,1,3,7,15,0,32,96,224,511,1023,2047,4095] base_r5)
 (.block 0 (.loop base_body.sr.sr.sr.sr.sl.sr.bl.lp base_l9)))
 (.seq (.seq (.reg base_r10)
 (.cond (.tmp 54) (.seq (.reg base_r11)
  .ret)
  .skip))
 (.seq (.draw #[0,1,3,7,0,0,32,96,224,480,992,0,4080,8191,16383,0,65535] base_r12)
 (.seq (.block 2 (.seq (.reg base_r13)
  (.cond (.tmp 70) (.seq (.reg base_r14)
   .ret)
   (.seq (.reg base_r15)
   (.cond (.tmp 80) (.seq (.reg base_r16)
    .ret)
    (.seq (.reg base_r17)
    (.cond (.tmp 91) (.seq (.reg base_r18)
     .ret)
     (.seq (.reg base_r19)
     (.cond (.tmp 106) (.seq (.seq (.reg base_r20)
      (.seq (.reg base_r21)
      (.cond (.tmp 131) (.seq (.reg base_r22)
       .ret)
       .skip)))
      (.seq (.reg base_r23)
      .ret))
      .skip)))))))))
 (.seq (.reg base_r24)
 .ret)))))))))
theorem base_comp:kcomp Tb0 Tryz.f10.ntmps base_body=base_k:=by kernel_rfl
theorem base_some:Tryz.f10.body=some base_body:=rfl
noncomputable def rload_body:Code:=(Tryz.f15.body).getD .skip
def rload_r0:List CO:=[
 oN 5 (.box 40 (.tmp 2)),
 oN 6 (.alloc (blkL [.int .i64 (0),.string ⟨#[]⟩] 47 0)),
 oN 7 (.mv (oK 0))]
def rload_r1:List CO:=[
 oN 8 (.mv (.tmp 0)),
 oN 9 (.call (.func 47) [(.tmp 8)]),
 oN 10 (.mv (.tmp 9)),
 ⟨(some 11),(some (10,false)),.fa 0 (.tmp 5)⟩,
 ⟨(some 12),(some (10,false)),.ld1 (.tmp 11)⟩,
 ⟨(some 13),(some (10,false)),.eq false (.one .i) (.tmp 12) (.const (.int .i64 (7)))⟩,
 oN 14 (.pick (.tmp 10) (.const (.bool true)) (.tmp 13)),
 oN 15 (.mv (.tmp 14)),
 ⟨(some 16),(some (15,false)),.ldN 5 (.tmp 5)⟩,
 ⟨(some 17),(some (15,false)),.call (.func 51) [(.tmp 16)]⟩,
 ⟨(some 18),(some (15,false)),.eq true (.one .i) (.tmp 17) (.const (.int .i64 (0)))⟩,
 oN 19 (.pick (.tmp 15) (.const (.bool true)) (.tmp 18))]
def rload_r2:List CO:=[
 oN 20 (.build [.int .i64 (0),.string ⟨#[]⟩] []),
 oU (.st 2 (.tmp 6) (.tmp 20)),
 oN 7 (.mv (oK (-1)))]
def rload_r3:List CO:=[
 oN 21 (.mv (.tmp 0)),
 oN 22 (.nilc (.tmp 21)),
 oN 23 (.fa 6 (.tmp 22)),
 oN 24 (.ld1 (.tmp 23)),
 oN 25 (.mv (.tmp 1)),
 oN 26 (.ldN 5 (.tmp 5)),
 oN 27 (.call (.func 52) [(.tmp 24),(.tmp 25),(.tmp 26)]),
 oN 28 (.ext (.tmp 27) 0),
 oN 29 (.ext (.tmp 27) 1),
 oU (.st 2 (.tmp 6) (.tmp 28)),
 oN 7 (.mv (.tmp 29))]
noncomputable def rload_k:KC :=
 (.seq (.reg rload_r0)
 (.seq (.seq (.reg rload_r1)
 (.cond (.tmp 19) (.seq (.reg rload_r2)
  .ret)
  .skip))
 (.seq (.draw #[0,1,3,7,0,0,63,127,127,511,1023] rload_r3)
 .ret)))
theorem rload_comp:kcomp Tb0 Tryz.f15.ntmps rload_body=rload_k:=by kernel_rfl
theorem rload_some:Tryz.f15.body=some rload_body:=rfl
noncomputable def rstore_body:Code:=(Tryz.f11.body).getD .skip
def rstore_r0:List CO:=[
 oN 6 (.box 40 (.tmp 2)),
 oN 7 (.box 47 (.tmp 3)),
 oN 8 (.mv (oK 0))]
def rstore_r1:List CO:=[
 oN 9 (.mv (.tmp 0)),
 oN 10 (.call (.func 47) [(.tmp 9)]),
 oN 11 (.mv (.tmp 10)),
 ⟨(some 12),(some (11,false)),.ldN 5 (.tmp 6)⟩,
 ⟨(some 13),(some (11,false)),.ldN 2 (.tmp 7)⟩,
 ⟨(some 14),(some (11,false)),.call (.func 50) [(.tmp 12),(.tmp 13)]⟩,
 ⟨(some 15),(some (11,false)),.eq true (.one .i) (.tmp 14) (.const (.int .i64 (0)))⟩,
 oN 16 (.pick (.tmp 11) (.const (.bool true)) (.tmp 15))]
def rstore_r2:List CO:=[
 oN 8 (.mv (oK (-1)))]
def rstore_r3:List CO:=[
 oN 17 (.mv (.tmp 0)),
 oN 18 (.nilc (.tmp 17)),
 oN 19 (.fa 6 (.tmp 18)),
 oN 20 (.ld1 (.tmp 19)),
 oN 21 (.mv (.tmp 1)),
 oN 22 (.ldN 5 (.tmp 6)),
 oN 23 (.ldN 2 (.tmp 7)),
 oN 24 (.call (.func 45) [(.tmp 20),(.tmp 21),(.tmp 22),(.tmp 23)]),
 oN 8 (.mv (.tmp 24))]
noncomputable def rstore_k:KC :=
 (.seq (.reg rstore_r0)
 (.seq (.seq (.reg rstore_r1)
 (.cond (.tmp 16) (.seq (.reg rstore_r2)
  .ret)
  .skip))
 (.seq (.draw #[0,1,3,7,0,0,0,127,255] rstore_r3)
 .ret)))
theorem rstore_comp:kcomp Tb0 Tryz.f11.ntmps rstore_body=rstore_k:=by kernel_rfl
theorem rstore_some:Tryz.f11.body=some rstore_body:=rfl
noncomputable def sized_body:Code:=(Tryz.f57.body).getD .skip
def sized_r0:List CO:=[
 oN 4 (.mv (.const (.bool false)))]
def sized_r1:List CO:=[
 oN 5 (.mv (.tmp 0)),
 oN 6 (.eq false (.one .i) (.tmp 5) (oK (-1))),
 oN 7 (.mv (.tmp 6)),
 ⟨(some 8),(some (7,true)),.mv (.tmp 1)⟩,
 ⟨(some 9),(some (7,true)),.eq false (.one .i) (.tmp 8) (.const (.int .i64 (0)))⟩,
 oN 10 (.pick (.tmp 7) (.tmp 9) (.const (.bool false))),
 oN 11 (.mv (.tmp 10)),
 ⟨(some 12),(some (11,false)),.mv (.tmp 1)⟩,
 ⟨(some 13),(some (11,false)),.bin .geq (.tmp 12) (.const (.int .i64 (16)))⟩,
 ⟨(some 14),(some (11,false)),.mv (.tmp 13)⟩,
 ⟨(some 15),(some (14,true)),.mv (.tmp 1)⟩,
 ⟨(some 16),(some (14,true)),.bin .leq (.tmp 15) (.const (.int .i64 (4096)))⟩,
 ⟨(some 17),(some (11,false)),.pick (.tmp 14) (.tmp 16) (.const (.bool false))⟩,
 oN 18 (.pick (.tmp 11) (.const (.bool true)) (.tmp 17)),
 oN 4 (.mv (.tmp 18))]
noncomputable def sized_k:KC :=
 (.seq (.reg sized_r0)
 (.seq (.reg sized_r1)
 .ret))
theorem sized_comp:kcomp Tb0 Tryz.f57.ntmps sized_body=sized_k:=by kernel_rfl
theorem sized_some:Tryz.f57.body=some sized_body:=rfl
noncomputable def found_body:Code:=(Tryz.f53.body).getD .skip
def found_r0:List CO:=[
 oN 6 (.mv (oK 0)),
 oN 7 (.mv (.const (.string ⟨#[]⟩))),
 oN 8 (.mv (oK 0))]
def found_r1:List CO:=[
 oN 11 (.mv (.tmp 1)),
 oN 12 (.mv (.tmp 2)),
 oN 13 (.call (.func 57) [(.tmp 11),(.tmp 12)]),
 oN 14 (.un .not (.tmp 13))]
def found_r2:List CO:=[
 oN 6 (.mv (oK 0)),
 oN 7 (.mv (.const (.string ⟨#[]⟩))),
 oN 8 (.mv (oK (-1)))]
def found_r3:List CO:=[
 oN 15 (.mv (.tmp 2)),
 oN 16 (.eq false (.one .i) (.tmp 15) (oK 0))]
def found_r4:List CO:=[
 oN 1 (.mv (oK 458752)),
 oN 2 (.mv (oK 8192))]
def found_r5:List CO:=[
 oN 18 (.mv (.tmp 0)),
 oN 19 (.nilc (.tmp 18)),
 oN 20 (.fa 6 (.tmp 19)),
 oN 21 (.ld1 (.tmp 20)),
 oN 22 (.mv (.tmp 1)),
 oN 23 (.mv (.tmp 2)),
 oN 24 (.call (.func 103) [(.tmp 21),(.tmp 22),(.tmp 23)]),
 oN 17 (.mv (.tmp 24)),
 oN 25 (.ext (.tmp 17) 0),
 oN 26 (.ext (.tmp 17) 1),
 oN 9 (.mv (.tmp 25)),
 oN 10 (.mv (.tmp 26))]
def found_r6:List CO:=[
 oN 27 (.mv (.tmp 10)),
 oN 28 (.eq true (.one .i) (.tmp 27) (oK 0))]
def found_r7:List CO:=[
 oN 29 (.mv (.tmp 10)),
 oN 6 (.mv (oK 0)),
 oN 7 (.mv (.const (.string ⟨#[]⟩))),
 oN 8 (.mv (.tmp 29))]
def found_r8:List CO:=[
 oN 30 (.mv (.tmp 9)),
 oN 31 (.call (.func 104) [(.tmp 30)]),
 oN 32 (.eq true (.one .i) (.tmp 31) (oK 0))]
def found_r9:List CO:=[
 oN 6 (.mv (oK 0)),
 oN 7 (.mv (.const (.string ⟨#[]⟩))),
 oN 8 (.mv (oK 8097))]
def found_r10:List CO:=[
 oN 33 (.mv (.tmp 1)),
 oN 34 (.mv (.tmp 9)),
 oN 6 (.mv (.tmp 33)),
 oN 7 (.mv (.tmp 34)),
 oN 8 (.mv (oK 0))]
noncomputable def found_k:KC :=
 (.seq (.reg found_r0)
 (.seq (.seq (.reg found_r1)
 (.cond (.tmp 14) (.seq (.reg found_r2)
  .ret)
  .skip))
 (.seq (.seq (.reg found_r3)
 (.cond (.tmp 16) (.reg found_r4)
  .skip))
 (.seq (.reg found_r5)
 (.seq (.seq (.reg found_r6)
 (.cond (.tmp 28) (.seq (.reg found_r7)
  .ret)
  .skip))
 (.seq (.seq (.reg found_r8)
 (.cond (.tmp 32) (.seq (.reg found_r9)
  .ret)
  .skip))
 (.seq (.reg found_r10)
 .ret)))))))
theorem found_comp:kcomp Tb0 Tryz.f53.ntmps found_body=found_k:=by kernel_rfl
theorem found_some:Tryz.f53.body=some found_body:=rfl
noncomputable def ralloc_body:Code:=(Tryz.f18.body).getD .skip
def ralloc_r0:List CO:=[
 oN 8 (.mv (oK 0)),
 oN 9 (.mv (.const (.bool false))),
 oN 10 (.mv (oK 0))]
def ralloc_r1:List CO:=[
 oN 15 (.mv (.tmp 0)),
 oN 16 (.call (.func 47) [(.tmp 15)]),
 oN 17 (.mv (.tmp 16)),
 ⟨(some 18),(some (17,false)),.mv (.tmp 1)⟩,
 ⟨(some 19),(some (17,false)),.bin .lss (.tmp 18) (.const (.int .i64 (8)))⟩,
 oN 20 (.pick (.tmp 17) (.const (.bool true)) (.tmp 19)),
 oN 21 (.mv (.tmp 20)),
 ⟨(some 22),(some (21,false)),.mv (.tmp 1)⟩,
 ⟨(some 23),(some (21,false)),.bin .gtr (.tmp 22) (.const (.int .i64 (65536)))⟩,
 oN 24 (.pick (.tmp 21) (.const (.bool true)) (.tmp 23)),
 oN 25 (.mv (.tmp 24)),
 ⟨(some 26),(some (25,false)),.mv (.tmp 1)⟩,
 ⟨(some 27),(some (25,false)),.bin .rem (.tmp 26) (.const (.int .i64 (8)))⟩,
 ⟨(some 28),(some (25,false)),.eq true (.one .i) (.tmp 27) (.const (.int .i64 (0)))⟩,
 oN 29 (.pick (.tmp 25) (.const (.bool true)) (.tmp 28))]
def ralloc_r2:List CO:=[
 oN 8 (.mv (oK 0)),
 oN 9 (.mv (.const (.bool false))),
 oN 10 (.mv (oK (-1)))]
def ralloc_r3:List CO:=[
 oN 31 (.mv (.tmp 0)),
 oN 32 (.mv (.tmp 2)),
 oN 33 (.mv (.tmp 3)),
 oN 34 (.call (.func 53) [(.tmp 31),(.tmp 32),(.tmp 33)]),
 oN 30 (.mv (.tmp 34)),
 oN 35 (.ext (.tmp 30) 0),
 oN 36 (.ext (.tmp 30) 1),
 oN 37 (.ext (.tmp 30) 2),
 oN 2 (.mv (.tmp 35)),
 oN 11 (.mv (.tmp 36)),
 oN 12 (.mv (.tmp 37))]
def ralloc_r4:List CO:=[
 oN 38 (.mv (.tmp 12)),
 oN 39 (.eq true (.one .i) (.tmp 38) (oK 0))]
def ralloc_r5:List CO:=[
 oN 40 (.mv (.tmp 12)),
 oN 8 (.mv (oK 0)),
 oN 9 (.mv (.const (.bool false))),
 oN 10 (.mv (.tmp 40))]
def ralloc_r6:List CO:=[
 oN 42 (.mv (.tmp 11)),
 oN 43 (.mv (.tmp 1)),
 oN 44 (.bin .quo (.tmp 43) (oK 8)),
 oN 45 (.call (.func 56) [(.tmp 42),(.tmp 44)]),
 oN 41 (.mv (.tmp 45)),
 oN 46 (.ext (.tmp 41) 0),
 oN 47 (.ext (.tmp 41) 1),
 oN 48 (.ext (.tmp 41) 2),
 oN 11 (.mv (.tmp 46)),
 oN 13 (.mv (.tmp 47)),
 oN 14 (.mv (.tmp 48))]
def ralloc_r7:List CO:=[
 oN 49 (.mv (.tmp 14)),
 oN 50 (.eq true (.one .i) (.tmp 49) (oK 0))]
def ralloc_r8:List CO:=[
 oN 8 (.mv (oK 0)),
 oN 9 (.mv (.const (.bool false))),
 oN 10 (.mv (oK 0))]
def ralloc_r9:List CO:=[
 oN 51 (.mv (.tmp 0)),
 oN 52 (.nilc (.tmp 51)),
 oN 53 (.fa 6 (.tmp 52)),
 oN 54 (.ld1 (.tmp 53)),
 oN 55 (.mv (.tmp 2)),
 oN 56 (.mv (.tmp 11)),
 oN 57 (.call (.func 55) [(.tmp 54),(.tmp 55),(.tmp 56)])]
def ralloc_r10:List CO:=[
 oN 58 (.mv (.tmp 2)),
 oN 59 (.mv (.tmp 13)),
 oN 60 (.bin .mul (oK 8) (.tmp 59)),
 oN 61 (.bin .add (.tmp 58) (.tmp 60)),
 oN 8 (.mv (.tmp 61)),
 oN 9 (.mv (.const (.bool true))),
 oN 10 (.mv (oK 0))]
noncomputable def ralloc_k:KC :=
 (.seq (.reg ralloc_r0)
 (.seq (.seq (.reg ralloc_r1)
 (.cond (.tmp 29) (.seq (.reg ralloc_r2)
  .ret)
  .skip))
 (.seq (.reg ralloc_r3)
 (.seq (.seq (.reg ralloc_r4)
 (.cond (.tmp 39) (.seq (.reg ralloc_r5)
  .ret)
  .skip))
 (.seq (.reg ralloc_r6)
 (.seq (.seq (.reg ralloc_r7)
 (.cond (.tmp 50) (.seq (.reg ralloc_r8)
  .ret)
  .skip))
 (.seq (.reg ralloc_r9)
 (.seq (.reg ralloc_r10)
 .ret))))))))
theorem ralloc_comp:kcomp Tb0 Tryz.f18.ntmps ralloc_body=ralloc_k:=by kernel_rfl
theorem ralloc_some:Tryz.f18.body=some ralloc_body:=rfl
noncomputable def rfree_body:Code:=(Tryz.f16.body).getD .skip
def rfree_r0:List CO:=[
 oN 8 (.mv (oK 0))]
def rfree_r1:List CO:=[
 oN 12 (.mv (.tmp 0)),
 oN 13 (.call (.func 47) [(.tmp 12)])]
def rfree_r2:List CO:=[
 oN 8 (.mv (oK (-1)))]
def rfree_r3:List CO:=[
 oN 15 (.mv (.tmp 0)),
 oN 16 (.mv (.tmp 2)),
 oN 17 (.mv (.tmp 3)),
 oN 18 (.call (.func 53) [(.tmp 15),(.tmp 16),(.tmp 17)]),
 oN 14 (.mv (.tmp 18)),
 oN 19 (.ext (.tmp 14) 0),
 oN 20 (.ext (.tmp 14) 1),
 oN 21 (.ext (.tmp 14) 2),
 oN 2 (.mv (.tmp 19)),
 oN 9 (.mv (.tmp 20)),
 oN 10 (.mv (.tmp 21))]
def rfree_r4:List CO:=[
 oN 22 (.mv (.tmp 10)),
 oN 23 (.eq true (.one .i) (.tmp 22) (oK 0))]
def rfree_r5:List CO:=[
 oN 24 (.mv (.tmp 10)),
 oN 8 (.mv (.tmp 24))]
def rfree_r6:List CO:=[
 oN 25 (.mv (.tmp 1)),
 oN 26 (.mv (.tmp 2)),
 oN 27 (.bin .lss (.tmp 25) (.tmp 26)),
 oN 28 (.mv (.tmp 27)),
 ⟨(some 29),(some (28,false)),.mv (.tmp 1)⟩,
 ⟨(some 30),(some (28,false)),.mv (.tmp 2)⟩,
 ⟨(some 31),(some (28,false)),.mv (.tmp 9)⟩,
 ⟨(some 32),(some (28,false)),.len 0 (.tmp 31)⟩,
 ⟨(some 33),(some (28,false)),.bin .mul (.const (.int .i64 (8))) (.tmp 32)⟩,
 ⟨(some 34),(some (28,false)),.bin .add (.tmp 30) (.tmp 33)⟩,
 ⟨(some 35),(some (28,false)),.bin .geq (.tmp 29) (.tmp 34)⟩,
 oN 36 (.pick (.tmp 28) (.const (.bool true)) (.tmp 35)),
 oN 37 (.mv (.tmp 36)),
 ⟨(some 38),(some (37,false)),.mv (.tmp 1)⟩,
 ⟨(some 39),(some (37,false)),.bin .rem (.tmp 38) (.const (.int .i64 (8)))⟩,
 ⟨(some 40),(some (37,false)),.eq true (.one .i) (.tmp 39) (.const (.int .i64 (0)))⟩,
 oN 41 (.pick (.tmp 37) (.const (.bool true)) (.tmp 40))]
def rfree_r7:List CO:=[
 oN 8 (.mv (oK 8091))]
def rfree_r8:List CO:=[
 oN 43 (.mv (.tmp 9)),
 oN 44 (.mv (.tmp 1)),
 oN 45 (.mv (.tmp 2)),
 oN 46 (.bin .sub (.tmp 44) (.tmp 45)),
 oN 47 (.bin .quo (.tmp 46) (oK 8)),
 oN 48 (.call (.func 54) [(.tmp 43),(.tmp 47)]),
 oN 42 (.mv (.tmp 48)),
 oN 49 (.ext (.tmp 42) 0),
 oN 50 (.ext (.tmp 42) 1),
 oN 9 (.mv (.tmp 49)),
 oN 11 (.mv (.tmp 50))]
def rfree_r9:List CO:=[
 oN 51 (.mv (.tmp 11)),
 oN 52 (.eq true (.one .i) (.tmp 51) (oK 0))]
def rfree_r10:List CO:=[
 oN 8 (.mv (oK 8091))]
def rfree_r11:List CO:=[
 oN 53 (.mv (.tmp 0)),
 oN 54 (.nilc (.tmp 53)),
 oN 55 (.fa 6 (.tmp 54)),
 oN 56 (.ld1 (.tmp 55)),
 oN 57 (.mv (.tmp 2)),
 oN 58 (.mv (.tmp 9)),
 oN 59 (.call (.func 55) [(.tmp 56),(.tmp 57),(.tmp 58)])]
def rfree_r12:List CO:=[
 oN 8 (.mv (oK 0))]
noncomputable def rfree_k:KC :=
 (.seq (.reg rfree_r0)
 (.seq (.seq (.reg rfree_r1)
 (.cond (.tmp 13) (.seq (.reg rfree_r2)
  .ret)
  .skip))
 (.seq (.reg rfree_r3)
 (.seq (.seq (.reg rfree_r4)
 (.cond (.tmp 23) (.seq (.reg rfree_r5)
  .ret)
  .skip))
 (.seq (.seq (.reg rfree_r6)
 (.cond (.tmp 41) (.seq (.reg rfree_r7)
  .ret)
  .skip))
 (.seq (.reg rfree_r8)
 (.seq (.seq (.reg rfree_r9)
 (.cond (.tmp 52) (.seq (.reg rfree_r10)
  .ret)
  .skip))
 (.seq (.reg rfree_r11)
 (.seq (.reg rfree_r12)
 .ret)))))))))
theorem rfree_comp:kcomp Tb0 Tryz.f16.ntmps rfree_body=rfree_k:=by kernel_rfl
theorem rfree_some:Tryz.f16.body=some rfree_body:=rfl
noncomputable def push_body:Code:=(Tryz.f13.body).getD .skip
def push_r0:List CO:=[
 oN 4 (.mv (oK 0))]
def push_r1:List CO:=[
 oN 8 (.mv (.tmp 0)),
 oN 9 (.call (.func 47) [(.tmp 8)]),
 oN 10 (.mv (.tmp 9)),
 ⟨(some 11),(some (10,false)),.mv (.tmp 1)⟩,
 ⟨(some 12),(some (10,false)),.bin .lss (.tmp 11) (.const (.int .i64 (0)))⟩,
 oN 13 (.pick (.tmp 10) (.const (.bool true)) (.tmp 12)),
 oN 14 (.mv (.tmp 13)),
 ⟨(some 15),(some (14,false)),.mv (.tmp 1)⟩,
 ⟨(some 16),(some (14,false)),.mv (.tmp 0)⟩,
 ⟨(some 17),(some (14,false)),.nilc (.tmp 16)⟩,
 ⟨(some 18),(some (14,false)),.fa 12 (.tmp 17)⟩,
 ⟨(some 19),(some (14,false)),.ld1 (.tmp 18)⟩,
 ⟨(some 20),(some (14,false)),.len 1 (.tmp 19)⟩,
 ⟨(some 21),(some (14,false)),.bin .geq (.tmp 15) (.tmp 20)⟩,
 oN 22 (.pick (.tmp 14) (.const (.bool true)) (.tmp 21))]
def push_r2:List CO:=[
 oN 4 (.mv (oK (-1)))]
def push_r3:List CO:=[
 oN 24 (.mv (.tmp 0)),
 oN 25 (.mv (.tmp 0)),
 oN 26 (.nilc (.tmp 25)),
 oN 27 (.fa 0 (.tmp 26)),
 oN 28 (.fa 5 (.tmp 27)),
 oN 29 (.ld1 (.tmp 28)),
 oN 30 (.mv (.tmp 1)),
 oN 31 (.iaS 1 (.tmp 29) (.tmp 30)),
 oN 32 (.ld1 (.tmp 31)),
 oN 33 (.call (.func 18) [(.tmp 24),(.tmp 32),(oK (-1)),(oK 0)]),
 oN 23 (.mv (.tmp 33)),
 oN 34 (.ext (.tmp 23) 0),
 oN 35 (.ext (.tmp 23) 1),
 oN 36 (.ext (.tmp 23) 2),
 oN 5 (.mv (.tmp 34)),
 oN 6 (.mv (.tmp 35)),
 oN 7 (.mv (.tmp 36))]
def push_r4:List CO:=[
 oN 37 (.mv (.tmp 7)),
 oN 38 (.eq true (.one .i) (.tmp 37) (oK 0)),
 oN 39 (.mv (.tmp 38)),
 ⟨(some 40),(some (39,false)),.mv (.tmp 6)⟩,
 ⟨(some 41),(some (39,false)),.un .not (.tmp 40)⟩,
 oN 42 (.pick (.tmp 39) (.const (.bool true)) (.tmp 41))]
def push_r5:List CO:=[
 oN 4 (.mv (oK 5))]
def push_r6:List CO:=[
 oN 43 (.mv (.tmp 0)),
 oN 44 (.nilc (.tmp 43)),
 oN 45 (.fa 12 (.tmp 44)),
 oN 46 (.ld1 (.tmp 45)),
 oN 47 (.mv (.tmp 1)),
 oN 48 (.mv (.tmp 0)),
 oN 49 (.nilc (.tmp 48)),
 oN 50 (.fa 12 (.tmp 49)),
 oN 51 (.ld1 (.tmp 50)),
 oN 52 (.mv (.tmp 1)),
 oN 53 (.iaS 1 (.tmp 51) (.tmp 52)),
 oN 54 (.ld1 (.tmp 53)),
 oN 55 (.mv (.tmp 5)),
 oN 56 (.bslice 1 3 [.int .i64 (0)] [(0,1,(.tmp 55))]),
 oN 57 (.app 3 1 8 (.tmp 54) (.tmp 56)),
 oN 58 (.iaS 1 (.tmp 46) (.tmp 47)),
 oU (.st 1 (.tmp 58) (.tmp 57))]
def push_r7:List CO:=[
 oN 4 (.mv (oK 0))]
noncomputable def push_k:KC :=
 (.seq (.reg push_r0)
 (.seq (.seq (.reg push_r1)
 (.cond (.tmp 22) (.seq (.reg push_r2)
  .ret)
  .skip))
 (.seq (.reg push_r3)
 (.seq (.seq (.reg push_r4)
 (.cond (.tmp 42) (.seq (.reg push_r5)
  .ret)
  .skip))
 (.seq (.draw #[0,1,3,7,0,0,32,96,224,0,992,2016,0,4096,16352,32767,65535] push_r6)
 (.seq (.reg push_r7)
 .ret))))))
theorem push_comp:kcomp Tb0 Tryz.f13.ntmps push_body=push_k:=by kernel_rfl
theorem push_some:Tryz.f13.body=some push_body:=rfl
noncomputable def pop_body:Code:=(Tryz.f12.body).getD .skip
def pop_r0:List CO:=[
 oN 4 (.mv (oK 0))]
def pop_r1:List CO:=[
 oN 7 (.mv (.tmp 0)),
 oN 8 (.call (.func 47) [(.tmp 7)]),
 oN 9 (.mv (.tmp 8)),
 ⟨(some 10),(some (9,false)),.mv (.tmp 1)⟩,
 ⟨(some 11),(some (9,false)),.bin .lss (.tmp 10) (.const (.int .i64 (0)))⟩,
 oN 12 (.pick (.tmp 9) (.const (.bool true)) (.tmp 11)),
 oN 13 (.mv (.tmp 12)),
 ⟨(some 14),(some (13,false)),.mv (.tmp 1)⟩,
 ⟨(some 15),(some (13,false)),.mv (.tmp 0)⟩,
 ⟨(some 16),(some (13,false)),.nilc (.tmp 15)⟩,
 ⟨(some 17),(some (13,false)),.fa 12 (.tmp 16)⟩,
 ⟨(some 18),(some (13,false)),.ld1 (.tmp 17)⟩,
 ⟨(some 19),(some (13,false)),.len 1 (.tmp 18)⟩,
 ⟨(some 20),(some (13,false)),.bin .geq (.tmp 14) (.tmp 19)⟩,
 oN 21 (.pick (.tmp 13) (.const (.bool true)) (.tmp 20))]
def pop_r2:List CO:=[
 oN 4 (.mv (oK (-1)))]
def pop_r3:List CO:=[
 oN 22 (.mv (.tmp 0)),
 oN 23 (.nilc (.tmp 22)),
 oN 24 (.fa 12 (.tmp 23)),
 oN 25 (.ld1 (.tmp 24)),
 oN 26 (.mv (.tmp 1)),
 oN 27 (.iaS 1 (.tmp 25) (.tmp 26)),
 oN 28 (.ld1 (.tmp 27)),
 oN 29 (.len 1 (.tmp 28)),
 oN 30 (.bin .sub (.tmp 29) (oK 1)),
 oN 5 (.mv (.tmp 30))]
def pop_r4:List CO:=[
 oN 31 (.mv (.tmp 5)),
 oN 32 (.bin .lss (.tmp 31) (oK 0))]
def pop_r5:List CO:=[
 oN 4 (.mv (oK 2))]
def pop_r6:List CO:=[
 oN 33 (.mv (.tmp 0)),
 oN 34 (.nilc (.tmp 33)),
 oN 35 (.fa 12 (.tmp 34)),
 oN 36 (.ld1 (.tmp 35)),
 oN 37 (.mv (.tmp 1)),
 oN 38 (.iaS 1 (.tmp 36) (.tmp 37)),
 oN 39 (.ld1 (.tmp 38)),
 oN 40 (.mv (.tmp 5)),
 oN 41 (.iaS 1 (.tmp 39) (.tmp 40)),
 oN 42 (.ld1 (.tmp 41)),
 oN 6 (.mv (.tmp 42))]
def pop_r7:List CO:=[
 oN 43 (.mv (.tmp 0)),
 oN 44 (.nilc (.tmp 43)),
 oN 45 (.fa 12 (.tmp 44)),
 oN 46 (.ld1 (.tmp 45)),
 oN 47 (.mv (.tmp 1)),
 oN 48 (.mv (.tmp 0)),
 oN 49 (.nilc (.tmp 48)),
 oN 50 (.fa 12 (.tmp 49)),
 oN 51 (.ld1 (.tmp 50)),
 oN 52 (.mv (.tmp 1)),
 oN 53 (.iaS 1 (.tmp 51) (.tmp 52)),
 oN 54 (.ld1 (.tmp 53)),
 oN 55 (.mv (.tmp 5)),
 oN 56 (.slL 1 (.tmp 54) none (some (.tmp 55)) none),
 oN 57 (.iaS 1 (.tmp 46) (.tmp 47)),
 oU (.st 1 (.tmp 57) (.tmp 56))]
def pop_r8:List CO:=[
 oN 58 (.mv (.tmp 0)),
 oN 59 (.mv (.tmp 6)),
 oN 60 (.call (.func 16) [(.tmp 58),(.tmp 59),(oK (-1)),(oK 0)])]
def pop_r9:List CO:=[
 oN 4 (.mv (oK 0))]
noncomputable def pop_k:KC :=
 (.seq (.reg pop_r0)
 (.seq (.seq (.reg pop_r1)
 (.cond (.tmp 21) (.seq (.reg pop_r2)
  .ret)
  .skip))
 (.seq (.reg pop_r3)
 (.seq (.seq (.reg pop_r4)
 (.cond (.tmp 32) (.seq (.reg pop_r5)
  .ret)
  .skip))
 (.seq (.reg pop_r6)
 (.seq (.draw #[0,1,3,7,0,0,32,96,224,0,992,2016,0,8160,16383,32767] pop_r7)
 (.seq (.reg pop_r8)
 (.seq (.reg pop_r9)
 .ret))))))))
theorem pop_comp:kcomp Tb0 Tryz.f12.ntmps pop_body=pop_k:=by kernel_rfl
theorem pop_some:Tryz.f12.body=some pop_body:=rfl
noncomputable def gens_body:Code:=(Tryz.f14.body).getD .skip
def gens_r0:List CO:=[
 oN 4 (.mv (oK 0))]
def gens_r1:List CO:=[
 oN 5 (.mv (.tmp 0)),
 oN 6 (.call (.func 47) [(.tmp 5)]),
 oN 7 (.mv (.tmp 6)),
 ⟨(some 8),(some (7,false)),.mv (.tmp 1)⟩,
 ⟨(some 9),(some (7,false)),.bin .lss (.tmp 8) (.const (.int .i64 (0)))⟩,
 oN 10 (.pick (.tmp 7) (.const (.bool true)) (.tmp 9)),
 oN 11 (.mv (.tmp 10)),
 ⟨(some 12),(some (11,false)),.mv (.tmp 1)⟩,
 ⟨(some 13),(some (11,false)),.mv (.tmp 0)⟩,
 ⟨(some 14),(some (11,false)),.nilc (.tmp 13)⟩,
 ⟨(some 15),(some (11,false)),.fa 12 (.tmp 14)⟩,
 ⟨(some 16),(some (11,false)),.ld1 (.tmp 15)⟩,
 ⟨(some 17),(some (11,false)),.len 1 (.tmp 16)⟩,
 ⟨(some 18),(some (11,false)),.bin .geq (.tmp 12) (.tmp 17)⟩,
 oN 19 (.pick (.tmp 11) (.const (.bool true)) (.tmp 18))]
def gens_r2:List CO:=[
 oN 4 (.mv (oK 0))]
def gens_r3:List CO:=[
 oN 20 (.mv (.tmp 0)),
 oN 21 (.nilc (.tmp 20)),
 oN 22 (.fa 12 (.tmp 21)),
 oN 23 (.ld1 (.tmp 22)),
 oN 24 (.mv (.tmp 1)),
 oN 25 (.iaS 1 (.tmp 23) (.tmp 24)),
 oN 26 (.ld1 (.tmp 25)),
 oN 27 (.len 1 (.tmp 26)),
 oN 4 (.mv (.tmp 27))]
noncomputable def gens_k:KC :=
 (.seq (.reg gens_r0)
 (.seq (.seq (.reg gens_r1)
 (.cond (.tmp 19) (.seq (.reg gens_r2)
  .ret)
  .skip))
 (.seq (.reg gens_r3)
 .ret)))
theorem gens_comp:kcomp Tb0 Tryz.f14.ntmps gens_body=gens_k:=by kernel_rfl
theorem gens_some:Tryz.f14.body=some gens_body:=rfl
noncomputable def ded_body:Code:=(Tryz.f47.body).getD .skip
def ded_r0:List CO:=[
 ⟨(some 2),none,.mv (.const (.bool false))⟩]
def ded_r1:List CO:=[
 ⟨(some 3),none,.mv (.tmp 0)⟩,
 ⟨(some 4),none,.eq false (.one .p) (.tmp 3) (.const (.pointer none))⟩,
 ⟨(some 5),none,.mv (.tmp 4)⟩,
 ⟨(some 6),(some (5,false)),.mv (.tmp 0)⟩,
 ⟨(some 7),(some (5,false)),.nilc (.tmp 6)⟩,
 ⟨(some 8),(some (5,false)),.fa 19 (.tmp 7)⟩,
 ⟨(some 9),(some (5,false)),.ld1 (.tmp 8)⟩,
 ⟨(some 10),none,.pick (.tmp 5) (.const (.bool true)) (.tmp 9)⟩,
 ⟨(some 2),none,.mv (.tmp 10)⟩]
noncomputable def ded_k:KC :=
 (.seq (.reg ded_r0)
 (.seq (.reg ded_r1)
 .ret))
theorem ded_comp:kcomp Tb0 Tryz.f47.ntmps ded_body=ded_k:=by kernel_rfl
theorem ded_some:Tryz.f47.body=some ded_body:=rfl
noncomputable def lcode_body:Code:=(Tryz.f90.body).getD .skip
def lcode_r0:List CO:=[
 oN 3 (.box 40 (.tmp 1)),
 oN 4 (.mv (oK 0))]
def lcode_r1:List CO:=[
 oN 5 (.mv (.tmp 0)),
 oN 6 (.ldN 5 (.tmp 3)),
 oN 7 (.call (.func 102) [(.tmp 6)]),
 oN 8 (.call (.func 113) [(.tmp 5),(.tmp 7)]),
 oN 9 (.un .not (.tmp 8))]
def lcode_r2:List CO:=[
 oN 4 (.mv (oK 8091))]
def lcode_r3:List CO:=[
 oN 10 (.fa 0 (.tmp 3)),
 oN 11 (.ld1 (.tmp 10)),
 oN 12 (.eq true (.one .i) (.tmp 11) (oK 4)),
 oN 13 (.mv (.tmp 12)),
 ⟨(some 14),(some (13,true)),.mv (.tmp 0)⟩,
 ⟨(some 15),(some (13,true)),.bin .rem (.tmp 14) (.const (.int .i64 (8)))⟩,
 ⟨(some 16),(some (13,true)),.eq true (.one .i) (.tmp 15) (.const (.int .i64 (0)))⟩,
 oN 17 (.pick (.tmp 13) (.tmp 16) (.const (.bool false)))]
def lcode_r4:List CO:=[
 oN 4 (.mv (oK 8095))]
def lcode_r5:List CO:=[
 oN 4 (.mv (oK 0))]
noncomputable def lcode_k:KC :=
 (.seq (.reg lcode_r0)
 (.seq (.seq (.reg lcode_r1)
 (.cond (.tmp 9) (.seq (.reg lcode_r2)
  .ret)
  .skip))
 (.seq (.seq (.reg lcode_r3)
 (.cond (.tmp 17) (.seq (.reg lcode_r4)
  .ret)
  .skip))
 (.seq (.reg lcode_r5)
 .ret))))
theorem lcode_comp:kcomp Tb0 Tryz.f90.ntmps lcode_body=lcode_k:=by kernel_rfl
theorem lcode_some:Tryz.f90.body=some lcode_body:=rfl
noncomputable def fits_body:Code:=(Tryz.f113.body).getD .skip
def fits_r0:List CO:=[
 oN 4 (.mv (.const (.bool false)))]
def fits_r1:List CO:=[
 oN 5 (.mv (.tmp 0)),
 oN 6 (.bin .geq (.tmp 5) (oK 0)),
 oN 7 (.mv (.tmp 6)),
 ⟨(some 8),(some (7,true)),.mv (.tmp 1)⟩,
 ⟨(some 9),(some (7,true)),.bin .geq (.tmp 8) (.const (.int .i64 (0)))⟩,
 oN 10 (.pick (.tmp 7) (.tmp 9) (.const (.bool false))),
 oN 11 (.mv (.tmp 10)),
 ⟨(some 12),(some (11,true)),.mv (.tmp 0)⟩,
 ⟨(some 13),(some (11,true)),.bin .leq (.tmp 12) (.const (.int .i64 (524288)))⟩,
 oN 14 (.pick (.tmp 11) (.tmp 13) (.const (.bool false))),
 oN 15 (.mv (.tmp 14)),
 ⟨(some 16),(some (15,true)),.mv (.tmp 1)⟩,
 ⟨(some 17),(some (15,true)),.mv (.tmp 0)⟩,
 ⟨(some 18),(some (15,true)),.bin .sub (.const (.int .i64 (524288))) (.tmp 17)⟩,
 ⟨(some 19),(some (15,true)),.bin .leq (.tmp 16) (.tmp 18)⟩,
 oN 20 (.pick (.tmp 15) (.tmp 19) (.const (.bool false))),
 oN 4 (.mv (.tmp 20))]
noncomputable def fits_k:KC :=
 (.seq (.reg fits_r0)
 (.seq (.reg fits_r1)
 .ret))
theorem fits_comp:kcomp Tb0 Tryz.f113.ntmps fits_body=fits_k:=by kernel_rfl
theorem fits_some:Tryz.f113.body=some fits_body:=rfl
noncomputable def mget_body:Code:=(Tryz.f101.body).getD .skip
def mget_r0:List CO:=[
 oN 6 (.mv (.const (.string ⟨#[]⟩)))]
def mget_r1:List CO:=[
 oN 10 (.mv (.tmp 2)),
 oN 11 (.mkSl 5 1 [.int .u8 (0)] (.tmp 10) (.tmp 10)),
 oN 7 (.mv (.tmp 11))]
def mget_r2:List CO:=[
 oN 12 (.mv (.tmp 7)),
 oN 13 (.len 1 (.tmp 12)),
 oN 14 (.mv (oK 0))]
def mget_r3:List CO:=[
 oN 15 (.bin .lss (.tmp 14) (.tmp 13))]
def mget_r4:List CO:=[
 oN 16 (.mv (.tmp 14)),
 oN 8 (.mv (.tmp 16))]
def mget_r5:List CO:=[
 oN 17 (.mv (.tmp 1)),
 oN 18 (.mv (.tmp 8)),
 oN 19 (.bin .add (.tmp 17) (.tmp 18)),
 oN 9 (.mv (.tmp 19))]
def mget_r6:List CO:=[
 oN 20 (.mv (.tmp 7)),
 oN 21 (.mv (.tmp 8)),
 oN 22 (.mv (.tmp 0)),
 oN 23 (.mv (.tmp 9)),
 oN 24 (.bin .quo (.tmp 23) (oK 8)),
 oN 25 (.nilc (.tmp 22)),
 oN 26 (.fa 0 (.tmp 25)),
 oN 27 (.iaA 65536 1 (.tmp 26) (.tmp 24)),
 oN 28 (.ld1 (.tmp 27)),
 oN 29 (.mv (.tmp 9)),
 oN 30 (.bin .rem (.tmp 29) (oK 8)),
 oN 31 (.bin .sub (oK 7) (.tmp 30)),
 oN 32 (.bin .shr (.tmp 28) (.tmp 31)),
 oN 33 (.bin .and (.tmp 32) (.const (.int .u8 (1)))),
 oN 34 (.bin .add (.const (.int .u8 (48))) (.tmp 33)),
 oN 35 (.iaS 1 (.tmp 20) (.tmp 21)),
 oU (.st 1 (.tmp 35) (.tmp 34))]
def mget_r7:List CO:=[
 oN 36 (.bin .add (.tmp 14) (oK 1)),
 oN 14 (.mv (.tmp 36))]
noncomputable def mget_l8:KC :=
 (.seq (.reg mget_r3)
 (.seq (.cond (.tmp 15) .skip
  (.exit 0))
 (.seq (.block 1 (.seq (.reg mget_r4)
  (.seq (.reg mget_r5)
  (.reg mget_r6))))
 (.reg mget_r7))))
def mget_r9:List CO:=[
 oN 37 (.mv (.tmp 7)),
 oN 38 (.cToS (.tmp 37)),
 oN 6 (.mv (.tmp 38))]
noncomputable def mget_k:KC :=
 (.seq (.reg mget_r0)
 (.seq (.reg mget_r1)
 (.seq (.seq (.reg mget_r2)
 (.block 0 (.loop mget_body.sr.sr.sl.sr.bl.lp mget_l8)))
 (.seq (.reg mget_r9)
 .ret))))
theorem mget_comp:kcomp Tb0 Tryz.f101.ntmps mget_body=mget_k:=by kernel_rfl
theorem mget_some:Tryz.f101.body=some mget_body:=rfl
noncomputable def mset_body:Code:=(Tryz.f91.body).getD .skip
def mset_r0:List CO:=[
 oN 9 (.mv (.tmp 2)),
 oN 10 (.len 0 (.tmp 9)),
 oN 11 (.mv (oK 0))]
def mset_r1:List CO:=[
 oN 12 (.bin .lss (.tmp 11) (.tmp 10))]
def mset_r2:List CO:=[
 oN 13 (.mv (.tmp 11)),
 oN 6 (.mv (.tmp 13))]
def mset_r3:List CO:=[
 oN 14 (.mv (.tmp 1)),
 oN 15 (.mv (.tmp 6)),
 oN 16 (.bin .add (.tmp 14) (.tmp 15)),
 oN 7 (.mv (.tmp 16))]
def mset_r4:List CO:=[
 oN 17 (.mv (.tmp 7)),
 oN 18 (.bin .rem (.tmp 17) (oK 8)),
 oN 19 (.bin .shr (.const (.int .u8 (128))) (.tmp 18)),
 oN 8 (.mv (.tmp 19))]
def mset_r5:List CO:=[
 oN 20 (.mv (.tmp 2)),
 oN 21 (.mv (.tmp 6)),
 oN 22 (.ixS (.tmp 20) (.tmp 21)),
 oN 23 (.eq false (.one .i) (.tmp 22) (.const (.int .u8 (49))))]
def mset_r6:List CO:=[
 oN 24 (.mv (.tmp 0)),
 oN 25 (.mv (.tmp 7)),
 oN 26 (.bin .quo (.tmp 25) (oK 8)),
 oN 27 (.nilc (.tmp 24)),
 oN 28 (.fa 0 (.tmp 27)),
 oN 29 (.iaA 65536 1 (.tmp 28) (.tmp 26)),
 oN 30 (.ld1 (.tmp 29)),
 oN 31 (.mv (.tmp 8)),
 oN 32 (.bin .or (.tmp 30) (.tmp 31)),
 oN 33 (.nilc (.tmp 24)),
 oN 34 (.fa 0 (.tmp 33)),
 oN 35 (.iaA 65536 1 (.tmp 34) (.tmp 26)),
 oU (.st 1 (.tmp 35) (.tmp 32))]
def mset_r7:List CO:=[
 oN 36 (.mv (.tmp 0)),
 oN 37 (.mv (.tmp 7)),
 oN 38 (.bin .quo (.tmp 37) (oK 8)),
 oN 39 (.nilc (.tmp 36)),
 oN 40 (.fa 0 (.tmp 39)),
 oN 41 (.iaA 65536 1 (.tmp 40) (.tmp 38)),
 oN 42 (.ld1 (.tmp 41)),
 oN 43 (.mv (.tmp 8)),
 oN 44 (.bin .andNot (.tmp 42) (.tmp 43)),
 oN 45 (.nilc (.tmp 36)),
 oN 46 (.fa 0 (.tmp 45)),
 oN 47 (.iaA 65536 1 (.tmp 46) (.tmp 38)),
 oU (.st 1 (.tmp 47) (.tmp 44))]
def mset_r8:List CO:=[
 oN 48 (.bin .add (.tmp 11) (oK 1)),
 oN 11 (.mv (.tmp 48))]
noncomputable def mset_l9:KC :=
 (.seq (.reg mset_r1)
 (.seq (.cond (.tmp 12) .skip
  (.exit 0))
 (.seq (.block 1 (.seq (.reg mset_r2)
  (.seq (.reg mset_r3)
  (.seq (.reg mset_r4)
  (.seq (.reg mset_r5)
  (.cond (.tmp 23) (.draw #[0,0,2,1,9,31,63,0,255,1,513,2047,4095] mset_r6)
   (.draw #[0,0,2,1,9,31,63,0,255,1,513,2047,4095] mset_r7)))))))
 (.reg mset_r8))))
noncomputable def mset_k:KC :=
 (.seq (.reg mset_r0)
 (.block 0 (.loop mset_body.sr.bl.lp mset_l9)))
theorem mset_comp:kcomp Tb0 Tryz.f91.ntmps mset_body=mset_k:=by kernel_rfl
theorem mset_some:Tryz.f91.body=some mset_body:=rfl
noncomputable def mload_body:Code:=(Tryz.f52.body).getD .skip
def mload_r0:List CO:=[
 oN 5 (.box 40 (.tmp 2)),
 oN 6 (.alloc (blkL [.int .i64 (0),.string ⟨#[]⟩] 47 0)),
 oN 7 (.mv (oK 0))]
def mload_r1:List CO:=[
 oN 11 (.mv (.tmp 0)),
 oN 12 (.eq false (.one .p) (.tmp 11) (.const (.pointer none)))]
def mload_r2:List CO:=[
 oN 13 (.call (.func 40) []),
 oN 0 (.mv (.tmp 13))]
def mload_r3:List CO:=[
 oN 14 (.ldN 5 (.tmp 5)),
 oN 15 (.call (.func 93) [(.tmp 14)]),
 oN 16 (.un .not (.tmp 15))]
def mload_r4:List CO:=[
 oN 17 (.build [.int .i64 (0),.string ⟨#[]⟩] []),
 oU (.st 2 (.tmp 6) (.tmp 17)),
 oN 7 (.mv (oK 8097))]
def mload_r5:List CO:=[
 oN 18 (.mv (.tmp 1)),
 oN 19 (.ldN 5 (.tmp 5)),
 oN 20 (.call (.func 90) [(.tmp 18),(.tmp 19)]),
 oN 8 (.mv (.tmp 20))]
def mload_r6:List CO:=[
 oN 21 (.mv (.tmp 8)),
 oN 22 (.eq true (.one .i) (.tmp 21) (oK 0))]
def mload_r7:List CO:=[
 oN 23 (.build [.int .i64 (0),.string ⟨#[]⟩] []),
 oN 24 (.mv (.tmp 8)),
 oU (.st 2 (.tmp 6) (.tmp 23)),
 oN 7 (.mv (.tmp 24))]
def mload_r8:List CO:=[
 oN 26 (.ldN 5 (.tmp 5)),
 oN 27 (.mv (.tmp 0)),
 oN 28 (.mv (.tmp 1)),
 oN 29 (.ldN 5 (.tmp 5)),
 oN 30 (.call (.func 102) [(.tmp 29)]),
 oN 31 (.call (.func 101) [(.tmp 27),(.tmp 28),(.tmp 30)]),
 oN 32 (.call (.func 100) [(.tmp 26),(.tmp 31)]),
 oN 25 (.mv (.tmp 32)),
 oN 33 (.ext (.tmp 25) 0),
 oN 34 (.ext (.tmp 25) 1),
 oN 9 (.alloc (blkL [.int .i64 (0),.string ⟨#[]⟩] 47 0)),
 oU (.st 2 (.tmp 9) (.tmp 33)),
 oN 10 (.mv (.tmp 34))]
def mload_r9:List CO:=[
 oN 35 (.mv (.tmp 10)),
 oN 36 (.eq true (.one .i) (.tmp 35) (oK 0))]
def mload_r10:List CO:=[
 oN 37 (.build [.int .i64 (0),.string ⟨#[]⟩] []),
 oU (.st 2 (.tmp 6) (.tmp 37)),
 oN 7 (.mv (oK 8097))]
def mload_r11:List CO:=[
 oN 38 (.ldN 2 (.tmp 9)),
 oU (.st 2 (.tmp 6) (.tmp 38)),
 oN 7 (.mv (oK 0))]
noncomputable def mload_k:KC :=
 (.seq (.reg mload_r0)
 (.seq (.seq (.reg mload_r1)
 (.cond (.tmp 12) (.reg mload_r2)
  .skip))
 (.seq (.seq (.reg mload_r3)
 (.cond (.tmp 16) (.seq (.reg mload_r4)
  .ret)
  .skip))
 (.seq (.seq (.reg mload_r5)
 (.seq (.reg mload_r6)
 (.cond (.tmp 22) (.seq (.reg mload_r7)
  .ret)
  .skip)))
 (.seq (.draw #[0,0,0,0,8,30,63,127,255,255,0,1535,4095] mload_r8)
 (.seq (.seq (.reg mload_r9)
 (.cond (.tmp 36) (.seq (.reg mload_r10)
  .ret)
  .skip))
 (.seq (.reg mload_r11)
 .ret)))))))
theorem mload_comp:kcomp Tb0 Tryz.f52.ntmps mload_body=mload_k:=by kernel_rfl
theorem mload_some:Tryz.f52.body=some mload_body:=rfl
noncomputable def mstore_body:Code:=(Tryz.f45.body).getD .skip
def mstore_r0:List CO:=[
 oN 6 (.box 40 (.tmp 2)),
 oN 7 (.box 47 (.tmp 3)),
 oN 8 (.mv (oK 0))]
def mstore_r1:List CO:=[
 oN 12 (.mv (.tmp 0)),
 oN 13 (.eq false (.one .p) (.tmp 12) (.const (.pointer none)))]
def mstore_r2:List CO:=[
 oN 14 (.call (.func 40) []),
 oN 0 (.mv (.tmp 14))]
def mstore_r3:List CO:=[
 oN 16 (.ldN 5 (.tmp 6)),
 oN 17 (.ldN 2 (.tmp 7)),
 oN 18 (.call (.func 89) [(.tmp 16),(.tmp 17)]),
 oN 15 (.mv (.tmp 18)),
 oN 19 (.ext (.tmp 15) 0),
 oN 20 (.ext (.tmp 15) 1),
 oN 9 (.mv (.tmp 19)),
 oN 10 (.mv (.tmp 20))]
def mstore_r4:List CO:=[
 oN 21 (.mv (.tmp 10)),
 oN 22 (.eq true (.one .i) (.tmp 21) (oK 0))]
def mstore_r5:List CO:=[
 oN 8 (.mv (oK 8097))]
def mstore_r6:List CO:=[
 oN 23 (.mv (.tmp 1)),
 oN 24 (.ldN 5 (.tmp 6)),
 oN 25 (.call (.func 90) [(.tmp 23),(.tmp 24)]),
 oN 11 (.mv (.tmp 25))]
def mstore_r7:List CO:=[
 oN 26 (.mv (.tmp 11)),
 oN 27 (.eq true (.one .i) (.tmp 26) (oK 0))]
def mstore_r8:List CO:=[
 oN 28 (.mv (.tmp 11)),
 oN 8 (.mv (.tmp 28))]
def mstore_r9:List CO:=[
 oN 29 (.mv (.tmp 0)),
 oN 30 (.mv (.tmp 1)),
 oN 31 (.mv (.tmp 9)),
 oN 32 (.call (.func 91) [(.tmp 29),(.tmp 30),(.tmp 31)])]
def mstore_r10:List CO:=[
 oN 8 (.mv (oK 0))]
noncomputable def mstore_k:KC :=
 (.seq (.reg mstore_r0)
 (.seq (.seq (.reg mstore_r1)
 (.cond (.tmp 13) (.reg mstore_r2)
  .skip))
 (.seq (.reg mstore_r3)
 (.seq (.seq (.reg mstore_r4)
 (.cond (.tmp 22) (.seq (.reg mstore_r5)
  .ret)
  .skip))
 (.seq (.seq (.reg mstore_r6)
 (.seq (.reg mstore_r7)
 (.cond (.tmp 27) (.seq (.reg mstore_r8)
  .ret)
  .skip)))
 (.seq (.reg mstore_r9)
 (.seq (.reg mstore_r10)
 .ret)))))))
theorem mstore_comp:kcomp Tb0 Tryz.f45.ntmps mstore_body=mstore_k:=by kernel_rfl
theorem mstore_some:Tryz.f45.body=some mstore_body:=rfl
noncomputable def mbytes_body:Code:=(Tryz.f103.body).getD .skip
def mbytes_r0:List CO:=[
 oN 6 (.mv (.const (.string ⟨#[]⟩))),
 oN 7 (.mv (oK 0))]
def mbytes_r1:List CO:=[
 oN 8 (.mv (.tmp 0)),
 oN 9 (.eq false (.one .p) (.tmp 8) (.const (.pointer none)))]
def mbytes_r2:List CO:=[
 oN 10 (.call (.func 40) []),
 oN 0 (.mv (.tmp 10))]
def mbytes_r3:List CO:=[
 oN 11 (.mv (.tmp 2)),
 oN 12 (.bin .lss (.tmp 11) (oK 0)),
 oN 13 (.mv (.tmp 12)),
 ⟨(some 14),(some (13,false)),.mv (.tmp 2)⟩,
 ⟨(some 15),(some (13,false)),.bin .gtr (.tmp 14) (.const (.int .i64 (65536)))⟩,
 oN 16 (.pick (.tmp 13) (.const (.bool true)) (.tmp 15)),
 oN 17 (.mv (.tmp 16)),
 ⟨(some 18),(some (17,false)),.mv (.tmp 1)⟩,
 ⟨(some 19),(some (17,false)),.mv (.tmp 2)⟩,
 ⟨(some 20),(some (17,false)),.bin .mul (.const (.int .i64 (8))) (.tmp 19)⟩,
 ⟨(some 21),(some (17,false)),.call (.func 113) [(.tmp 18),(.tmp 20)]⟩,
 ⟨(some 22),(some (17,false)),.un .not (.tmp 21)⟩,
 oN 23 (.pick (.tmp 17) (.const (.bool true)) (.tmp 22))]
def mbytes_r4:List CO:=[
 oN 6 (.mv (.const (.string ⟨#[]⟩))),
 oN 7 (.mv (oK 8091))]
def mbytes_r5:List CO:=[
 oN 24 (.mv (.tmp 1)),
 oN 25 (.bin .rem (.tmp 24) (oK 8)),
 oN 26 (.eq true (.one .i) (.tmp 25) (oK 0))]
def mbytes_r6:List CO:=[
 oN 6 (.mv (.const (.string ⟨#[]⟩))),
 oN 7 (.mv (oK 8095))]
def mbytes_r7:List CO:=[
 oN 27 (.mv (.tmp 0)),
 oN 28 (.nilc (.tmp 27)),
 oN 29 (.fa 0 (.tmp 28)),
 oN 30 (.mv (.tmp 1)),
 oN 31 (.bin .quo (.tmp 30) (oK 8)),
 oN 32 (.mv (.tmp 1)),
 oN 33 (.bin .quo (.tmp 32) (oK 8)),
 oN 34 (.mv (.tmp 2)),
 oN 35 (.bin .add (.tmp 33) (.tmp 34)),
 oN 36 (.slA 65536 1 (.tmp 29) (some (.tmp 31)) (some (.tmp 35)) none),
 oN 37 (.cToS (.tmp 36)),
 oN 6 (.mv (.tmp 37)),
 oN 7 (.mv (oK 0))]
noncomputable def mbytes_k:KC :=
 (.seq (.reg mbytes_r0)
 (.seq (.seq (.reg mbytes_r1)
 (.cond (.tmp 9) (.reg mbytes_r2)
  .skip))
 (.seq (.seq (.reg mbytes_r3)
 (.cond (.tmp 23) (.seq (.reg mbytes_r4)
  .ret)
  .skip))
 (.seq (.seq (.reg mbytes_r5)
 (.cond (.tmp 26) (.seq (.reg mbytes_r6)
  .ret)
  .skip))
 (.seq (.reg mbytes_r7)
 .ret)))))
theorem mbytes_comp:kcomp Tb0 Tryz.f103.ntmps mbytes_body=mbytes_k:=by kernel_rfl
theorem mbytes_some:Tryz.f103.body=some mbytes_body:=rfl
noncomputable def mput_body:Code:=(Tryz.f55.body).getD .skip
def mput_r0:List CO:=[
 oN 6 (.mv (oK 0))]
def mput_r1:List CO:=[
 oN 7 (.mv (.tmp 0)),
 oN 8 (.eq false (.one .p) (.tmp 7) (.const (.pointer none)))]
def mput_r2:List CO:=[
 oN 9 (.call (.func 40) []),
 oN 0 (.mv (.tmp 9))]
def mput_r3:List CO:=[
 oN 10 (.mv (.tmp 2)),
 oN 11 (.len 0 (.tmp 10)),
 oN 12 (.bin .gtr (.tmp 11) (oK 65536)),
 oN 13 (.mv (.tmp 12)),
 ⟨(some 14),(some (13,false)),.mv (.tmp 1)⟩,
 ⟨(some 15),(some (13,false)),.mv (.tmp 2)⟩,
 ⟨(some 16),(some (13,false)),.len 0 (.tmp 15)⟩,
 ⟨(some 17),(some (13,false)),.bin .mul (.const (.int .i64 (8))) (.tmp 16)⟩,
 ⟨(some 18),(some (13,false)),.call (.func 113) [(.tmp 14),(.tmp 17)]⟩,
 ⟨(some 19),(some (13,false)),.un .not (.tmp 18)⟩,
 oN 20 (.pick (.tmp 13) (.const (.bool true)) (.tmp 19))]
def mput_r4:List CO:=[
 oN 6 (.mv (oK 8091))]
def mput_r5:List CO:=[
 oN 21 (.mv (.tmp 1)),
 oN 22 (.bin .rem (.tmp 21) (oK 8)),
 oN 23 (.eq true (.one .i) (.tmp 22) (oK 0))]
def mput_r6:List CO:=[
 oN 6 (.mv (oK 8095))]
def mput_r7:List CO:=[
 oN 24 (.mv (.tmp 0)),
 oN 25 (.nilc (.tmp 24)),
 oN 26 (.fa 0 (.tmp 25)),
 oN 27 (.mv (.tmp 1)),
 oN 28 (.bin .quo (.tmp 27) (oK 8)),
 oN 29 (.slA 65536 1 (.tmp 26) (some (.tmp 28)) none none),
 oN 30 (.mv (.tmp 2)),
 oN 31 (.copy 1 (.tmp 29) (.tmp 30))]
def mput_r8:List CO:=[
 oN 6 (.mv (oK 0))]
noncomputable def mput_k:KC :=
 (.seq (.reg mput_r0)
 (.seq (.seq (.reg mput_r1)
 (.cond (.tmp 8) (.reg mput_r2)
  .skip))
 (.seq (.seq (.reg mput_r3)
 (.cond (.tmp 20) (.seq (.reg mput_r4)
  .ret)
  .skip))
 (.seq (.seq (.reg mput_r5)
 (.cond (.tmp 23) (.seq (.reg mput_r6)
  .ret)
  .skip))
 (.seq (.reg mput_r7)
 (.seq (.reg mput_r8)
 .ret))))))
theorem mput_comp:kcomp Tb0 Tryz.f55.ntmps mput_body=mput_k:=by kernel_rfl
theorem mput_some:Tryz.f55.body=some mput_body:=rfl
noncomputable def who_body:Code:=(Tryz.f154.body).getD .skip
def who_r0:List CO:=[
 oN 8 (.alloc (blkL [.int .i64 (0),.int .i64 (0),.int .i64 (0)] 195 0)),
 oN 9 (.mv (.const (.bool false)))]
def who_r1:List CO:=[
 oN 12 (.mv (.tmp 2)),
 oN 13 (.mv (.tmp 1)),
 oN 14 (.bin .sub (.tmp 12) (.tmp 13)),
 oN 15 (.bin .lss (.tmp 14) (oK 8))]
def who_r2:List CO:=[
 oN 16 (.build [.int .i64 (0),.int .i64 (0),.int .i64 (0)] []),
 oU (.st 3 (.tmp 8) (.tmp 16)),
 oN 9 (.mv (.const (.bool false)))]
def who_r3:List CO:=[
 oN 17 (.mv (.tmp 1)),
 oN 18 (.mv (.tmp 0)),
 oN 19 (.mv (.tmp 1)),
 oN 20 (.call (.func 110) [(.tmp 18),(.tmp 19)]),
 oN 21 (.mv (.tmp 0)),
 oN 22 (.mv (.tmp 1)),
 oN 23 (.bin .add (.tmp 22) (oK 4)),
 oN 24 (.call (.func 110) [(.tmp 21),(.tmp 23)]),
 oN 25 (.build [.int .i64 (0),.int .i64 (0),.int .i64 (0)] [(0,1,(.tmp 17)),(1,1,(.tmp 20)),(2,1,(.tmp 24))]),
 oN 10 (.alloc (blkL [.int .i64 (0),.int .i64 (0),.int .i64 (0)] 195 0)),
 oU (.st 3 (.tmp 10) (.tmp 25))]
def who_r4:List CO:=[
 oN 26 (.fa 1 (.tmp 10)),
 oN 27 (.ld1 (.tmp 26)),
 oN 28 (.mv (.tmp 2)),
 oN 29 (.mv (.tmp 1)),
 oN 30 (.bin .sub (.tmp 28) (.tmp 29)),
 oN 31 (.bin .sub (.tmp 30) (oK 8)),
 oN 32 (.bin .gtr (.tmp 27) (.tmp 31)),
 oN 33 (.mv (.tmp 32)),
 ⟨(some 34),(some (33,false)),.ldN 3 (.tmp 10)⟩,
 ⟨(some 35),(some (33,false)),.call (.func 108) [(.tmp 34)]⟩,
 ⟨(some 36),(some (33,false)),.mv (.tmp 2)⟩,
 ⟨(some 37),(some (33,false)),.bin .gtr (.tmp 35) (.tmp 36)⟩,
 oN 38 (.pick (.tmp 33) (.const (.bool true)) (.tmp 37))]
def who_r5:List CO:=[
 oN 39 (.build [.int .i64 (0),.int .i64 (0),.int .i64 (0)] []),
 oU (.st 3 (.tmp 8) (.tmp 39)),
 oN 9 (.mv (.const (.bool false)))]
def who_r6:List CO:=[
 oN 40 (.mv (.tmp 0)),
 oN 41 (.ldN 3 (.tmp 10)),
 oN 42 (.call (.func 196) [(.tmp 40),(.tmp 41)]),
 oN 11 (.mv (.tmp 42))]
def who_r7:List CO:=[
 oN 43 (.fa 2 (.tmp 10)),
 oN 44 (.ld1 (.tmp 43))]
def who_r8:List CO:=[
 oN 46 (.eq false (.one .i) (.tmp 44) (oK 1)),
 oN 45 (.mv (.tmp 46))]
def who_r9:List CO:=[
 oN 47 (.ldN 3 (.tmp 10)),
 oN 48 (.fa 1 (.tmp 10)),
 oN 49 (.ld1 (.tmp 48)),
 oN 50 (.bin .geq (.tmp 49) (oK 1)),
 oN 51 (.mv (.tmp 50)),
 ⟨(some 52),(some (51,true)),.mv (.tmp 11)⟩,
 ⟨(some 53),(some (51,true)),.fa 1 (.tmp 10)⟩,
 ⟨(some 54),(some (51,true)),.ld1 (.tmp 53)⟩,
 ⟨(some 55),(some (51,true)),.slL 1 (.tmp 52) (some (.tmp 54)) none none⟩,
 ⟨(some 56),(some (51,true)),.call (.func 153) [(.tmp 55)]⟩,
 oN 57 (.pick (.tmp 51) (.tmp 56) (.const (.bool false))),
 oU (.st 3 (.tmp 8) (.tmp 47)),
 oN 9 (.mv (.tmp 57))]
def who_r10:List CO:=[
 oN 59 (.eq false (.one .i) (.tmp 44) (oK 2)),
 oN 58 (.mv (.tmp 59))]
def who_r11:List CO:=[
 oN 60 (.ldN 3 (.tmp 10)),
 oN 61 (.fa 1 (.tmp 10)),
 oN 62 (.ld1 (.tmp 61)),
 oN 63 (.bin .rem (.tmp 62) (oK 8)),
 oN 64 (.eq false (.one .i) (.tmp 63) (oK 0)),
 oN 65 (.mv (.tmp 64)),
 ⟨(some 66),(some (65,true)),.mv (.tmp 11)⟩,
 ⟨(some 67),(some (65,true)),.call (.func 153) [(.tmp 66)]⟩,
 oN 68 (.pick (.tmp 65) (.tmp 67) (.const (.bool false))),
 oN 69 (.mv (.tmp 68)),
 ⟨(some 70),(some (69,true)),.mv (.tmp 3)⟩,
 ⟨(some 71),(some (69,true)),.un .not (.tmp 70)⟩,
 oN 72 (.pick (.tmp 69) (.tmp 71) (.const (.bool false))),
 oN 73 (.mv (.tmp 72)),
 ⟨(some 74),(some (73,true)),.mv (.tmp 1)⟩,
 ⟨(some 75),(some (73,true)),.bin .gtr (.tmp 74) (.const (.int .i64 (8)))⟩,
 ⟨(some 76),(some (73,true)),.mv (.tmp 75)⟩,
 ⟨(some 77),(some (76,false)),.fa 1 (.tmp 10)⟩,
 ⟨(some 78),(some (76,false)),.ld1 (.tmp 77)⟩,
 ⟨(some 79),(some (76,false)),.bin .geq (.tmp 78) (.const (.int .i64 (8)))⟩,
 ⟨(some 80),(some (73,true)),.pick (.tmp 76) (.const (.bool true)) (.tmp 79)⟩,
 oN 81 (.pick (.tmp 73) (.tmp 80) (.const (.bool false))),
 oU (.st 3 (.tmp 8) (.tmp 60)),
 oN 9 (.mv (.tmp 81))]
def who_r12:List CO:=[
 oN 82 (.build [.int .i64 (0),.int .i64 (0),.int .i64 (0)] []),
 oU (.st 3 (.tmp 8) (.tmp 82)),
 oN 9 (.mv (.const (.bool false)))]
noncomputable def who_k:KC :=
 (.seq (.reg who_r0)
 (.seq (.seq (.reg who_r1)
 (.cond (.tmp 15) (.seq (.reg who_r2)
  .ret)
  .skip))
 (.seq (.reg who_r3)
 (.seq (.seq (.reg who_r4)
 (.cond (.tmp 38) (.seq (.reg who_r5)
  .ret)
  .skip))
 (.seq (.reg who_r6)
 (.seq (.seq (.reg who_r7)
 (.block 0 (.seq (.reg who_r8)
  (.cond (.tmp 45) (.seq (.draw #[0,0,2,6,14,30,30,94,254,510,1022,1023,4095] who_r9)
   .ret)
   (.seq (.reg who_r10)
   (.cond (.tmp 58) (.seq (.draw #[0,0,2,6,14,30,62,126,254,510,1022,2046,4094,8190,16382,32766,65534,131070,262142,524286,1048574,2097150,131071,8388607] who_r11)
    .ret)
    .skip))))))
 (.seq (.reg who_r12)
 .ret)))))))
theorem who_comp:kcomp Tb0 Tryz.f154.ntmps who_body=who_k:=by kernel_rfl
theorem who_some:Tryz.f154.body=some who_body:=rfl
noncomputable def opn_body:Code:=(Tryz.f105.body).getD .skip
def opn_r0:List CO:=[
 oN 2 (.mv (.const (.slice none 0 0))),
 oN 3 (.mv (.const (.bool false)))]
def opn_r1:List CO:=[
 oN 11 (.mv (.tmp 0)),
 oN 12 (.len 0 (.tmp 11)),
 oN 13 (.bin .lss (.tmp 12) (oK 16)),
 oN 14 (.mv (.tmp 13)),
 ⟨(some 15),(some (14,false)),.mv (.tmp 0)⟩,
 ⟨(some 16),(some (14,false)),.len 0 (.tmp 15)⟩,
 ⟨(some 17),(some (14,false)),.bin .gtr (.tmp 16) (.const (.int .i64 (8192)))⟩,
 oN 18 (.pick (.tmp 14) (.const (.bool true)) (.tmp 17))]
def opn_r2:List CO:=[
 oN 2 (.mv (.const (.slice none 0 0))),
 oN 3 (.mv (.const (.bool false)))]
def opn_r3:List CO:=[
 oN 19 (.mv (.tmp 0)),
 oN 20 (.len 0 (.tmp 19)),
 oN 21 (.mkSl 5 1 [.int .u8 (0)] (.tmp 20) (.tmp 20)),
 oN 4 (.mv (.tmp 21))]
def opn_r4:List CO:=[
 oN 22 (.mv (.tmp 4)),
 oN 23 (.mv (.tmp 0)),
 oN 24 (.copy 1 (.tmp 22) (.tmp 23))]
def opn_r5:List CO:=[
 oN 25 (.mv (.tmp 4)),
 oN 26 (.call (.func 111) [(.tmp 25)]),
 oN 5 (.mv (.tmp 26))]
def opn_r6:List CO:=[
 oN 27 (.mv (.tmp 5)),
 oN 28 (.mv (.tmp 4)),
 oN 29 (.len 1 (.tmp 28)),
 oN 30 (.bin .gtr (.tmp 27) (.tmp 29)),
 oN 31 (.mv (.tmp 30)),
 ⟨(some 32),(some (31,false)),.mv (.tmp 4)⟩,
 ⟨(some 33),(some (31,false)),.mv (.tmp 5)⟩,
 ⟨(some 34),(some (31,false)),.slL 1 (.tmp 32) (some (.tmp 33)) none none⟩,
 ⟨(some 35),(some (31,false)),.call (.func 153) [(.tmp 34)]⟩,
 ⟨(some 36),(some (31,false)),.un .not (.tmp 35)⟩,
 oN 37 (.pick (.tmp 31) (.const (.bool true)) (.tmp 36))]
def opn_r7:List CO:=[
 oN 2 (.mv (.const (.slice none 0 0))),
 oN 3 (.mv (.const (.bool false)))]
def opn_r8:List CO:=[
 oN 6 (.mv (.const (.bool false))),
 oN 7 (.mv (oK 0))]
def opn_r9:List CO:=[
 oN 8 (.mv (oK 8))]
def opn_r10:List CO:=[
 oN 38 (.mv (.tmp 8)),
 oN 39 (.mv (.tmp 5)),
 oN 40 (.bin .lss (.tmp 38) (.tmp 39))]
def opn_r11:List CO:=[
 oN 42 (.mv (.tmp 4)),
 oN 43 (.mv (.tmp 8)),
 oN 44 (.mv (.tmp 5)),
 oN 45 (.mv (.tmp 6)),
 oN 46 (.call (.func 154) [(.tmp 42),(.tmp 43),(.tmp 44),(.tmp 45)]),
 oN 41 (.mv (.tmp 46)),
 oN 47 (.ext (.tmp 41) 0),
 oN 48 (.ext (.tmp 41) 1),
 oN 9 (.alloc (blkL [.int .i64 (0),.int .i64 (0),.int .i64 (0)] 195 0)),
 oU (.st 3 (.tmp 9) (.tmp 47)),
 oN 10 (.mv (.tmp 48))]
def opn_r12:List CO:=[
 oN 49 (.mv (.tmp 10)),
 oN 50 (.un .not (.tmp 49))]
def opn_r13:List CO:=[
 oN 2 (.mv (.const (.slice none 0 0))),
 oN 3 (.mv (.const (.bool false)))]
def opn_r14:List CO:=[
 oN 51 (.fa 2 (.tmp 9)),
 oN 52 (.ld1 (.tmp 51)),
 oN 53 (.eq false (.one .i) (.tmp 52) (oK 2)),
 oN 6 (.mv (.tmp 53))]
def opn_r15:List CO:=[
 oN 54 (.mv (.tmp 6)),
 oN 55 (.un .not (.tmp 54))]
def opn_r16:List CO:=[
 oN 56 (.mv (.tmp 7)),
 oN 57 (.bin .add (.tmp 56) (oK 1)),
 oN 7 (.mv (.tmp 57))]
def opn_r17:List CO:=[
 oN 58 (.ldN 3 (.tmp 9)),
 oN 59 (.call (.func 108) [(.tmp 58)]),
 oN 8 (.mv (.tmp 59))]
noncomputable def opn_l18:KC :=
 (.seq (.seq (.reg opn_r10)
 (.cond (.tmp 40) .skip
  (.exit 0)))
 (.block 1 (.seq (.reg opn_r11)
  (.seq (.seq (.reg opn_r12)
  (.cond (.tmp 50) (.seq (.reg opn_r13)
   .ret)
   .skip))
  (.seq (.reg opn_r14)
  (.seq (.seq (.reg opn_r15)
  (.cond (.tmp 55) (.reg opn_r16)
   .skip))
  (.reg opn_r17)))))))
def opn_r19:List CO:=[
 oN 60 (.mv (.tmp 4)),
 oN 61 (.mv (.tmp 6)),
 oN 62 (.un .not (.tmp 61)),
 oN 63 (.mv (.tmp 62)),
 ⟨(some 64),(some (63,true)),.mv (.tmp 7)⟩,
 ⟨(some 65),(some (63,true)),.mv (.tmp 4)⟩,
 ⟨(some 66),(some (63,true)),.call (.func 110) [(.tmp 65),(.const (.int .i64 (4)))]⟩,
 ⟨(some 67),(some (63,true)),.eq false (.one .i) (.tmp 64) (.tmp 66)⟩,
 oN 68 (.pick (.tmp 63) (.tmp 67) (.const (.bool false))),
 oN 2 (.mv (.tmp 60)),
 oN 3 (.mv (.tmp 68))]
noncomputable def opn_k:KC :=
 (.seq (.reg opn_r0)
 (.seq (.seq (.reg opn_r1)
 (.cond (.tmp 18) (.seq (.reg opn_r2)
  .ret)
  .skip))
 (.seq (.reg opn_r3)
 (.seq (.reg opn_r4)
 (.seq (.reg opn_r5)
 (.seq (.seq (.reg opn_r6)
 (.cond (.tmp 37) (.seq (.reg opn_r7)
  .ret)
  .skip))
 (.seq (.reg opn_r8)
 (.seq (.seq (.reg opn_r9)
 (.block 0 (.loop opn_body.sr.sr.sr.sr.sr.sr.sr.sl.sr.bl.lp opn_l18)))
 (.seq (.reg opn_r19)
 .ret)))))))))
theorem opn_comp:kcomp Tb0 Tryz.f105.ntmps opn_body=opn_k:=by kernel_rfl
theorem opn_some:Tryz.f105.body=some opn_body:=rfl
noncomputable def achk_body:Code:=(Tryz.f104.body).getD .skip
def achk_r0:List CO:=[
 oN 2 (.mv (oK 0))]
def achk_r1:List CO:=[
 oN 6 (.mv (.tmp 0)),
 oN 7 (.call (.func 105) [(.tmp 6)]),
 oN 5 (.mv (.tmp 7)),
 oN 8 (.ext (.tmp 5) 0),
 oN 9 (.ext (.tmp 5) 1),
 oN 3 (.mv (.tmp 8)),
 oN 4 (.mv (.tmp 9))]
def achk_r2:List CO:=[
 oN 10 (.mv (.tmp 4)),
 oN 11 (.un .not (.tmp 10))]
def achk_r3:List CO:=[
 oN 2 (.mv (oK 120))]
def achk_r4:List CO:=[
 oN 2 (.mv (oK 0))]
noncomputable def achk_k:KC :=
 (.seq (.reg achk_r0)
 (.seq (.seq (.reg achk_r1)
 (.seq (.reg achk_r2)
 (.cond (.tmp 11) (.seq (.reg achk_r3)
  .ret)
  .skip)))
 (.seq (.reg achk_r4)
 .ret)))
theorem achk_comp:kcomp Tb0 Tryz.f104.ntmps achk_body=achk_k:=by kernel_rfl
theorem achk_some:Tryz.f104.body=some achk_body:=rfl
end Go.Proofs.RS
end
