/-
 A part of the proof that pliantlaw15.RtsAreas returns true and leaves its arguments alone. Conditions: those of the card in the last text.
-/
import Derived.KernelRfl
import Derived.Test.YtgdejggelcpokaaGreatDoorG10
import Derived.Test.YtgdejggelcpokaaGreatDoorG11
set_option linter.unusedSimpArgs false
set_option linter.unusedVariables false
set_option linter.unusedSectionVars false
noncomputable section
namespace Go.Proofs.RS
open Go Go.Ev Go.Proofs
noncomputable def rload_body:Code:=(Tryz.f15.body).getD .skip
def rload_r0:List CO:=[
 oN 5 (.box 40 (.tmp 2)),
 oN 6 (.alloc (blkL [.int .i64 (0),.string ⟨#[]⟩] 47 0)),
 oN 7 (.mv (oK 0))]
def rload_r1:List CO:=[
 oN 8 (.mv (.tmp 0)),
 oN 9 (.call (.func 47) [(.tmp 8)]),
 oN 10 (.mv (.tmp 9)),
 ⟨(some 11),(some (10,false)),.fa 0 (.tmp 5)⟩,
 ⟨(some 12),(some (10,false)),.ld1 (.tmp 11)⟩,
 ⟨(some 13),(some (10,false)),.eq false (.one .i) (.tmp 12) (.const (.int .i64 (7)))⟩,
 oN 14 (.pick (.tmp 10) (.const (.bool true)) (.tmp 13)),
 oN 15 (.mv (.tmp 14)),
 ⟨(some 16),(some (15,false)),.ldN 5 (.tmp 5)⟩,
 ⟨(some 17),(some (15,false)),.call (.func 51) [(.tmp 16)]⟩,
 ⟨(some 18),(some (15,false)),.eq true (.one .i) (.tmp 17) (.const (.int .i64 (0)))⟩,
 oN 19 (.pick (.tmp 15) (.const (.bool true)) (.tmp 18))]
def rload_r2:List CO:=[
 oN 20 (.build [.int .i64 (0),.string ⟨#[]⟩] []),
 oU (.st 2 (.tmp 6) (.tmp 20)),
 oN 7 (.mv (oK (-1)))]
def rload_r3:List CO:=[
 oN 21 (.mv (.tmp 0)),
 oN 22 (.nilc (.tmp 21)),
 oN 23 (.fa 6 (.tmp 22)),
 oN 24 (.ld1 (.tmp 23)),
 oN 25 (.mv (.tmp 1)),
 oN 26 (.ldN 5 (.tmp 5)),
 oN 27 (.call (.func 52) [(.tmp 24),(.tmp 25),(.tmp 26)]),
 oN 28 (.ext (.tmp 27) 0),
 oN 29 (.ext (.tmp 27) 1),
 oU (.st 2 (.tmp 6) (.tmp 28)),
 oN 7 (.mv (.tmp 29))]
noncomputable def rload_k:KC :=
 (.seq (.reg rload_r0)
 (.seq (.seq (.reg rload_r1)
 (.cond (.tmp 19) (.seq (.reg rload_r2)
  .ret)
  .skip))
 (.seq (.draw #[0,1,3,7,0,0,63,127,127,511,1023] rload_r3)
 .ret)))
theorem rload_comp:kcomp Tb0 Tryz.f15.ntmps rload_body=rload_k:=by kernel_rfl
theorem rload_some:Tryz.f15.body=some rload_body:=rfl
noncomputable def rstore_body:Code:=(Tryz.f11.body).getD .skip
def rstore_r0:List CO:=[
 oN 6 (.box 40 (.tmp 2)),
 oN 7 (.box 47 (.tmp 3)),
 oN 8 (.mv (oK 0))]
def rstore_r1:List CO:=[
 oN 9 (.mv (.tmp 0)),
 oN 10 (.call (.func 47) [(.tmp 9)]),
 oN 11 (.mv (.tmp 10)),
 ⟨(some 12),(some (11,false)),.ldN 5 (.tmp 6)⟩,
 ⟨(some 13),(some (11,false)),.ldN 2 (.tmp 7)⟩,
 ⟨(some 14),(some (11,false)),.call (.func 50) [(.tmp 12),(.tmp 13)]⟩,
 ⟨(some 15),(some (11,false)),.eq true (.one .i) (.tmp 14) (.const (.int .i64 (0)))⟩,
 oN 16 (.pick (.tmp 11) (.const (.bool true)) (.tmp 15))]
def rstore_r2:List CO:=[
 oN 8 (.mv (oK (-1)))]
def rstore_r3:List CO:=[
 oN 17 (.mv (.tmp 0)),
 oN 18 (.nilc (.tmp 17)),
 oN 19 (.fa 6 (.tmp 18)),
 oN 20 (.ld1 (.tmp 19)),
 oN 21 (.mv (.tmp 1)),
 oN 22 (.ldN 5 (.tmp 6)),
 oN 23 (.ldN 2 (.tmp 7)),
 oN 24 (.call (.func 45) [(.tmp 20),(.tmp 21),(.tmp 22),(.tmp 23)]),
 oN 8 (.mv (.tmp 24))]
noncomputable def rstore_k:KC :=
 (.seq (.reg rstore_r0)
 (.seq (.seq (.reg rstore_r1)
 (.cond (.tmp 16) (.seq (.reg rstore_r2)
  .ret)
  .skip))
 (.seq (.draw #[0,1,3,7,0,0,0,127,255] rstore_r3)
 .ret)))
theorem rstore_comp:kcomp Tb0 Tryz.f11.ntmps rstore_body=rstore_k:=by kernel_rfl
theorem rstore_some:Tryz.f11.body=some rstore_body:=rfl
noncomputable def sized_body:Code:=(Tryz.f57.body).getD .skip
def sized_r0:List CO:=[
 oN 4 (.mv (.const (.bool false)))]
def sized_r1:List CO:=[
 oN 5 (.mv (.tmp 0)),
 oN 6 (.eq false (.one .i) (.tmp 5) (oK (-1))),
 oN 7 (.mv (.tmp 6)),
 ⟨(some 8),(some (7,true)),.mv (.tmp 1)⟩,
 ⟨(some 9),(some (7,true)),.eq false (.one .i) (.tmp 8) (.const (.int .i64 (0)))⟩,
 oN 10 (.pick (.tmp 7) (.tmp 9) (.const (.bool false))),
 oN 11 (.mv (.tmp 10)),
 ⟨(some 12),(some (11,false)),.mv (.tmp 1)⟩,
 ⟨(some 13),(some (11,false)),.bin .geq (.tmp 12) (.const (.int .i64 (16)))⟩,
 ⟨(some 14),(some (11,false)),.mv (.tmp 13)⟩,
 ⟨(some 15),(some (14,true)),.mv (.tmp 1)⟩,
 ⟨(some 16),(some (14,true)),.bin .leq (.tmp 15) (.const (.int .i64 (4096)))⟩,
 ⟨(some 17),(some (11,false)),.pick (.tmp 14) (.tmp 16) (.const (.bool false))⟩,
 oN 18 (.pick (.tmp 11) (.const (.bool true)) (.tmp 17)),
 oN 4 (.mv (.tmp 18))]
noncomputable def sized_k:KC :=
 (.seq (.reg sized_r0)
 (.seq (.reg sized_r1)
 .ret))
theorem sized_comp:kcomp Tb0 Tryz.f57.ntmps sized_body=sized_k:=by kernel_rfl
theorem sized_some:Tryz.f57.body=some sized_body:=rfl
noncomputable def found_body:Code:=(Tryz.f53.body).getD .skip
def found_r0:List CO:=[
 oN 6 (.mv (oK 0)),
 oN 7 (.mv (.const (.string ⟨#[]⟩))),
 oN 8 (.mv (oK 0))]
def found_r1:List CO:=[
 oN 11 (.mv (.tmp 1)),
 oN 12 (.mv (.tmp 2)),
 oN 13 (.call (.func 57) [(.tmp 11),(.tmp 12)]),
 oN 14 (.un .not (.tmp 13))]
def found_r2:List CO:=[
 oN 6 (.mv (oK 0)),
 oN 7 (.mv (.const (.string ⟨#[]⟩))),
 oN 8 (.mv (oK (-1)))]
def found_r3:List CO:=[
 oN 15 (.mv (.tmp 2)),
 oN 16 (.eq false (.one .i) (.tmp 15) (oK 0))]
def found_r4:List CO:=[
 oN 1 (.mv (oK 458752)),
 oN 2 (.mv (oK 8192))]
def found_r5:List CO:=[
 oN 18 (.mv (.tmp 0)),
 oN 19 (.nilc (.tmp 18)),
 oN 20 (.fa 6 (.tmp 19)),
 oN 21 (.ld1 (.tmp 20)),
 oN 22 (.mv (.tmp 1)),
 oN 23 (.mv (.tmp 2)),
 oN 24 (.call (.func 103) [(.tmp 21),(.tmp 22),(.tmp 23)]),
 oN 17 (.mv (.tmp 24)),
 oN 25 (.ext (.tmp 17) 0),
 oN 26 (.ext (.tmp 17) 1),
 oN 9 (.mv (.tmp 25)),
 oN 10 (.mv (.tmp 26))]
def found_r6:List CO:=[
 oN 27 (.mv (.tmp 10)),
 oN 28 (.eq true (.one .i) (.tmp 27) (oK 0))]
def found_r7:List CO:=[
 oN 29 (.mv (.tmp 10)),
 oN 6 (.mv (oK 0)),
 oN 7 (.mv (.const (.string ⟨#[]⟩))),
 oN 8 (.mv (.tmp 29))]
def found_r8:List CO:=[
 oN 30 (.mv (.tmp 9)),
 oN 31 (.call (.func 104) [(.tmp 30)]),
 oN 32 (.eq true (.one .i) (.tmp 31) (oK 0))]
def found_r9:List CO:=[
 oN 6 (.mv (oK 0)),
 oN 7 (.mv (.const (.string ⟨#[]⟩))),
 oN 8 (.mv (oK 8097))]
def found_r10:List CO:=[
 oN 33 (.mv (.tmp 1)),
 oN 34 (.mv (.tmp 9)),
 oN 6 (.mv (.tmp 33)),
 oN 7 (.mv (.tmp 34)),
 oN 8 (.mv (oK 0))]
noncomputable def found_k:KC :=
 (.seq (.reg found_r0)
 (.seq (.seq (.reg found_r1)
 (.cond (.tmp 14) (.seq (.reg found_r2)
  .ret)
  .skip))
 (.seq (.seq (.reg found_r3)
 (.cond (.tmp 16) (.reg found_r4)
  .skip))
 (.seq (.reg found_r5)
 (.seq (.seq (.reg found_r6)
 (.cond (.tmp 28) (.seq (.reg found_r7)
  .ret)
  .skip))
 (.seq (.seq (.reg found_r8)
 (.cond (.tmp 32) (.seq (.reg found_r9)
  .ret)
  .skip))
 (.seq (.reg found_r10)
 .ret)))))))
theorem found_comp:kcomp Tb0 Tryz.f53.ntmps found_body=found_k:=by kernel_rfl
theorem found_some:Tryz.f53.body=some found_body:=rfl
noncomputable def ralloc_body:Code:=(Tryz.f18.body).getD .skip
def ralloc_r0:List CO:=[
 oN 8 (.mv (oK 0)),
 oN 9 (.mv (.const (.bool false))),
 oN 10 (.mv (oK 0))]
def ralloc_r1:List CO:=[
 oN 15 (.mv (.tmp 0)),
 oN 16 (.call (.func 47) [(.tmp 15)]),
 oN 17 (.mv (.tmp 16)),
 ⟨(some 18),(some (17,false)),.mv (.tmp 1)⟩,
 ⟨(some 19),(some (17,false)),.bin .lss (.tmp 18) (.const (.int .i64 (8)))⟩,
 oN 20 (.pick (.tmp 17) (.const (.bool true)) (.tmp 19)),
 oN 21 (.mv (.tmp 20)),
 ⟨(some 22),(some (21,false)),.mv (.tmp 1)⟩,
 ⟨(some 23),(some (21,false)),.bin .gtr (.tmp 22) (.const (.int .i64 (65536)))⟩,
 oN 24 (.pick (.tmp 21) (.const (.bool true)) (.tmp 23)),
 oN 25 (.mv (.tmp 24)),
 ⟨(some 26),(some (25,false)),.mv (.tmp 1)⟩,
 ⟨(some 27),(some (25,false)),.bin .rem (.tmp 26) (.const (.int .i64 (8)))⟩,
 ⟨(some 28),(some (25,false)),.eq true (.one .i) (.tmp 27) (.const (.int .i64 (0)))⟩,
 oN 29 (.pick (.tmp 25) (.const (.bool true)) (.tmp 28))]
def ralloc_r2:List CO:=[
 oN 8 (.mv (oK 0)),
 oN 9 (.mv (.const (.bool false))),
 oN 10 (.mv (oK (-1)))]
def ralloc_r3:List CO:=[
 oN 31 (.mv (.tmp 0)),
 oN 32 (.mv (.tmp 2)),
 oN 33 (.mv (.tmp 3)),
 oN 34 (.call (.func 53) [(.tmp 31),(.tmp 32),(.tmp 33)]),
 oN 30 (.mv (.tmp 34)),
 oN 35 (.ext (.tmp 30) 0),
 oN 36 (.ext (.tmp 30) 1),
 oN 37 (.ext (.tmp 30) 2),
 oN 2 (.mv (.tmp 35)),
 oN 11 (.mv (.tmp 36)),
 oN 12 (.mv (.tmp 37))]
def ralloc_r4:List CO:=[
 oN 38 (.mv (.tmp 12)),
 oN 39 (.eq true (.one .i) (.tmp 38) (oK 0))]
def ralloc_r5:List CO:=[
 oN 40 (.mv (.tmp 12)),
 oN 8 (.mv (oK 0)),
 oN 9 (.mv (.const (.bool false))),
 oN 10 (.mv (.tmp 40))]
def ralloc_r6:List CO:=[
 oN 42 (.mv (.tmp 11)),
 oN 43 (.mv (.tmp 1)),
 oN 44 (.bin .quo (.tmp 43) (oK 8)),
 oN 45 (.call (.func 56) [(.tmp 42),(.tmp 44)]),
 oN 41 (.mv (.tmp 45)),
 oN 46 (.ext (.tmp 41) 0),
 oN 47 (.ext (.tmp 41) 1),
 oN 48 (.ext (.tmp 41) 2),
 oN 11 (.mv (.tmp 46)),
 oN 13 (.mv (.tmp 47)),
 oN 14 (.mv (.tmp 48))]
def ralloc_r7:List CO:=[
 oN 49 (.mv (.tmp 14)),
 oN 50 (.eq true (.one .i) (.tmp 49) (oK 0))]
def ralloc_r8:List CO:=[
 oN 8 (.mv (oK 0)),
 oN 9 (.mv (.const (.bool false))),
 oN 10 (.mv (oK 0))]
def ralloc_r9:List CO:=[
 oN 51 (.mv (.tmp 0)),
 oN 52 (.nilc (.tmp 51)),
 oN 53 (.fa 6 (.tmp 52)),
 oN 54 (.ld1 (.tmp 53)),
 oN 55 (.mv (.tmp 2)),
 oN 56 (.mv (.tmp 11)),
 oN 57 (.call (.func 55) [(.tmp 54),(.tmp 55),(.tmp 56)])]
def ralloc_r10:List CO:=[
 oN 58 (.mv (.tmp 2)),
 oN 59 (.mv (.tmp 13)),
 oN 60 (.bin .mul (oK 8) (.tmp 59)),
 oN 61 (.bin .add (.tmp 58) (.tmp 60)),
 oN 8 (.mv (.tmp 61)),
 oN 9 (.mv (.const (.bool true))),
 oN 10 (.mv (oK 0))]
noncomputable def ralloc_k:KC :=
 (.seq (.reg ralloc_r0)
 (.seq (.seq (.reg ralloc_r1)
 (.cond (.tmp 29) (.seq (.reg ralloc_r2)
  .ret)
  .skip))
 (.seq (.reg ralloc_r3)
 (.seq (.seq (.reg ralloc_r4)
 (.cond (.tmp 39) (.seq (.reg ralloc_r5)
  .ret)
  .skip))
 (.seq (.reg ralloc_r6)
 (.seq (.seq (.reg ralloc_r7)
 (.cond (.tmp 50) (.seq (.reg ralloc_r8)
  .ret)
  .skip))
 (.seq (.reg ralloc_r9)
 (.seq (.reg ralloc_r10)
 .ret))))))))
theorem ralloc_comp:kcomp Tb0 Tryz.f18.ntmps ralloc_body=ralloc_k:=by kernel_rfl
theorem ralloc_some:Tryz.f18.body=some ralloc_body:=rfl
noncomputable def rfree_body:Code:=(Tryz.f16.body).getD .skip
def rfree_r0:List CO:=[
 oN 8 (.mv (oK 0))]
def rfree_r1:List CO:=[
 oN 12 (.mv (.tmp 0)),
 oN 13 (.call (.func 47) [(.tmp 12)])]
def rfree_r2:List CO:=[
 oN 8 (.mv (oK (-1)))]
def rfree_r3:List CO:=[
 oN 15 (.mv (.tmp 0)),
 oN 16 (.mv (.tmp 2)),
 oN 17 (.mv (.tmp 3)),
 oN 18 (.call (.func 53) [(.tmp 15),(.tmp 16),(.tmp 17)]),
 oN 14 (.mv (.tmp 18)),
 oN 19 (.ext (.tmp 14) 0),
 oN 20 (.ext (.tmp 14) 1),
 oN 21 (.ext (.tmp 14) 2),
 oN 2 (.mv (.tmp 19)),
 oN 9 (.mv (.tmp 20)),
 oN 10 (.mv (.tmp 21))]
def rfree_r4:List CO:=[
 oN 22 (.mv (.tmp 10)),
 oN 23 (.eq true (.one .i) (.tmp 22) (oK 0))]
def rfree_r5:List CO:=[
 oN 24 (.mv (.tmp 10)),
 oN 8 (.mv (.tmp 24))]
def rfree_r6:List CO:=[
 oN 25 (.mv (.tmp 1)),
 oN 26 (.mv (.tmp 2)),
 oN 27 (.bin .lss (.tmp 25) (.tmp 26)),
 oN 28 (.mv (.tmp 27)),
 ⟨(some 29),(some (28,false)),.mv (.tmp 1)⟩,
 ⟨(some 30),(some (28,false)),.mv (.tmp 2)⟩,
 ⟨(some 31),(some (28,false)),.mv (.tmp 9)⟩,
 ⟨(some 32),(some (28,false)),.len 0 (.tmp 31)⟩,
 ⟨(some 33),(some (28,false)),.bin .mul (.const (.int .i64 (8))) (.tmp 32)⟩,
 ⟨(some 34),(some (28,false)),.bin .add (.tmp 30) (.tmp 33)⟩,
 ⟨(some 35),(some (28,false)),.bin .geq (.tmp 29) (.tmp 34)⟩,
 oN 36 (.pick (.tmp 28) (.const (.bool true)) (.tmp 35)),
 oN 37 (.mv (.tmp 36)),
 ⟨(some 38),(some (37,false)),.mv (.tmp 1)⟩,
 ⟨(some 39),(some (37,false)),.bin .rem (.tmp 38) (.const (.int .i64 (8)))⟩,
 ⟨(some 40),(some (37,false)),.eq true (.one .i) (.tmp 39) (.const (.int .i64 (0)))⟩,
 oN 41 (.pick (.tmp 37) (.const (.bool true)) (.tmp 40))]
def rfree_r7:List CO:=[
 oN 8 (.mv (oK 8091))]
def rfree_r8:List CO:=[
 oN 43 (.mv (.tmp 9)),
 oN 44 (.mv (.tmp 1)),
 oN 45 (.mv (.tmp 2)),
 oN 46 (.bin .sub (.tmp 44) (.tmp 45)),
 oN 47 (.bin .quo (.tmp 46) (oK 8)),
 oN 48 (.call (.func 54) [(.tmp 43),(.tmp 47)]),
 oN 42 (.mv (.tmp 48)),
 oN 49 (.ext (.tmp 42) 0),
 oN 50 (.ext (.tmp 42) 1),
 oN 9 (.mv (.tmp 49)),
 oN 11 (.mv (.tmp 50))]
def rfree_r9:List CO:=[
 oN 51 (.mv (.tmp 11)),
 oN 52 (.eq true (.one .i) (.tmp 51) (oK 0))]
def rfree_r10:List CO:=[
 oN 8 (.mv (oK 8091))]
def rfree_r11:List CO:=[
 oN 53 (.mv (.tmp 0)),
 oN 54 (.nilc (.tmp 53)),
 oN 55 (.fa 6 (.tmp 54)),
 oN 56 (.ld1 (.tmp 55)),
 oN 57 (.mv (.tmp 2)),
 oN 58 (.mv (.tmp 9)),
 oN 59 (.call (.func 55) [(.tmp 56),(.tmp 57),(.tmp 58)])]
def rfree_r12:List CO:=[
 oN 8 (.mv (oK 0))]
noncomputable def rfree_k:KC :=
 (.seq (.reg rfree_r0)
 (.seq (.seq (.reg rfree_r1)
 (.cond (.tmp 13) (.seq (.reg rfree_r2)
  .ret)
  .skip))
 (.seq (.reg rfree_r3)
 (.seq (.seq (.reg rfree_r4)
 (.cond (.tmp 23) (.seq (.reg rfree_r5)
  .ret)
  .skip))
 (.seq (.seq (.reg rfree_r6)
 (.cond (.tmp 41) (.seq (.reg rfree_r7)
  .ret)
  .skip))
 (.seq (.reg rfree_r8)
 (.seq (.seq (.reg rfree_r9)
 (.cond (.tmp 52) (.seq (.reg rfree_r10)
  .ret)
  .skip))
 (.seq (.reg rfree_r11)
 (.seq (.reg rfree_r12)
 .ret)))))))))
theorem rfree_comp:kcomp Tb0 Tryz.f16.ntmps rfree_body=rfree_k:=by kernel_rfl
theorem rfree_some:Tryz.f16.body=some rfree_body:=rfl
noncomputable def copya_body:Code:=(Tryz.f19.body).getD .skip
def copya_r0:List CO:=[
 oN 10 (.mv (.const (.bool false))),
 oN 11 (.mv (oK 0))]
def copya_r1:List CO:=[
 oN 17 (.mv (.tmp 0)),
 oN 18 (.call (.func 47) [(.tmp 17)]),
 oN 19 (.mv (.tmp 18)),
 ⟨(some 20),(some (19,false)),.mv (.tmp 1)⟩,
 ⟨(some 21),(some (19,false)),.mv (.tmp 2)⟩,
 ⟨(some 22),(some (19,false)),.call (.func 57) [(.tmp 20),(.tmp 21)]⟩,
 ⟨(some 23),(some (19,false)),.un .not (.tmp 22)⟩,
 oN 24 (.pick (.tmp 19) (.const (.bool true)) (.tmp 23)),
 oN 25 (.mv (.tmp 24)),
 ⟨(some 26),(some (25,false)),.mv (.tmp 3)⟩,
 ⟨(some 27),(some (25,false)),.mv (.tmp 4)⟩,
 ⟨(some 28),(some (25,false)),.call (.func 57) [(.tmp 26),(.tmp 27)]⟩,
 ⟨(some 29),(some (25,false)),.un .not (.tmp 28)⟩,
 oN 30 (.pick (.tmp 25) (.const (.bool true)) (.tmp 29))]
def copya_r2:List CO:=[
 oN 10 (.mv (.const (.bool false))),
 oN 11 (.mv (oK (-1)))]
def copya_r3:List CO:=[
 oN 32 (.mv (.tmp 0)),
 oN 33 (.mv (.tmp 1)),
 oN 34 (.mv (.tmp 2)),
 oN 35 (.call (.func 53) [(.tmp 32),(.tmp 33),(.tmp 34)]),
 oN 31 (.mv (.tmp 35)),
 oN 36 (.ext (.tmp 31) 0),
 oN 37 (.ext (.tmp 31) 1),
 oN 38 (.ext (.tmp 31) 2),
 oN 1 (.mv (.tmp 36)),
 oN 12 (.mv (.tmp 37)),
 oN 13 (.mv (.tmp 38))]
def copya_r4:List CO:=[
 oN 39 (.mv (.tmp 13)),
 oN 40 (.eq true (.one .i) (.tmp 39) (oK 0))]
def copya_r5:List CO:=[
 oN 41 (.mv (.tmp 13)),
 oN 10 (.mv (.const (.bool false))),
 oN 11 (.mv (.tmp 41))]
def copya_r6:List CO:=[
 oN 43 (.mv (.tmp 0)),
 oN 44 (.mv (.tmp 3)),
 oN 45 (.mv (.tmp 4)),
 oN 46 (.call (.func 53) [(.tmp 43),(.tmp 44),(.tmp 45)]),
 oN 42 (.mv (.tmp 46)),
 oN 47 (.ext (.tmp 42) 0),
 oN 48 (.ext (.tmp 42) 1),
 oN 49 (.ext (.tmp 42) 2),
 oN 14 (.mv (.tmp 47)),
 oN 15 (.mv (.tmp 48)),
 oN 13 (.mv (.tmp 49))]
def copya_r7:List CO:=[
 oN 50 (.mv (.tmp 13)),
 oN 51 (.eq true (.one .i) (.tmp 50) (oK 0))]
def copya_r8:List CO:=[
 oN 52 (.mv (.tmp 13)),
 oN 10 (.mv (.const (.bool false))),
 oN 11 (.mv (.tmp 52))]
def copya_r9:List CO:=[
 oN 54 (.mv (.tmp 12)),
 oN 55 (.mv (.tmp 15)),
 oN 56 (.call (.func 58) [(.tmp 54),(.tmp 55)]),
 oN 53 (.mv (.tmp 56)),
 oN 57 (.ext (.tmp 53) 0),
 oN 58 (.ext (.tmp 53) 1),
 oN 12 (.mv (.tmp 57)),
 oN 16 (.mv (.tmp 58))]
def copya_r10:List CO:=[
 oN 59 (.mv (.tmp 16)),
 oN 60 (.eq true (.one .i) (.tmp 59) (oK 0))]
def copya_r11:List CO:=[
 oN 10 (.mv (.const (.bool false))),
 oN 11 (.mv (oK 0))]
def copya_r12:List CO:=[
 oN 61 (.mv (.tmp 0)),
 oN 62 (.nilc (.tmp 61)),
 oN 63 (.fa 6 (.tmp 62)),
 oN 64 (.ld1 (.tmp 63)),
 oN 65 (.mv (.tmp 1)),
 oN 66 (.mv (.tmp 12)),
 oN 67 (.call (.func 55) [(.tmp 64),(.tmp 65),(.tmp 66)])]
def copya_r13:List CO:=[
 oN 10 (.mv (.const (.bool true))),
 oN 11 (.mv (oK 0))]
noncomputable def copya_k:KC :=
 (.seq (.reg copya_r0)
 (.seq (.seq (.reg copya_r1)
 (.cond (.tmp 30) (.seq (.reg copya_r2)
  .ret)
  .skip))
 (.seq (.reg copya_r3)
 (.seq (.seq (.reg copya_r4)
 (.cond (.tmp 40) (.seq (.reg copya_r5)
  .ret)
  .skip))
 (.seq (.reg copya_r6)
 (.seq (.seq (.reg copya_r7)
 (.cond (.tmp 51) (.seq (.reg copya_r8)
  .ret)
  .skip))
 (.seq (.reg copya_r9)
 (.seq (.seq (.reg copya_r10)
 (.cond (.tmp 60) (.seq (.reg copya_r11)
  .ret)
  .skip))
 (.seq (.reg copya_r12)
 (.seq (.reg copya_r13)
 .ret))))))))))
theorem copya_comp:kcomp Tb0 Tryz.f19.ntmps copya_body=copya_k:=by kernel_rfl
theorem copya_some:Tryz.f19.body=some copya_body:=rfl
noncomputable def lcode_body:Code:=(Tryz.f90.body).getD .skip
def lcode_r0:List CO:=[
 oN 3 (.box 40 (.tmp 1)),
 oN 4 (.mv (oK 0))]
def lcode_r1:List CO:=[
 oN 5 (.mv (.tmp 0)),
 oN 6 (.ldN 5 (.tmp 3)),
 oN 7 (.call (.func 102) [(.tmp 6)]),
 oN 8 (.call (.func 113) [(.tmp 5),(.tmp 7)]),
 oN 9 (.un .not (.tmp 8))]
def lcode_r2:List CO:=[
 oN 4 (.mv (oK 8091))]
def lcode_r3:List CO:=[
 oN 10 (.fa 0 (.tmp 3)),
 oN 11 (.ld1 (.tmp 10)),
 oN 12 (.eq true (.one .i) (.tmp 11) (oK 4)),
 oN 13 (.mv (.tmp 12)),
 ⟨(some 14),(some (13,true)),.mv (.tmp 0)⟩,
 ⟨(some 15),(some (13,true)),.bin .rem (.tmp 14) (.const (.int .i64 (8)))⟩,
 ⟨(some 16),(some (13,true)),.eq true (.one .i) (.tmp 15) (.const (.int .i64 (0)))⟩,
 oN 17 (.pick (.tmp 13) (.tmp 16) (.const (.bool false)))]
def lcode_r4:List CO:=[
 oN 4 (.mv (oK 8095))]
def lcode_r5:List CO:=[
 oN 4 (.mv (oK 0))]
noncomputable def lcode_k:KC :=
 (.seq (.reg lcode_r0)
 (.seq (.seq (.reg lcode_r1)
 (.cond (.tmp 9) (.seq (.reg lcode_r2)
  .ret)
  .skip))
 (.seq (.seq (.reg lcode_r3)
 (.cond (.tmp 17) (.seq (.reg lcode_r4)
  .ret)
  .skip))
 (.seq (.reg lcode_r5)
 .ret))))
theorem lcode_comp:kcomp Tb0 Tryz.f90.ntmps lcode_body=lcode_k:=by kernel_rfl
theorem lcode_some:Tryz.f90.body=some lcode_body:=rfl
noncomputable def fits_body:Code:=(Tryz.f113.body).getD .skip
def fits_r0:List CO:=[
 oN 4 (.mv (.const (.bool false)))]
def fits_r1:List CO:=[
 oN 5 (.mv (.tmp 0)),
 oN 6 (.bin .geq (.tmp 5) (oK 0)),
 oN 7 (.mv (.tmp 6)),
 ⟨(some 8),(some (7,true)),.mv (.tmp 1)⟩,
 ⟨(some 9),(some (7,true)),.bin .geq (.tmp 8) (.const (.int .i64 (0)))⟩,
 oN 10 (.pick (.tmp 7) (.tmp 9) (.const (.bool false))),
 oN 11 (.mv (.tmp 10)),
 ⟨(some 12),(some (11,true)),.mv (.tmp 0)⟩,
 ⟨(some 13),(some (11,true)),.bin .leq (.tmp 12) (.const (.int .i64 (524288)))⟩,
 oN 14 (.pick (.tmp 11) (.tmp 13) (.const (.bool false))),
 oN 15 (.mv (.tmp 14)),
 ⟨(some 16),(some (15,true)),.mv (.tmp 1)⟩,
 ⟨(some 17),(some (15,true)),.mv (.tmp 0)⟩,
 ⟨(some 18),(some (15,true)),.bin .sub (.const (.int .i64 (524288))) (.tmp 17)⟩,
 ⟨(some 19),(some (15,true)),.bin .leq (.tmp 16) (.tmp 18)⟩,
 oN 20 (.pick (.tmp 15) (.tmp 19) (.const (.bool false))),
 oN 4 (.mv (.tmp 20))]
noncomputable def fits_k:KC :=
 (.seq (.reg fits_r0)
 (.seq (.reg fits_r1)
 .ret))
theorem fits_comp:kcomp Tb0 Tryz.f113.ntmps fits_body=fits_k:=by kernel_rfl
theorem fits_some:Tryz.f113.body=some fits_body:=rfl
noncomputable def mget_body:Code:=(Tryz.f101.body).getD .skip
def mget_r0:List CO:=[
 oN 6 (.mv (.const (.string ⟨#[]⟩)))]
def mget_r1:List CO:=[
 oN 10 (.mv (.tmp 2)),
 oN 11 (.mkSl 5 1 [.int .u8 (0)] (.tmp 10) (.tmp 10)),
 oN 7 (.mv (.tmp 11))]
def mget_r2:List CO:=[
 oN 12 (.mv (.tmp 7)),
 oN 13 (.len 1 (.tmp 12)),
 oN 14 (.mv (oK 0))]
def mget_r3:List CO:=[
 oN 15 (.bin .lss (.tmp 14) (.tmp 13))]
def mget_r4:List CO:=[
 oN 16 (.mv (.tmp 14)),
 oN 8 (.mv (.tmp 16))]
def mget_r5:List CO:=[
 oN 17 (.mv (.tmp 1)),
 oN 18 (.mv (.tmp 8)),
 oN 19 (.bin .add (.tmp 17) (.tmp 18)),
 oN 9 (.mv (.tmp 19))]
def mget_r6:List CO:=[
 oN 20 (.mv (.tmp 7)),
 oN 21 (.mv (.tmp 8)),
 oN 22 (.mv (.tmp 0)),
 oN 23 (.mv (.tmp 9)),
 oN 24 (.bin .quo (.tmp 23) (oK 8)),
 oN 25 (.nilc (.tmp 22)),
 oN 26 (.fa 0 (.tmp 25)),
 oN 27 (.iaA 65536 1 (.tmp 26) (.tmp 24)),
 oN 28 (.ld1 (.tmp 27)),
 oN 29 (.mv (.tmp 9)),
 oN 30 (.bin .rem (.tmp 29) (oK 8)),
 oN 31 (.bin .sub (oK 7) (.tmp 30)),
 oN 32 (.bin .shr (.tmp 28) (.tmp 31)),
 oN 33 (.bin .and (.tmp 32) (.const (.int .u8 (1)))),
 oN 34 (.bin .add (.const (.int .u8 (48))) (.tmp 33)),
 oN 35 (.iaS 1 (.tmp 20) (.tmp 21)),
 oU (.st 1 (.tmp 35) (.tmp 34))]
def mget_r7:List CO:=[
 oN 36 (.bin .add (.tmp 14) (oK 1)),
 oN 14 (.mv (.tmp 36))]
noncomputable def mget_l8:KC :=
 (.seq (.reg mget_r3)
 (.seq (.cond (.tmp 15) .skip
  (.exit 0))
 (.seq (.block 1 (.seq (.reg mget_r4)
  (.seq (.reg mget_r5)
  (.reg mget_r6))))
 (.reg mget_r7))))
def mget_r9:List CO:=[
 oN 37 (.mv (.tmp 7)),
 oN 38 (.cToS (.tmp 37)),
 oN 6 (.mv (.tmp 38))]
noncomputable def mget_k:KC :=
 (.seq (.reg mget_r0)
 (.seq (.reg mget_r1)
 (.seq (.seq (.reg mget_r2)
 (.block 0 (.loop mget_body.sr.sr.sl.sr.bl.lp mget_l8)))
 (.seq (.reg mget_r9)
 .ret))))
theorem mget_comp:kcomp Tb0 Tryz.f101.ntmps mget_body=mget_k:=by kernel_rfl
theorem mget_some:Tryz.f101.body=some mget_body:=rfl
noncomputable def mset_body:Code:=(Tryz.f91.body).getD .skip
def mset_r0:List CO:=[
 oN 9 (.mv (.tmp 2)),
 oN 10 (.len 0 (.tmp 9)),
 oN 11 (.mv (oK 0))]
def mset_r1:List CO:=[
 oN 12 (.bin .lss (.tmp 11) (.tmp 10))]
def mset_r2:List CO:=[
 oN 13 (.mv (.tmp 11)),
 oN 6 (.mv (.tmp 13))]
def mset_r3:List CO:=[
 oN 14 (.mv (.tmp 1)),
 oN 15 (.mv (.tmp 6)),
 oN 16 (.bin .add (.tmp 14) (.tmp 15)),
 oN 7 (.mv (.tmp 16))]
def mset_r4:List CO:=[
 oN 17 (.mv (.tmp 7)),
 oN 18 (.bin .rem (.tmp 17) (oK 8)),
 oN 19 (.bin .shr (.const (.int .u8 (128))) (.tmp 18)),
 oN 8 (.mv (.tmp 19))]
def mset_r5:List CO:=[
 oN 20 (.mv (.tmp 2)),
 oN 21 (.mv (.tmp 6)),
 oN 22 (.ixS (.tmp 20) (.tmp 21)),
 oN 23 (.eq false (.one .i) (.tmp 22) (.const (.int .u8 (49))))]
def mset_r6:List CO:=[
 oN 24 (.mv (.tmp 0)),
 oN 25 (.mv (.tmp 7)),
 oN 26 (.bin .quo (.tmp 25) (oK 8)),
 oN 27 (.nilc (.tmp 24)),
 oN 28 (.fa 0 (.tmp 27)),
 oN 29 (.iaA 65536 1 (.tmp 28) (.tmp 26)),
 oN 30 (.ld1 (.tmp 29)),
 oN 31 (.mv (.tmp 8)),
 oN 32 (.bin .or (.tmp 30) (.tmp 31)),
 oN 33 (.nilc (.tmp 24)),
 oN 34 (.fa 0 (.tmp 33)),
 oN 35 (.iaA 65536 1 (.tmp 34) (.tmp 26)),
 oU (.st 1 (.tmp 35) (.tmp 32))]
def mset_r7:List CO:=[
 oN 36 (.mv (.tmp 0)),
 oN 37 (.mv (.tmp 7)),
 oN 38 (.bin .quo (.tmp 37) (oK 8)),
 oN 39 (.nilc (.tmp 36)),
 oN 40 (.fa 0 (.tmp 39)),
 oN 41 (.iaA 65536 1 (.tmp 40) (.tmp 38)),
 oN 42 (.ld1 (.tmp 41)),
 oN 43 (.mv (.tmp 8)),
 oN 44 (.bin .andNot (.tmp 42) (.tmp 43)),
 oN 45 (.nilc (.tmp 36)),
 oN 46 (.fa 0 (.tmp 45)),
 oN 47 (.iaA 65536 1 (.tmp 46) (.tmp 38)),
 oU (.st 1 (.tmp 47) (.tmp 44))]
def mset_r8:List CO:=[
 oN 48 (.bin .add (.tmp 11) (oK 1)),
 oN 11 (.mv (.tmp 48))]
noncomputable def mset_l9:KC :=
 (.seq (.reg mset_r1)
 (.seq (.cond (.tmp 12) .skip
  (.exit 0))
 (.seq (.block 1 (.seq (.reg mset_r2)
  (.seq (.reg mset_r3)
  (.seq (.reg mset_r4)
  (.seq (.reg mset_r5)
  (.cond (.tmp 23) (.draw #[0,0,2,1,9,31,63,0,255,1,513,2047,4095] mset_r6)
   (.draw #[0,0,2,1,9,31,63,0,255,1,513,2047,4095] mset_r7)))))))
 (.reg mset_r8))))
noncomputable def mset_k:KC :=
 (.seq (.reg mset_r0)
 (.block 0 (.loop mset_body.sr.bl.lp mset_l9)))
theorem mset_comp:kcomp Tb0 Tryz.f91.ntmps mset_body=mset_k:=by kernel_rfl
theorem mset_some:Tryz.f91.body=some mset_body:=rfl
noncomputable def mload_body:Code:=(Tryz.f52.body).getD .skip
def mload_r0:List CO:=[
 oN 5 (.box 40 (.tmp 2)),
 oN 6 (.alloc (blkL [.int .i64 (0),.string ⟨#[]⟩] 47 0)),
 oN 7 (.mv (oK 0))]
def mload_r1:List CO:=[
 oN 11 (.mv (.tmp 0)),
 oN 12 (.eq false (.one .p) (.tmp 11) (.const (.pointer none)))]
def mload_r2:List CO:=[
 oN 13 (.call (.func 40) []),
 oN 0 (.mv (.tmp 13))]
def mload_r3:List CO:=[
 oN 14 (.ldN 5 (.tmp 5)),
 oN 15 (.call (.func 93) [(.tmp 14)]),
 oN 16 (.un .not (.tmp 15))]
def mload_r4:List CO:=[
 oN 17 (.build [.int .i64 (0),.string ⟨#[]⟩] []),
 oU (.st 2 (.tmp 6) (.tmp 17)),
 oN 7 (.mv (oK 8097))]
def mload_r5:List CO:=[
 oN 18 (.mv (.tmp 1)),
 oN 19 (.ldN 5 (.tmp 5)),
 oN 20 (.call (.func 90) [(.tmp 18),(.tmp 19)]),
 oN 8 (.mv (.tmp 20))]
def mload_r6:List CO:=[
 oN 21 (.mv (.tmp 8)),
 oN 22 (.eq true (.one .i) (.tmp 21) (oK 0))]
def mload_r7:List CO:=[
 oN 23 (.build [.int .i64 (0),.string ⟨#[]⟩] []),
 oN 24 (.mv (.tmp 8)),
 oU (.st 2 (.tmp 6) (.tmp 23)),
 oN 7 (.mv (.tmp 24))]
def mload_r8:List CO:=[
 oN 26 (.ldN 5 (.tmp 5)),
 oN 27 (.mv (.tmp 0)),
 oN 28 (.mv (.tmp 1)),
 oN 29 (.ldN 5 (.tmp 5)),
 oN 30 (.call (.func 102) [(.tmp 29)]),
 oN 31 (.call (.func 101) [(.tmp 27),(.tmp 28),(.tmp 30)]),
 oN 32 (.call (.func 100) [(.tmp 26),(.tmp 31)]),
 oN 25 (.mv (.tmp 32)),
 oN 33 (.ext (.tmp 25) 0),
 oN 34 (.ext (.tmp 25) 1),
 oN 9 (.alloc (blkL [.int .i64 (0),.string ⟨#[]⟩] 47 0)),
 oU (.st 2 (.tmp 9) (.tmp 33)),
 oN 10 (.mv (.tmp 34))]
def mload_r9:List CO:=[
 oN 35 (.mv (.tmp 10)),
 oN 36 (.eq true (.one .i) (.tmp 35) (oK 0))]
def mload_r10:List CO:=[
 oN 37 (.build [.int .i64 (0),.string ⟨#[]⟩] []),
 oU (.st 2 (.tmp 6) (.tmp 37)),
 oN 7 (.mv (oK 8097))]
def mload_r11:List CO:=[
 oN 38 (.ldN 2 (.tmp 9)),
 oU (.st 2 (.tmp 6) (.tmp 38)),
 oN 7 (.mv (oK 0))]
noncomputable def mload_k:KC :=
 (.seq (.reg mload_r0)
 (.seq (.seq (.reg mload_r1)
 (.cond (.tmp 12) (.reg mload_r2)
  .skip))
 (.seq (.seq (.reg mload_r3)
 (.cond (.tmp 16) (.seq (.reg mload_r4)
  .ret)
  .skip))
 (.seq (.seq (.reg mload_r5)
 (.seq (.reg mload_r6)
 (.cond (.tmp 22) (.seq (.reg mload_r7)
  .ret)
  .skip)))
 (.seq (.draw #[0,0,0,0,8,30,63,127,255,255,0,1535,4095] mload_r8)
 (.seq (.seq (.reg mload_r9)
 (.cond (.tmp 36) (.seq (.reg mload_r10)
  .ret)
  .skip))
 (.seq (.reg mload_r11)
 .ret)))))))
theorem mload_comp:kcomp Tb0 Tryz.f52.ntmps mload_body=mload_k:=by kernel_rfl
theorem mload_some:Tryz.f52.body=some mload_body:=rfl
noncomputable def mstore_body:Code:=(Tryz.f45.body).getD .skip
def mstore_r0:List CO:=[
 oN 6 (.box 40 (.tmp 2)),
 oN 7 (.box 47 (.tmp 3)),
 oN 8 (.mv (oK 0))]
def mstore_r1:List CO:=[
 oN 12 (.mv (.tmp 0)),
 oN 13 (.eq false (.one .p) (.tmp 12) (.const (.pointer none)))]
def mstore_r2:List CO:=[
 oN 14 (.call (.func 40) []),
 oN 0 (.mv (.tmp 14))]
def mstore_r3:List CO:=[
 oN 16 (.ldN 5 (.tmp 6)),
 oN 17 (.ldN 2 (.tmp 7)),
 oN 18 (.call (.func 89) [(.tmp 16),(.tmp 17)]),
 oN 15 (.mv (.tmp 18)),
 oN 19 (.ext (.tmp 15) 0),
 oN 20 (.ext (.tmp 15) 1),
 oN 9 (.mv (.tmp 19)),
 oN 10 (.mv (.tmp 20))]
def mstore_r4:List CO:=[
 oN 21 (.mv (.tmp 10)),
 oN 22 (.eq true (.one .i) (.tmp 21) (oK 0))]
def mstore_r5:List CO:=[
 oN 8 (.mv (oK 8097))]
def mstore_r6:List CO:=[
 oN 23 (.mv (.tmp 1)),
 oN 24 (.ldN 5 (.tmp 6)),
 oN 25 (.call (.func 90) [(.tmp 23),(.tmp 24)]),
 oN 11 (.mv (.tmp 25))]
def mstore_r7:List CO:=[
 oN 26 (.mv (.tmp 11)),
 oN 27 (.eq true (.one .i) (.tmp 26) (oK 0))]
def mstore_r8:List CO:=[
 oN 28 (.mv (.tmp 11)),
 oN 8 (.mv (.tmp 28))]
def mstore_r9:List CO:=[
 oN 29 (.mv (.tmp 0)),
 oN 30 (.mv (.tmp 1)),
 oN 31 (.mv (.tmp 9)),
 oN 32 (.call (.func 91) [(.tmp 29),(.tmp 30),(.tmp 31)])]
def mstore_r10:List CO:=[
 oN 8 (.mv (oK 0))]
noncomputable def mstore_k:KC :=
 (.seq (.reg mstore_r0)
 (.seq (.seq (.reg mstore_r1)
 (.cond (.tmp 13) (.reg mstore_r2)
  .skip))
 (.seq (.reg mstore_r3)
 (.seq (.seq (.reg mstore_r4)
 (.cond (.tmp 22) (.seq (.reg mstore_r5)
  .ret)
  .skip))
 (.seq (.seq (.reg mstore_r6)
 (.seq (.reg mstore_r7)
 (.cond (.tmp 27) (.seq (.reg mstore_r8)
  .ret)
  .skip)))
 (.seq (.reg mstore_r9)
 (.seq (.reg mstore_r10)
 .ret)))))))
theorem mstore_comp:kcomp Tb0 Tryz.f45.ntmps mstore_body=mstore_k:=by kernel_rfl
theorem mstore_some:Tryz.f45.body=some mstore_body:=rfl
noncomputable def mbytes_body:Code:=(Tryz.f103.body).getD .skip
def mbytes_r0:List CO:=[
 oN 6 (.mv (.const (.string ⟨#[]⟩))),
 oN 7 (.mv (oK 0))]
def mbytes_r1:List CO:=[
 oN 8 (.mv (.tmp 0)),
 oN 9 (.eq false (.one .p) (.tmp 8) (.const (.pointer none)))]
def mbytes_r2:List CO:=[
 oN 10 (.call (.func 40) []),
 oN 0 (.mv (.tmp 10))]
def mbytes_r3:List CO:=[
 oN 11 (.mv (.tmp 2)),
 oN 12 (.bin .lss (.tmp 11) (oK 0)),
 oN 13 (.mv (.tmp 12)),
 ⟨(some 14),(some (13,false)),.mv (.tmp 2)⟩,
 ⟨(some 15),(some (13,false)),.bin .gtr (.tmp 14) (.const (.int .i64 (65536)))⟩,
 oN 16 (.pick (.tmp 13) (.const (.bool true)) (.tmp 15)),
 oN 17 (.mv (.tmp 16)),
 ⟨(some 18),(some (17,false)),.mv (.tmp 1)⟩,
 ⟨(some 19),(some (17,false)),.mv (.tmp 2)⟩,
 ⟨(some 20),(some (17,false)),.bin .mul (.const (.int .i64 (8))) (.tmp 19)⟩,
 ⟨(some 21),(some (17,false)),.call (.func 113) [(.tmp 18),(.tmp 20)]⟩,
 ⟨(some 22),(some (17,false)),.un .not (.tmp 21)⟩,
 oN 23 (.pick (.tmp 17) (.const (.bool true)) (.tmp 22))]
def mbytes_r4:List CO:=[
 oN 6 (.mv (.const (.string ⟨#[]⟩))),
 oN 7 (.mv (oK 8091))]
def mbytes_r5:List CO:=[
 oN 24 (.mv (.tmp 1)),
 oN 25 (.bin .rem (.tmp 24) (oK 8)),
 oN 26 (.eq true (.one .i) (.tmp 25) (oK 0))]
def mbytes_r6:List CO:=[
 oN 6 (.mv (.const (.string ⟨#[]⟩))),
 oN 7 (.mv (oK 8095))]
def mbytes_r7:List CO:=[
 oN 27 (.mv (.tmp 0)),
 oN 28 (.nilc (.tmp 27)),
 oN 29 (.fa 0 (.tmp 28)),
 oN 30 (.mv (.tmp 1)),
 oN 31 (.bin .quo (.tmp 30) (oK 8)),
 oN 32 (.mv (.tmp 1)),
 oN 33 (.bin .quo (.tmp 32) (oK 8)),
 oN 34 (.mv (.tmp 2)),
 oN 35 (.bin .add (.tmp 33) (.tmp 34)),
 oN 36 (.slA 65536 1 (.tmp 29) (some (.tmp 31)) (some (.tmp 35)) none),
 oN 37 (.cToS (.tmp 36)),
 oN 6 (.mv (.tmp 37)),
 oN 7 (.mv (oK 0))]
noncomputable def mbytes_k:KC :=
 (.seq (.reg mbytes_r0)
 (.seq (.seq (.reg mbytes_r1)
 (.cond (.tmp 9) (.reg mbytes_r2)
  .skip))
 (.seq (.seq (.reg mbytes_r3)
 (.cond (.tmp 23) (.seq (.reg mbytes_r4)
  .ret)
  .skip))
 (.seq (.seq (.reg mbytes_r5)
 (.cond (.tmp 26) (.seq (.reg mbytes_r6)
  .ret)
  .skip))
 (.seq (.reg mbytes_r7)
 .ret)))))
theorem mbytes_comp:kcomp Tb0 Tryz.f103.ntmps mbytes_body=mbytes_k:=by kernel_rfl
theorem mbytes_some:Tryz.f103.body=some mbytes_body:=rfl
noncomputable def mput_body:Code:=(Tryz.f55.body).getD .skip
def mput_r0:List CO:=[
 oN 6 (.mv (oK 0))]
def mput_r1:List CO:=[
 oN 7 (.mv (.tmp 0)),
 oN 8 (.eq false (.one .p) (.tmp 7) (.const (.pointer none)))]
def mput_r2:List CO:=[
 oN 9 (.call (.func 40) []),
 oN 0 (.mv (.tmp 9))]
def mput_r3:List CO:=[
 oN 10 (.mv (.tmp 2)),
 oN 11 (.len 0 (.tmp 10)),
 oN 12 (.bin .gtr (.tmp 11) (oK 65536)),
 oN 13 (.mv (.tmp 12)),
 ⟨(some 14),(some (13,false)),.mv (.tmp 1)⟩,
 ⟨(some 15),(some (13,false)),.mv (.tmp 2)⟩,
 ⟨(some 16),(some (13,false)),.len 0 (.tmp 15)⟩,
 ⟨(some 17),(some (13,false)),.bin .mul (.const (.int .i64 (8))) (.tmp 16)⟩,
 ⟨(some 18),(some (13,false)),.call (.func 113) [(.tmp 14),(.tmp 17)]⟩,
 ⟨(some 19),(some (13,false)),.un .not (.tmp 18)⟩,
 oN 20 (.pick (.tmp 13) (.const (.bool true)) (.tmp 19))]
def mput_r4:List CO:=[
 oN 6 (.mv (oK 8091))]
def mput_r5:List CO:=[
 oN 21 (.mv (.tmp 1)),
 oN 22 (.bin .rem (.tmp 21) (oK 8)),
 oN 23 (.eq true (.one .i) (.tmp 22) (oK 0))]
def mput_r6:List CO:=[
 oN 6 (.mv (oK 8095))]
def mput_r7:List CO:=[
 oN 24 (.mv (.tmp 0)),
 oN 25 (.nilc (.tmp 24)),
 oN 26 (.fa 0 (.tmp 25)),
 oN 27 (.mv (.tmp 1)),
 oN 28 (.bin .quo (.tmp 27) (oK 8)),
 oN 29 (.slA 65536 1 (.tmp 26) (some (.tmp 28)) none none),
 oN 30 (.mv (.tmp 2)),
 oN 31 (.copy 1 (.tmp 29) (.tmp 30))]
def mput_r8:List CO:=[
 oN 6 (.mv (oK 0))]
noncomputable def mput_k:KC :=
 (.seq (.reg mput_r0)
 (.seq (.seq (.reg mput_r1)
 (.cond (.tmp 8) (.reg mput_r2)
  .skip))
 (.seq (.seq (.reg mput_r3)
 (.cond (.tmp 20) (.seq (.reg mput_r4)
  .ret)
  .skip))
 (.seq (.seq (.reg mput_r5)
 (.cond (.tmp 23) (.seq (.reg mput_r6)
  .ret)
  .skip))
 (.seq (.reg mput_r7)
 (.seq (.reg mput_r8)
 .ret))))))
theorem mput_comp:kcomp Tb0 Tryz.f55.ntmps mput_body=mput_k:=by kernel_rfl
theorem mput_some:Tryz.f55.body=some mput_body:=rfl
end Go.Proofs.RS
end
