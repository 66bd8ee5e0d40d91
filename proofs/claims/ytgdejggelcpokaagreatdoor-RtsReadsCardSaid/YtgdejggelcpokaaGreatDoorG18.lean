/-
  A part of the proof that pliantlaw15.RtsReads returns true and leaves its arguments alone. Conditions: those of the card in the last text.
-/
import Derived.KernelRfl
import Derived.Test.YtgdejggelcpokaaGreatDoorG10
import Derived.Test.YtgdejggelcpokaaGreatDoorG12
set_option linter.unusedSimpArgs false
set_option linter.unusedVariables false
set_option linter.unusedSectionVars false

noncomputable section
namespace Go.Proofs.RS
open Go Go.Ev Go.Proofs
noncomputable def law1_body : Code := (Tryz.f21.body).getD .skip
def law1_r0 : List CO := [
    ⟨(some 2), none, .mv (.const (.bool false))⟩]
def law1_r1 : List CO := [
    ⟨(some 3), none, .mv (.tmp 0)⟩,
    ⟨(some 4), none, .bin .lss (.tmp 3) (.const (.int .u8 (32)))⟩,
    ⟨(some 5), none, .mv (.tmp 4)⟩,
    ⟨(some 6), (some (5, false)), .mv (.tmp 0)⟩,
    ⟨(some 7), (some (5, false)), .bin .gtr (.tmp 6) (.const (.int .u8 (126)))⟩,
    ⟨(some 8), none, .pick (.tmp 5) (.const (.bool true)) (.tmp 7)⟩,
    ⟨(some 2), none, .mv (.tmp 8)⟩]
noncomputable def law1_k : KC :=
  (.seq (.reg law1_r0)
  (.seq (.reg law1_r1)
  .ret))
theorem law1_comp : kcomp Tb0 Tryz.f21.ntmps law1_body = law1_k := by kernel_rfl
theorem law1_some : Tryz.f21.body = some law1_body := rfl
noncomputable def swr_body : Code := (Tryz.f22.body).getD .skip
def swr_r0 : List CO := [
    ⟨(some 8), none, .mv (.const (.int .i64 (0)))⟩,
    ⟨(some 9), none, .mv (.const (.int .i64 (0)))⟩]
def swr_r1 : List CO := [
    ⟨(some 10), none, .mv (.tmp 0)⟩,
    ⟨(some 11), none, .mv (.tmp 1)⟩,
    ⟨(some 12), none, .mv (.tmp 2)⟩,
    ⟨(some 13), none, .mv (.tmp 3)⟩,
    ⟨(some 14), none, .call (.func 60) [(.tmp 10), (.tmp 11), (.tmp 12), (.tmp 13), (.func 61)]⟩,
    ⟨(some 15), none, .ext (.tmp 14) 0⟩,
    ⟨(some 16), none, .ext (.tmp 14) 1⟩,
    ⟨(some 8), none, .mv (.tmp 15)⟩,
    ⟨(some 9), none, .mv (.tmp 16)⟩]
noncomputable def swr_k : KC :=
  (.seq (.reg swr_r0)
  (.seq (.reg swr_r1)
  .ret))
theorem swr_comp : kcomp Tb0 Tryz.f22.ntmps swr_body = swr_k := by kernel_rfl
theorem swr_some : Tryz.f22.body = some swr_body := rfl
noncomputable def srw_body : Code := (Tryz.f23.body).getD .skip
def srw_r0 : List CO := [
    ⟨(some 8), none, .mv (.const (.int .i64 (0)))⟩,
    ⟨(some 9), none, .mv (.const (.int .i64 (0)))⟩]
def srw_r1 : List CO := [
    ⟨(some 10), none, .mv (.tmp 0)⟩,
    ⟨(some 11), none, .mv (.tmp 1)⟩,
    ⟨(some 12), none, .mv (.tmp 2)⟩,
    ⟨(some 13), none, .mv (.tmp 3)⟩,
    ⟨(some 14), none, .call (.func 60) [(.tmp 10), (.tmp 11), (.tmp 12), (.tmp 13), (.func 62)]⟩,
    ⟨(some 15), none, .ext (.tmp 14) 0⟩,
    ⟨(some 16), none, .ext (.tmp 14) 1⟩,
    ⟨(some 8), none, .mv (.tmp 15)⟩,
    ⟨(some 9), none, .mv (.tmp 16)⟩]
noncomputable def srw_k : KC :=
  (.seq (.reg srw_r0)
  (.seq (.reg srw_r1)
  .ret))
theorem srw_comp : kcomp Tb0 Tryz.f23.ntmps srw_body = srw_k := by kernel_rfl
theorem srw_some : Tryz.f23.body = some srw_body := rfl
noncomputable def sdl_body : Code := (Tryz.f24.body).getD .skip
def sdl_r0 : List CO := [
    ⟨(some 6), none, .mv (.const (.int .i64 (0)))⟩,
    ⟨(some 7), none, .mv (.const (.int .i64 (0)))⟩]
def sdl_r1 : List CO := [
    ⟨(some 8), none, .mv (.tmp 0)⟩,
    ⟨(some 9), none, .mv (.tmp 1)⟩,
    ⟨(some 10), none, .mv (.tmp 2)⟩,
    ⟨(some 11), none, .call (.func 60) [(.tmp 8), (.tmp 9), (.tmp 10), (.const (.string ⟨#[]⟩)), (.func 63)]⟩,
    ⟨(some 12), none, .ext (.tmp 11) 0⟩,
    ⟨(some 13), none, .ext (.tmp 11) 1⟩,
    ⟨(some 6), none, .mv (.tmp 12)⟩,
    ⟨(some 7), none, .mv (.tmp 13)⟩]
noncomputable def sdl_k : KC :=
  (.seq (.reg sdl_r0)
  (.seq (.reg sdl_r1)
  .ret))
theorem sdl_comp : kcomp Tb0 Tryz.f24.ntmps sdl_body = sdl_k := by kernel_rfl
theorem sdl_some : Tryz.f24.body = some sdl_body := rfl
noncomputable def sdl1_body : Code := (Tryz.f63.body).getD .skip
def sdl1_r0 : List CO := [
    ⟨(some 3), none, .box 77 (.tmp 1)⟩,
    ⟨(some 4), none, .mv (.const (.slice none 0 0))⟩,
    ⟨(some 5), none, .mv (.const (.int .i64 (0)))⟩]
def sdl1_r1 : List CO := [
    ⟨(some 6), none, .mv (.tmp 0)⟩,
    ⟨(some 7), none, .fa 0 (.tmp 3)⟩,
    ⟨(some 8), none, .ld1 (.tmp 7)⟩,
    ⟨(some 9), none, .call (.func 64) [(.tmp 6), (.tmp 8)]⟩,
    ⟨(some 10), none, .ext (.tmp 9) 0⟩,
    ⟨(some 11), none, .ext (.tmp 9) 1⟩,
    ⟨(some 4), none, .mv (.tmp 10)⟩,
    ⟨(some 5), none, .mv (.tmp 11)⟩]
noncomputable def sdl1_k : KC :=
  (.seq (.reg sdl1_r0)
  (.seq (.reg sdl1_r1)
  .ret))
theorem sdl1_comp : kcomp Tb0 Tryz.f63.ntmps sdl1_body = sdl1_k := by kernel_rfl
theorem sdl1_some : Tryz.f63.body = some sdl1_body := rfl
noncomputable def chg_body : Code := (Tryz.f60.body).getD .skip
def chg_r0 : List CO := [
    ⟨(some 10), none, .mv (.const (.int .i64 (0)))⟩,
    ⟨(some 11), none, .mv (.const (.int .i64 (0)))⟩]
def chg_r1 : List CO := [
    ⟨(some 18), none, .mv (.tmp 0)⟩,
    ⟨(some 19), none, .mv (.tmp 1)⟩,
    ⟨(some 20), none, .mv (.tmp 2)⟩,
    ⟨(some 21), none, .call (.func 78) [(.tmp 18), (.tmp 19), (.tmp 20)]⟩,
    ⟨(some 17), none, .mv (.tmp 21)⟩,
    ⟨(some 22), none, .ext (.tmp 17) 0⟩,
    ⟨(some 23), none, .ext (.tmp 17) 1⟩,
    ⟨(some 24), none, .ext (.tmp 17) 2⟩,
    ⟨(some 25), none, .ext (.tmp 17) 3⟩,
    ⟨(some 12), none, .mv (.tmp 22)⟩,
    ⟨(some 2), none, .mv (.tmp 23)⟩,
    ⟨(some 13), none, .mv (.tmp 24)⟩,
    ⟨(some 14), none, .mv (.tmp 25)⟩]
def chg_r2 : List CO := [
    ⟨(some 26), none, .mv (.tmp 13)⟩,
    ⟨(some 27), none, .eq true (.one .i) (.tmp 26) (.const (.int .i64 (0)))⟩]
def chg_r3 : List CO := [
    ⟨(some 28), none, .mv (.tmp 13)⟩,
    ⟨(some 29), none, .mv (.tmp 14)⟩,
    ⟨(some 10), none, .mv (.tmp 28)⟩,
    ⟨(some 11), none, .mv (.tmp 29)⟩]
def chg_r4 : List CO := [
    ⟨(some 30), none, .mv (.tmp 3)⟩,
    ⟨(some 31), none, .len 0 (.tmp 30)⟩,
    ⟨(some 32), none, .bin .gtr (.tmp 31) (.const (.int .i64 (255)))⟩,
    ⟨(some 33), none, .mv (.tmp 32)⟩,
    ⟨(some 34), (some (33, false)), .mv (.tmp 3)⟩,
    ⟨(some 35), (some (33, false)), .call (.func 82) [(.tmp 34), (.const (.bool false))]⟩,
    ⟨(some 36), (some (33, false)), .un .not (.tmp 35)⟩,
    ⟨(some 37), none, .pick (.tmp 33) (.const (.bool true)) (.tmp 36)⟩]
def chg_r5 : List CO := [
    ⟨(some 10), none, .mv (.const (.int .i64 (9)))⟩,
    ⟨(some 11), none, .mv (.const (.int .i64 (53)))⟩]
def chg_r6 : List CO := [
    ⟨(some 39), none, .mv (.tmp 4)⟩,
    ⟨(some 40), none, .mv (.tmp 12)⟩,
    ⟨(some 41), none, .nilc (.tmp 40)⟩,
    ⟨(some 42), none, .fa 1 (.tmp 41)⟩,
    ⟨(some 43), none, .ld1 (.tmp 42)⟩,
    ⟨(some 44), none, .mv (.tmp 2)⟩,
    ⟨(some 45), none, .mv (.tmp 3)⟩,
    ⟨(some 46), none, .build [.string ⟨#[]⟩, .string ⟨#[]⟩] [(0, 1, (.tmp 44)), (1, 1, (.tmp 45))]⟩,
    ⟨(some 47), none, .call (.tmp 39) [(.tmp 43), (.tmp 46)]⟩,
    ⟨(some 38), none, .mv (.tmp 47)⟩,
    ⟨(some 48), none, .ext (.tmp 38) 0⟩,
    ⟨(some 49), none, .ext (.tmp 38) 1⟩,
    ⟨(some 15), none, .mv (.tmp 48)⟩,
    ⟨(some 16), none, .mv (.tmp 49)⟩]
def chg_r7 : List CO := [
    ⟨(some 50), none, .mv (.tmp 16)⟩]
def chg_r8 : List CO := [
    ⟨(some 52), none, .eq false (.one .i) (.tmp 50) (.const (.int .i64 (0)))⟩,
    ⟨(some 51), none, .mv (.tmp 52)⟩]
def chg_r9 : List CO := [
    ⟨(some 53), none, .mv (.tmp 12)⟩,
    ⟨(some 54), none, .mv (.tmp 15)⟩,
    ⟨(some 55), none, .nilc (.tmp 53)⟩,
    ⟨(some 56), none, .fa 1 (.tmp 55)⟩,
    ⟨none, none, .st 1 (.tmp 56) (.tmp 54)⟩]
def chg_r10 : List CO := [
    ⟨(some 10), none, .mv (.const (.int .i64 (0)))⟩,
    ⟨(some 11), none, .mv (.const (.int .i64 (0)))⟩]
def chg_r11 : List CO := [
    ⟨(some 58), none, .eq false (.one .i) (.tmp 50) (.const (.int .i64 (4)))⟩,
    ⟨(some 57), none, .mv (.tmp 58)⟩]
def chg_r12 : List CO := [
    ⟨(some 10), none, .mv (.const (.int .i64 (9)))⟩,
    ⟨(some 11), none, .mv (.const (.int .i64 (51)))⟩]
def chg_r13 : List CO := [
    ⟨(some 60), none, .eq false (.one .i) (.tmp 50) (.const (.int .i64 (141)))⟩,
    ⟨(some 59), none, .mv (.tmp 60)⟩]
def chg_r14 : List CO := [
    ⟨(some 10), none, .mv (.const (.int .i64 (9)))⟩,
    ⟨(some 11), none, .mv (.const (.int .i64 (52)))⟩]
def chg_r15 : List CO := [
    ⟨(some 10), none, .mv (.const (.int .i64 (9)))⟩,
    ⟨(some 11), none, .mv (.const (.int .i64 (53)))⟩]
noncomputable def chg_k : KC :=
  (.seq (.reg chg_r0)
  (.seq (.reg chg_r1)
  (.seq (.seq (.reg chg_r2)
  (.cond (.tmp 27) (.seq (.reg chg_r3)
   .ret)
   .skip))
  (.seq (.seq (.reg chg_r4)
  (.cond (.tmp 37) (.seq (.reg chg_r5)
   .ret)
   .skip))
  (.seq (.reg chg_r6)
  (.seq (.seq (.reg chg_r7)
  (.block 0 (.seq (.reg chg_r8)
   (.cond (.tmp 51) (.seq (.reg chg_r9)
    (.seq (.reg chg_r10)
    .ret))
    (.seq (.reg chg_r11)
    (.cond (.tmp 57) (.seq (.reg chg_r12)
     .ret)
     (.seq (.reg chg_r13)
     (.cond (.tmp 59) (.seq (.reg chg_r14)
      .ret)
      .skip))))))))
  (.seq (.reg chg_r15)
  .ret)))))))
theorem chg_comp : kcomp Tb0 Tryz.f60.ntmps chg_body = chg_k := by kernel_rfl
theorem chg_some : Tryz.f60.body = some chg_body := rfl
noncomputable def kyd_body : Code := (Tryz.f78.body).getD .skip
def kyd_r0 : List CO := [
    ⟨(some 6), none, .mv (.const (.pointer none))⟩,
    ⟨(some 7), none, .mv (.const (.string ⟨#[]⟩))⟩,
    ⟨(some 8), none, .mv (.const (.int .i64 (0)))⟩,
    ⟨(some 9), none, .mv (.const (.int .i64 (0)))⟩]
def kyd_r1 : List CO := [
    ⟨(some 11), none, .mv (.tmp 0)⟩,
    ⟨(some 12), none, .call (.func 47) [(.tmp 11)]⟩]
def kyd_r2 : List CO := [
    ⟨(some 6), none, .mv (.const (.pointer none))⟩,
    ⟨(some 7), none, .mv (.const (.string ⟨#[]⟩))⟩,
    ⟨(some 8), none, .mv (.const (.int .i64 (-1)))⟩,
    ⟨(some 9), none, .mv (.const (.int .i64 (0)))⟩]
def kyd_r3 : List CO := [
    ⟨(some 13), none, .mv (.tmp 0)⟩,
    ⟨(some 14), none, .nilc (.tmp 13)⟩,
    ⟨(some 15), none, .fa 11 (.tmp 14)⟩,
    ⟨(some 16), none, .ld1 (.tmp 15)⟩,
    ⟨(some 17), none, .mv (.tmp 1)⟩,
    ⟨(some 18), none, .call (.func 65) [(.tmp 16), (.tmp 17)]⟩,
    ⟨(some 10), none, .mv (.tmp 18)⟩]
def kyd_r4 : List CO := [
    ⟨(some 19), none, .mv (.tmp 10)⟩,
    ⟨(some 20), none, .eq false (.one .p) (.tmp 19) (.const (.pointer none))⟩]
def kyd_r5 : List CO := [
    ⟨(some 6), none, .mv (.const (.pointer none))⟩,
    ⟨(some 7), none, .mv (.const (.string ⟨#[]⟩))⟩,
    ⟨(some 8), none, .mv (.const (.int .i64 (-1)))⟩,
    ⟨(some 9), none, .mv (.const (.int .i64 (0)))⟩]
def kyd_r6 : List CO := [
    ⟨(some 21), none, .mv (.tmp 2)⟩,
    ⟨(some 22), none, .call (.func 132) [(.tmp 21), (.const (.string ⟨#[32]⟩))]⟩,
    ⟨(some 2), none, .mv (.tmp 22)⟩]
def kyd_r7 : List CO := [
    ⟨(some 23), none, .mv (.tmp 2)⟩,
    ⟨(some 24), none, .eq false (.one .s) (.tmp 23) (.const (.string ⟨#[]⟩))⟩,
    ⟨(some 25), none, .mv (.tmp 24)⟩,
    ⟨(some 26), (some (25, false)), .mv (.tmp 2)⟩,
    ⟨(some 27), (some (25, false)), .len 0 (.tmp 26)⟩,
    ⟨(some 28), (some (25, false)), .bin .gtr (.tmp 27) (.const (.int .i64 (16)))⟩,
    ⟨(some 29), none, .pick (.tmp 25) (.const (.bool true)) (.tmp 28)⟩,
    ⟨(some 30), none, .mv (.tmp 29)⟩,
    ⟨(some 31), (some (30, false)), .mv (.tmp 2)⟩,
    ⟨(some 32), (some (30, false)), .call (.func 82) [(.tmp 31), (.const (.bool false))]⟩,
    ⟨(some 33), (some (30, false)), .un .not (.tmp 32)⟩,
    ⟨(some 34), none, .pick (.tmp 30) (.const (.bool true)) (.tmp 33)⟩]
def kyd_r8 : List CO := [
    ⟨(some 6), none, .mv (.const (.pointer none))⟩,
    ⟨(some 7), none, .mv (.const (.string ⟨#[]⟩))⟩,
    ⟨(some 8), none, .mv (.const (.int .i64 (9)))⟩,
    ⟨(some 9), none, .mv (.const (.int .i64 (53)))⟩]
def kyd_r9 : List CO := [
    ⟨(some 35), none, .mv (.tmp 10)⟩,
    ⟨(some 36), none, .mv (.tmp 2)⟩,
    ⟨(some 6), none, .mv (.tmp 35)⟩,
    ⟨(some 7), none, .mv (.tmp 36)⟩,
    ⟨(some 8), none, .mv (.const (.int .i64 (0)))⟩,
    ⟨(some 9), none, .mv (.const (.int .i64 (0)))⟩]
noncomputable def kyd_k : KC :=
  (.seq (.reg kyd_r0)
  (.seq (.seq (.reg kyd_r1)
  (.cond (.tmp 12) (.seq (.reg kyd_r2)
   .ret)
   .skip))
  (.seq (.reg kyd_r3)
  (.seq (.seq (.reg kyd_r4)
  (.cond (.tmp 20) (.seq (.reg kyd_r5)
   .ret)
   .skip))
  (.seq (.reg kyd_r6)
  (.seq (.seq (.reg kyd_r7)
  (.cond (.tmp 34) (.seq (.reg kyd_r8)
   .ret)
   .skip))
  (.seq (.reg kyd_r9)
  .ret)))))))
theorem kyd_comp : kcomp Tb0 Tryz.f78.ntmps kyd_body = kyd_k := by kernel_rfl
theorem kyd_some : Tryz.f78.body = some kyd_body := rfl
noncomputable def ded_body : Code := (Tryz.f47.body).getD .skip
def ded_r0 : List CO := [
    ⟨(some 2), none, .mv (.const (.bool false))⟩]
def ded_r1 : List CO := [
    ⟨(some 3), none, .mv (.tmp 0)⟩,
    ⟨(some 4), none, .eq false (.one .p) (.tmp 3) (.const (.pointer none))⟩,
    ⟨(some 5), none, .mv (.tmp 4)⟩,
    ⟨(some 6), (some (5, false)), .mv (.tmp 0)⟩,
    ⟨(some 7), (some (5, false)), .nilc (.tmp 6)⟩,
    ⟨(some 8), (some (5, false)), .fa 19 (.tmp 7)⟩,
    ⟨(some 9), (some (5, false)), .ld1 (.tmp 8)⟩,
    ⟨(some 10), none, .pick (.tmp 5) (.const (.bool true)) (.tmp 9)⟩,
    ⟨(some 2), none, .mv (.tmp 10)⟩]
noncomputable def ded_k : KC :=
  (.seq (.reg ded_r0)
  (.seq (.reg ded_r1)
  .ret))
theorem ded_comp : kcomp Tb0 Tryz.f47.ntmps ded_body = ded_k := by kernel_rfl
theorem ded_some : Tryz.f47.body = some ded_body := rfl
noncomputable def off_body : Code := (Tryz.f65.body).getD .skip
def off_r0 : List CO := [
    ⟨(some 4), none, .mv (.const (.pointer none))⟩]
def off_r1 : List CO := [
    ⟨(some 5), none, .mv (.tmp 1)⟩,
    ⟨(some 6), none, .bin .geq (.tmp 5) (.const (.int .i64 (0)))⟩,
    ⟨(some 7), none, .mv (.tmp 6)⟩,
    ⟨(some 8), (some (7, true)), .mv (.tmp 1)⟩,
    ⟨(some 9), (some (7, true)), .mv (.tmp 0)⟩,
    ⟨(some 10), (some (7, true)), .len 1 (.tmp 9)⟩,
    ⟨(some 11), (some (7, true)), .bin .lss (.tmp 8) (.tmp 10)⟩,
    ⟨(some 12), none, .pick (.tmp 7) (.tmp 11) (.const (.bool false))⟩]
def off_r2 : List CO := [
    ⟨(some 13), none, .mv (.tmp 0)⟩,
    ⟨(some 14), none, .mv (.tmp 1)⟩,
    ⟨(some 15), none, .iaS 1 (.tmp 13) (.tmp 14)⟩,
    ⟨(some 16), none, .ld1 (.tmp 15)⟩,
    ⟨(some 4), none, .mv (.tmp 16)⟩]
def off_r3 : List CO := [
    ⟨(some 17), none, .mv (.tmp 4)⟩,
    ⟨(some 4), none, .mv (.tmp 17)⟩]
noncomputable def off_k : KC :=
  (.seq (.reg off_r0)
  (.seq (.seq (.reg off_r1)
  (.cond (.tmp 12) (.reg off_r2)
   .skip))
  (.seq (.reg off_r3)
  .ret)))
theorem off_comp : kcomp Tb0 Tryz.f65.ntmps off_body = off_k := by kernel_rfl
theorem off_some : Tryz.f65.body = some off_body := rfl
noncomputable def pln_body : Code := (Tryz.f82.body).getD .skip
def pln_r0 : List CO := [
    ⟨(some 4), none, .mv (.const (.bool false))⟩]
def pln_r1 : List CO := [
    ⟨(some 6), none, .mv (.tmp 0)⟩,
    ⟨(some 7), none, .len 0 (.tmp 6)⟩,
    ⟨(some 8), none, .mv (.const (.int .i64 (0)))⟩]
def pln_r2 : List CO := [
    ⟨(some 9), none, .bin .lss (.tmp 8) (.tmp 7)⟩]
def pln_r3 : List CO := [
    ⟨(some 10), none, .mv (.tmp 8)⟩,
    ⟨(some 5), none, .mv (.tmp 10)⟩]
def pln_r4 : List CO := [
    ⟨(some 11), none, .mv (.tmp 0)⟩,
    ⟨(some 12), none, .mv (.tmp 5)⟩,
    ⟨(some 13), none, .ixS (.tmp 11) (.tmp 12)⟩,
    ⟨(some 14), none, .bin .lss (.tmp 13) (.const (.int .u8 (32)))⟩,
    ⟨(some 15), none, .mv (.tmp 14)⟩,
    ⟨(some 16), (some (15, false)), .mv (.tmp 0)⟩,
    ⟨(some 17), (some (15, false)), .mv (.tmp 5)⟩,
    ⟨(some 18), (some (15, false)), .ixS (.tmp 16) (.tmp 17)⟩,
    ⟨(some 19), (some (15, false)), .bin .gtr (.tmp 18) (.const (.int .u8 (126)))⟩,
    ⟨(some 20), none, .pick (.tmp 15) (.const (.bool true)) (.tmp 19)⟩,
    ⟨(some 21), none, .mv (.tmp 20)⟩,
    ⟨(some 22), (some (21, true)), .mv (.tmp 1)⟩,
    ⟨(some 23), (some (21, true)), .un .not (.tmp 22)⟩,
    ⟨(some 24), (some (21, true)), .mv (.tmp 23)⟩,
    ⟨(some 25), (some (24, false)), .mv (.tmp 0)⟩,
    ⟨(some 26), (some (24, false)), .mv (.tmp 5)⟩,
    ⟨(some 27), (some (24, false)), .ixS (.tmp 25) (.tmp 26)⟩,
    ⟨(some 28), (some (24, false)), .eq true (.one .i) (.tmp 27) (.const (.int .u8 (10)))⟩,
    ⟨(some 29), (some (21, true)), .pick (.tmp 24) (.const (.bool true)) (.tmp 28)⟩,
    ⟨(some 30), none, .pick (.tmp 21) (.tmp 29) (.const (.bool false))⟩]
def pln_r5 : List CO := [
    ⟨(some 4), none, .mv (.const (.bool false))⟩]
def pln_r6 : List CO := [
    ⟨(some 31), none, .bin .add (.tmp 8) (.const (.int .i64 (1)))⟩,
    ⟨(some 8), none, .mv (.tmp 31)⟩]
noncomputable def pln_l7 : KC :=
  (.seq (.reg pln_r2)
  (.seq (.cond (.tmp 9) .skip
   (.exit 0))
  (.seq (.block 1 (.seq (.reg pln_r3)
   (.seq (.reg pln_r4)
   (.cond (.tmp 30) (.seq (.reg pln_r5)
    .ret)
    .skip))))
  (.reg pln_r6))))
def pln_r8 : List CO := [
    ⟨(some 4), none, .mv (.const (.bool true))⟩]
noncomputable def pln_k : KC :=
  (.seq (.reg pln_r0)
  (.seq (.seq (.reg pln_r1)
  (.block 0 (.loop pln_body.sr.sl.sr.bl.lp pln_l7)))
  (.seq (.reg pln_r8)
  .ret)))
theorem pln_comp : kcomp Tb0 Tryz.f82.ntmps pln_body = pln_k := by kernel_rfl
theorem pln_some : Tryz.f82.body = some pln_body := rfl
noncomputable def trr_body : Code := (Tryz.f132.body).getD .skip
def trr_r0 : List CO := [
    ⟨(some 4), none, .mv (.const (.string ⟨#[]⟩))⟩]
def trr_r1 : List CO := [
    ⟨(some 7), none, .mv (.tmp 0)⟩,
    ⟨(some 8), none, .eq false (.one .s) (.tmp 7) (.const (.string ⟨#[]⟩))⟩,
    ⟨(some 9), none, .mv (.tmp 8)⟩,
    ⟨(some 10), (some (9, false)), .mv (.tmp 1)⟩,
    ⟨(some 11), (some (9, false)), .eq false (.one .s) (.tmp 10) (.const (.string ⟨#[]⟩))⟩,
    ⟨(some 12), none, .pick (.tmp 9) (.const (.bool true)) (.tmp 11)⟩]
def trr_r2 : List CO := [
    ⟨(some 13), none, .mv (.tmp 0)⟩,
    ⟨(some 4), none, .mv (.tmp 13)⟩]
def trr_r3 : List CO := [
    ⟨(some 14), none, .mv (.tmp 1)⟩,
    ⟨(some 15), none, .len 0 (.tmp 14)⟩,
    ⟨(some 16), none, .eq false (.one .i) (.tmp 15) (.const (.int .i64 (1)))⟩,
    ⟨(some 17), none, .mv (.tmp 16)⟩,
    ⟨(some 18), (some (17, true)), .mv (.tmp 1)⟩,
    ⟨(some 19), (some (17, true)), .ixS (.tmp 18) (.const (.int .i64 (0)))⟩,
    ⟨(some 20), (some (17, true)), .bin .lss (.tmp 19) (.const (.int .u8 (128)))⟩,
    ⟨(some 21), none, .pick (.tmp 17) (.tmp 20) (.const (.bool false))⟩]
def trr_r4 : List CO := [
    ⟨(some 22), none, .mv (.tmp 0)⟩,
    ⟨(some 23), none, .mv (.tmp 1)⟩,
    ⟨(some 24), none, .ixS (.tmp 23) (.const (.int .i64 (0)))⟩,
    ⟨(some 25), none, .call (.func 169) [(.tmp 22), (.tmp 24)]⟩,
    ⟨(some 4), none, .mv (.tmp 25)⟩]
def trr_r5 : List CO := [
    ⟨(some 27), none, .mv (.tmp 1)⟩,
    ⟨(some 28), none, .call (.func 170) [(.tmp 27)]⟩,
    ⟨(some 26), none, .mv (.tmp 28)⟩,
    ⟨(some 29), none, .ext (.tmp 26) 0⟩,
    ⟨(some 30), none, .ext (.tmp 26) 1⟩,
    ⟨(some 5), none, .alloc (blkL [.bool false, .bool false, .bool false, .bool false, .bool false, .bool false, .bool false, .bool false, .bool false, .bool false, .bool false, .bool false, .bool false, .bool false, .bool false, .bool false, .bool false, .bool false, .bool false, .bool false, .bool false, .bool false, .bool false, .bool false, .bool false, .bool false, .bool false, .bool false, .bool false, .bool false, .bool false, .bool false, .bool false, .bool false, .bool false, .bool false, .bool false, .bool false, .bool false, .bool false, .bool false, .bool false, .bool false, .bool false, .bool false, .bool false, .bool false, .bool false, .bool false, .bool false, .bool false, .bool false, .bool false, .bool false, .bool false, .bool false, .bool false, .bool false, .bool false, .bool false, .bool false, .bool false, .bool false, .bool false, .bool false, .bool false, .bool false, .bool false, .bool false, .bool false, .bool false, .bool false, .bool false, .bool false, .bool false, .bool false, .bool false, .bool false, .bool false, .bool false, .bool false, .bool false, .bool false, .bool false, .bool false, .bool false, .bool false, .bool false, .bool false, .bool false, .bool false, .bool false, .bool false, .bool false, .bool false, .bool false, .bool false, .bool false, .bool false, .bool false, .bool false, .bool false, .bool false, .bool false, .bool false, .bool false, .bool false, .bool false, .bool false, .bool false, .bool false, .bool false, .bool false, .bool false, .bool false, .bool false, .bool false, .bool false, .bool false, .bool false, .bool false, .bool false, .bool false, .bool false, .bool false, .bool false, .bool false, .bool false, .bool false, .bool false, .bool false, .bool false, .bool false, .bool false, .bool false, .bool false, .bool false, .bool false, .bool false, .bool false, .bool false, .bool false, .bool false, .bool false, .bool false, .bool false, .bool false, .bool false, .bool false, .bool false, .bool false, .bool false, .bool false, .bool false, .bool false, .bool false, .bool false, .bool false, .bool false, .bool false, .bool false, .bool false, .bool false, .bool false, .bool false, .bool false, .bool false, .bool false, .bool false, .bool false, .bool false, .bool false, .bool false, .bool false, .bool false, .bool false, .bool false, .bool false, .bool false, .bool false, .bool false, .bool false, .bool false, .bool false, .bool false, .bool false, .bool false, .bool false, .bool false, .bool false, .bool false, .bool false, .bool false, .bool false, .bool false, .bool false, .bool false, .bool false, .bool false, .bool false, .bool false, .bool false, .bool false, .bool false, .bool false, .bool false, .bool false, .bool false, .bool false, .bool false, .bool false, .bool false, .bool false, .bool false, .bool false, .bool false, .bool false, .bool false, .bool false, .bool false, .bool false, .bool false, .bool false, .bool false, .bool false, .bool false, .bool false, .bool false, .bool false, .bool false, .bool false, .bool false, .bool false, .bool false, .bool false, .bool false, .bool false, .bool false, .bool false, .bool false, .bool false, .bool false, .bool false, .bool false, .bool false, .bool false, .bool false, .bool false, .bool false, .bool false, .bool false, .bool false, .bool false, .bool false, .bool false, .bool false] 274 0)⟩,
    ⟨none, none, .st 256 (.tmp 5) (.tmp 29)⟩,
    ⟨(some 6), none, .mv (.tmp 30)⟩]
def trr_r6 : List CO := [
    ⟨(some 31), none, .mv (.tmp 6)⟩]
def trr_r7 : List CO := [
    ⟨(some 32), none, .mv (.tmp 0)⟩,
    ⟨(some 33), none, .call (.func 171) [(.tmp 32), (.tmp 5)]⟩,
    ⟨(some 4), none, .mv (.tmp 33)⟩]
def trr_r8 : List CO := [
    ⟨(some 34), none, .mv (.tmp 0)⟩,
    ⟨(some 35), none, .mv (.tmp 1)⟩,
    ⟨(some 36), none, .call (.func 172) [(.tmp 34), (.tmp 35)]⟩,
    ⟨(some 4), none, .mv (.tmp 36)⟩]
noncomputable def trr_k : KC :=
  (.seq (.reg trr_r0)
  (.seq (.seq (.reg trr_r1)
  (.cond (.tmp 12) (.seq (.reg trr_r2)
   .ret)
   .skip))
  (.seq (.seq (.reg trr_r3)
  (.cond (.tmp 21) (.seq (.reg trr_r4)
   .ret)
   .skip))
  (.seq (.seq (.reg trr_r5)
  (.seq (.reg trr_r6)
  (.cond (.tmp 31) (.seq (.reg trr_r7)
   .ret)
   .skip)))
  (.seq (.reg trr_r8)
  .ret)))))
theorem trr_comp : kcomp Tb0 Tryz.f132.ntmps trr_body = trr_k := by kernel_rfl
theorem trr_some : Tryz.f132.body = some trr_body := rfl
noncomputable def trb_body : Code := (Tryz.f169.body).getD .skip
def trb_r0 : List CO := [
    ⟨(some 4), none, .mv (.const (.string ⟨#[]⟩))⟩]
def trb_r1 : List CO := [
    ⟨(some 5), none, .mv (.tmp 0)⟩,
    ⟨(some 6), none, .len 0 (.tmp 5)⟩,
    ⟨(some 7), none, .bin .gtr (.tmp 6) (.const (.int .i64 (0)))⟩,
    ⟨(some 8), none, .mv (.tmp 7)⟩,
    ⟨(some 9), (some (8, true)), .mv (.tmp 0)⟩,
    ⟨(some 10), (some (8, true)), .mv (.tmp 0)⟩,
    ⟨(some 11), (some (8, true)), .len 0 (.tmp 10)⟩,
    ⟨(some 12), (some (8, true)), .bin .sub (.tmp 11) (.const (.int .i64 (1)))⟩,
    ⟨(some 13), (some (8, true)), .ixS (.tmp 9) (.tmp 12)⟩,
    ⟨(some 14), (some (8, true)), .mv (.tmp 1)⟩,
    ⟨(some 15), (some (8, true)), .eq false (.one .i) (.tmp 13) (.tmp 14)⟩,
    ⟨(some 16), none, .pick (.tmp 8) (.tmp 15) (.const (.bool false))⟩]
def trb_r2 : List CO := [
    ⟨(some 17), none, .mv (.tmp 0)⟩,
    ⟨(some 18), none, .mv (.tmp 0)⟩,
    ⟨(some 19), none, .len 0 (.tmp 18)⟩,
    ⟨(some 20), none, .bin .sub (.tmp 19) (.const (.int .i64 (1)))⟩,
    ⟨(some 21), none, .slS (.tmp 17) none (some (.tmp 20))⟩,
    ⟨(some 0), none, .mv (.tmp 21)⟩]
noncomputable def trb_l3 : KC :=
  (.seq (.seq (.reg trb_r1)
  (.cond (.tmp 16) .skip
   (.exit 0)))
  (.block 1 (.reg trb_r2)))
def trb_r4 : List CO := [
    ⟨(some 22), none, .mv (.tmp 0)⟩,
    ⟨(some 4), none, .mv (.tmp 22)⟩]
noncomputable def trb_k : KC :=
  (.seq (.reg trb_r0)
  (.seq (.block 0 (.loop trb_body.sr.sl.bl.lp trb_l3))
  (.seq (.reg trb_r4)
  .ret)))
theorem trb_comp : kcomp Tb0 Tryz.f169.ntmps trb_body = trb_k := by kernel_rfl
theorem trb_some : Tryz.f169.body = some trb_body := rfl
noncomputable def snx_body : Code := (Tryz.f25.body).getD .skip
def snx_r0 : List CO := [
    ⟨(some 4), none, .mv (.const (.string ⟨#[]⟩))⟩,
    ⟨(some 5), none, .mv (.const (.int .i64 (0)))⟩,
    ⟨(some 6), none, .mv (.const (.int .i64 (0)))⟩]
def snx_r1 : List CO := [
    ⟨(some 10), none, .mv (.tmp 0)⟩,
    ⟨(some 11), none, .call (.func 47) [(.tmp 10)]⟩]
def snx_r2 : List CO := [
    ⟨(some 4), none, .mv (.const (.string ⟨#[]⟩))⟩,
    ⟨(some 5), none, .mv (.const (.int .i64 (-1)))⟩,
    ⟨(some 6), none, .mv (.const (.int .i64 (0)))⟩]
def snx_r3 : List CO := [
    ⟨(some 12), none, .mv (.tmp 0)⟩,
    ⟨(some 13), none, .nilc (.tmp 12)⟩,
    ⟨(some 14), none, .fa 11 (.tmp 13)⟩,
    ⟨(some 15), none, .ld1 (.tmp 14)⟩,
    ⟨(some 16), none, .mv (.tmp 1)⟩,
    ⟨(some 17), none, .call (.func 65) [(.tmp 15), (.tmp 16)]⟩,
    ⟨(some 7), none, .mv (.tmp 17)⟩]
def snx_r4 : List CO := [
    ⟨(some 18), none, .mv (.tmp 7)⟩,
    ⟨(some 19), none, .eq false (.one .p) (.tmp 18) (.const (.pointer none))⟩]
def snx_r5 : List CO := [
    ⟨(some 4), none, .mv (.const (.string ⟨#[]⟩))⟩,
    ⟨(some 5), none, .mv (.const (.int .i64 (-1)))⟩,
    ⟨(some 6), none, .mv (.const (.int .i64 (0)))⟩]
def snx_r6 : List CO := [
    ⟨(some 21), none, .mv (.tmp 7)⟩,
    ⟨(some 22), none, .nilc (.tmp 21)⟩,
    ⟨(some 23), none, .fa 1 (.tmp 22)⟩,
    ⟨(some 24), none, .ld1 (.tmp 23)⟩,
    ⟨(some 25), none, .mv (.tmp 7)⟩,
    ⟨(some 26), none, .nilc (.tmp 25)⟩,
    ⟨(some 27), none, .fa 2 (.tmp 26)⟩,
    ⟨(some 28), none, .ld1 (.tmp 27)⟩,
    ⟨(some 29), none, .call (.func 66) [(.tmp 24), (.tmp 28)]⟩,
    ⟨(some 20), none, .mv (.tmp 29)⟩,
    ⟨(some 30), none, .ext (.tmp 20) 0⟩,
    ⟨(some 31), none, .ext (.tmp 20) 1⟩,
    ⟨(some 8), none, .alloc (blkL [.string ⟨#[]⟩, .string ⟨#[]⟩] 77 0)⟩,
    ⟨none, none, .st 2 (.tmp 8) (.tmp 30)⟩,
    ⟨(some 9), none, .mv (.tmp 31)⟩]
def snx_r7 : List CO := [
    ⟨(some 32), none, .mv (.tmp 9)⟩,
    ⟨(some 33), none, .eq true (.one .i) (.tmp 32) (.const (.int .i64 (0)))⟩]
def snx_r8 : List CO := [
    ⟨(some 4), none, .mv (.const (.string ⟨#[]⟩))⟩,
    ⟨(some 5), none, .mv (.const (.int .i64 (8)))⟩,
    ⟨(some 6), none, .mv (.const (.int .i64 (70)))⟩]
def snx_r9 : List CO := [
    ⟨(some 34), none, .mv (.tmp 7)⟩,
    ⟨(some 35), none, .fa 0 (.tmp 8)⟩,
    ⟨(some 36), none, .ld1 (.tmp 35)⟩,
    ⟨(some 37), none, .nilc (.tmp 34)⟩,
    ⟨(some 38), none, .fa 2 (.tmp 37)⟩,
    ⟨none, none, .st 1 (.tmp 38) (.tmp 36)⟩]
def snx_r10 : List CO := [
    ⟨(some 39), none, .fa 1 (.tmp 8)⟩,
    ⟨(some 40), none, .ld1 (.tmp 39)⟩,
    ⟨(some 4), none, .mv (.tmp 40)⟩,
    ⟨(some 5), none, .mv (.const (.int .i64 (0)))⟩,
    ⟨(some 6), none, .mv (.const (.int .i64 (0)))⟩]
noncomputable def snx_k : KC :=
  (.seq (.reg snx_r0)
  (.seq (.seq (.reg snx_r1)
  (.cond (.tmp 11) (.seq (.reg snx_r2)
   .ret)
   .skip))
  (.seq (.reg snx_r3)
  (.seq (.seq (.reg snx_r4)
  (.cond (.tmp 19) (.seq (.reg snx_r5)
   .ret)
   .skip))
  (.seq (.draw #[0, 1, 3, 7, 0, 16, 48, 112, 255, 511, 1023, 1023, 0, 6143, 16383] snx_r6)
  (.seq (.seq (.reg snx_r7)
  (.cond (.tmp 33) (.seq (.reg snx_r8)
   .ret)
   .skip))
  (.seq (.reg snx_r9)
  (.seq (.reg snx_r10)
  .ret))))))))
theorem snx_comp : kcomp Tb0 Tryz.f25.ntmps snx_body = snx_k := by kernel_rfl
theorem snx_some : Tryz.f25.body = some snx_body := rfl
noncomputable def ouc_body : Code := (Tryz.f26.body).getD .skip
def ouc_r0 : List CO := [
    ⟨(some 2), none, .alloc (blkL [.slice none 0 0, .slice none 0 0, .string ⟨#[]⟩, .int .i64 (0), .int .i64 (0), .int .i64 (0)] 74 0)⟩]
def ouc_r1 : List CO := [
    ⟨(some 9), none, .mv (.tmp 0)⟩,
    ⟨(some 10), none, .eq false (.one .p) (.tmp 9) (.const (.pointer none))⟩]
def ouc_r2 : List CO := [
    ⟨(some 11), none, .build [.slice none 0 0, .slice none 0 0, .string ⟨#[]⟩, .int .i64 (0), .int .i64 (0), .int .i64 (0)] []⟩,
    ⟨none, none, .st 6 (.tmp 2) (.tmp 11)⟩]
def ouc_r3 : List CO := [
    ⟨(some 12), none, .mv (.tmp 0)⟩,
    ⟨(some 13), none, .nilc (.tmp 12)⟩,
    ⟨(some 14), none, .fa 13 (.tmp 13)⟩,
    ⟨(some 15), none, .call (.func 67) [(.tmp 14)]⟩,
    ⟨(some 16), none, .mv (.tmp 0)⟩,
    ⟨(some 17), none, .nilc (.tmp 16)⟩,
    ⟨(some 18), none, .fa 15 (.tmp 17)⟩,
    ⟨(some 19), none, .ld1 (.tmp 18)⟩,
    ⟨(some 20), none, .build [.slice none 0 0, .slice none 0 0, .string ⟨#[]⟩, .int .i64 (0), .int .i64 (0), .int .i64 (0)] [(2, 1, (.tmp 15)), (5, 1, (.tmp 19))]⟩,
    ⟨(some 3), none, .alloc (blkL [.slice none 0 0, .slice none 0 0, .string ⟨#[]⟩, .int .i64 (0), .int .i64 (0), .int .i64 (0)] 74 0)⟩,
    ⟨none, none, .st 6 (.tmp 3) (.tmp 20)⟩]
def ouc_r4 : List CO := [
    ⟨(some 21), none, .mv (.tmp 0)⟩,
    ⟨(some 22), none, .nilc (.tmp 21)⟩,
    ⟨(some 23), none, .fa 19 (.tmp 22)⟩,
    ⟨(some 24), none, .ld1 (.tmp 23)⟩]
def ouc_r5 : List CO := [
    ⟨(some 25), none, .mv (.tmp 0)⟩,
    ⟨(some 26), none, .nilc (.tmp 25)⟩,
    ⟨(some 27), none, .fa 20 (.tmp 26)⟩,
    ⟨(some 28), none, .ld1 (.tmp 27)⟩,
    ⟨(some 29), none, .mv (.tmp 0)⟩,
    ⟨(some 30), none, .nilc (.tmp 29)⟩,
    ⟨(some 31), none, .fa 21 (.tmp 30)⟩,
    ⟨(some 32), none, .ld1 (.tmp 31)⟩,
    ⟨(some 33), none, .fa 3 (.tmp 3)⟩,
    ⟨none, none, .st 1 (.tmp 33) (.tmp 28)⟩,
    ⟨(some 34), none, .fa 4 (.tmp 3)⟩,
    ⟨none, none, .st 1 (.tmp 34) (.tmp 32)⟩]
def ouc_r6 : List CO := [
    ⟨(some 35), none, .mv (.tmp 0)⟩,
    ⟨(some 36), none, .nilc (.tmp 35)⟩,
    ⟨(some 37), none, .fa 0 (.tmp 36)⟩,
    ⟨(some 38), none, .fa 3 (.tmp 37)⟩,
    ⟨(some 39), none, .ld1 (.tmp 38)⟩,
    ⟨(some 40), none, .len 1 (.tmp 39)⟩,
    ⟨(some 41), none, .mv (.const (.int .i64 (0)))⟩]
def ouc_r7 : List CO := [
    ⟨(some 42), none, .bin .lss (.tmp 41) (.tmp 40)⟩]
def ouc_r8 : List CO := [
    ⟨(some 43), none, .mv (.tmp 41)⟩,
    ⟨(some 4), none, .mv (.tmp 43)⟩]
def ouc_r9 : List CO := [
    ⟨(some 5), none, .mv (.const (.string ⟨#[]⟩))⟩,
    ⟨(some 6), none, .mv (.const (.slice none 0 0))⟩]
def ouc_r10 : List CO := [
    ⟨(some 44), none, .mv (.tmp 0)⟩,
    ⟨(some 45), none, .nilc (.tmp 44)⟩,
    ⟨(some 46), none, .fa 10 (.tmp 45)⟩,
    ⟨(some 47), none, .ld1 (.tmp 46)⟩,
    ⟨(some 48), none, .mv (.tmp 4)⟩,
    ⟨(some 49), none, .iaS 1 (.tmp 47) (.tmp 48)⟩,
    ⟨(some 50), none, .ld1 (.tmp 49)⟩,
    ⟨(some 7), none, .mv (.tmp 50)⟩]
def ouc_r11 : List CO := [
    ⟨(some 51), none, .mv (.tmp 7)⟩,
    ⟨(some 52), none, .eq true (.one .p) (.tmp 51) (.const (.pointer none))⟩]
def ouc_r12 : List CO := [
    ⟨(some 53), none, .mv (.tmp 7)⟩,
    ⟨(some 54), none, .nilc (.tmp 53)⟩,
    ⟨(some 55), none, .fa 1 (.tmp 54)⟩,
    ⟨(some 56), none, .ld1 (.tmp 55)⟩,
    ⟨(some 57), none, .call (.func 68) [(.tmp 56)]⟩,
    ⟨(some 5), none, .mv (.tmp 57)⟩]
def ouc_r13 : List CO := [
    ⟨(some 58), none, .mv (.tmp 0)⟩,
    ⟨(some 59), none, .nilc (.tmp 58)⟩,
    ⟨(some 60), none, .fa 11 (.tmp 59)⟩,
    ⟨(some 61), none, .ld1 (.tmp 60)⟩,
    ⟨(some 62), none, .mv (.tmp 4)⟩,
    ⟨(some 63), none, .iaS 1 (.tmp 61) (.tmp 62)⟩,
    ⟨(some 64), none, .ld1 (.tmp 63)⟩,
    ⟨(some 8), none, .mv (.tmp 64)⟩]
def ouc_r14 : List CO := [
    ⟨(some 65), none, .mv (.tmp 8)⟩,
    ⟨(some 66), none, .eq true (.one .p) (.tmp 65) (.const (.pointer none))⟩]
def ouc_r15 : List CO := [
    ⟨(some 67), none, .mv (.tmp 8)⟩,
    ⟨(some 68), none, .nilc (.tmp 67)⟩,
    ⟨(some 69), none, .fa 1 (.tmp 68)⟩,
    ⟨(some 70), none, .ld1 (.tmp 69)⟩,
    ⟨(some 71), none, .call (.func 44) [(.tmp 70)]⟩,
    ⟨(some 6), none, .mv (.tmp 71)⟩]
def ouc_r16 : List CO := [
    ⟨(some 72), none, .fa 0 (.tmp 3)⟩,
    ⟨(some 73), none, .ld1 (.tmp 72)⟩,
    ⟨(some 74), none, .mv (.tmp 5)⟩,
    ⟨(some 75), none, .bslice 1 9 [.string ⟨#[]⟩] [(0, 1, (.tmp 74))]⟩,
    ⟨(some 76), none, .app 9 1 16 (.tmp 73) (.tmp 75)⟩,
    ⟨(some 77), none, .fa 1 (.tmp 3)⟩,
    ⟨(some 78), none, .ld1 (.tmp 77)⟩,
    ⟨(some 79), none, .mv (.tmp 6)⟩,
    ⟨(some 80), none, .bslice 1 64 [.slice none 0 0] [(0, 1, (.tmp 79))]⟩,
    ⟨(some 81), none, .app 64 1 24 (.tmp 78) (.tmp 80)⟩,
    ⟨(some 82), none, .fa 0 (.tmp 3)⟩,
    ⟨none, none, .st 1 (.tmp 82) (.tmp 76)⟩,
    ⟨(some 83), none, .fa 1 (.tmp 3)⟩,
    ⟨none, none, .st 1 (.tmp 83) (.tmp 81)⟩]
def ouc_r17 : List CO := [
    ⟨(some 84), none, .bin .add (.tmp 41) (.const (.int .i64 (1)))⟩,
    ⟨(some 41), none, .mv (.tmp 84)⟩]
noncomputable def ouc_l18 : KC :=
  (.seq (.reg ouc_r7)
  (.seq (.cond (.tmp 42) .skip
   (.exit 0))
  (.seq (.block 1 (.seq (.reg ouc_r8)
   (.seq (.reg ouc_r9)
   (.seq (.seq (.reg ouc_r10)
   (.seq (.reg ouc_r11)
   (.cond (.tmp 52) (.reg ouc_r12)
    .skip)))
   (.seq (.seq (.reg ouc_r13)
   (.seq (.reg ouc_r14)
   (.cond (.tmp 66) (.reg ouc_r15)
    .skip)))
   (.draw #[0, 1, 0, 4, 15, 0, 32, 0, 128, 511, 127, 2047, 4095, 8191] ouc_r16))))))
  (.reg ouc_r17))))
def ouc_r19 : List CO := [
    ⟨(some 85), none, .ldN 6 (.tmp 3)⟩,
    ⟨none, none, .st 6 (.tmp 2) (.tmp 85)⟩]
noncomputable def ouc_k : KC :=
  (.seq (.reg ouc_r0)
  (.seq (.seq (.reg ouc_r1)
  (.cond (.tmp 10) (.seq (.reg ouc_r2)
   .ret)
   .skip))
  (.seq (.draw #[0, 1, 3, 7, 0, 16, 48, 112, 255, 0, 1023] ouc_r3)
  (.seq (.seq (.reg ouc_r4)
  (.cond (.tmp 24) (.draw #[0, 1, 3, 7, 0, 16, 48, 112, 15, 271, 1023, 2047] ouc_r5)
   .skip))
  (.seq (.seq (.reg ouc_r6)
  (.block 0 (.loop ouc_body.sr.sr.sr.sr.sl.sr.bl.lp ouc_l18)))
  (.seq (.reg ouc_r19)
  .ret))))))
theorem ouc_comp : kcomp Tb0 Tryz.f26.ntmps ouc_body = ouc_k := by kernel_rfl
theorem ouc_some : Tryz.f26.body = some ouc_body := rfl
noncomputable def bst_body : Code := (Tryz.f67.body).getD .skip
def bst_r0 : List CO := [
    ⟨(some 2), none, .mv (.const (.string ⟨#[]⟩))⟩]
def bst_r1 : List CO := [
    ⟨(some 3), none, .mv (.tmp 0)⟩,
    ⟨(some 4), none, .nilc (.tmp 3)⟩,
    ⟨(some 5), none, .fa 1 (.tmp 4)⟩,
    ⟨(some 6), none, .ld1 (.tmp 5)⟩,
    ⟨(some 7), none, .usd (.tmp 6)⟩,
    ⟨(some 8), none, .mv (.tmp 0)⟩,
    ⟨(some 9), none, .nilc (.tmp 8)⟩,
    ⟨(some 10), none, .fa 1 (.tmp 9)⟩,
    ⟨(some 11), none, .ld1 (.tmp 10)⟩,
    ⟨(some 12), none, .len 1 (.tmp 11)⟩,
    ⟨(some 13), none, .ustr 5 (.tmp 7) (.tmp 12)⟩,
    ⟨(some 2), none, .mv (.tmp 13)⟩]
noncomputable def bst_k : KC :=
  (.seq (.reg bst_r0)
  (.seq (.draw #[0, 1, 3, 7, 15, 0, 32, 96, 224, 480, 1023, 2047] bst_r1)
  .ret))
theorem bst_comp : kcomp Tb0 Tryz.f67.ntmps bst_body = bst_k := by kernel_rfl
theorem bst_some : Tryz.f67.body = some bst_body := rfl
noncomputable def oxt_body : Code := (Tryz.f68.body).getD .skip
def oxt_r0 : List CO := [
    ⟨(some 2), none, .mv (.const (.string ⟨#[]⟩))⟩]
def oxt_r1 : List CO := [
    ⟨(some 3), none, .mv (.tmp 0)⟩,
    ⟨(some 4), none, .eq false (.one .p) (.tmp 3) (.const (.pointer none))⟩]
def oxt_r2 : List CO := [
    ⟨(some 2), none, .mv (.const (.string ⟨#[]⟩))⟩]
def oxt_r3 : List CO := [
    ⟨(some 5), none, .mv (.tmp 0)⟩,
    ⟨(some 6), none, .nilc (.tmp 5)⟩,
    ⟨(some 7), none, .fa 0 (.tmp 6)⟩,
    ⟨(some 8), none, .fa 0 (.tmp 7)⟩,
    ⟨(some 9), none, .ld1 (.tmp 8)⟩,
    ⟨(some 2), none, .mv (.tmp 9)⟩]
noncomputable def oxt_k : KC :=
  (.seq (.reg oxt_r0)
  (.seq (.seq (.reg oxt_r1)
  (.cond (.tmp 4) (.seq (.reg oxt_r2)
   .ret)
   .skip))
  (.seq (.reg oxt_r3)
  .ret)))
theorem oxt_comp : kcomp Tb0 Tryz.f68.ntmps oxt_body = oxt_k := by kernel_rfl
theorem oxt_some : Tryz.f68.body = some oxt_body := rfl
end Go.Proofs.RS
end
