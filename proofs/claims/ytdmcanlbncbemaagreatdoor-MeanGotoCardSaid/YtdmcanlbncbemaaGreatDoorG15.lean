/-
  A part of the proof that pliantlaw16.MeanGoto returns true and leaves its arguments alone. Conditions: those of the card in the last text.
-/
import Derived.Test.YtdmcanlbncbemaaGreatDoorG14
set_option linter.unusedSimpArgs false
set_option linter.unusedVariables false
set_option linter.unusedSectionVars false
noncomputable section
namespace Go.Proofs.MN
open Go Go.Ev Go.Proofs
noncomputable def gaw_body : Code := (Tryz.f4.body).getD .skip
def gaw_r0 : List CO := [
    ⟨(some 4), none, .mv (.const (.bool false))⟩]
def gaw_r1 : List CO := [
    ⟨(some 18), none, .call (.func 7) []⟩,
    ⟨(some 19), none, .un .not (.tmp 18)⟩]
def gaw_r2 : List CO := [
    ⟨(some 4), none, .mv (.const (.bool false))⟩]
def gaw_r3 : List CO := [
    ⟨(some 20), none, .mv (.tmp 0)⟩,
    ⟨(some 21), none, .bin .lss (.tmp 20) (.const (.int .i64 (1)))⟩,
    ⟨(some 22), none, .mv (.tmp 21)⟩,
    ⟨(some 23), (some (22, false)), .mv (.tmp 0)⟩,
    ⟨(some 24), (some (22, false)), .bin .gtr (.tmp 23) (.const (.int .i64 (50)))⟩,
    ⟨(some 25), none, .pick (.tmp 22) (.const (.bool true)) (.tmp 24)⟩]
def gaw_r4 : List CO := [
    ⟨(some 4), none, .mv (.const (.bool true))⟩]
def gaw_r5 : List CO := [
    ⟨(some 26), none, .call (.func 9) []⟩,
    ⟨(some 27), none, .call (.func 8) [(.const (.int .i64 (0))), (.const (.int .i64 (0))), (.tmp 26)]⟩,
    ⟨(some 5), none, .alloc (blkL [.int .i64 (0), .int .i64 (0), .int .i64 (0), .int .i64 (0), .slice none 0 0, .slice none 0 0, .int .i64 (0), .int .i64 (0), .int .i64 (0), .bool false, .string ⟨#[]⟩] 28 0)⟩,
    ⟨none, none, .st 11 (.tmp 5) (.tmp 27)⟩]
def gaw_r6 : List CO := [
    ⟨(some 28), none, .build [.int .i64 (0), .int .i64 (0), .slice none 0 0, .slice none 0 0, .int .i64 (0), .int .i64 (0), .int .i64 (0), .slice none 0 0, .int .i64 (0), .bool false, .bool false] [(0, 1, (.const (.int .i64 (8)))), (6, 1, (.const (.int .i64 (3)))), (4, 1, (.const (.int .i64 (2))))]⟩,
    ⟨(some 29), none, .ldN 11 (.tmp 5)⟩,
    ⟨(some 30), none, .mv (.tmp 0)⟩,
    ⟨(some 31), none, .call (.func 12) [(.tmp 30)]⟩,
    ⟨(some 32), none, .call (.func 14) [(.tmp 29), (.tmp 31)]⟩,
    ⟨(some 33), none, .build [.int .i64 (0), .int .i64 (0), .slice none 0 0, .slice none 0 0, .int .i64 (0), .int .i64 (0), .int .i64 (0), .slice none 0 0, .int .i64 (0), .bool false, .bool false] [(0, 1, (.const (.int .i64 (6)))), (4, 1, (.const (.int .i64 (1))))]⟩,
    ⟨(some 34), none, .ldN 11 (.tmp 5)⟩,
    ⟨(some 35), none, .call (.func 16) [(.tmp 34)]⟩,
    ⟨(some 36), none, .bslice 1 35 [.int .i64 (0), .int .i64 (0), .int .i64 (0), .int .i64 (0), .bool false, .string ⟨#[]⟩, .int .i64 (0), .string ⟨#[]⟩, .int .i64 (0), .slice none 0 0, .slice none 0 0] [(0, 11, (.tmp 35))]⟩,
    ⟨(some 37), none, .call (.func 15) [(.tmp 36)]⟩,
    ⟨(some 38), none, .bslice 4 41 [.int .i64 (0), .int .i64 (0), .slice none 0 0, .slice none 0 0, .int .i64 (0), .int .i64 (0), .int .i64 (0), .slice none 0 0, .int .i64 (0), .bool false, .bool false, .int .i64 (0), .int .i64 (0), .slice none 0 0, .slice none 0 0, .int .i64 (0), .int .i64 (0), .int .i64 (0), .slice none 0 0, .int .i64 (0), .bool false, .bool false, .int .i64 (0), .int .i64 (0), .slice none 0 0, .slice none 0 0, .int .i64 (0), .int .i64 (0), .int .i64 (0), .slice none 0 0, .int .i64 (0), .bool false, .bool false, .int .i64 (0), .int .i64 (0), .slice none 0 0, .slice none 0 0, .int .i64 (0), .int .i64 (0), .int .i64 (0), .slice none 0 0, .int .i64 (0), .bool false, .bool false] [(0, 11, (.tmp 28)), (11, 11, (.tmp 32)), (22, 11, (.tmp 33)), (33, 11, (.tmp 37))]⟩,
    ⟨(some 39), none, .call (.func 17) [(.const (.int .i64 (16))), (.tmp 38)]⟩,
    ⟨(some 6), none, .alloc (blkL [.string ⟨#[]⟩, .int .i64 (0), .int .i64 (0), .int .i64 (0), .slice none 0 0, .slice none 0 0, .slice none 0 0] 49 0)⟩,
    ⟨none, none, .st 7 (.tmp 6) (.tmp 39)⟩]
def gaw_r7 : List CO := [
    ⟨(some 40), none, .call (.func 9) []⟩,
    ⟨(some 41), none, .call (.func 8) [(.const (.int .i64 (1))), (.const (.int .i64 (0))), (.tmp 40)]⟩,
    ⟨(some 7), none, .alloc (blkL [.int .i64 (0), .int .i64 (0), .int .i64 (0), .int .i64 (0), .slice none 0 0, .slice none 0 0, .int .i64 (0), .int .i64 (0), .int .i64 (0), .bool false, .string ⟨#[]⟩] 28 0)⟩,
    ⟨none, none, .st 11 (.tmp 7) (.tmp 41)⟩]
def gaw_r8 : List CO := [
    ⟨(some 42), none, .call (.func 20) []⟩,
    ⟨(some 43), none, .ldN 11 (.tmp 7)⟩,
    ⟨(some 44), none, .call (.func 16) [(.tmp 43)]⟩,
    ⟨(some 45), none, .call (.func 12) [(.const (.int .i64 (1)))]⟩,
    ⟨(some 46), none, .bslice 2 35 [.int .i64 (0), .int .i64 (0), .int .i64 (0), .int .i64 (0), .bool false, .string ⟨#[]⟩, .int .i64 (0), .string ⟨#[]⟩, .int .i64 (0), .slice none 0 0, .slice none 0 0, .int .i64 (0), .int .i64 (0), .int .i64 (0), .int .i64 (0), .bool false, .string ⟨#[]⟩, .int .i64 (0), .string ⟨#[]⟩, .int .i64 (0), .slice none 0 0, .slice none 0 0] [(0, 11, (.tmp 44)), (11, 11, (.tmp 45))]⟩,
    ⟨(some 47), none, .build [.int .i64 (0), .int .i64 (0), .int .i64 (0), .int .i64 (0), .bool false, .string ⟨#[]⟩, .int .i64 (0), .string ⟨#[]⟩, .int .i64 (0), .slice none 0 0, .slice none 0 0] [(0, 1, (.const (.int .i64 (18)))), (1, 5, (.tmp 42)), (8, 1, (.const (.int .i64 (4)))), (9, 1, (.tmp 46))]⟩,
    ⟨(some 8), none, .alloc (blkL [.int .i64 (0), .int .i64 (0), .int .i64 (0), .int .i64 (0), .bool false, .string ⟨#[]⟩, .int .i64 (0), .string ⟨#[]⟩, .int .i64 (0), .slice none 0 0, .slice none 0 0] 35 0)⟩,
    ⟨none, none, .st 11 (.tmp 8) (.tmp 47)⟩]
def gaw_r9 : List CO := [
    ⟨(some 48), none, .ldN 11 (.tmp 8)⟩,
    ⟨(some 49), none, .bslice 1 35 [.int .i64 (0), .int .i64 (0), .int .i64 (0), .int .i64 (0), .bool false, .string ⟨#[]⟩, .int .i64 (0), .string ⟨#[]⟩, .int .i64 (0), .slice none 0 0, .slice none 0 0] [(0, 11, (.tmp 48))]⟩,
    ⟨(some 50), none, .build [.int .i64 (0), .int .i64 (0), .slice none 0 0, .slice none 0 0, .int .i64 (0), .int .i64 (0), .int .i64 (0), .slice none 0 0, .int .i64 (0), .bool false, .bool false] [(0, 1, (.const (.int .i64 (4)))), (4, 1, (.const (.int .i64 (3)))), (3, 1, (.tmp 49))]⟩,
    ⟨(some 51), none, .ldN 11 (.tmp 7)⟩,
    ⟨(some 52), none, .ldN 11 (.tmp 7)⟩,
    ⟨(some 53), none, .call (.func 16) [(.tmp 52)]⟩,
    ⟨(some 54), none, .call (.func 12) [(.const (.int .i64 (1)))]⟩,
    ⟨(some 55), none, .call (.func 11) [(.const (.int .i64 (7))), (.tmp 53), (.tmp 54)]⟩,
    ⟨(some 56), none, .call (.func 14) [(.tmp 51), (.tmp 55)]⟩,
    ⟨(some 57), none, .build [.int .i64 (0), .int .i64 (0), .slice none 0 0, .slice none 0 0, .int .i64 (0), .int .i64 (0), .int .i64 (0), .slice none 0 0, .int .i64 (0), .bool false, .bool false] [(0, 1, (.const (.int .i64 (6)))), (4, 1, (.const (.int .i64 (1))))]⟩,
    ⟨(some 58), none, .call (.func 9) []⟩,
    ⟨(some 59), none, .call (.func 8) [(.const (.int .i64 (0))), (.const (.int .i64 (0))), (.tmp 58)]⟩,
    ⟨(some 60), none, .call (.func 12) [(.const (.int .i64 (1)))]⟩,
    ⟨(some 61), none, .call (.func 12) [(.const (.int .i64 (0)))]⟩,
    ⟨(some 62), none, .call (.func 11) [(.const (.int .i64 (9))), (.tmp 60), (.tmp 61)]⟩,
    ⟨(some 63), none, .call (.func 14) [(.tmp 59), (.tmp 62)]⟩,
    ⟨(some 64), none, .call (.func 12) [(.const (.int .i64 (99)))]⟩,
    ⟨(some 65), none, .bslice 1 35 [.int .i64 (0), .int .i64 (0), .int .i64 (0), .int .i64 (0), .bool false, .string ⟨#[]⟩, .int .i64 (0), .string ⟨#[]⟩, .int .i64 (0), .slice none 0 0, .slice none 0 0] [(0, 11, (.tmp 64))]⟩,
    ⟨(some 66), none, .call (.func 15) [(.tmp 65)]⟩,
    ⟨(some 67), none, .bslice 5 41 [.int .i64 (0), .int .i64 (0), .slice none 0 0, .slice none 0 0, .int .i64 (0), .int .i64 (0), .int .i64 (0), .slice none 0 0, .int .i64 (0), .bool false, .bool false, .int .i64 (0), .int .i64 (0), .slice none 0 0, .slice none 0 0, .int .i64 (0), .int .i64 (0), .int .i64 (0), .slice none 0 0, .int .i64 (0), .bool false, .bool false, .int .i64 (0), .int .i64 (0), .slice none 0 0, .slice none 0 0, .int .i64 (0), .int .i64 (0), .int .i64 (0), .slice none 0 0, .int .i64 (0), .bool false, .bool false, .int .i64 (0), .int .i64 (0), .slice none 0 0, .slice none 0 0, .int .i64 (0), .int .i64 (0), .int .i64 (0), .slice none 0 0, .int .i64 (0), .bool false, .bool false, .int .i64 (0), .int .i64 (0), .slice none 0 0, .slice none 0 0, .int .i64 (0), .int .i64 (0), .int .i64 (0), .slice none 0 0, .int .i64 (0), .bool false, .bool false] [(0, 11, (.tmp 50)), (11, 11, (.tmp 56)), (22, 11, (.tmp 57)), (33, 11, (.tmp 63)), (44, 11, (.tmp 66))]⟩,
    ⟨(some 68), none, .build [.string ⟨#[]⟩, .int .i64 (0), .int .i64 (0), .int .i64 (0), .slice none 0 0, .slice none 0 0, .slice none 0 0] [(0, 1, (.const (.string ⟨#[68, 69, 69, 80]⟩))), (3, 1, (.const (.int .i64 (16)))), (5, 1, (.tmp 67))]⟩,
    ⟨(some 9), none, .alloc (blkL [.string ⟨#[]⟩, .int .i64 (0), .int .i64 (0), .int .i64 (0), .slice none 0 0, .slice none 0 0, .slice none 0 0] 49 0)⟩,
    ⟨none, none, .st 7 (.tmp 9) (.tmp 68)⟩]
def gaw_r10 : List CO := [
    ⟨(some 69), none, .build [.int .i64 (0), .int .i64 (0), .slice none 0 0, .slice none 0 0, .int .i64 (0), .int .i64 (0), .int .i64 (0), .slice none 0 0, .int .i64 (0), .bool false, .bool false] [(0, 1, (.const (.int .i64 (5)))), (4, 1, (.const (.int .i64 (3))))]⟩,
    ⟨(some 70), none, .bslice 1 41 [.int .i64 (0), .int .i64 (0), .slice none 0 0, .slice none 0 0, .int .i64 (0), .int .i64 (0), .int .i64 (0), .slice none 0 0, .int .i64 (0), .bool false, .bool false] [(0, 11, (.tmp 69))]⟩,
    ⟨(some 71), none, .build [.string ⟨#[]⟩, .int .i64 (0), .int .i64 (0), .int .i64 (0), .slice none 0 0, .slice none 0 0, .slice none 0 0] [(0, 1, (.const (.string ⟨#[85]⟩))), (5, 1, (.tmp 70))]⟩,
    ⟨(some 10), none, .alloc (blkL [.string ⟨#[]⟩, .int .i64 (0), .int .i64 (0), .int .i64 (0), .slice none 0 0, .slice none 0 0, .slice none 0 0] 49 0)⟩,
    ⟨none, none, .st 7 (.tmp 10) (.tmp 71)⟩]
def gaw_r11 : List CO := [
    ⟨(some 72), none, .mv (.tmp 1)⟩]
def gaw_r12 : List CO := [
    ⟨(some 73), none, .build [.int .i64 (0), .int .i64 (0), .slice none 0 0, .slice none 0 0, .int .i64 (0), .int .i64 (0), .int .i64 (0), .slice none 0 0, .int .i64 (0), .bool false, .bool false] [(0, 1, (.const (.int .i64 (6)))), (4, 1, (.const (.int .i64 (3))))]⟩,
    ⟨(some 74), none, .call (.func 12) [(.const (.int .i64 (98)))]⟩,
    ⟨(some 75), none, .bslice 1 35 [.int .i64 (0), .int .i64 (0), .int .i64 (0), .int .i64 (0), .bool false, .string ⟨#[]⟩, .int .i64 (0), .string ⟨#[]⟩, .int .i64 (0), .slice none 0 0, .slice none 0 0] [(0, 11, (.tmp 74))]⟩,
    ⟨(some 76), none, .call (.func 15) [(.tmp 75)]⟩,
    ⟨(some 77), none, .bslice 2 41 [.int .i64 (0), .int .i64 (0), .slice none 0 0, .slice none 0 0, .int .i64 (0), .int .i64 (0), .int .i64 (0), .slice none 0 0, .int .i64 (0), .bool false, .bool false, .int .i64 (0), .int .i64 (0), .slice none 0 0, .slice none 0 0, .int .i64 (0), .int .i64 (0), .int .i64 (0), .slice none 0 0, .int .i64 (0), .bool false, .bool false] [(0, 11, (.tmp 73)), (11, 11, (.tmp 76))]⟩,
    ⟨(some 78), none, .build [.string ⟨#[]⟩, .int .i64 (0), .int .i64 (0), .int .i64 (0), .slice none 0 0, .slice none 0 0, .slice none 0 0] [(0, 1, (.const (.string ⟨#[85]⟩))), (5, 1, (.tmp 77))]⟩,
    ⟨none, none, .st 7 (.tmp 10) (.tmp 78)⟩]
def gaw_r13 : List CO := [
    ⟨(some 79), none, .ldN 7 (.tmp 6)⟩,
    ⟨(some 80), none, .ldN 7 (.tmp 9)⟩,
    ⟨(some 81), none, .ldN 7 (.tmp 10)⟩,
    ⟨(some 82), none, .build [.int .i64 (0), .int .i64 (0), .slice none 0 0, .slice none 0 0, .int .i64 (0), .int .i64 (0), .int .i64 (0), .slice none 0 0, .int .i64 (0), .bool false, .bool false] [(0, 1, (.const (.int .i64 (5)))), (4, 1, (.const (.int .i64 (3))))]⟩,
    ⟨(some 83), none, .bslice 1 41 [.int .i64 (0), .int .i64 (0), .slice none 0 0, .slice none 0 0, .int .i64 (0), .int .i64 (0), .int .i64 (0), .slice none 0 0, .int .i64 (0), .bool false, .bool false] [(0, 11, (.tmp 82))]⟩,
    ⟨(some 84), none, .build [.string ⟨#[]⟩, .int .i64 (0), .int .i64 (0), .int .i64 (0), .slice none 0 0, .slice none 0 0, .slice none 0 0] [(0, 1, (.const (.string ⟨#[79, 85, 84]⟩))), (5, 1, (.tmp 83))]⟩,
    ⟨(some 85), none, .bslice 4 49 [.string ⟨#[]⟩, .int .i64 (0), .int .i64 (0), .int .i64 (0), .slice none 0 0, .slice none 0 0, .slice none 0 0, .string ⟨#[]⟩, .int .i64 (0), .int .i64 (0), .int .i64 (0), .slice none 0 0, .slice none 0 0, .slice none 0 0, .string ⟨#[]⟩, .int .i64 (0), .int .i64 (0), .int .i64 (0), .slice none 0 0, .slice none 0 0, .slice none 0 0, .string ⟨#[]⟩, .int .i64 (0), .int .i64 (0), .int .i64 (0), .slice none 0 0, .slice none 0 0, .slice none 0 0] [(0, 7, (.tmp 79)), (7, 7, (.tmp 80)), (14, 7, (.tmp 81)), (21, 7, (.tmp 84))]⟩,
    ⟨(some 86), none, .call (.func 19) [(.tmp 85)]⟩,
    ⟨(some 11), none, .alloc (blkL [.slice none 0 0, .int .i64 (0), .slice none 0 0, .slice none 0 0, .slice none 0 0, .slice none 0 0] 61 0)⟩,
    ⟨none, none, .st 6 (.tmp 11) (.tmp 86)⟩]
def gaw_r14 : List CO := [
    ⟨(some 88), none, .ldN 6 (.tmp 11)⟩,
    ⟨(some 89), none, .call (.func 18) [(.tmp 88), (.const (.int .i64 (1000)))]⟩,
    ⟨(some 87), none, .mv (.tmp 89)⟩,
    ⟨(some 90), none, .ext (.tmp 87) 0⟩,
    ⟨(some 91), none, .ext (.tmp 87) 1⟩,
    ⟨(some 92), none, .ext (.tmp 87) 2⟩,
    ⟨(some 13), none, .alloc (blkL [.slice none 0 0, .slice none 0 0, .string ⟨#[]⟩, .int .i64 (0), .int .i64 (0), .int .i64 (0)] 55 0)⟩,
    ⟨(some 12), none, .mv (.tmp 90)⟩,
    ⟨none, none, .st 6 (.tmp 13) (.tmp 91)⟩,
    ⟨(some 14), none, .mv (.tmp 92)⟩]
def gaw_r15 : List CO := [
    ⟨(some 93), none, .bslice 1 9 [.string ⟨#[]⟩] [(0, 1, (.const (.string ⟨#[]⟩)))]⟩,
    ⟨(some 94), none, .bslice 1 113 [.slice none 0 0] [(0, 1, (.const (.slice none 0 0)))]⟩,
    ⟨(some 95), none, .build [.slice none 0 0, .slice none 0 0, .int .i64 (0)] [(0, 1, (.tmp 93)), (1, 1, (.tmp 94)), (2, 1, (.const (.int .i64 (1000))))]⟩,
    ⟨(some 15), none, .alloc (blkL [.slice none 0 0, .slice none 0 0, .int .i64 (0)] 65 0)⟩,
    ⟨none, none, .st 3 (.tmp 15) (.tmp 95)⟩]
def gaw_r16 : List CO := [
    ⟨(some 97), none, .ldN 6 (.tmp 11)⟩,
    ⟨(some 98), none, .ldN 3 (.tmp 15)⟩,
    ⟨(some 99), none, .fa 5 (.tmp 13)⟩,
    ⟨(some 100), none, .ld1 (.tmp 99)⟩,
    ⟨(some 101), none, .call (.func 21) [(.tmp 97), (.tmp 98), (.tmp 100)]⟩,
    ⟨(some 96), none, .mv (.tmp 101)⟩,
    ⟨(some 102), none, .ext (.tmp 96) 0⟩,
    ⟨(some 103), none, .ext (.tmp 96) 1⟩,
    ⟨(some 16), none, .alloc (blkL [.int .i64 (0), .int .i64 (0), .int .i64 (0), .int .i64 (0), .int .i64 (0), .int .u64 (0), .bool false] 68 0)⟩,
    ⟨none, none, .st 7 (.tmp 16) (.tmp 102)⟩,
    ⟨(some 17), none, .mv (.tmp 103)⟩]
def gaw_r17 : List CO := [
    ⟨(some 104), none, .mv (.tmp 14)⟩,
    ⟨(some 105), none, .mv (.tmp 104)⟩,
    ⟨(some 106), (some (105, true)), .mv (.tmp 12)⟩,
    ⟨(some 107), (some (105, true)), .eq false (.one .s) (.tmp 106) (.const (.string ⟨#[49]⟩))⟩,
    ⟨(some 108), none, .pick (.tmp 105) (.tmp 107) (.const (.bool false))⟩,
    ⟨(some 109), none, .mv (.tmp 108)⟩,
    ⟨(some 110), (some (109, true)), .fa 3 (.tmp 13)⟩,
    ⟨(some 111), (some (109, true)), .ld1 (.tmp 110)⟩,
    ⟨(some 112), (some (109, true)), .eq false (.one .i) (.tmp 111) (.const (.int .i64 (1)))⟩,
    ⟨(some 113), none, .pick (.tmp 109) (.tmp 112) (.const (.bool false))⟩,
    ⟨(some 114), none, .mv (.tmp 113)⟩,
    ⟨(some 115), (some (114, true)), .mv (.tmp 17)⟩,
    ⟨(some 116), (some (114, true)), .eq false (.one .i) (.tmp 115) (.const (.int .i64 (0)))⟩,
    ⟨(some 117), none, .pick (.tmp 114) (.tmp 116) (.const (.bool false))⟩,
    ⟨(some 118), none, .mv (.tmp 117)⟩,
    ⟨(some 119), (some (118, true)), .fa 2 (.tmp 16)⟩,
    ⟨(some 120), (some (118, true)), .ld1 (.tmp 119)⟩,
    ⟨(some 121), (some (118, true)), .eq false (.one .i) (.tmp 120) (.const (.int .i64 (1)))⟩,
    ⟨(some 122), none, .pick (.tmp 118) (.tmp 121) (.const (.bool false))⟩,
    ⟨(some 123), none, .mv (.tmp 122)⟩,
    ⟨(some 124), (some (123, true)), .fa 3 (.tmp 16)⟩,
    ⟨(some 125), (some (123, true)), .ld1 (.tmp 124)⟩,
    ⟨(some 126), (some (123, true)), .eq false (.one .i) (.tmp 125) (.const (.int .i64 (0)))⟩,
    ⟨(some 127), none, .pick (.tmp 123) (.tmp 126) (.const (.bool false))⟩,
    ⟨(some 128), none, .mv (.tmp 127)⟩,
    ⟨(some 129), (some (128, true)), .fa 1 (.tmp 16)⟩,
    ⟨(some 130), (some (128, true)), .ld1 (.tmp 129)⟩,
    ⟨(some 131), (some (128, true)), .eq false (.one .i) (.tmp 130) (.const (.int .i64 (40)))⟩,
    ⟨(some 132), none, .pick (.tmp 128) (.tmp 131) (.const (.bool false))⟩,
    ⟨(some 133), none, .mv (.tmp 132)⟩,
    ⟨(some 134), (some (133, true)), .fa 6 (.tmp 16)⟩,
    ⟨(some 135), (some (133, true)), .ld1 (.tmp 134)⟩,
    ⟨(some 136), (some (133, true)), .un .not (.tmp 135)⟩,
    ⟨(some 137), none, .pick (.tmp 133) (.tmp 136) (.const (.bool false))⟩,
    ⟨(some 4), none, .mv (.tmp 137)⟩]
noncomputable def gaw_k : KC :=
  (.seq (.reg gaw_r0)
  (.seq (.seq (.reg gaw_r1)
  (.cond (.tmp 19) (.seq (.reg gaw_r2)
   .ret)
   .skip))
  (.seq (.seq (.reg gaw_r3)
  (.cond (.tmp 25) (.seq (.reg gaw_r4)
   .ret)
   .skip))
  (.seq (.reg gaw_r5)
  (.seq (.draw #[0, 0, 0, 4, 14, 0, 0, 94, 222, 478, 1023, 2047, 0, 8191] gaw_r6)
  (.seq (.reg gaw_r7)
  (.seq (.draw #[0, 0, 3, 7, 15, 31, 0, 127] gaw_r8)
  (.seq (.draw #[0, 1, 3, 0, 0, 16, 48, 112, 248, 0, 504, 1528, 3576, 7672, 15864, 32248, 65016, 130552, 261624, 524287, 1048575, 0, 4194303] gaw_r9)
  (.seq (.reg gaw_r10)
  (.seq (.seq (.reg gaw_r11)
  (.cond (.tmp 72) (.reg gaw_r12)
   .skip))
  (.seq (.reg gaw_r13)
  (.seq (.reg gaw_r14)
  (.seq (.reg gaw_r15)
  (.seq (.reg gaw_r16)
  (.seq (.reg gaw_r17)
  .ret)))))))))))))))
theorem gaw_comp : kcomp Tb1 Tryz.f4.ntmps gaw_body = gaw_k := by kernel_rfl
theorem gaw_some : Tryz.f4.body = some gaw_body := rfl
end Go.Proofs.MN
end
