/-
 A part of the proof that pliantlaw16.MeanAssigns returns true and leaves its arguments alone. Conditions: those of the card in the last text.
-/
import Derived.Lib.ItoaNum
import Derived.Lib.TrimByte
import Derived.Test.YtdmcanlbncbemaaGreatDoorG08
import Derived.Test.YtdmcanlbncbemaaGreatDoorG09
import Derived.Test.YtdmcanlbncbemaaGreatDoorG13
set_option linter.unusedSimpArgs false
set_option linter.unusedVariables false
set_option linter.unusedSectionVars false
set_option maxRecDepth 100000
set_option maxHeartbeats 8000000
noncomputable section
namespace Go.Proofs.CA
open Go Go.Ev Go.Proofs Go.Proofs.MN
noncomputable def mu:Code:=(Tryz.f6.body).getD .skip
def Ud:List CO:=[
 ⟨(some 4),none,.mv (.const (.bool false))⟩]
def Uc:List CO:=[
 ⟨(some 22),none,.call (.func 7) []⟩,
 ⟨(some 23),none,.un .not (.tmp 22)⟩]
def adU:List CO:=[
 ⟨(some 4),none,.mv (.const (.bool false))⟩]
def IG:List CO:=[
 ⟨(some 24),none,.mv (.tmp 0)⟩,
 ⟨(some 25),none,.len 1 (.tmp 24)⟩,
 ⟨(some 26),none,.bin .gtr (.tmp 25) (.const (.int .i64 (40)))⟩]
def Ub:List CO:=[
 ⟨(some 4),none,.mv (.const (.bool true))⟩]
def Ua:List CO:=[
 ⟨(some 5),none,.mv (.func 23)⟩]
def T_:List CO:=[
 ⟨(some 27),none,.O1 3 8 [.int .i64 (0)] (.const (.int .i64 (12))) (.const (.int .i64 (12)))⟩,
 ⟨(some 6),none,.mv (.tmp 27)⟩]
def T':List CO:=[
 ⟨(some 7),none,.mv (.const (.slice none 0 0))⟩]
def T9:List CO:=[
 ⟨(some 28),none,.mv (.tmp 0)⟩,
 ⟨(some 29),none,.len 1 (.tmp 28)⟩,
 ⟨(some 30),none,.mv (.const (.int .i64 (0)))⟩]
def IF:List CO:=[
 ⟨(some 31),none,.bin .lss (.tmp 30) (.tmp 29)⟩]
def Mj:List CO:=[
 ⟨(some 32),none,.sJ 2 (.tmp 28) (.tmp 30)⟩,
 ⟨(some 33),none,.uh 2 (.tmp 32)⟩,
 ⟨(some 9),none,.alloc (aG [.int .i64 (0),.int .i64 (0)] 79 0)⟩,
 ⟨none,none,.st 2 (.tmp 9) (.tmp 33)⟩]
def Mi:List CO:=[
 ⟨(some 34),none,.fa 0 (.tmp 9)⟩,
 ⟨(some 35),none,.jd (.tmp 34)⟩,
 ⟨(some 36),none,.bin .rem (.tmp 35) (.const (.int .i64 (12)))⟩,
 ⟨(some 37),none,.bin .add (.tmp 36) (.const (.int .i64 (12)))⟩,
 ⟨(some 38),none,.bin .rem (.tmp 37) (.const (.int .i64 (12)))⟩,
 ⟨(some 39),none,.fa 1 (.tmp 9)⟩,
 ⟨(some 40),none,.jd (.tmp 39)⟩,
 ⟨(some 41),none,.bin .rem (.tmp 40) (.const (.int .i64 (32768)))⟩,
 ⟨(some 10),none,.mv (.tmp 38)⟩,
 ⟨(some 11),none,.mv (.tmp 41)⟩]
def Mh:List CO:=[
 ⟨(some 42),none,.mv (.tmp 6)⟩,
 ⟨(some 43),none,.mv (.tmp 10)⟩,
 ⟨(some 44),none,.mv (.tmp 11)⟩,
 ⟨(some 45),none,.sJ 1 (.tmp 42) (.tmp 43)⟩,
 ⟨none,none,.st 1 (.tmp 45) (.tmp 44)⟩]
def Mg:List CO:=[
 ⟨(some 46),none,.mv (.tmp 7)⟩,
 ⟨(some 47),none,.mv (.tmp 5)⟩,
 ⟨(some 48),none,.mv (.tmp 10)⟩,
 ⟨(some 49),none,.call (.tmp 47) [(.tmp 48)]⟩,
 ⟨(some 50),none,.mv (.tmp 11)⟩,
 ⟨(some 51),none,.call (.func 12) [(.tmp 50)]⟩,
 ⟨(some 52),none,.call (.func 14) [(.tmp 49),(.tmp 51)]⟩,
 ⟨(some 53),none,.eX 1 41 [.int .i64 (0),.int .i64 (0),.slice none 0 0,.slice none 0 0,.int .i64 (0),.int .i64 (0),.int .i64 (0),.slice none 0 0,.int .i64 (0),.bool false,.bool false] [(0,11,(.tmp 52))]⟩,
 ⟨(some 54),none,.app 41 11 128 (.tmp 46) (.tmp 53)⟩,
 ⟨(some 7),none,.mv (.tmp 54)⟩]
def Mf:List CO:=[
 ⟨(some 55),none,.mv (.tmp 11)⟩,
 ⟨(some 56),none,.bin .rem (.tmp 55) (.const (.int .i64 (3)))⟩,
 ⟨(some 57),none,.eq false (.one .i) (.tmp 56) (.const (.int .i64 (0)))⟩]
def Me:List CO:=[
 ⟨(some 58),none,.mv (.tmp 7)⟩,
 ⟨(some 59),none,.mv (.tmp 5)⟩,
 ⟨(some 60),none,.mv (.tmp 10)⟩,
 ⟨(some 61),none,.call (.tmp 59) [(.tmp 60)]⟩,
 ⟨(some 62),none,.mv (.tmp 5)⟩,
 ⟨(some 63),none,.mv (.tmp 10)⟩,
 ⟨(some 64),none,.call (.tmp 62) [(.tmp 63)]⟩,
 ⟨(some 65),none,.call (.func 16) [(.tmp 64)]⟩,
 ⟨(some 66),none,.call (.func 14) [(.tmp 61),(.tmp 65)]⟩,
 ⟨(some 67),none,.eX 1 41 [.int .i64 (0),.int .i64 (0),.slice none 0 0,.slice none 0 0,.int .i64 (0),.int .i64 (0),.int .i64 (0),.slice none 0 0,.int .i64 (0),.bool false,.bool false] [(0,11,(.tmp 66))]⟩,
 ⟨(some 68),none,.app 41 11 128 (.tmp 58) (.tmp 67)⟩,
 ⟨(some 7),none,.mv (.tmp 68)⟩]
def C0:List CO:=[
 ⟨(some 69),none,.bin .add (.tmp 30) (.const (.int .i64 (1)))⟩,
 ⟨(some 30),none,.mv (.tmp 69)⟩]
noncomputable def C2:KC :=
 (.seq (.bp IF)
 (.seq (.cond (.tmp 31) .skip
  (.exit 0))
 (.seq (.block 1 (.seq (.bp Mj)
  (.seq (.draw #[0,1,3,7,15,0,32,96,31,511] Mi)
  (.seq (.bp Mh)
  (.seq (.bp Mg)
  (.seq (.bp Mf)
  (.cond (.tmp 57) (.bp Me)
   .skip)))))))
 (.bp C0))))
def CZ:List CO:=[
 ⟨(some 70),none,.mv (.tmp 1)⟩,
 ⟨(some 71),none,.mv (.tmp 7)⟩,
 ⟨(some 72),none,.len 1 (.tmp 71)⟩,
 ⟨(some 73),none,.bin .add (.tmp 72) (.const (.int .i64 (1)))⟩,
 ⟨(some 74),none,.bin .rem (.tmp 70) (.tmp 73)⟩,
 ⟨(some 75),none,.mv (.tmp 7)⟩,
 ⟨(some 76),none,.len 1 (.tmp 75)⟩,
 ⟨(some 77),none,.bin .add (.tmp 74) (.tmp 76)⟩,
 ⟨(some 78),none,.bin .add (.tmp 77) (.const (.int .i64 (1)))⟩,
 ⟨(some 79),none,.mv (.tmp 7)⟩,
 ⟨(some 80),none,.len 1 (.tmp 79)⟩,
 ⟨(some 81),none,.bin .add (.tmp 80) (.const (.int .i64 (1)))⟩,
 ⟨(some 82),none,.bin .rem (.tmp 78) (.tmp 81)⟩,
 ⟨(some 12),none,.mv (.tmp 82)⟩]
def wC:List CO:=[
 ⟨(some 83),none,.mv (.tmp 12)⟩,
 ⟨(some 84),none,.bin .add (.tmp 83) (.const (.int .i64 (1)))⟩,
 ⟨(some 85),none,.mv (.tmp 7)⟩,
 ⟨(some 86),none,.len 1 (.tmp 85)⟩,
 ⟨(some 87),none,.bin .lss (.tmp 84) (.tmp 86)⟩]
def CY:List CO:=[
 ⟨(some 88),none,.mv (.tmp 7)⟩,
 ⟨(some 89),none,.mv (.tmp 12)⟩,
 ⟨(some 90),none,.sJ 11 (.tmp 88) (.tmp 89)⟩,
 ⟨(some 91),none,.uh 11 (.tmp 90)⟩,
 ⟨(some 92),none,.mv (.tmp 7)⟩,
 ⟨(some 93),none,.mv (.tmp 12)⟩,
 ⟨(some 94),none,.bin .add (.tmp 93) (.const (.int .i64 (1)))⟩,
 ⟨(some 95),none,.sJ 11 (.tmp 92) (.tmp 94)⟩,
 ⟨(some 96),none,.uh 11 (.tmp 95)⟩,
 ⟨(some 13),none,.alloc (aG [.int .i64 (0),.int .i64 (0),.slice none 0 0,.slice none 0 0,.int .i64 (0),.int .i64 (0),.int .i64 (0),.slice none 0 0,.int .i64 (0),.bool false,.bool false] 41 0)⟩,
 ⟨(some 14),none,.alloc (aG [.int .i64 (0),.int .i64 (0),.slice none 0 0,.slice none 0 0,.int .i64 (0),.int .i64 (0),.int .i64 (0),.slice none 0 0,.int .i64 (0),.bool false,.bool false] 41 0)⟩,
 ⟨none,none,.st 11 (.tmp 13) (.tmp 91)⟩,
 ⟨none,none,.st 11 (.tmp 14) (.tmp 96)⟩]
def nr:List CO:=[
 ⟨(some 97),none,.fa 2 (.tmp 13)⟩,
 ⟨(some 98),none,.jd (.tmp 97)⟩,
 ⟨(some 99),none,.sJ 11 (.tmp 98) (.const (.int .i64 (0)))⟩,
 ⟨(some 100),none,.fa 0 (.tmp 99)⟩,
 ⟨(some 101),none,.jd (.tmp 100)⟩,
 ⟨(some 102),none,.fa 2 (.tmp 14)⟩,
 ⟨(some 103),none,.jd (.tmp 102)⟩,
 ⟨(some 104),none,.sJ 11 (.tmp 103) (.const (.int .i64 (0)))⟩,
 ⟨(some 105),none,.fa 0 (.tmp 104)⟩,
 ⟨(some 106),none,.jd (.tmp 105)⟩,
 ⟨(some 107),none,.eq true (.one .i) (.tmp 101) (.tmp 106)⟩,
 ⟨(some 108),none,.mv (.tmp 107)⟩,
 ⟨(some 109),(some (108,false)),.fa 2 (.tmp 13)⟩,
 ⟨(some 110),(some (108,false)),.jd (.tmp 109)⟩,
 ⟨(some 111),(some (108,false)),.sJ 11 (.tmp 110) (.const (.int .i64 (0)))⟩,
 ⟨(some 112),(some (108,false)),.fa 3 (.tmp 111)⟩,
 ⟨(some 113),(some (108,false)),.jd (.tmp 112)⟩,
 ⟨(some 114),(some (108,false)),.fa 2 (.tmp 14)⟩,
 ⟨(some 115),(some (108,false)),.jd (.tmp 114)⟩,
 ⟨(some 116),(some (108,false)),.sJ 11 (.tmp 115) (.const (.int .i64 (0)))⟩,
 ⟨(some 117),(some (108,false)),.fa 3 (.tmp 116)⟩,
 ⟨(some 118),(some (108,false)),.jd (.tmp 117)⟩,
 ⟨(some 119),(some (108,false)),.eq true (.one .i) (.tmp 113) (.tmp 118)⟩,
 ⟨(some 120),(some (108,false)),.mv (.tmp 119)⟩,
 ⟨(some 121),(some (120,true)),.fa 2 (.tmp 13)⟩,
 ⟨(some 122),(some (120,true)),.jd (.tmp 121)⟩,
 ⟨(some 123),(some (120,true)),.sJ 11 (.tmp 122) (.const (.int .i64 (0)))⟩,
 ⟨(some 124),(some (120,true)),.fa 5 (.tmp 123)⟩,
 ⟨(some 125),(some (120,true)),.jd (.tmp 124)⟩,
 ⟨(some 126),(some (120,true)),.len 1 (.tmp 125)⟩,
 ⟨(some 127),(some (120,true)),.eq false (.one .i) (.tmp 126) (.const (.int .i64 (0)))⟩,
 ⟨(some 128),(some (108,false)),.pick (.tmp 120) (.tmp 127) (.const (.bool false))⟩,
 ⟨(some 129),(some (108,false)),.mv (.tmp 128)⟩,
 ⟨(some 130),(some (129,true)),.fa 2 (.tmp 14)⟩,
 ⟨(some 131),(some (129,true)),.jd (.tmp 130)⟩,
 ⟨(some 132),(some (129,true)),.sJ 11 (.tmp 131) (.const (.int .i64 (0)))⟩,
 ⟨(some 133),(some (129,true)),.fa 5 (.tmp 132)⟩,
 ⟨(some 134),(some (129,true)),.jd (.tmp 133)⟩,
 ⟨(some 135),(some (129,true)),.len 1 (.tmp 134)⟩,
 ⟨(some 136),(some (129,true)),.eq false (.one .i) (.tmp 135) (.const (.int .i64 (0)))⟩,
 ⟨(some 137),(some (108,false)),.pick (.tmp 129) (.tmp 136) (.const (.bool false))⟩,
 ⟨(some 138),none,.pick (.tmp 108) (.const (.bool true)) (.tmp 137)⟩]
def CX:List CO:=[
 ⟨(some 139),none,.mv (.tmp 7)⟩,
 ⟨(some 140),none,.mv (.tmp 12)⟩,
 ⟨(some 141),none,.mv (.tmp 7)⟩,
 ⟨(some 142),none,.mv (.tmp 12)⟩,
 ⟨(some 143),none,.bin .add (.tmp 142) (.const (.int .i64 (1)))⟩,
 ⟨(some 144),none,.uh 11 (.tmp 14)⟩,
 ⟨(some 145),none,.uh 11 (.tmp 13)⟩,
 ⟨(some 146),none,.sJ 11 (.tmp 139) (.tmp 140)⟩,
 ⟨none,none,.st 11 (.tmp 146) (.tmp 144)⟩,
 ⟨(some 147),none,.sJ 11 (.tmp 141) (.tmp 143)⟩,
 ⟨none,none,.st 11 (.tmp 147) (.tmp 145)⟩]
def Md:List CO:=[
 ⟨(some 15),none,.mv (.const (.slice none 0 0))⟩]
def Mc:List CO:=[
 ⟨(some 16),none,.mv (.const (.slice none 0 0))⟩]
def Mb:List CO:=[
 ⟨(some 148),none,.mv (.const (.int .i64 (0)))⟩]
def CW:List CO:=[
 ⟨(some 149),none,.bin .lss (.tmp 148) (.const (.int .i64 (12)))⟩]
def Ma:List CO:=[
 ⟨(some 150),none,.mv (.tmp 148)⟩,
 ⟨(some 17),none,.mv (.tmp 150)⟩]
def L_:List CO:=[
 ⟨(some 151),none,.mv (.tmp 15)⟩,
 ⟨(some 152),none,.mv (.tmp 5)⟩,
 ⟨(some 153),none,.mv (.tmp 17)⟩,
 ⟨(some 154),none,.call (.tmp 152) [(.tmp 153)]⟩,
 ⟨(some 155),none,.call (.func 16) [(.tmp 154)]⟩,
 ⟨(some 156),none,.eX 1 35 [.int .i64 (0),.int .i64 (0),.int .i64 (0),.int .i64 (0),.bool false,.string ⟨#[]⟩,.int .i64 (0),.string ⟨#[]⟩,.int .i64 (0),.slice none 0 0,.slice none 0 0] [(0,11,(.tmp 155))]⟩,
 ⟨(some 157),none,.app 35 11 136 (.tmp 151) (.tmp 156)⟩,
 ⟨(some 15),none,.mv (.tmp 157)⟩]
def L9:List CO:=[
 ⟨(some 158),none,.mv (.tmp 16)⟩,
 ⟨(some 159),none,.mv (.tmp 6)⟩,
 ⟨(some 160),none,.mv (.tmp 17)⟩,
 ⟨(some 161),none,.sJ 1 (.tmp 159) (.tmp 160)⟩,
 ⟨(some 162),none,.jd (.tmp 161)⟩,
 ⟨(some 163),none,.call (.func 13) [(.tmp 162)]⟩,
 ⟨(some 164),none,.eX 1 9 [.string ⟨#[]⟩] [(0,1,(.tmp 163))]⟩,
 ⟨(some 165),none,.app 9 1 16 (.tmp 158) (.tmp 164)⟩,
 ⟨(some 16),none,.mv (.tmp 165)⟩]
def L8:List CO:=[
 ⟨(some 166),none,.bin .add (.tmp 148) (.const (.int .i64 (1)))⟩,
 ⟨(some 148),none,.mv (.tmp 166)⟩]
noncomputable def C1:KC :=
 (.seq (.bp CW)
 (.seq (.cond (.tmp 149) .skip
  (.exit 2))
 (.seq (.block 3 (.seq (.bp Ma)
  (.seq (.bp L_)
  (.bp L9))))
 (.bp L8))))
def CV:List CO:=[
 ⟨(some 167),none,.mv (.tmp 7)⟩,
 ⟨(some 168),none,.mv (.tmp 15)⟩,
 ⟨(some 169),none,.call (.func 15) [(.tmp 168)]⟩,
 ⟨(some 170),none,.eX 1 41 [.int .i64 (0),.int .i64 (0),.slice none 0 0,.slice none 0 0,.int .i64 (0),.int .i64 (0),.int .i64 (0),.slice none 0 0,.int .i64 (0),.bool false,.bool false] [(0,11,(.tmp 169))]⟩,
 ⟨(some 171),none,.app 41 11 128 (.tmp 167) (.tmp 170)⟩,
 ⟨(some 7),none,.mv (.tmp 171)⟩]
def CU:List CO:=[
 ⟨(some 172),none,.mv (.tmp 7)⟩,
 ⟨(some 173),none,.call (.func 17) [(.const (.int .i64 (128))),(.tmp 172)]⟩,
 ⟨(some 174),none,.eX 1 49 [.string ⟨#[]⟩,.int .i64 (0),.int .i64 (0),.int .i64 (0),.slice none 0 0,.slice none 0 0,.slice none 0 0] [(0,7,(.tmp 173))]⟩,
 ⟨(some 175),none,.call (.func 19) [(.tmp 174)]⟩,
 ⟨(some 18),none,.alloc (aG [.slice none 0 0,.int .i64 (0),.slice none 0 0,.slice none 0 0,.slice none 0 0,.slice none 0 0] 61 0)⟩,
 ⟨none,none,.st 6 (.tmp 18) (.tmp 175)⟩]
def CT:List CO:=[
 ⟨(some 176),none,.fa 1 (.tmp 18)⟩,
 ⟨none,none,.st 1 (.tmp 176) (.const (.int .i64 (64)))⟩]
def CS:List CO:=[
 ⟨(some 178),none,.uh 6 (.tmp 18)⟩,
 ⟨(some 179),none,.call (.func 18) [(.tmp 178),(.const (.int .i64 (1000)))]⟩,
 ⟨(some 177),none,.mv (.tmp 179)⟩,
 ⟨(some 180),none,.ext (.tmp 177) 0⟩,
 ⟨(some 181),none,.ext (.tmp 177) 1⟩,
 ⟨(some 182),none,.ext (.tmp 177) 2⟩,
 ⟨(some 20),none,.alloc (aG [.slice none 0 0,.slice none 0 0,.string ⟨#[]⟩,.int .i64 (0),.int .i64 (0),.int .i64 (0)] 55 0)⟩,
 ⟨(some 19),none,.mv (.tmp 180)⟩,
 ⟨none,none,.st 6 (.tmp 20) (.tmp 181)⟩,
 ⟨(some 21),none,.mv (.tmp 182)⟩]
def CQ:List CO:=[
 ⟨(some 183),none,.mv (.tmp 21)⟩,
 ⟨(some 184),none,.mv (.tmp 183)⟩,
 ⟨(some 185),(some (184,true)),.fa 3 (.tmp 20)⟩,
 ⟨(some 186),(some (184,true)),.jd (.tmp 185)⟩,
 ⟨(some 187),(some (184,true)),.eq false (.one .i) (.tmp 186) (.const (.int .i64 (1)))⟩,
 ⟨(some 188),none,.pick (.tmp 184) (.tmp 187) (.const (.bool false))⟩,
 ⟨(some 189),none,.mv (.tmp 188)⟩,
 ⟨(some 190),(some (189,true)),.mv (.tmp 19)⟩,
 ⟨(some 191),(some (189,true)),.call (.func 25) [(.tmp 190)]⟩,
 ⟨(some 192),(some (189,true)),.mv (.tmp 16)⟩,
 ⟨(some 193),(some (189,true)),.call (.func 24) [(.tmp 191),(.tmp 192)]⟩,
 ⟨(some 194),none,.pick (.tmp 189) (.tmp 193) (.const (.bool false))⟩,
 ⟨(some 4),none,.mv (.tmp 194)⟩]
noncomputable def Ue:KC :=
 (.seq (.bp Ud)
 (.seq (.seq (.bp Uc)
 (.cond (.tmp 23) (.seq (.bp adU)
  .ret)
  .skip))
 (.seq (.seq (.bp IG)
 (.cond (.tmp 26) (.seq (.bp Ub)
  .ret)
  .skip))
 (.seq (.bp Ua)
 (.seq (.bp T_)
 (.seq (.bp T')
 (.seq (.seq (.bp T9)
 (.block 0 (.loop mu.sr.sr.sr.sr.sr.sr.sl.sr.bl.lp C2)))
 (.seq (.seq (.bp CZ)
 (.seq (.bp wC)
 (.cond (.tmp 87) (.seq (.draw #[0,0,3,7,0,0,32,112,240,0,0,1551,4095] CY)
  (.seq (.draw #[0,1,3,7,15,0,32,96,224,480,1023,2047,4095,8191,16383,32767,65535,4095,135167,397311,921599,1970175,4194303,8388607,16777215,33554431,67108863,134217727,268435455,536870911,1073741823,2147483647,4294967295,8589934591,17179869183,34359738367,68719476735,137438953471,274877906943,549755813887,1099511627775,2199023255551] nr)
  (.cond (.tmp 138) (.draw #[0,0,0,0,8,0,0,35,163,511,1023] CX)
   .skip)))
  .skip)))
 (.seq (.bp Md)
 (.seq (.bp Mc)
 (.seq (.seq (.bp Mb)
 (.block 2 (.loop mu.sr.sr.sr.sr.sr.sr.sr.sr.sr.sr.sl.sr.bl.lp C1)))
 (.seq (.bp CV)
 (.seq (.bp CU)
 (.seq (.bp CT)
 (.seq (.bp CS)
 (.seq (.bp CQ)
 .ret))))))))))))))))
theorem Uf:bC dm Tryz.f6.ntmps mu=Ue:=by kernel_rfl
theorem T8:Tryz.f6.body=some mu:=rfl
noncomputable def EG:Code:=(Tryz.f23.body).getD .skip
def Sx:List CO:=[
 ⟨(some 2),none,.alloc (aG [.int .i64 (0),.int .i64 (0),.int .i64 (0),.int .i64 (0),.slice none 0 0,.slice none 0 0,.int .i64 (0),.int .i64 (0),.int .i64 (0),.bool false,.string ⟨#[]⟩] 28 0)⟩]
def Sw:List CO:=[
 ⟨(some 5),none,.mv (.tmp 0)⟩,
 ⟨(some 6),none,.bin .lss (.tmp 5) (.const (.int .i64 (4)))⟩,
 ⟨(some 4),none,.mv (.tmp 6)⟩]
def ac8:List CO:=[
 ⟨(some 7),none,.mv (.tmp 0)⟩,
 ⟨(some 8),none,.bin .mul (.const (.int .i64 (16))) (.tmp 7)⟩,
 ⟨(some 9),none,.call (.func 9) []⟩,
 ⟨(some 10),none,.call (.func 8) [(.const (.int .i64 (0))),(.tmp 8),(.tmp 9)]⟩,
 ⟨none,none,.st 11 (.tmp 2) (.tmp 10)⟩]
def Sv:List CO:=[
 ⟨(some 12),none,.mv (.tmp 0)⟩,
 ⟨(some 13),none,.bin .lss (.tmp 12) (.const (.int .i64 (8)))⟩,
 ⟨(some 11),none,.mv (.tmp 13)⟩]
def Su:List CO:=[
 ⟨(some 14),none,.call (.func 9) []⟩,
 ⟨(some 15),none,.call (.func 8) [(.const (.int .i64 (0))),(.const (.int .i64 (64))),(.tmp 14)]⟩,
 ⟨(some 3),none,.alloc (aG [.int .i64 (0),.int .i64 (0),.int .i64 (0),.int .i64 (0),.slice none 0 0,.slice none 0 0,.int .i64 (0),.int .i64 (0),.int .i64 (0),.bool false,.string ⟨#[]⟩] 28 0)⟩,
 ⟨none,none,.st 11 (.tmp 3) (.tmp 15)⟩]
def St:List CO:=[
 ⟨(some 16),none,.mv (.tmp 0)⟩,
 ⟨(some 17),none,.call (.func 12) [(.tmp 16)]⟩,
 ⟨(some 18),none,.build [.int .i64 (0),.int .i64 (0),.int .i64 (0),.int .i64 (0),.bool false,.string ⟨#[]⟩,.int .i64 (0),.string ⟨#[]⟩,.int .i64 (0),.slice none 0 0,.slice none 0 0,.int .i64 (0),.int .i64 (0),.int .i64 (0)] [(0,11,(.tmp 17)),(11,1,(.const (.int .i64 (4)))),(12,1,(.const (.int .i64 (7)))),(13,1,(.const (.int .i64 (16))))]⟩,
 ⟨(some 19),none,.eX 1 76 [.int .i64 (0),.int .i64 (0),.int .i64 (0),.int .i64 (0),.bool false,.string ⟨#[]⟩,.int .i64 (0),.string ⟨#[]⟩,.int .i64 (0),.slice none 0 0,.slice none 0 0,.int .i64 (0),.int .i64 (0),.int .i64 (0)] [(0,14,(.tmp 18))]⟩,
 ⟨(some 20),none,.fa 5 (.tmp 3)⟩,
 ⟨none,none,.st 1 (.tmp 20) (.tmp 19)⟩]
def Ss:List CO:=[
 ⟨(some 21),none,.uh 11 (.tmp 3)⟩,
 ⟨none,none,.st 11 (.tmp 2) (.tmp 21)⟩]
def ac7:List CO:=[
 ⟨(some 22),none,.mv (.tmp 0)⟩,
 ⟨(some 23),none,.bin .sub (.tmp 22) (.const (.int .i64 (8)))⟩,
 ⟨(some 24),none,.bin .mul (.const (.int .i64 (16))) (.tmp 23)⟩,
 ⟨(some 25),none,.call (.func 9) []⟩,
 ⟨(some 26),none,.build [.int .i64 (0),.int .i64 (0),.int .i64 (0),.int .i64 (0),.slice none 0 0,.slice none 0 0,.int .i64 (0),.int .i64 (0),.int .i64 (0),.bool false,.string ⟨#[]⟩] [(0,1,(.const (.int .i64 (2)))),(3,1,(.tmp 24)),(6,5,(.tmp 25))]⟩,
 ⟨none,none,.st 11 (.tmp 2) (.tmp 26)⟩]
noncomputable def Sy:KC :=
 (.seq (.bp Sx)
 (.seq (.block 0 (.seq (.bp Sw)
  (.cond (.tmp 4) (.seq (.bp ac8)
   .ret)
   (.seq (.bp Sv)
   (.cond (.tmp 11) (.seq (.bp Su)
    (.seq (.bp St)
    (.seq (.bp Ss)
    .ret)))
    .skip)))))
 (.seq (.bp ac7)
 .ret)))
theorem Sz:bC dm Tryz.f23.ntmps EG=Sy:=by kernel_rfl
theorem Sr:Tryz.f23.body=some EG:=rfl
noncomputable def Ey:Code:=(Tryz.f14.body).getD .skip
def Se:List CO:=[
 ⟨(some 2),none,.box 28 (.tmp 0)⟩,
 ⟨(some 3),none,.box 35 (.tmp 1)⟩,
 ⟨(some 4),none,.alloc (aG [.int .i64 (0),.int .i64 (0),.slice none 0 0,.slice none 0 0,.int .i64 (0),.int .i64 (0),.int .i64 (0),.slice none 0 0,.int .i64 (0),.bool false,.bool false] 41 0)⟩]
def Sd:List CO:=[
 ⟨(some 5),none,.uh 11 (.tmp 2)⟩,
 ⟨(some 6),none,.eX 1 28 [.int .i64 (0),.int .i64 (0),.int .i64 (0),.int .i64 (0),.slice none 0 0,.slice none 0 0,.int .i64 (0),.int .i64 (0),.int .i64 (0),.bool false,.string ⟨#[]⟩] [(0,11,(.tmp 5))]⟩,
 ⟨(some 7),none,.uh 11 (.tmp 3)⟩,
 ⟨(some 8),none,.eX 1 35 [.int .i64 (0),.int .i64 (0),.int .i64 (0),.int .i64 (0),.bool false,.string ⟨#[]⟩,.int .i64 (0),.string ⟨#[]⟩,.int .i64 (0),.slice none 0 0,.slice none 0 0] [(0,11,(.tmp 7))]⟩,
 ⟨(some 9),none,.build [.int .i64 (0),.int .i64 (0),.slice none 0 0,.slice none 0 0,.int .i64 (0),.int .i64 (0),.int .i64 (0),.slice none 0 0,.int .i64 (0),.bool false,.bool false] [(0,1,(.const (.int .i64 (2)))),(2,1,(.tmp 6)),(3,1,(.tmp 8))]⟩,
 ⟨none,none,.st 11 (.tmp 4) (.tmp 9)⟩]
noncomputable def Sg:KC :=
 (.seq (.bp Se)
 (.seq (.bp Sd)
 .ret))
theorem Si:bC dm Tryz.f14.ntmps Ey=Sg:=by kernel_rfl
theorem Sc:Tryz.f14.body=some Ey:=rfl
noncomputable def EL:Code:=(Tryz.f15.body).getD .skip
def SG:List CO:=[
 ⟨(some 2),none,.alloc (aG [.int .i64 (0),.int .i64 (0),.slice none 0 0,.slice none 0 0,.int .i64 (0),.int .i64 (0),.int .i64 (0),.slice none 0 0,.int .i64 (0),.bool false,.bool false] 41 0)⟩]
def SF:List CO:=[
 ⟨(some 3),none,.mv (.tmp 0)⟩,
 ⟨(some 4),none,.build [.int .i64 (0),.int .i64 (0),.slice none 0 0,.slice none 0 0,.int .i64 (0),.int .i64 (0),.int .i64 (0),.slice none 0 0,.int .i64 (0),.bool false,.bool false] [(0,1,(.const (.int .i64 (15)))),(3,1,(.tmp 3))]⟩,
 ⟨none,none,.st 11 (.tmp 2) (.tmp 4)⟩]
noncomputable def SH:KC :=
 (.seq (.bp SG)
 (.seq (.bp SF)
 .ret))
theorem SI:bC dm Tryz.f15.ntmps EL=SH:=by kernel_rfl
theorem SE:Tryz.f15.body=some EL:=rfl
noncomputable def AU:Code:=(Tryz.f16.body).getD .skip
def LY:List CO:=[
 ⟨(some 1),none,.box 28 (.tmp 0)⟩,
 ⟨(some 2),none,.alloc (aG [.int .i64 (0),.int .i64 (0),.int .i64 (0),.int .i64 (0),.bool false,.string ⟨#[]⟩,.int .i64 (0),.string ⟨#[]⟩,.int .i64 (0),.slice none 0 0,.slice none 0 0] 35 0)⟩]
def LX:List CO:=[
 ⟨(some 3),none,.fa 6 (.tmp 1)⟩,
 ⟨(some 4),none,.uh 5 (.tmp 3)⟩,
 ⟨(some 5),none,.uh 11 (.tmp 1)⟩,
 ⟨(some 6),none,.eX 1 28 [.int .i64 (0),.int .i64 (0),.int .i64 (0),.int .i64 (0),.slice none 0 0,.slice none 0 0,.int .i64 (0),.int .i64 (0),.int .i64 (0),.bool false,.string ⟨#[]⟩] [(0,11,(.tmp 5))]⟩,
 ⟨(some 7),none,.build [.int .i64 (0),.int .i64 (0),.int .i64 (0),.int .i64 (0),.bool false,.string ⟨#[]⟩,.int .i64 (0),.string ⟨#[]⟩,.int .i64 (0),.slice none 0 0,.slice none 0 0] [(0,1,(.const (.int .i64 (2)))),(1,5,(.tmp 4)),(10,1,(.tmp 6))]⟩,
 ⟨none,none,.st 11 (.tmp 2) (.tmp 7)⟩]
noncomputable def IB:KC :=
 (.seq (.bp LY)
 (.seq (.bp LX)
 .ret))
theorem Pf:bC dm Tryz.f16.ntmps AU=IB:=by kernel_rfl
theorem Pe:Tryz.f16.body=some AU:=rfl
noncomputable def ye:Code:=(Tryz.f17.body).getD .skip
def Fy:List CO:=[
 ⟨(some 4),none,.alloc (aG [.string ⟨#[]⟩,.int .i64 (0),.int .i64 (0),.int .i64 (0),.slice none 0 0,.slice none 0 0,.slice none 0 0] 49 0)⟩]
def Fx:List CO:=[
 ⟨(some 5),none,.mv (.tmp 0)⟩,
 ⟨(some 6),none,.mv (.tmp 1)⟩,
 ⟨(some 7),none,.build [.string ⟨#[]⟩,.int .i64 (0),.int .i64 (0),.int .i64 (0),.slice none 0 0,.slice none 0 0,.slice none 0 0] [(0,1,(.const (.string ⟨#[77,65,73,78]⟩))),(1,1,(.const (.int .i64 (-1)))),(3,1,(.tmp 5)),(5,1,(.tmp 6))]⟩,
 ⟨none,none,.st 7 (.tmp 4) (.tmp 7)⟩]
noncomputable def CB:KC :=
 (.seq (.bp Fy)
 (.seq (.bp Fx)
 .ret))
theorem Iu:bC dm Tryz.f17.ntmps ye=CB:=by kernel_rfl
theorem It:Tryz.f17.body=some ye:=rfl
noncomputable def pI:Code:=(Tryz.f19.body).getD .skip
def Lo:List CO:=[
 ⟨(some 2),none,.alloc (aG [.slice none 0 0,.int .i64 (0),.slice none 0 0,.slice none 0 0,.slice none 0 0,.slice none 0 0] 61 0)⟩]
def Ln:List CO:=[
 ⟨(some 5),none,.mv (.tmp 0)⟩,
 ⟨(some 6),none,.len 1 (.tmp 5)⟩,
 ⟨(some 7),none,.mv (.const (.int .i64 (0)))⟩]
def Co:List CO:=[
 ⟨(some 8),none,.bin .lss (.tmp 7) (.tmp 6)⟩]
def Lm:List CO:=[
 ⟨(some 9),none,.mv (.tmp 7)⟩,
 ⟨(some 3),none,.mv (.tmp 9)⟩]
def Ll:List CO:=[
 ⟨(some 10),none,.mv (.tmp 0)⟩,
 ⟨(some 11),none,.mv (.tmp 3)⟩,
 ⟨(some 12),none,.sJ 7 (.tmp 10) (.tmp 11)⟩,
 ⟨(some 13),none,.fa 5 (.tmp 12)⟩,
 ⟨(some 14),none,.jd (.tmp 13)⟩,
 ⟨(some 15),none,.len 1 (.tmp 14)⟩,
 ⟨(some 16),none,.mv (.const (.int .i64 (0)))⟩]
def Cn:List CO:=[
 ⟨(some 17),none,.bin .lss (.tmp 16) (.tmp 15)⟩]
def Lj:List CO:=[
 ⟨(some 18),none,.mv (.tmp 16)⟩,
 ⟨(some 4),none,.mv (.tmp 18)⟩]
def Li:List CO:=[
 ⟨(some 19),none,.mv (.tmp 0)⟩,
 ⟨(some 20),none,.mv (.tmp 3)⟩,
 ⟨(some 21),none,.sJ 7 (.tmp 19) (.tmp 20)⟩,
 ⟨(some 22),none,.fa 5 (.tmp 21)⟩,
 ⟨(some 23),none,.jd (.tmp 22)⟩,
 ⟨(some 24),none,.mv (.tmp 4)⟩,
 ⟨(some 25),none,.mv (.tmp 4)⟩,
 ⟨(some 26),none,.bin .mul (.const (.int .i64 (10))) (.tmp 25)⟩,
 ⟨(some 27),none,.bin .add (.tmp 26) (.const (.int .i64 (10)))⟩,
 ⟨(some 28),none,.sJ 11 (.tmp 23) (.tmp 24)⟩,
 ⟨(some 29),none,.fa 1 (.tmp 28)⟩,
 ⟨none,none,.st 1 (.tmp 29) (.tmp 27)⟩]
def Lh:List CO:=[
 ⟨(some 30),none,.bin .add (.tmp 16) (.const (.int .i64 (1)))⟩,
 ⟨(some 16),none,.mv (.tmp 30)⟩]
noncomputable def Lp:KC :=
 (.seq (.bp Cn)
 (.seq (.cond (.tmp 17) .skip
  (.exit 2))
 (.seq (.block 3 (.seq (.bp Lj)
  (.bp Li)))
 (.bp Lh))))
def Fb:List CO:=[
 ⟨(some 31),none,.bin .add (.tmp 7) (.const (.int .i64 (1)))⟩,
 ⟨(some 7),none,.mv (.tmp 31)⟩]
noncomputable def Fc:KC :=
 (.seq (.bp Co)
 (.seq (.cond (.tmp 8) .skip
  (.exit 0))
 (.seq (.block 1 (.seq (.bp Lm)
  (.seq (.bp Ll)
  (.block 2 (.loop pI.sr.sl.sr.bl.lp.sr.sr.sl.bl.sr.sr.bl.lp Lp)))))
 (.bp Fb))))
def Fa:List CO:=[
 ⟨(some 32),none,.mv (.tmp 0)⟩,
 ⟨(some 33),none,.build [.string ⟨#[]⟩,.int .i64 (0)] [(0,1,(.const (.string ⟨#[83,89,83,80,82,73,78,84]⟩))),(1,1,(.const (.int .i64 (2))))]⟩,
 ⟨(some 34),none,.eX 1 90 [.string ⟨#[]⟩,.int .i64 (0)] [(0,2,(.tmp 33))]⟩,
 ⟨(some 35),none,.build [.slice none 0 0,.int .i64 (0),.slice none 0 0,.slice none 0 0,.slice none 0 0,.slice none 0 0] [(0,1,(.tmp 32)),(3,1,(.tmp 34))]⟩,
 ⟨none,none,.st 6 (.tmp 2) (.tmp 35)⟩]
noncomputable def Ic:KC :=
 (.seq (.bp Lo)
 (.seq (.seq (.bp Ln)
 (.block 0 (.loop pI.sr.sl.sr.bl.lp Fc)))
 (.seq (.bp Fa)
 .ret)))
theorem OT:bC dm Tryz.f19.ntmps pI=Ic:=by kernel_rfl
theorem OS:Tryz.f19.body=some pI:=rfl
end Go.Proofs.CA
end
noncomputable section
namespace Go.Proofs.CN
open Go Go.Ev Go.Proofs Go.Ev.SM
def C8:IntKind->Nat
 |.i8=>0|.i16=>1|.i32=>2|.i64=>3|.u8=>4|.u16=>5|.u32=>6|.u64=>7
theorem Mo (k:IntKind):ikN (C8 k)=k:=by cases k<;>rfl
def Gt:Value->Bm
 |.int k (.ofNat n)=>⟨0,n,0,8+2*C8 k⟩
 |.int k (.negSucc n)=>⟨0,n,0,9+2*C8 k⟩
 |.string s=>⟨0,kn s,0,6⟩
 |.iface _ _=>⟨0,1795297313058,0,7⟩
 |.complex _ n t=>⟨0,n,t,7⟩
 |_=>⟨0,0,0,4⟩
def hdl:Value:=.iface 418 (.agg ⟨[.pointer (some ⟨15,290,none⟩)]⟩)
theorem UJ:Pz 1795297313058 0=hdl:=by simp[Pz,hdl]
def Ur (t:Nat) (x:Value):Bool:=Nat.beq t 418&&(match x with|.agg ⟨[.pointer (some ⟨b,o,none⟩)]⟩=>Nat.beq b 15&&Nat.beq o 290|_=>false)
theorem Pq {t:Nat} {x:Value} (h:Ur t x=true):Value.iface t x=hdl:=by
 unfold Ur at h
 rw[Bool.and_eq_true,beq_iff]at h
 obtain⟨rfl,h⟩:=h
 split at h
 ·rw[Bool.and_eq_true,beq_iff,beq_iff]at h
  obtain⟨rfl,rfl⟩:=h;rfl
 ·cases h
def uo:Value->Bool
 |.int _ _=>true
 |.string _=>true
 |.iface t x=>Ur t x
 |.complex .f64 n (t+1)=>true
 |_=>false
theorem rz {v v':Value} (hv:uo v=true):RG (Gt v) v'↔v'=v:=by
 cases v<;>try (cases hv;done)
 ·rename_i k n
  cases n with
  |ofNat n =>
   have e:Gt (.int k (.ofNat n))=⟨0,n,0,8+2*C8 k⟩:=rfl
   rw[e]
   constructor
   ·intro h
    rcases h with⟨h,_⟩|⟨h,_⟩|⟨h,_⟩|⟨h,_⟩|⟨h,_⟩|⟨h,_⟩|⟨h,_⟩|⟨_,h⟩|⟨h,_⟩
    case inr.inr.inr.inr.inr.inr.inr.inl =>
     simp only[show(8+2*C8 k-8) / 2=C8 k from by omega,Mo,show(8+2*C8 k) % 2=0 from by omega,if_true]at h
     exact h
    all_goals (simp only at h;omega)
   ·intro h
    refine .inr (.inr (.inr (.inr (.inr (.inr (.inr (.inl ⟨by show 8<=8+2*C8 k;omega,?_⟩)))))))
    simp only[show(8+2*C8 k-8) / 2=C8 k from by omega,Mo,show(8+2*C8 k) % 2=0 from by omega,if_true]
    exact h
  |negSucc n =>
   have e:Gt (.int k (.negSucc n))=⟨0,n,0,9+2*C8 k⟩:=rfl
   rw[e]
   constructor
   ·intro h
    rcases h with⟨h,_⟩|⟨h,_⟩|⟨h,_⟩|⟨h,_⟩|⟨h,_⟩|⟨h,_⟩|⟨h,_⟩|⟨_,h⟩|⟨h,_⟩
    case inr.inr.inr.inr.inr.inr.inr.inl =>
     simp only[show(9+2*C8 k-8) / 2=C8 k from by omega,Mo,show ¬ (9+2*C8 k) % 2=0 from by omega,if_false]at h
     exact h
    all_goals (simp only at h;omega)
   ·intro h
    refine .inr (.inr (.inr (.inr (.inr (.inr (.inr (.inl ⟨by show 8<=9+2*C8 k;omega,?_⟩)))))))
    simp only[show(9+2*C8 k-8) / 2=C8 k from by omega,Mo,show ¬ (9+2*C8 k) % 2=0 from by omega,if_false]
    exact h
 ·rename_i fk n t
  have hf:fk=.f64/\∃ t',t=t'+1:=by
   cases fk<;>cases t<;>first|exact⟨rfl,_,rfl⟩|(cases hv;done)
  obtain⟨rfl,t',rfl⟩:=hf
  have e:Gt (.complex .f64 n (t'+1))=⟨0,n,t'+1,7⟩:=rfl
  have e2:Pz n (t'+1)=.complex .f64 n (t'+1):=by unfold Pz;rw[if_neg (by omega)]
  rw[e]
  constructor
  ·intro h
   rcases h with⟨h,_⟩|⟨h,_⟩|⟨h,_⟩|⟨h,_⟩|⟨h,_⟩|⟨h,_⟩|⟨h,_⟩|⟨h,_⟩|⟨_,h⟩
   case inr.inr.inr.inr.inr.inr.inr.inr=>rw[h];exact e2
   all_goals (simp only at h;omega)
  ·intro h
   refine .inr (.inr (.inr (.inr (.inr (.inr (.inr (.inr ⟨rfl,?_⟩)))))))
   rw[h];exact e2.symm
 ·rename_i s
  have e:Gt (.string s)=⟨0,kn s,0,6⟩:=rfl
  rw[e]
  constructor
  ·intro h
   rcases h with⟨h,_⟩|⟨h,_⟩|⟨h,_⟩|⟨h,_⟩|⟨h,_⟩|⟨h,_⟩|⟨_,h⟩|⟨h,_⟩|⟨h,_⟩
   case inr.inr.inr.inr.inr.inr.inl=>rw[h];show Value.string (RP (kn s))=_;rw[Eg]
   all_goals (simp only at h;omega)
  ·intro h
   refine .inr (.inr (.inr (.inr (.inr (.inr (.inl ⟨rfl,?_⟩))))))
   rw[h];show _=Value.string (RP (kn s));rw[Eg]
 ·rename_i t x
  have e:Gt (.iface t x)=⟨0,1795297313058,0,7⟩:=rfl
  rw[e,Pq hv]
  constructor
  ·intro h
   rcases h with⟨h,_⟩|⟨h,_⟩|⟨h,_⟩|⟨h,_⟩|⟨h,_⟩|⟨h,_⟩|⟨h,_⟩|⟨h,_⟩|⟨_,h⟩
   case inr.inr.inr.inr.inr.inr.inr.inr=>rw[h];exact UJ
   all_goals (simp only at h;omega)
  ·intro h
   refine .inr (.inr (.inr (.inr (.inr (.inr (.inr (.inr ⟨rfl,?_⟩)))))))
   rw[h];exact UJ.symm
abbrev Sem:=Nat->Value
def vK (s:Sem) (k:Nat):Bm:=if k=0 then ⟨0,0,0,4⟩else Gt (s k)
def uM (s:Sem) (β:Mp):Prop:=∀ k,β (SY+k)=some (vK s k)
theorem uM.mono {s:Sem} {β β':Mp} (h:Mp.le β β') (t:uM s β):uM s β':=λk=>h _ _ (t k)
def real (s:Sem):Value->Value
 |.chan (some k)=>s k
 |v=>v
def wq:Value->Bool
 |.int _ _=>true
 |.string _=>true
 |.bool _=>true
 |.chan (some (_+1))=>true
 |_=>false
theorem bY {s:Sem} (hs:∀ k,uo (s k)=true) {β:Mp} (t:uM s β) {v v':Value} (hk:wq v=true):ai β v v'↔v'=real s v:=by
 cases v<;>try (cases hk;done)
 ·constructor
  ·intro h;cases h;rfl
  ·intro h;subst h;exact .bool _
 ·constructor
  ·intro h;cases h;rfl
  ·intro h;subst h;exact .int _ _
 ·constructor
  ·intro h;cases h;rfl
  ·intro h;subst h;exact .string _
 ·rename_i c
  cases c with
  |none=>cases hk
  |some k =>
   cases k with
   |zero=>cases hk
   |succ k =>
    have e:=t (k+1)
    unfold vK at e
    rw[if_neg (by omega)]at e
    constructor
    ·intro h
     cases h with|sym _ m _ em hm =>
     rw[e]at em;cases em
     exact(rz (hs _)).1 hm
    ·intro h
     exact .sym _ _ _ e ((rz (hs _)).2 h)
theorem xE {s:Sem} (hs:∀ k,uo (s k)=true) {β:Mp} (t:uM s β):∀ {l l':List Value},l.all wq=true->ak β l l'->l'=l.map (real s)
 | [],l',_,h=>h.aL
 |v::l,l',hk,h=>by
  simp only[List.all_cons,Bool.and_eq_true]at hk
  obtain⟨v',l2,rfl,h1,h2⟩:=h.cons_inv
  rw[(bY hs t hk.1).1 h1,xE hs t hk.2 h2];rfl
structure gO (P:Sem->Prop) (hk:er->List Value->Option Value):Prop where
 sc:∀ s,P s->∀ k,uo (s k)=true
 ok:∀ s,P s->∀ h l v,hk h l=some v->l.all wq=true/\wq v=true/\iW h (l.map (real s))=some (real s v)
abbrev jj (P:Sem->Prop) (hk:er->List Value->Option Value) (h:gO P hk):dj where
 hk:=hk
 Q:=λβ=>∃ s,P s/\uM s β
 A8:=λ⟨s,hP,t⟩ op l v hv l' hl=>by
  obtain⟨h1,h2,h3⟩:=h.ok s hP op l v hv
  have:=xE (h.sc s hP) t h1 hl;subst this
  exact⟨_,h3,(bY (h.sc s hP) t h2).2 rfl⟩
 mono:=λh ⟨s,h1,t⟩=>⟨s,h1,t.mono h⟩
 loc:=λh ⟨s,h1,t⟩=>⟨s,h1,λk=>by rw[h _ (by omega)];exact t k⟩
instance {P:Sem->Prop} {hk:er->List Value->Option Value} {h:gO P hk}:@jb (jj P hk h):=@jb.mk (jj P hk h) λ⟨s,h1,t⟩=>⟨_,t 0,rfl⟩
def nd (m:Nat):Nat:=if m<10 then 1 else if m<100 then 2 else if m<1000 then 3 else if m<10000 then 4 else if m<100000 then 5 else 6
def nz (m:Nat):Nat:=if m % 10≠0 then 0 else if m % 100≠0 then 1 else if m % 1000≠0 then 2 else if m % 10000≠0 then 3 else if m % 100000≠0 then 4 else 5
def jr (m i:Nat):Nat:=m / 10 ^ (nd m-1-i) % 10
def bE (m:Nat):List UInt8:=(List.range (nd m)).map λi=>UInt8.ofNat (48+jr m i)
def stx (z:Int):List UInt8:=match z with
 |.ofNat m=>bE m
 |.negSucc m=>45::bE (m+1)
def u64 (z:Int):Nat:=(z % 18446744073709551616).toNat
def u16 (z:Int):Nat:=(z % 65536).toNat
def jC (z:Int) (i:Nat):Nat:=u16 z / 2 ^ i % 2
def nI (k:IntKind) (n:Nat):Value:=.int k (.ofNat n)
def sI (l:List UInt8):Value:=.string ⟨⟨l⟩⟩
def slot (z:Int) (j:Nat):Value :=
 if j=0 then .int .i64 z else
 if j=1 then nI .i64 z.natAbs else
 if j=2 then sI (bE z.natAbs)else
 if j=3 then sI ((bE z.natAbs).take (nd z.natAbs-nz z.natAbs))else
 if j=4 then sI (stx z)else
 if j=5 then sI (List.replicate (9-(stx z).length) 32++stx z)else
 if j=6 then .int .i16 z else
 if j=7 then sI ((List.range 16).map λi=>UInt8.ofNat (48+jC z (15-i)))else
 if j=8 then nI .u8 (u16 z / 256)else
 if j=9 then nI .u8 (u16 z % 256)else
 if j<100 then .int .i64 0 else
 if j<120 then nI .u8 (48+jr z.natAbs (j-100))else
 if j<140 then nI .u8 (jr z.natAbs (j-120))else
 if j<160 then nI .i64 (jr z.natAbs (j-140))else
 if j<180 then nI .i64 (z.natAbs / 10 ^ (nd z.natAbs-(j-160)))else
 if j<200 then nI .i64 (10*(z.natAbs / 10 ^ (nd z.natAbs-(j-180))))else
 if j<220 then nI .u8 ((stx z).getD (j-200) 0).toNat else
 if j<300 then .int .i64 0 else
 if j<320 then nI .u64 (u64 z / 2 ^ (j-300))else
 if j<340 then nI .u64 (u64 z / 2 ^ (j-320) % 2)else
 if j<360 then nI .u8 (u64 z / 2 ^ (j-340) % 2)else
 if j<380 then nI .u8 (48+u64 z / 2 ^ (j-360) % 2)else
 if j<400 then .int .i64 0 else
 if j<420 then nI .u16 (u16 z / 2 ^ (16-(j-400)))else
 if j<440 then nI .u16 (2*(u16 z / 2 ^ (16-(j-420))))else
 if j<460 then nI .u16 (jC z (j-440))else
 if j<480 then nI .i32 ((stx z).getD (j-460) 0).toNat else
 if j<500 then sI (((stx z).drop (j-480)).take 1)else
 if j<520 then sI ((bE z.natAbs).take (j-500))else
 if j=999 then hdl else .int .i64 0
theorem ac0 {c:Prop} [Decidable c] {x y:Value} (h1:uo x=true) (h2:uo y=true):uo (if c then x else y)=true:=by split<;>assumption
theorem Yz (z:Int) (j:Nat):uo (slot z j)=true:=by
 unfold slot
 repeat (refine ac0 rfl ?_)
 rfl
def aJ (zs:Nat->Int):Sem:=λk=>slot (zs (k / 1000)) (k % 1000)
theorem cy (zs:Nat->Int) (k:Nat):uo (aJ zs k)=true:=Yz _ _
theorem BO {z:Int} {i:Nat} (h:i<16):u64 z / 2 ^ i % 2=jC z i:=by
 unfold jC
 have e:u16 z=u64 z % 65536:=by unfold u64 u16;omega
 rw[e]
 have:∀ i,i<16->u64 z / 2 ^ i % 2=u64 z % 65536 / 2 ^ i % 2:=by
  intro i hi
  generalize u64 z=n
  rcases(by omega:i=0\/i=1\/i=2\/i=3\/i=4\/i=5\/i=6\/i=7\/i=8\/i=9\/i=10\/i=11\/i=12\/i=13\/i=14\/i=15)with rfl|rfl|rfl|rfl|rfl|rfl|rfl|rfl|rfl|rfl|rfl|rfl|rfl|rfl|rfl|rfl<;>simp<;>omega
 exact this i h
end Go.Proofs.CN
end
noncomputable section
namespace Go.Proofs.CN
open Go Go.Ev Go.Proofs
theorem Zr {m:Nat} (h:m<10):nd m=1:=by unfold nd;rw[if_pos h]
theorem Zq {m:Nat} (h:10<=m) (h2:m<100):nd m=2:=by unfold nd;rw[if_neg (by omega),if_pos h2]
theorem Zp {m:Nat} (h:100<=m) (h2:m<1000):nd m=3:=by unfold nd;rw[if_neg (by omega),if_neg (by omega),if_pos h2]
theorem Zo {m:Nat} (h:1000<=m) (h2:m<10000):nd m=4:=by unfold nd;rw[if_neg (by omega),if_neg (by omega),if_neg (by omega),if_pos h2]
theorem Zn {m:Nat} (h:10000<=m) (h2:m<100000):nd m=5:=by unfold nd;rw[if_neg (by omega),if_neg (by omega),if_neg (by omega),if_neg (by omega),if_pos h2]
theorem Zm {m:Nat} (h:100000<=m):nd m=6:=by unfold nd;rw[if_neg (by omega),if_neg (by omega),if_neg (by omega),if_neg (by omega),if_neg (by omega)]
theorem wu {m:Nat} (h:10<=m) (h2:m<1000000):nd m=nd (m / 10)+1:=by
 rcases(by omega:m<100\/(100<=m/\m<1000)\/(1000<=m/\m<10000)\/(10000<=m/\m<100000)\/100000<=m)with h3|⟨h3,h4⟩|⟨h3,h4⟩|⟨h3,h4⟩|h3
 ·rw[Zq h h3,Zr (by omega)]
 ·rw[Zp h3 h4,Zq (by omega) (by omega)]
 ·rw[Zo h3 h4,Zp (by omega) (by omega)]
 ·rw[Zn h3 h4,Zo (by omega) (by omega)]
 ·rw[Zm h3,Zn (by omega) (by omega)]
theorem lu (m:Nat):0<nd m:=by unfold nd;repeat' split
                              all_goals omega
theorem rm {m:Nat} (h:10<=m) (h2:m<1000000):bE m=bE (m / 10)++[UInt8.ofNat (48+m % 10)]:=by
 unfold bE
 have hp:=lu (m / 10)
 rw[wu h h2,List.range_succ,List.map_append]
 congr 1
 ·apply List.map_congr_left
  intro i hi
  have hi:=List.mem_range.1 hi
  unfold jr
  rw[wu h h2,Nat.div_div_eq_div_mul,show nd (m / 10)+1-1-i=(nd (m / 10)-1-i)+1 from by omega,Nat.pow_succ,Nat.mul_comm]
 ·unfold jr
  rw[wu h h2]
  show[UInt8.ofNat (48+m / 10 ^ (nd (m / 10)+1-1-nd (m / 10)) % 10)]=_
  rw[show nd (m / 10)+1-1-nd (m / 10)=0 from by omega,Nat.pow_zero,Nat.div_one]
theorem vT:∀ m:Nat,m<1000000->Lib.decDigits m=bE m:=by
 intro m
 induction m using Nat.strongRecOn with
 |ind m ih =>
  intro h
  rw[Lib.decDigits]
  by_cases h1:m<10
  ·rw[dif_pos h1]
   unfold bE jr
   rw[Zr h1]
   simp[List.range_succ,Nat.mod_eq_of_lt h1]
  ·rw[dif_neg h1,ih (m / 10) (by omega) (by omega),<-rm (by omega) h]
theorem xd {z:Int} (h:z.natAbs<1000000):Lib.itoa z=stx z:=by
 unfold Lib.itoa
 cases z with
 |ofNat m =>
  rw[if_neg (by show ¬ ((m:Int)<0);omega)]
  exact vT m h
 |negSucc m =>
  rw[if_pos (Int.negSucc_lt_zero m)]
  show 45::Lib.decDigits (m+1)=45::bE (m+1)
  rw[vT (m+1) h]
theorem Wv {d:Nat} (h:d<10) (h0:0<d):UInt8.ofNat (48+d)≠48:=λe=>by
 have:=congrArg UInt8.toNat e
 rw[UInt8.toNat_ofNat']at this
 have h2:(48:UInt8).toNat=48:=rfl
 omega
theorem Rr:∀ m:Nat,0<m->m<1000000->∃ c l,bE m=c::l/\c≠48:=by
 intro m
 induction m using Nat.strongRecOn with
 |ind m ih =>
  intro h0 h
  by_cases h1:m<10
  ·refine⟨UInt8.ofNat (48+m),[],?_,Wv h1 h0⟩
   rw[<-vT m h,Lib.decDigits,dif_pos h1]
  ·obtain⟨c,l,e,hc⟩:=ih (m / 10) (by omega) (by omega) (by omega)
   exact⟨c,l++[UInt8.ofNat (48+m % 10)],by rw[rm (by omega) h,e];rfl,hc⟩
theorem N_ {m:Nat} (h0:0<m) (h:m<1000000):Lib.trimLeftB (bE m) 48=bE m:=by
 obtain⟨c,l,e,hc⟩:=Rr m h0 h
 unfold Lib.trimLeftB
 rw[e,List.dropWhile_cons_of_neg (by simp[hc])]
theorem fc (m:Nat):(bE m).length=nd m:=by unfold bE;simp
theorem N9:∀ m:Nat,0<m->m<1000000->Lib.trimRightB (bE m) 48=(bE m).take (nd m-nz m):=by
 intro m
 induction m using Nat.strongRecOn with
 |ind m ih =>
  intro h0 h
  by_cases hz:m % 10=0
  ·have h1:10<=m:=by omega
   have e:=rm h1 h
   have hn:nz m=nz (m / 10)+1:=by
    unfold nz
    rw[if_neg (by omega)]
    repeat' split
    all_goals omega
   have:=ih (m / 10) (by omega) (by omega) (by omega)
   unfold Lib.trimRightB at this ⊢
   rw[e,hz,List.reverse_append,show[UInt8.ofNat (48+0)].reverse=[48]from rfl,List.singleton_append,List.dropWhile_cons_of_pos (by simp),this,hn,wu h1 h]
   have hl:=fc (m / 10)
   rw[List.take_append_of_le_length (by omega)]
   congr 1;omega
  ·have hn:nz m=0:=by unfold nz;rw[if_pos hz]
   rw[hn,Nat.sub_zero,List.take_of_length_le (by rw[fc];exact Nat.le_refl _)]
   by_cases h1:m<10
   ·have e:bE m=[UInt8.ofNat (48+m)]:=by rw[<-vT m h,Lib.decDigits,dif_pos h1]
    unfold Lib.trimRightB
    rw[e,show[UInt8.ofNat (48+m)].reverse=[UInt8.ofNat (48+m)]from rfl,List.dropWhile_cons_of_neg (by rw[beq_iff_eq];exact Wv h1 h0)];rfl
   ·unfold Lib.trimRightB
    rw[rm (by omega) h,List.reverse_append,show[UInt8.ofNat (48+m % 10)].reverse=[UInt8.ofNat (48+m % 10)]from rfl,List.singleton_append,List.dropWhile_cons_of_neg (by rw[beq_iff_eq];exact Wv (d:=m % 10) (by omega) (by omega)),List.reverse_cons,List.reverse_reverse]
end Go.Proofs.CN
end
noncomputable section
namespace Go.Proofs.CN
open Go Go.Ev Go.Proofs Go.Ev.SM Go.Proofs.MN
def ki (P:Sem->Prop) (hk:er->List Value->Option Value):Prop:=∀ s,P s->∀ h l v,hk h l=some v->l.all wq=true/\wq v=true/\iW h (l.map (real s))=some (real s v)
def yp (f g:er->List Value->Option Value) (h:er) (l:List Value):Option Value:=match f h l with|some v=>some v|none=>g h l
theorem ki.or {P:Sem->Prop} {f g:er->List Value->Option Value} (hf:ki P f) (hg:ki P g):ki P (yp f g):=λs hP h l v e=>by
 unfold yp at e
 cases e1:f h l with
 |some w=>rw[e1]at e;cases e;exact hf s hP h l _ e1
 |none=>rw[e1]at e;exact hg s hP h l v e
def lP (k a b:Nat):Bool:=Nat.ble (4000+a) k&&Nat.blt k (4000+b)
theorem kK {k a b:Nat} (h:lP k a b=true):∃ i,k=4000+(a+i)/\a+i<b:=by
 simp only[lP,Bool.and_eq_true,aE,an]at h
 exact⟨k-4000-a,by omega,by omega⟩
def hkB:er->List Value->Option Value
 |.jM .u64,[.chan (some k)]=>Bc (Nat.beq k 4000) (some (sy 4300)) none
 |.jM .u8,[.chan (some k)]=>Bc (lP k 320 336) (some (sy (k+20))) none
 |.jM .u16,[.chan (some k)]=>Bc (lP k 340 356) (some (sy (k+100))) none
 |.jM .i16,[.chan (some k)]=>Bc (Nat.beq k 4416) (some (sy 4006)) none
 |.jM .i64,[.chan (some k)]=>Bc (Nat.beq k 4006) (some (sy 4000)) none
 |.bin .and,[.chan (some k),.int .u64 (.ofNat 1)]=>Bc (lP k 300 316) (some (sy (k+20))) none
 |.bin .add,[.int .u8 (.ofNat 48),.chan (some k)]=>Bc (lP k 340 356) (some (sy (k+20))) none
 |.bin .shr,[.chan (some k),.int .u64 (.ofNat 1)]=>Bc (lP k 300 316) (some (sy (k+1))) none
 |.bin .sub,[.chan (some k),.int .u8 (.ofNat 48)]=>Bc (lP k 360 376) (some (sy (k-20))) none
 |_,_=>none
theorem rF (z:Int) {i:Nat} (h:i<20):slot z (300+i)=nI .u64 (u64 z / 2 ^ i):=by
 unfold slot
 repeat (rw[if_neg (by omega)])
 rw[if_pos (by omega),show 300+i-300=i from by omega]
theorem Et (z:Int) {i:Nat} (h:i<20):slot z (320+i)=nI .u64 (u64 z / 2 ^ i % 2):=by
 unfold slot
 repeat (rw[if_neg (by omega)])
 rw[if_pos (by omega),show 320+i-320=i from by omega]
theorem rE (z:Int) {i:Nat} (h:i<20):slot z (340+i)=nI .u8 (u64 z / 2 ^ i % 2):=by
 unfold slot
 repeat (rw[if_neg (by omega)])
 rw[if_pos (by omega),show 340+i-340=i from by omega]
theorem rD (z:Int) {i:Nat} (h:i<20):slot z (360+i)=nI .u8 (48+u64 z / 2 ^ i % 2):=by
 unfold slot
 repeat (rw[if_neg (by omega)])
 rw[if_pos (by omega),show 360+i-360=i from by omega]
theorem xu (z:Int) {i:Nat} (h:i<20):slot z (440+i)=nI .u16 (jC z i):=by
 unfold slot
 repeat (rw[if_neg (by omega)])
 rw[if_pos (by omega),show 440+i-440=i from by omega]
theorem rB (z:Int) {i:Nat} (h:i<20):slot z (400+i)=nI .u16 (u16 z / 2 ^ (16-i)):=by
 unfold slot
 repeat (rw[if_neg (by omega)])
 rw[if_pos (by omega),show 400+i-400=i from by omega]
theorem Es (z:Int) {i:Nat} (h:i<20):slot z (420+i)=nI .u16 (2*(u16 z / 2 ^ (16-i))):=by
 unfold slot
 repeat (rw[if_neg (by omega)])
 rw[if_pos (by omega),show 420+i-420=i from by omega]
def PW (Q:(Nat->Int)->Prop) (s:Sem):Prop:=∃ zs,s=aJ zs /\ -32768<zs 4/\zs 4<32768/\Q zs
theorem o3 (zs:Nat->Int) {j:Nat} (h:j<1000):aJ zs (4000+j)=slot (zs 4) j:=by
 unfold aJ
 rw[show(4000+j) / 1000=4 from by omega,show(4000+j) % 1000=j from by omega]
theorem bR {k:Nat} (h:0<k):wq (sy k)=true:=by
 cases k with
 |zero=>omega
 |succ k=>rfl
theorem QK {k:Nat} (h:0<k):[sy k].all wq=true:=by rw[List.all_cons,bR h];rfl
theorem Ia {k:Nat} {ik:IntKind} {n:Int} (h:0<k):[sy k,.int ik n].all wq=true:=by rw[List.all_cons,bR h];rfl
theorem agN {k:Nat} {ik:IntKind} {n:Int} (h:0<k):[.int ik n,sy k].all wq=true:=by rw[List.all_cons,List.all_cons,bR h];rfl
theorem XJ (z:Int):aN .u64 z=((u64 z:Nat):Int):=by
 rw[dO]
 unfold u64
 simp[IntKind.wrap,IntKind.signed,IntKind.bits]
 omega
theorem XK {z:Int} (h1 : -32768<z) (h2:z<32768):aN .i16 ((u16 z:Nat):Int)=z:=by
 rw[dO]
 show(if (true&&decide (((u16 z:Nat):Int) % (2 ^ 16:Int) ≥ 2 ^ 15))=true then ((u16 z:Nat):Int) % (2 ^ 16:Int)-2 ^ 16 else ((u16 z:Nat):Int) % (2 ^ 16:Int))=z
 have e1:(2 ^ 16:Int)=65536:=by decide
 have e2:(2 ^ 15:Int)=32768:=by decide
 have e3:((u16 z:Nat):Int)=z % 65536:=by unfold u16;omega
 rw[e1,e2,e3]
 by_cases h:z % 65536 % 65536 ≥ 32768
 ·rw[if_pos (by simp;omega)];omega
 ·rw[if_neg (by simp;omega)];omega
theorem wrap64 {z:Int} (h1 : -9223372036854775808<=z) (h2:z<=9223372036854775807):aN .i64 z=z:=by
 rw[dO]
 simp[IntKind.wrap,IntKind.signed,IntKind.bits]
 split<;>omega
theorem iR {k:IntKind} {n:Nat} (h:n<128):aN k ((n:Nat):Int)=((n:Nat):Int):=by
 rw[dO]
 cases k<;>simp[IntKind.wrap,IntKind.signed,IntKind.bits]<;>omega
theorem De (Q:(Nat->Int)->Prop):ki (PW Q) hkB:=by
 rintro s ⟨zs,rfl,hl,hr,_⟩ h l v e
 unfold hkB at e
 split at e
 ·obtain⟨h1,h2⟩:=aq e
  cases h2
  have:=(beq_iff _ _).1 h1;subst this
  refine⟨rfl,rfl,?_⟩
  show iW (.jM .u64) [aJ zs (4000+0)]=some (aJ zs (4000+(300+0)))
  rw[o3 zs (by omega),o3 zs (by omega),rF _ (by omega)]
  show some (Value.int .u64 (aN .u64 (zs 4)))=_
  rw[XJ,Nat.pow_zero,Nat.div_one];rfl
 ·obtain⟨h1,h2⟩:=aq e
  cases h2
  obtain⟨i,rfl,hi⟩:=kK h1
  refine⟨QK (by omega),bR (by omega),?_⟩
  show iW (.jM .u8) [aJ zs (4000+(320+i))]=some (aJ zs (4000+(320+i)+20))
  rw[show 4000+(320+i)+20=4000+(340+i)from by omega,o3 zs (by omega),o3 zs (by omega),Et _ (by omega),rE _ (by omega)]
  show some (Value.int .u8 (aN .u8 ((u64 (zs 4) / 2 ^ i % 2:Nat):Int)))=_
  rw[iR (by omega)];rfl
 ·obtain⟨h1,h2⟩:=aq e
  cases h2
  obtain⟨i,rfl,hi⟩:=kK h1
  refine⟨QK (by omega),bR (by omega),?_⟩
  show iW (.jM .u16) [aJ zs (4000+(340+i))]=some (aJ zs (4000+(340+i)+100))
  rw[show 4000+(340+i)+100=4000+(440+i)from by omega,o3 zs (by omega),o3 zs (by omega),rE _ (by omega),xu _ (by omega),BO (by omega)]
  show some (Value.int .u16 (aN .u16 ((jC (zs 4) i:Nat):Int)))=_
  rw[iR (by unfold jC;omega)];rfl
 ·obtain⟨h1,h2⟩:=aq e
  cases h2
  have:=(beq_iff _ _).1 h1;subst this
  refine⟨rfl,rfl,?_⟩
  show iW (.jM .i16) [aJ zs (4000+(400+16))]=some (aJ zs (4000+6))
  rw[o3 zs (by omega),o3 zs (by omega),rB _ (by omega)]
  show some (Value.int .i16 (aN .i16 ((u16 (zs 4) / 2 ^ (16-16):Nat):Int)))=_
  rw[show 16-16=0 from rfl,Nat.pow_zero,Nat.div_one,XK hl hr];rfl
 ·obtain⟨h1,h2⟩:=aq e
  cases h2
  have:=(beq_iff _ _).1 h1;subst this
  refine⟨rfl,rfl,?_⟩
  show iW (.jM .i64) [aJ zs (4000+6)]=some (aJ zs (4000+0))
  rw[o3 zs (by omega),o3 zs (by omega)]
  show some (Value.int .i64 (aN .i64 (zs 4)))=_
  rw[wrap64 (by omega) (by omega)];rfl
 ·obtain⟨h1,h2⟩:=aq e
  cases h2
  obtain⟨i,rfl,hi⟩:=kK h1
  refine⟨Ia (by omega),bR (by omega),?_⟩
  show iW (.bin .and) [aJ zs (4000+(300+i)),.int .u64 1]=some (aJ zs (4000+(300+i)+20))
  rw[show 4000+(300+i)+20=4000+(320+i)from by omega,o3 zs (by omega),o3 zs (by omega),rF _ (by omega),Et _ (by omega)]
  show some (Value.int .u64 (aN .u64 (.ofNat (Nat.land (u64 (zs 4) / 2 ^ i) 1))))=_
  have:Nat.land (u64 (zs 4) / 2 ^ i) 1=u64 (zs 4) / 2 ^ i % 2:=Nat.and_one_is_mod _
  rw[this]
  show some (Value.int .u64 (aN .u64 ((u64 (zs 4) / 2 ^ i % 2:Nat):Int)))=_
  rw[iR (by omega)];rfl
 ·obtain⟨h1,h2⟩:=aq e
  cases h2
  obtain⟨i,rfl,hi⟩:=kK h1
  refine⟨agN (by omega),bR (by omega),?_⟩
  show iW (.bin .add) [.int .u8 48,aJ zs (4000+(340+i))]=some (aJ zs (4000+(340+i)+20))
  rw[show 4000+(340+i)+20=4000+(360+i)from by omega,o3 zs (by omega),o3 zs (by omega),rE _ (by omega),rD _ (by omega)]
  show some (Value.int .u8 (aN .u8 (48+((u64 (zs 4) / 2 ^ i % 2:Nat):Int))))=_
  rw[show(48+((u64 (zs 4) / 2 ^ i % 2:Nat):Int))=((48+u64 (zs 4) / 2 ^ i % 2:Nat):Int)from by omega,iR (by omega)];rfl
 ·obtain⟨h1,h2⟩:=aq e
  cases h2
  obtain⟨i,rfl,hi⟩:=kK h1
  refine⟨Ia (by omega),bR (by omega),?_⟩
  show iW (.bin .shr) [aJ zs (4000+(300+i)),.int .u64 1]=some (aJ zs (4000+(300+i)+1))
  rw[show 4000+(300+i)+1=4000+(300+(i+1))from by omega,o3 zs (by omega),o3 zs (by omega),rF _ (by omega),rF _ (by omega)]
  show some (Value.int .u64 (((u64 (zs 4) / 2 ^ i:Nat):Int).fdiv (2 ^ 1)))=_
  rw[Int.fdiv_eq_ediv_of_nonneg _ (by decide),show((2:Int) ^ 1)=((2:Nat):Int)from rfl]
  show some (Value.int .u64 ((u64 (zs 4) / 2 ^ i / 2:Nat):Int))=_
  rw[Nat.div_div_eq_div_mul,<-Nat.pow_succ];rfl
 ·obtain⟨h1,h2⟩:=aq e
  cases h2
  obtain⟨i,rfl,hi⟩:=kK h1
  refine⟨Ia (by omega),bR (by omega),?_⟩
  show iW (.bin .sub) [aJ zs (4000+(360+i)),.int .u8 48]=some (aJ zs (4000+(360+i)-20))
  rw[show 4000+(360+i)-20=4000+(340+i)from by omega,o3 zs (by omega),o3 zs (by omega),rD _ (by omega),rE _ (by omega)]
  show some (Value.int .u8 (aN .u8 (((48+u64 (zs 4) / 2 ^ i % 2:Nat):Int)-48)))=_
  rw[show(((48+u64 (zs 4) / 2 ^ i % 2:Nat):Int)-48)=((u64 (zs 4) / 2 ^ i % 2:Nat):Int)from by omega,iR (by omega)];rfl
 ·cases e
def Nv (l:List Value) (j:Nat):Bool:=match l with
 | []=>Nat.beq j 0
 |v::r=>(match v with|.chan (some k)=>Bc (Nat.beq (k+1) (4360+j)&&Nat.blt 0 j) (Nv r (j-1)) false|_=>false)
def aek:er->List Value->Option Value
 |.bin .or,[.int .u16 (.ofNat 0),.chan (some k)]=>Bc (Nat.beq k 4455) (some (sy 4401)) none
 |.bin .or,[.chan (some p),.chan (some k)]=>Bc (lP p 421 436&&Nat.beq (p+k) 8875) (some (sy (p-19))) none
 |.bin .shl,[.chan (some k),.int .u64 (.ofNat 1)]=>Bc (lP k 401 416) (some (sy (k+20))) none
 |.len,[.chan (some k)]=>Bc (Nat.beq k 4007) (some (.int .i64 (.ofNat 16))) none
 |.A5,[.chan (some k),.int .i64 (.ofNat i)]=>Bc (Nat.beq k 4007&&Nat.blt i 16) (some (sy (4375-i))) none
 |.str,l=>Bc (Nv l 16) (some (sy 4007)) none
 |_,_=>none
theorem Rp (z:Int):u16 z<65536:=by unfold u16;omega
theorem Kq {n:Nat} (h:n<65536):aN .u16 ((n:Nat):Int)=((n:Nat):Int):=by
 rw[dO]
 simp[IntKind.wrap,IntKind.signed,IntKind.bits]
 omega
theorem xJ (z:Int) {i:Nat} (h:i<16):2*(u16 z / 2 ^ (16-i))+jC z (15-i)=u16 z / 2 ^ (16-(i+1)):=by
 unfold jC
 have e:2 ^ (16-i)=2 ^ (15-i)*2:=by rw[<-Nat.pow_succ];congr 1;omega
 rw[e,<-Nat.div_div_eq_div_mul,show 16-(i+1)=15-i from by omega]
 omega
theorem am4 {x b:Nat} (h:b<2):Nat.lor (2*x) b=2*x+b:=by
 have:=Nat.two_pow_add_eq_or_of_lt (i:=1) (b:=b) (by omega) x
 exact this.symm
theorem za (z:Int) (i:Nat):jC z i<2:=by unfold jC;omega
theorem BZ (z:Int):slot z 7=sI ((List.range 16).map λi=>UInt8.ofNat (48+jC z (15-i))):=rfl
theorem afx (z:Int) (i:Nat):(UInt8.ofNat (48+jC z i)).toNat=48+jC z i:=by
 have:=za z i
 rw[UInt8.toNat_ofNat'];omega
theorem Bz:∀ {l:List Value} {j:Nat},Nv l j=true->j<=16->l=(List.range j).map λi=>sy (4360+(j-1-i))
 | [],j,h,_=>by have:=(beq_iff _ _).1 h;subst this;rfl
 |v::r, j,h,hj=>by
  unfold Nv at h
  split at h
  ·rename_i k
   cases e:(Nat.beq (k+1) (4360+j)&&Nat.blt 0 j)with
   |false=>rw[e,au]at h;cases h
   |true =>
    rw[e,aj]at h
    simp only[Bool.and_eq_true,beq_iff,an]at e
    cases j with
    |zero=>omega
    |succ j =>
     rw[Bz h (by omega),List.range_succ_eq_map,List.map_cons,List.map_map]
     congr 1
     ·show Value.chan (some k)=.chan (some _)
      congr 2;omega
     ·apply List.map_congr_left
      intro i hi
      show sy (4360+(j+1-1-1-i))=sy (4360+(j+1-1-(i+1)))
      congr 1;omega
  ·cases h
theorem H_ {p k:Nat} (h:0<p) (h2:0<k):[sy p,sy k].all wq=true:=by rw[List.all_cons,List.all_cons,bR h,bR h2];rfl
theorem abi {a b:Nat} (h:b<2) (ha:2*a<65536) (hs:2*a+b<65536):gD .or (nI .u16 (2*a)) (nI .u16 b)=some (nI .u16 (2*a+b)):=by
 show some (Value.int .u16 (aN .u16 (.ofNat (Nat.lor (2*a) b))))=_
 rw[am4 h]
 show some (Value.int .u16 (aN .u16 ((2*a+b:Nat):Int)))=_
 rw[Kq hs];rfl
theorem xh (f:Nat->Nat) (hf:∀ i,f i<256):∀ l:List Nat,strOf (l.map λi=>nI .u8 (f i))=some (l.map λi=>UInt8.ofNat (f i)):=λl=>by
 have h:(l.map λi=>nI .u8 (f i)).all Up=true:=by
  rw[List.all_eq_true];intro x hx
  obtain⟨i,_,rfl⟩:=List.mem_map.1 hx
  rfl
 unfold strOf
 rw[h,aj,List.map_map]
 congr 1
theorem wE (Q:(Nat->Int)->Prop):ki (PW Q) aek:=by
 rintro s ⟨zs,rfl,hl,hr,_⟩ h l v e
 have hu:=Rp (zs 4)
 unfold aek at e
 split at e
 ·obtain⟨h1,h2⟩:=aq e
  cases h2
  have:=(beq_iff _ _).1 h1;subst this
  refine⟨rfl,rfl,?_⟩
  show iW (.bin .or) [.int .u16 0,aJ zs (4000+(440+15))]=some (aJ zs (4000+(400+1)))
  rw[o3 zs (by omega),o3 zs (by omega),xu _ (by omega),rB _ (by omega)]
  have hb:=za (zs 4) 15
  have:=abi (a:=0) hb (by omega) (by omega)
  refine Eq.trans this ?_
  have hp:=xJ (zs 4) (i:=0) (by omega)
  rw[<-hp,show u16 (zs 4) / 2 ^ (16-0)=0 from Nat.div_eq_of_lt hu]
 ·obtain⟨h1,h2⟩:=aq e
  cases h2
  simp only[Bool.and_eq_true,beq_iff]at h1
  obtain⟨h1,h2⟩:=h1
  obtain⟨i,rfl,hi⟩:=kK h1
  rename_i k
  obtain rfl:k=4000+(440+(15-(i+1))):=by omega
  refine⟨H_ (by omega) (by omega),bR (by omega),?_⟩
  show iW (.bin .or) [aJ zs (4000+(421+i)),aJ zs (4000+(440+(15-(i+1))))]=some (aJ zs (4000+(421+i)-19))
  rw[show 4000+(421+i)-19=4000+(400+(i+1+1))from by omega,show 421+i=420+(i+1)from by omega,o3 zs (by omega),o3 zs (by omega),o3 zs (by omega),Es _ (by omega),xu _ (by omega),rB _ (by omega)]
  have hb:=za (zs 4) (15-(i+1))
  have hp:=xJ (zs 4) (i:=i+1) (by omega)
  have hle:u16 (zs 4) / 2 ^ (16-(i+1+1))<=u16 (zs 4):=Nat.div_le_self _ _
  refine Eq.trans (abi hb (by omega) (by omega)) ?_
  rw[hp]
 ·obtain⟨h1,h2⟩:=aq e
  cases h2
  obtain⟨i,rfl,hi⟩:=kK h1
  refine⟨Ia (by omega),bR (by omega),?_⟩
  show iW (.bin .shl) [aJ zs (4000+(401+i)),.int .u64 1]=some (aJ zs (4000+(401+i)+20))
  rw[show 4000+(401+i)+20=4000+(420+(i+1))from by omega,show 401+i=400+(i+1)from by omega,o3 zs (by omega),o3 zs (by omega),rB _ (by omega),Es _ (by omega)]
  have hp:=xJ (zs 4) (i:=i+1) (by omega)
  have hle:u16 (zs 4) / 2 ^ (16-(i+1+1))<=u16 (zs 4):=Nat.div_le_self _ _
  generalize u16 (zs 4) / 2 ^ (16-(i+1))=x at hp
  show some (Value.int .u16 (IntKind.u16.wrap (((x:Nat):Int)*2 ^ 1)))=_
  rw[<-dO,show(((x:Nat):Int)*2 ^ 1)=((2*x:Nat):Int)from by omega,Kq (by omega)];rfl
 ·obtain⟨h1,h2⟩:=aq e
  cases h2
  have:=(beq_iff _ _).1 h1;subst this
  refine⟨rfl,rfl,?_⟩
  show iW .len [aJ zs (4000+7)]=some (.int .i64 (.ofNat 16))
  rw[o3 zs (by omega),BZ]
  rfl
 ·obtain⟨h1,h2⟩:=aq e
  cases h2
  simp only[Bool.and_eq_true,beq_iff,an]at h1
  obtain⟨rfl,hi⟩:=h1
  rename_i i
  refine⟨Ia (by omega),bR (by omega),?_⟩
  show iW .A5 [aJ zs (4000+7),.int .i64 (.ofNat i)]=some (aJ zs (4375-i))
  rw[show 4375-i=4000+(360+(15-i))from by omega,o3 zs (by omega),o3 zs (by omega),BZ,rD _ (by omega),BO (by omega)]
  show(match idx (.int .i64 (.ofNat i)) ((List.range 16).map λi=>UInt8.ofNat (48+jC (zs 4) (15-i))).length with
   |some m=>(match ((List.range 16).map λi=>UInt8.ofNat (48+jC (zs 4) (15-i)))[m]? with|some c=>some (Value.int .u8 (.ofNat c.toNat))|none=>none)
   |none=>none)=_
  have hx:idx (.int .i64 (.ofNat i)) ((List.range 16).map λi=>UInt8.ofNat (48+jC (zs 4) (15-i))).length=some i:=by
   rw[List.length_map,List.length_range]
   show Bc (Nat.blt i 16) (some i) none=some i
   rw[(an _ _).2 hi,aj]
  rw[hx]
  simp only[List.getElem?_map,List.getElem?_range hi,Option.map_some,afx]
  rfl
 ·obtain⟨h1,h2⟩:=aq e
  cases h2
  have sL:=Bz h1 (by omega)
  subst sL
  refine⟨rfl,rfl,?_⟩
  show(match strOf (((List.range 16).map λi=>sy (4360+(16-1-i))).map (real (aJ zs)))with|some s=>some (Value.string ⟨⟨s⟩⟩)|none=>none)=some (aJ zs (4000+7))
  rw[o3 zs (by omega),BZ,List.map_map]
  have he:((List.range 16).map (real (aJ zs)∘λi=>sy (4360+(16-1-i))))=(List.range 16).map λi=>nI .u8 (48+jC (zs 4) (15-i)):=by
   apply List.map_congr_left
   intro i hi
   have hi:=List.mem_range.1 hi
   show aJ zs (4360+(16-1-i))=_
   rw[show 4360+(16-1-i)=4000+(360+(15-i))from by omega,o3 zs (by omega),rD _ (by omega),BO (by omega)]
  rw[he,xh (λi=>48+jC (zs 4) (15-i)) (λi=>by have:=za (zs 4) (15-i);omega)]
  rfl
 ·cases e
theorem rG (z:Int) {i:Nat} (h:i<20):slot z (100+i)=nI .u8 (48+jr z.natAbs i):=by
 unfold slot
 repeat (rw[if_neg (by omega)])
 rw[if_pos (by omega),show 100+i-100=i from by omega]
theorem Eu (z:Int) {i:Nat} (h:i<20):slot z (120+i)=nI .u8 (jr z.natAbs i):=by
 unfold slot
 repeat (rw[if_neg (by omega)])
 rw[if_pos (by omega),show 120+i-120=i from by omega]
theorem oA (z:Int) {i:Nat} (h:i<20):slot z (140+i)=nI .i64 (jr z.natAbs i):=by
 unfold slot
 repeat (rw[if_neg (by omega)])
 rw[if_pos (by omega),show 140+i-140=i from by omega]
theorem ox (z:Int) {i:Nat} (h:i<20):slot z (160+i)=nI .i64 (z.natAbs / 10 ^ (nd z.natAbs-i)):=by
 unfold slot
 repeat (rw[if_neg (by omega)])
 rw[if_pos (by omega),show 160+i-160=i from by omega]
theorem xw (z:Int) {i:Nat} (h:i<20):slot z (180+i)=nI .i64 (10*(z.natAbs / 10 ^ (nd z.natAbs-i))):=by
 unfold slot
 repeat (rw[if_neg (by omega)])
 rw[if_pos (by omega),show 180+i-180=i from by omega]
theorem ow (z:Int) {i:Nat} (h:i<20):slot z (200+i)=nI .u8 ((stx z).getD i 0).toNat:=by
 unfold slot
 repeat (rw[if_neg (by omega)])
 rw[if_pos (by omega),show 200+i-200=i from by omega]
theorem Er (z:Int) {i:Nat} (h:i<20):slot z (460+i)=nI .i32 ((stx z).getD i 0).toNat:=by
 unfold slot
 repeat (rw[if_neg (by omega)])
 rw[if_pos (by omega),show 460+i-460=i from by omega]
theorem xq (z:Int) {i:Nat} (h:i<20):slot z (480+i)=sI (((stx z).drop i).take 1):=by
 unfold slot
 repeat (rw[if_neg (by omega)])
 rw[if_pos (by omega),show 480+i-480=i from by omega]
theorem xp (z:Int) {i:Nat} (h:i<20):slot z (500+i)=sI ((bE z.natAbs).take i):=by
 unfold slot
 repeat (rw[if_neg (by omega)])
 rw[if_pos (by omega),show 500+i-500=i from by omega]
theorem gz (zs:Nat->Int) (S:Nat) {j:Nat} (h:j<1000):aJ zs (1000*S+j)=slot (zs S) j:=by
 unfold aJ
 rw[show(1000*S+j) / 1000=S from by omega,show(1000*S+j) % 1000=j from by omega]
theorem lG (m i:Nat):jr m i<10:=Nat.mod_lt _ (by decide)
theorem Fe (m:Nat):nd m<=6:=by unfold nd;repeat' split
                               all_goals omega
theorem Tu {m:Nat} (h:m<1000000):m<10 ^ nd m:=by
 rcases(by omega:m<10\/(10<=m/\m<100)\/(100<=m/\m<1000)\/(1000<=m/\m<10000)\/(10000<=m/\m<100000)\/100000<=m)with h3|⟨h3,h4⟩|⟨h3,h4⟩|⟨h3,h4⟩|⟨h3,h4⟩|h3
 ·rw[Zr h3];omega
 ·rw[Zq h3 h4];omega
 ·rw[Zp h3 h4];omega
 ·rw[Zo h3 h4];omega
 ·rw[Zn h3 h4];omega
 ·rw[Zm h3];omega
theorem Tv {m:Nat} (h0:0<m):10 ^ (nd m-1)<=m:=by
 rcases(by omega:m<10\/(10<=m/\m<100)\/(100<=m/\m<1000)\/(1000<=m/\m<10000)\/(10000<=m/\m<100000)\/100000<=m)with h3|⟨h3,h4⟩|⟨h3,h4⟩|⟨h3,h4⟩|⟨h3,h4⟩|h3
 ·rw[Zr h3];omega
 ·rw[Zq h3 h4];omega
 ·rw[Zp h3 h4];omega
 ·rw[Zo h3 h4];omega
 ·rw[Zn h3 h4];omega
 ·rw[Zm h3];omega
theorem Nr {m:Nat} (h:m<1000000):jr m 0=m / 10 ^ (nd m-1):=by
 have hp:=lu m
 have:=Tu h
 unfold jr
 rw[Nat.sub_zero]
 apply Nat.mod_eq_of_lt
 rw[Nat.div_lt_iff_lt_mul (Nat.pow_pos (by decide)),<-Nat.pow_succ',show(nd m-1).succ=nd m from by omega]
 exact this
theorem Wb {m:Nat} (h0:0<m) (h:m<1000000):0<jr m 0:=by
 rw[Nr h]
 exact Nat.div_pos (Tv h0) (Nat.pow_pos (by decide))
theorem To {m:Nat} (h0:0<m) (h:m<1000000):nz m<nd m/\0<m / 10 ^ nz m % 10:=by
 have hp:=lu m
 by_cases a1:m % 10≠0
 ·have e:nz m=0:=by unfold nz;rw[if_pos a1]
  rw[e];omega
 by_cases a2:m % 100≠0
 ·have e:nz m=1:=by unfold nz;rw[if_neg a1,if_pos a2]
  have:2<=nd m:=by unfold nd;repeat' split
                   all_goals omega
  rw[e];omega
 by_cases a3:m % 1000≠0
 ·have e:nz m=2:=by unfold nz;rw[if_neg a1,if_neg a2,if_pos a3]
  have:3<=nd m:=by unfold nd;repeat' split
                   all_goals omega
  rw[e];omega
 by_cases a4:m % 10000≠0
 ·have e:nz m=3:=by unfold nz;rw[if_neg a1,if_neg a2,if_neg a3,if_pos a4]
  have:4<=nd m:=by unfold nd;repeat' split
                   all_goals omega
  rw[e];omega
 by_cases a5:m % 100000≠0
 ·have e:nz m=4:=by unfold nz;rw[if_neg a1,if_neg a2,if_neg a3,if_neg a4,if_pos a5]
  have:5<=nd m:=by unfold nd;repeat' split
                   all_goals omega
  rw[e];omega
 ·have e:nz m=5:=by unfold nz;rw[if_neg a1,if_neg a2,if_neg a3,if_neg a4,if_neg a5]
  have:nd m=6:=Zm (by omega)
  rw[e];omega
theorem Wa {m:Nat} (h0:0<m) (h:m<1000000):0<jr m (nd m-nz m-1):=by
 have h2:=To h0 h
 unfold jr
 rw[show nd m-1-(nd m-nz m-1)=nz m from by omega]
 exact h2.2
theorem KW {m i:Nat} (h:i<nd m):10*(m / 10 ^ (nd m-i))+jr m i=m / 10 ^ (nd m-(i+1)):=by
 unfold jr
 rw[show nd m-i=(nd m-(i+1))+1 from by omega,Nat.pow_succ,<-Nat.div_div_eq_div_mul,show nd m-1-i=nd m-(i+1)from by omega]
 omega
theorem qO (m i:Nat):(UInt8.ofNat (48+jr m i)).toNat=48+jr m i:=by
 have:=lG m i
 rw[UInt8.toNat_ofNat'];omega
theorem qn {m i:Nat} (h:i<nd m):(bE m)[i]?=some (UInt8.ofNat (48+jr m i)):=by
 unfold bE
 rw[List.getElem?_map,List.getElem?_range h];rfl
def sg (b:Bool):Nat:=Bc b 1 0
theorem mT {z:Int} (h:z<0):stx z=45::bE z.natAbs:=by
 cases z with
 |ofNat m=>exact absurd h (Int.not_lt.2 (Int.natCast_nonneg m))
 |negSucc m=>rfl
theorem jH {z:Int} (h:0<=z):stx z=bE z.natAbs:=by
 cases z with
 |ofNat m=>rfl
 |negSucc m=>exact absurd h (Int.not_le.2 (Int.negSucc_lt_zero m))
theorem vX (z:Int) (b:Bool) (h:if b then z<0 else 0<=z):(stx z).length=nd z.natAbs+sg b:=by
 cases b with
 |true=>rw[mT h,List.length_cons,fc];rfl
 |false=>rw[jH h,fc];rfl
theorem Hv {z:Int} {b:Bool} (h:if b then z<0 else 0<=z) {i:Nat} (hi:i<nd z.natAbs):(stx z)[i+sg b]?=some (UInt8.ofNat (48+jr z.natAbs i)):=by
 cases b with
 |true=>rw[mT h];show(bE z.natAbs)[i]?=_;exact qn hi
 |false=>rw[jH h];exact qn hi
theorem wJ {l:List UInt8} {i:Nat} {c:UInt8} (h:l[i]?=some c):l.getD i 0=c:=by
 rw[List.getD_eq_getElem?_getD,h];rfl
abbrev QS:=Nat->Option (IntKind×Int×Int)
def zn (P:Sem->Prop) (iv:QS):Prop:=∀ s,P s->∀ k kd a b,iv k=some (kd,a,b)->0<k/\∃ n,s k=.int kd n/\a<=n/\n<=b
def leI (x y:Int):Bool:=!(pW y x)
theorem ZM (x y:Int):leI x y=decide (x<=y):=by
 unfold leI;rw[gG]
 by_cases h:x<=y
 ·rw[decide_eq_true h,decide_eq_false (by omega)];rfl
 ·rw[decide_eq_false h,decide_eq_true (by omega)];rfl
theorem abT (x y:Int):nQ x y=decide (x=y):=by rw[dY];rfl
def aay (op:BinOp) (a b c:Int):Option Bool:=match op with
 |.lss=>Bc (pW b c) (some true) (Bc (leI c a) (some false) none)
 |.leq=>Bc (leI b c) (some true) (Bc (pW c a) (some false) none)
 |.gtr=>Bc (pW c a) (some true) (Bc (leI b c) (some false) none)
 |.geq=>Bc (leI c a) (some true) (Bc (pW b c) (some false) none)
 |_=>none
def afo (a b c:Int):Option Bool:=Bc (pW c a||pW b c) (some false) (Bc (nQ a c&&nQ b c) (some true) none)
def bo (x:Option Bool):Option Value:=match x with|some r=>some (.bool r)|none=>none
theorem DK {x:Option Bool} {v:Value} (h:bo x=some v):∃ r,x=some r/\v=.bool r:=by
 cases x with
 |none=>cases h
 |some r=>exact⟨r,rfl,(Option.some.inj h).symm⟩
def UE (iv:QS):er->List Value->Option Value
 |.bin op,[.chan (some k),.int kd c]=>(match iv k with
  |some (kd',a,b)=>Bc (tD kd' kd) (bo (aay op a b c)) none
  |none=>none)
 |.eq .i,[.chan (some k),.int kd c]=>(match iv k with
  |some (kd',a,b)=>Bc (tD kd' kd) (bo (afo a b c)) none
  |none=>none)
 |_,_=>none
theorem Bc2 {α:Type} {p q:Bool} {x y z:α} (h:Bc p (some x) (Bc q (some y) none)=some z):(p=true/\x=z)\/(p=false/\q=true/\y=z):=by
 cases p with
 |true=>rw[aj]at h;exact .inl ⟨rfl,Option.some.inj h⟩
 |false =>
  rw[au]at h
  cases q with
  |true=>rw[aj]at h;exact .inr ⟨rfl,rfl,Option.some.inj h⟩
  |false=>rw[au]at h;cases h
theorem Ns {op:BinOp} {kd:IntKind} {a b c n:Int} {r:Bool} (h:aay op a b c=some r) (h1:a<=n) (h2:n<=b):gD op (.int kd n) (.int kd c)=some (.bool r):=by
 have ek:∀ k:IntKind,tD k k=true:=λk=>by cases k<;>rfl
 unfold aay at h
 cases op<;>try (cases h;done)
 all_goals
  rcases Bc2 h with⟨p,rfl⟩|⟨p,q,rfl⟩ <;>
  (show Bc (tD kd kd) _ none=_
   rw[ek,aj]
   simp only[gG,ZM,decide_eq_true_eq,decide_eq_false_iff_not]at *
   simp only[iz,gG]
   congr 2
   first
    |(rw[decide_eq_true_eq];omega)
    |(rw[decide_eq_false_iff_not];omega)
    |(rw[Bool.not_eq_true',decide_eq_false_iff_not];omega)
    |(rw[Bool.not_eq_false',decide_eq_true_eq];omega))
theorem aaz {a b c n:Int} {r:Bool} (h:afo a b c=some r) (h1:a<=n) (h2:n<=b):nQ n c=r:=by
 unfold afo at h
 rw[abT]
 rcases Bc2 h with⟨p,rfl⟩|⟨p,q,rfl⟩
 ·simp only[gG,Bool.or_eq_true,decide_eq_true_eq]at p
  rw[decide_eq_false_iff_not];omega
 ·simp only[abT,Bool.and_eq_true,decide_eq_true_eq]at q
  rw[decide_eq_true_eq];omega
theorem Dd {P:Sem->Prop} {iv:QS} (hi:zn P iv):ki P (UE iv):=by
 intro s hP h l v e
 unfold UE at e
 have ek:∀ k:IntKind,tD k k=true:=λk=>by cases k<;>rfl
 split at e
 ·rename_i op k kd c
  cases e1:iv k with
  |none=>simp only[e1]at e;cases e
  |some q =>
   obtain⟨kd',a,b⟩:=q
   simp only[e1]at e
   obtain⟨h1,e9⟩:=aq e
   have:=iB h1;subst this
   obtain⟨h0,n,hn,ha,hb⟩:=hi s hP k _ a b e1
   obtain⟨r,e2,rfl⟩:=DK e9
   ·refine⟨Ia h0,rfl,?_⟩
    show iW (.bin op) [s k,.int kd' c]=some (.bool r)
    rw[hn]
    exact Ns e2 ha hb
 ·rename_i k kd c
  cases e1:iv k with
  |none=>simp only[e1]at e;cases e
  |some q =>
   obtain⟨kd',a,b⟩:=q
   simp only[e1]at e
   obtain⟨h1,e9⟩:=aq e
   have:=iB h1;subst this
   obtain⟨h0,n,hn,ha,hb⟩:=hi s hP k _ a b e1
   obtain⟨r,e2,rfl⟩:=DK e9
   ·refine⟨Ia h0,rfl,?_⟩
    show iW (.eq .i) [s k,.int kd' c]=some (.bool r)
    rw[hn]
    show Bc (tD kd' kd') (some (Value.bool (nQ n c))) none=some (Value.bool r)
    rw[ek,aj,aaz e2 ha hb]
 ·cases e
structure Sh where
 L:Nat
 q:Nat
 ng:Bool
 lo:Nat
 hi:Nat
structure th (sh:Sh) (z:Int):Prop where
 L:nd z.natAbs=sh.L
 q:sh.q<6->nz z.natAbs=sh.q/\0<z.natAbs
 lo:sh.lo<=z.natAbs
 hi:z.natAbs<=sh.hi
 h6:sh.hi<1000000
 ng:if sh.ng then z<0 else 0<=z
def ivD (S:Nat) (sh:Sh):QS:=λk =>
 Bc (Nat.beq k (1000*S)) (Bc (Nat.beq S 0) none (some (.i64,Bc sh.ng (-(sh.hi:Int)) sh.lo,Bc sh.ng (-(sh.lo:Int)) sh.hi)))
 (Bc (Nat.blt k (1000*S+1)) none
 (Bc (Nat.beq k (1000*S+1)) (some (.i64,sh.lo,sh.hi))
 (Bc (Nat.blt k (1000*S+100)) none
 (Bc (Nat.blt k (1000*S+120)) (some (.u8,Bc (Nat.blt sh.q 6&&(Nat.beq k (1000*S+100)||Nat.beq (k+sh.q+1) (1000*S+100+sh.L))) 49 48,57))
 (Bc (Nat.blt k (1000*S+160)) none
 (Bc (Nat.blt k (1000*S+180)) (some (.i64,((sh.lo / 10 ^ (sh.L-(k-(1000*S+160))):Nat):Int),((sh.hi / 10 ^ (sh.L-(k-(1000*S+160))):Nat):Int)))
 (Bc (Nat.blt k (1000*S+200)) none
 (Bc (Nat.beq k (1000*S+200)&&sh.ng) (some (.u8,45,45))
 (Bc (Nat.blt k (1000*S+200+sg sh.ng+sh.L)) (some (.u8,48,57)) none)))))))))
theorem KK (b:Bool):sg b<=1:=by cases b<;>decide
theorem Uo {Q:(Nat->Int)->Prop} {S:Nat} {sh:Sh} (hQ:∀ zs,Q zs->th sh (zs S)):zn (PW Q) (ivD S sh):=by
 rintro s ⟨zs,rfl,hl,hr,hq⟩ k kd a b e
 have o:=hQ zs hq
 have h6:(zs S).natAbs<1000000:=Nat.lt_of_le_of_lt o.hi o.h6
 have hlo:=o.lo
 have hhi:=o.hi
 have hnd:=Fe (zs S).natAbs
 unfold ivD at e
 by_cases c0:k=1000*S
 ·rw[(beq_iff _ _).2 c0,aj]at e
  cases S with
  |zero=>cases e
  |succ S =>
   subst c0
   cases e
   refine⟨by omega,zs (S+1),gz zs (S+1) (j:=0) (by omega),?_⟩
   have mP:=o.ng
   cases hb:sh.ng with
   |true=>rw[hb,if_pos rfl]at mP;rw[aj,aj];omega
   |false=>rw[hb,if_neg Bool.false_ne_true]at mP;rw[au,au];omega
 rw[show Nat.beq k (1000*S)=false from by rw[<-Bool.not_eq_true,beq_iff];exact c0,au]at e
 cases c1:Nat.blt k (1000*S+1)with
 |true=>rw[c1,aj]at e;cases e
 |false =>
 rw[c1,au]at e
 rw[<-Bool.not_eq_true,an]at c1
 cases c2:Nat.beq k (1000*S+1)with
 |true =>
  rw[c2,aj]at e
  have:=(beq_iff _ _).1 c2;subst this
  cases e
  exact⟨by omega,((zs S).natAbs:Int),gz zs S (j:=1) (by omega),by omega,by omega⟩
 |false =>
 rw[c2,au]at e
 cases c3:Nat.blt k (1000*S+100)with
 |true=>rw[c3,aj]at e;cases e
 |false =>
 rw[c3,au]at e
 rw[<-Bool.not_eq_true,an]at c3
 cases c4:Nat.blt k (1000*S+120)with
 |true =>
  rw[c4,aj]at e
  rw[an]at c4
  obtain⟨i,rfl⟩:∃ i,k=1000*S+(100+i):=⟨k-1000*S-100,by omega⟩
  refine⟨by omega,((48+jr (zs S).natAbs i:Nat):Int),?_⟩
  have hd:=lG (zs S).natAbs i
  cases e
  refine⟨(gz zs S (by omega)).trans (rG _ (by omega)),?_,by omega⟩
  cases hb:(Nat.blt sh.q 6&&(Nat.beq (1000*S+(100+i)) (1000*S+100)||Nat.beq (1000*S+(100+i)+sh.q+1) (1000*S+100+sh.L)))with
  |false=>rw[au];omega
  |true =>
   rw[aj]
   simp only[Bool.and_eq_true,Bool.or_eq_true,an,beq_iff]at hb
   obtain⟨q1,q2⟩:=o.q hb.1
   have hpos:0<jr (zs S).natAbs i:=by
    rcases hb.2 with h|h
    ·rw[show i=0 from by omega];exact Wb q2 h6
    ·have:=Wa q2 h6
     rw[o.L,q1]at this
     rw[show i=sh.L-sh.q-1 from by omega];exact this
   omega
 |false =>
 rw[c4,au]at e
 rw[<-Bool.not_eq_true,an]at c4
 cases c5:Nat.blt k (1000*S+160)with
 |true=>rw[c5,aj]at e;cases e
 |false =>
 rw[c5,au]at e
 rw[<-Bool.not_eq_true,an]at c5
 cases c6:Nat.blt k (1000*S+180)with
 |true =>
  rw[c6,aj]at e
  rw[an]at c6
  obtain⟨i,rfl⟩:∃ i,k=1000*S+(160+i):=⟨k-1000*S-160,by omega⟩
  rw[show 1000*S+(160+i)-(1000*S+160)=i from by omega]at e
  cases e
  refine⟨by omega,(((zs S).natAbs / 10 ^ (nd (zs S).natAbs-i):Nat):Int),(gz zs S (by omega)).trans (ox _ (by omega)),?_⟩
  rw[o.L]
  exact⟨Int.ofNat_le.2 (Nat.div_le_div_right hlo),Int.ofNat_le.2 (Nat.div_le_div_right hhi)⟩
 |false =>
 rw[c6,au]at e
 rw[<-Bool.not_eq_true,an]at c6
 cases c7:Nat.blt k (1000*S+200)with
 |true=>rw[c7,aj]at e;cases e
 |false =>
 rw[c7,au]at e
 rw[<-Bool.not_eq_true,an]at c7
 have mP:=o.ng
 have hL:=o.L
 cases c8:(Nat.beq k (1000*S+200)&&sh.ng)with
 |true =>
  rw[c8,aj]at e
  rw[Bool.and_eq_true,beq_iff]at c8
  obtain⟨rfl,hb⟩:=c8
  cases e
  rw[hb,if_pos rfl]at mP
  refine⟨by omega,45,?_,by omega,by omega⟩
  refine(gz zs S (j:=200+0) (by omega)).trans ((ow _ (by omega)).trans ?_)
  rw[mT mP];rfl
 |false =>
 rw[c8,au]at e
 obtain⟨c9,e⟩:=aq e
 rw[an]at c9
 cases e
 have hs:=KK sh.ng
 obtain⟨i,rfl⟩:∃ i,k=1000*S+(200+(i+sg sh.ng)):=by
  refine⟨k-1000*S-200-sg sh.ng,?_⟩
  cases hb:sh.ng with
  |false=>show k=1000*S+(200+(k-1000*S-200-0+0));omega
  |true =>
   rw[hb,Bool.and_true]at c8
   have:¬ k=1000*S+200:=λh=>by rw[(beq_iff _ _).2 h]at c8;cases c8
   show k=1000*S+(200+(k-1000*S-200-1+1));omega
 have hi:i<nd (zs S).natAbs:=by omega
 have hd:=lG (zs S).natAbs i
 refine⟨by omega,((48+jr (zs S).natAbs i:Nat):Int),?_,by omega,by omega⟩
 refine(gz zs S (by omega)).trans ((ow _ (by omega)).trans ?_)
 rw[wJ (Hv mP hi),qO];rfl
def Xt (S k a b:Nat):Bool:=Nat.ble (1000*S+a) k&&Nat.blt k (1000*S+b)
theorem mZ {S k a b:Nat} (h:Xt S k a b=true):∃ i,k=1000*S+(a+i)/\a+i<b:=by
 simp only[Xt,Bool.and_eq_true,aE,an]at h
 exact⟨k-1000*S-a,by omega,by omega⟩
def oL (s:ByteArray) (l:List UInt8):Bool:=p8 s.data.toList l
theorem fV {s:ByteArray} {l:List UInt8} (h:oL s l=true):s=⟨⟨l⟩⟩:=by
 unfold oL at h
 rw[gv,beq_iff_eq]at h
 cases s with
 |mk d=>cases d with
  |mk t=>simp only at h;rw[h]
def hkD (S:Nat) (sh:Sh):er->List Value->Option Value
 |.len,[.chan (some k)]=>Bc (Nat.beq k (1000*S+2)) (some (nI .i64 sh.L)) (Bc (Nat.beq k (1000*S+3)&&Nat.blt sh.q 6) (some (nI .i64 (sh.L-sh.q))) (Bc (Nat.beq k (1000*S+4)) (some (nI .i64 (sh.L+sg sh.ng))) none))
 |.eq .s,[.chan (some k),.string s]=>Bc (Nat.beq k (1000*S+3)&&(Nat.blt sh.q 6&&(Nat.blt sh.q sh.L&&oL s []))) (some (.bool false)) none
 |.eq .s,[.chan (some k),.chan (some j)]=>Bc (Nat.beq k (1000*S+4)&&(Nat.beq j (1000*S+4)||(Nat.beq j (1000*S+2)&&!sh.ng))) (some (.bool true)) none
 |.A5,[.chan (some k),.int .i64 (.ofNat i)]=>Bc (Nat.beq k (1000*S+2)&&Nat.blt i sh.L) (some (sy (1000*S+(100+i)))) (Bc (Nat.beq k (1000*S+3)&&(Nat.blt sh.q 6&&Nat.blt i (sh.L-sh.q))) (some (sy (1000*S+(100+i))))
  (Bc (Nat.beq k (1000*S+4)&&Nat.blt i (sh.L+sg sh.ng)) (some (sy (1000*S+(200+i)))) none))
 |.bin .sub,[.chan (some k),.int .u8 (.ofNat 48)]=>Bc (Xt S k 100 120) (some (sy (k+20))) none
 |.jM .i64,[.chan (some k)]=>Bc (Xt S k 120 140) (some (sy (k+20))) none
 |.jM .i32,[.chan (some k)]=>Bc (Xt S k 200 207) (some (sy (k+260))) none
 |.chr,[.chan (some k)]=>Bc (Xt S k (460+sg sh.ng) (460+sg sh.ng+sh.L)) (some (sy (k+20))) none
 |.neg,[.chan (some k)]=>Bc (Nat.beq k (1000*S)&&(sh.ng&&!(Nat.beq S 0))) (some (sy (1000*S+1))) none
 |.bin .add,[.int .i64 (.ofNat 0),.chan (some k)]=>Bc (Nat.beq k (1000*S+140)) (some (sy (1000*S+161))) none
 |.bin .mul,[.int .i64 (.ofNat 10),.chan (some k)]=>Bc (Xt S k 160 167) (some (sy (k+20))) none
 |.bin .add,[.chan (some j),.chan (some k)]=>Bc (Xt S j 180 187&&(Nat.beq j (k+40)&&Nat.blt j (1000*S+180+sh.L))) (some (sy (j-19)))
  (Bc (Xt S j 500 506&&(Nat.beq (j+sg sh.ng) (k+20)&&Nat.blt j (1000*S+500+sh.L))) (some (sy (Bc (Nat.beq (j+1) (1000*S+500+sh.L)) (1000*S+2) (j+1)))) none)
 |.bin .add,[.chan (some k),.string s]=>Bc (Nat.beq k (1000*S+3)&&(Nat.blt sh.q 6&&oL s (List.replicate sh.q 48))) (some (sy (1000*S+2))) none
 |.bin .add,[.string s,.chan (some k)]=>Bc (oL s []&&Nat.beq k (1000*S+(480+sg sh.ng))) (some (sy (Bc (Nat.beq sh.L 1) (1000*S+2) (1000*S+501)))) none
 |_,_=>none
theorem qc {m i:Nat} (h:i<nd m):(bE m).take i++[UInt8.ofNat (48+jr m i)]=(bE m).take (i+1):=by
 rw[List.take_add_one,qn h];rfl
theorem q_ {m i:Nat} (h:nd m<=i):(bE m).take i=bE m:=List.take_of_length_le (by rw[fc];exact h)
theorem N5 {m:Nat} (h0:0<m) (h:m<1000000):(bE m).take (nd m-nz m)++List.replicate (nz m) 48=bE m:=by
 have hL:nz m<=nd m:=by
  unfold nz
  repeat' split
  all_goals (unfold nd;repeat' split)
  all_goals omega
 apply List.ext_getElem?
 intro i
 by_cases hi:i<nd m-nz m
 ·rw[List.getElem?_append_left (by rw[List.length_take,fc];omega),List.getElem?_take_of_lt hi]
 ·rw[List.getElem?_append_right (by rw[List.length_take,fc];omega),List.length_take,fc,show min (nd m-nz m) (nd m)=nd m-nz m from by omega]
  by_cases h2:i<nd m
  ·rw[List.getElem?_replicate, if_pos (by omega),qn h2]
   congr 1
   have hz:jr m i=0:=by
    unfold jr
    have key:∀ j,j<nz m->m / 10 ^ j % 10=0:=by
     intro j hj
     have h5:nz m<=5:=by unfold nz;repeat' split
                         all_goals omega
     have:m % 10 ^ (nz m)=0:=by
      unfold nz
      repeat' split
      all_goals simp<;>omega
     rcases(by omega:j=0\/j=1\/j=2\/j=3\/j=4)with rfl|rfl|rfl|rfl|rfl <;>
     rcases(by omega:nz m=0\/nz m=1\/nz m=2\/nz m=3\/nz m=4\/nz m=5)with e|e|e|e|e|e<;>rw[e]at this hj<;>simp at this ⊢<;>omega
    exact key _ (by omega)
   rw[hz];rfl
  ·rw[List.getElem?_eq_none (by rw[List.length_replicate];omega),List.getElem?_eq_none (by rw[fc];omega)]
theorem XW {m i:Nat} (h:i<nd m):Utf8.encode ((48+jr m i:Nat):Int)=⟨⟨[UInt8.ofNat (48+jr m i)]⟩⟩:=by
 have:=lG m i
 generalize jr m i=d at this
 rcases(by omega:d=0\/d=1\/d=2\/d=3\/d=4\/d=5\/d=6\/d=7\/d=8\/d=9)with rfl|rfl|rfl|rfl|rfl|rfl|rfl|rfl|rfl|rfl<;>rfl
theorem xe {z:Int} {b:Bool} (h:if b then z<0 else 0<=z) {i:Nat} (hi:i<nd z.natAbs):((stx z).drop (sg b+i)).take 1=[UInt8.ofNat (48+jr z.natAbs i)]:=by
 have:=Hv h hi
 rw[show i+sg b=sg b+i from by omega]at this
 rw[List.take_one,List.head?_drop,this];rfl
end Go.Proofs.CN
end
