/-
 A part of the proof that pliantlaw15.RtsAreas returns true and leaves its arguments alone. Conditions: those of the card in the last text.
-/
import Derived.KernelRfl
import Derived.Test.YtgdejggelcpokaaGreatDoorG10
import Derived.Test.YtgdejggelcpokaaGreatDoorG11
import Derived.Test.YtgdejggelcpokaaGreatDoorG27
import Derived.Test.YtgdejggelcpokaaGreatDoorG30
import Derived.Test.YtgdejggelcpokaaGreatDoorG37
set_option linter.unusedSimpArgs false
set_option linter.unusedVariables false
set_option linter.unusedSectionVars false
noncomputable section
namespace Go.Proofs.RS
open Go Go.Ev Go.Proofs
noncomputable def areas_body:Code:=(Tryz.f4.body).getD .skip
def areas_r0:List CO:=[
 oN 4 (.mv (.const (.bool false)))]
def areas_r1:List CO:=[
 oN 35 (.call (.func 6) []),
 oN 36 (.un .not (.tmp 35))]
def areas_r2:List CO:=[
 oN 4 (.mv (.const (.bool false)))]
def areas_r3:List CO:=[
 oN 37 (.mv (.tmp 1)),
 oN 38 (.len 1 (.tmp 37)),
 oN 39 (.bin .gtr (.tmp 38) (oK 30))]
def areas_r4:List CO:=[
 oN 4 (.mv (.const (.bool true)))]
def areas_r5:List CO:=[
 oN 40 (.mv (.tmp 0)),
 oN 41 (.bin .rem (.tmp 40) (oK 63)),
 oN 42 (.bin .add (.tmp 41) (oK 63)),
 oN 43 (.bin .rem (.tmp 42) (oK 63)),
 oN 44 (.bin .mul (oK 8) (.tmp 43)),
 oN 45 (.bin .add (oK 16) (.tmp 44)),
 oN 0 (.mv (.tmp 45))]
def areas_r6:List CO:=[
 oN 47 (.call (.func 7) []),
 oN 46 (.mv (.tmp 47)),
 oN 48 (.ext (.tmp 46) 0),
 oN 49 (.ext (.tmp 46) 1),
 oN 5 (.alloc (blkL [.slice none 0 0,.int .i64 (0),.slice none 0 0,.slice none 0 0,.slice none 0 0,.slice none 0 0] 29 0)),
 oN 6 (.alloc (blkL [.slice none 0 0,.slice none 0 0,.int .i64 (0)] 32 0)),
 oU (.st 6 (.tmp 5) (.tmp 48)),
 oU (.st 3 (.tmp 6) (.tmp 49))]
def areas_r7:List CO:=[
 oN 50 (.fa 1 (.tmp 5)),
 oU (.st 1 (.tmp 50) (oK 16384))]
def areas_r8:List CO:=[
 oN 52 (.ldN 6 (.tmp 5)),
 oN 53 (.ldN 3 (.tmp 6)),
 oN 54 (.call (.func 8) [(.tmp 52),(.tmp 53)]),
 oN 51 (.mv (.tmp 54)),
 oN 55 (.ext (.tmp 51) 0),
 oN 56 (.ext (.tmp 51) 1),
 oN 7 (.mv (.tmp 55)),
 oN 8 (.mv (.tmp 56))]
def areas_r9:List CO:=[
 oN 57 (.mv (.tmp 8)),
 oN 58 (.eq true (.one .i) (.tmp 57) (oK 0)),
 oN 59 (.mv (.tmp 58)),
 ⟨(some 60),(some (59,false)),.mv (.tmp 7)⟩,
 ⟨(some 61),(some (59,false)),.eq false (.one .p) (.tmp 60) (.const (.pointer none))⟩,
 oN 62 (.pick (.tmp 59) (.const (.bool true)) (.tmp 61))]
def areas_r10:List CO:=[
 oN 4 (.mv (.const (.bool false)))]
def areas_r11:List CO:=[
 oN 64 (.mv (.tmp 7)),
 oN 65 (.call (.func 10) [(.tmp 64),(oK 2),(oK 0),(oK 0)]),
 oN 63 (.mv (.tmp 65)),
 oN 66 (.ext (.tmp 63) 0),
 oN 67 (.ext (.tmp 63) 1),
 oN 9 (.mv (.tmp 66)),
 oN 10 (.mv (.tmp 67))]
def areas_r12:List CO:=[
 oN 68 (.mv (.tmp 9)),
 oN 69 (.bin .add (.tmp 68) (oK 8192)),
 oN 11 (.mv (.tmp 69))]
def areas_r13:List CO:=[
 oN 70 (.mv (.tmp 10)),
 oN 71 (.eq true (.one .i) (.tmp 70) (oK 0))]
def areas_r14:List CO:=[
 oN 4 (.mv (.const (.bool false)))]
def areas_r15:List CO:=[
 oN 72 (.build [.int .i64 (0),.int .i64 (0),.int .i64 (0),.bool false,.string ⟨#[]⟩] [(0,1,(oK 3)),(1,1,(oK 1))]),
 oN 12 (.alloc (blkL [.int .i64 (0),.int .i64 (0),.int .i64 (0),.bool false,.string ⟨#[]⟩] 40 0)),
 oU (.st 5 (.tmp 12) (.tmp 72))]
def areas_r16:List CO:=[
 oN 13 (.mv (.const (.slice none 0 0)))]
def areas_r17:List CO:=[
 oN 73 (.mv (.tmp 1)),
 oN 74 (.len 1 (.tmp 73)),
 oN 75 (.mv (oK 0))]
def areas_r18:List CO:=[
 oN 76 (.bin .lss (.tmp 75) (.tmp 74))]
def areas_r19:List CO:=[
 oN 77 (.mv (.tmp 75)),
 oN 78 (.iaS 1 (.tmp 73) (.tmp 75)),
 oN 79 (.ld1 (.tmp 78)),
 oN 14 (.mv (.tmp 77)),
 oN 15 (.mv (.tmp 79))]
def areas_r20:List CO:=[
 oN 80 (.mv (.tmp 15)),
 oN 81 (.bin .lss (.tmp 80) (oK 0)),
 oN 82 (.mv (.tmp 81)),
 ⟨(some 83),(some (82,true)),.mv (.tmp 13)⟩,
 ⟨(some 84),(some (82,true)),.len 1 (.tmp 83)⟩,
 ⟨(some 85),(some (82,true)),.bin .gtr (.tmp 84) (.const (.int .i64 (0)))⟩,
 oN 86 (.pick (.tmp 82) (.tmp 85) (.const (.bool false)))]
def areas_r21:List CO:=[
 oN 87 (.mv (.tmp 15)),
 oN 88 (.mv (.tmp 13)),
 oN 89 (.len 1 (.tmp 88)),
 oN 90 (.bin .rem (.tmp 87) (.tmp 89)),
 oN 91 (.mv (.tmp 13)),
 oN 92 (.len 1 (.tmp 91)),
 oN 93 (.bin .add (.tmp 90) (.tmp 92)),
 oN 94 (.mv (.tmp 13)),
 oN 95 (.len 1 (.tmp 94)),
 oN 96 (.bin .rem (.tmp 93) (.tmp 95)),
 oN 16 (.mv (.tmp 96))]
def areas_r22:List CO:=[
 oN 97 (.mv (.tmp 7)),
 oN 98 (.mv (.tmp 13)),
 oN 99 (.mv (.tmp 16)),
 oN 100 (.iaS 3 (.tmp 98) (.tmp 99)),
 oN 101 (.fa 0 (.tmp 100)),
 oN 102 (.ld1 (.tmp 101)),
 oN 103 (.mv (.tmp 9)),
 oN 104 (.mv (.tmp 0)),
 oN 105 (.call (.func 16) [(.tmp 97),(.tmp 102),(.tmp 103),(.tmp 104)]),
 oN 106 (.eq true (.one .i) (.tmp 105) (oK 0))]
def areas_r23:List CO:=[
 oN 4 (.mv (.const (.bool false)))]
def areas_r24:List CO:=[
 oN 107 (.mv (.tmp 13)),
 oN 108 (.mv (.tmp 16)),
 oN 109 (.mv (.tmp 16)),
 oN 110 (.bin .add (.tmp 109) (oK 1)),
 oN 111 (.call (.func 17) [(.tmp 107),(.tmp 108),(.tmp 110)]),
 oN 13 (.mv (.tmp 111))]
def areas_r25:List CO:=[
 oN 112 (.mv (.tmp 15)),
 oN 113 (.bin .rem (.tmp 112) (oK 64)),
 oN 114 (.bin .add (.tmp 113) (oK 64)),
 oN 115 (.bin .rem (.tmp 114) (oK 64)),
 oN 116 (.bin .add (oK 1) (.tmp 115)),
 oN 17 (.mv (.tmp 116))]
def areas_r26:List CO:=[
 oN 118 (.mv (.tmp 7)),
 oN 119 (.mv (.tmp 17)),
 oN 120 (.bin .mul (oK 8) (.tmp 119)),
 oN 121 (.mv (.tmp 9)),
 oN 122 (.mv (.tmp 0)),
 oN 123 (.call (.func 18) [(.tmp 118),(.tmp 120),(.tmp 121),(.tmp 122)]),
 oN 117 (.mv (.tmp 123)),
 oN 124 (.ext (.tmp 117) 0),
 oN 125 (.ext (.tmp 117) 1),
 oN 126 (.ext (.tmp 117) 2),
 oN 18 (.mv (.tmp 124)),
 oN 19 (.mv (.tmp 125)),
 oN 20 (.mv (.tmp 126))]
def areas_r27:List CO:=[
 oN 127 (.mv (.tmp 20)),
 oN 128 (.eq true (.one .i) (.tmp 127) (oK 0)),
 oN 129 (.mv (.tmp 128)),
 ⟨(some 130),(some (129,false)),.mv (.tmp 19)⟩,
 ⟨(some 131),(some (129,false)),.un .not (.tmp 130)⟩,
 ⟨(some 132),(some (129,false)),.mv (.tmp 131)⟩,
 ⟨(some 133),(some (132,true)),.mv (.tmp 18)⟩,
 ⟨(some 134),(some (132,true)),.eq true (.one .i) (.tmp 133) (.const (.int .i64 (0)))⟩,
 ⟨(some 135),(some (129,false)),.pick (.tmp 132) (.tmp 134) (.const (.bool false))⟩,
 oN 136 (.pick (.tmp 129) (.const (.bool true)) (.tmp 135))]
def areas_r28:List CO:=[
 oN 4 (.mv (.const (.bool false)))]
def areas_r29:List CO:=[
 oN 137 (.mv (.tmp 19)),
 oN 138 (.un .not (.tmp 137))]
def areas_r30:List CO:=[
 oN 139 (.mv (.tmp 18)),
 oN 140 (.mv (.tmp 9)),
 oN 141 (.bin .lss (.tmp 139) (.tmp 140)),
 oN 142 (.mv (.tmp 141)),
 ⟨(some 143),(some (142,false)),.mv (.tmp 18)⟩,
 ⟨(some 144),(some (142,false)),.mv (.tmp 17)⟩,
 ⟨(some 145),(some (142,false)),.bin .mul (.const (.int .i64 (8))) (.tmp 144)⟩,
 ⟨(some 146),(some (142,false)),.bin .add (.tmp 143) (.tmp 145)⟩,
 ⟨(some 147),(some (142,false)),.mv (.tmp 9)⟩,
 ⟨(some 148),(some (142,false)),.mv (.tmp 0)⟩,
 ⟨(some 149),(some (142,false)),.bin .mul (.const (.int .i64 (8))) (.tmp 148)⟩,
 ⟨(some 150),(some (142,false)),.bin .add (.tmp 147) (.tmp 149)⟩,
 ⟨(some 151),(some (142,false)),.bin .gtr (.tmp 146) (.tmp 150)⟩,
 oN 152 (.pick (.tmp 142) (.const (.bool true)) (.tmp 151))]
def areas_r31:List CO:=[
 oN 4 (.mv (.const (.bool false)))]
def areas_r32:List CO:=[
 oN 153 (.mv (.tmp 13)),
 oN 154 (.len 1 (.tmp 153)),
 oN 155 (.mv (oK 0))]
def areas_r33:List CO:=[
 oN 156 (.bin .lss (.tmp 155) (.tmp 154))]
def areas_r34:List CO:=[
 oN 157 (.iaS 3 (.tmp 153) (.tmp 155)),
 oN 158 (.ldN 3 (.tmp 157)),
 oN 22 (.alloc (blkL [.int .i64 (0),.int .i64 (0),.int .u8 (0)] 56 0)),
 oU (.st 3 (.tmp 22) (.tmp 158))]
def areas_r35:List CO:=[
 oN 159 (.mv (.tmp 18)),
 oN 160 (.fa 0 (.tmp 22)),
 oN 161 (.ld1 (.tmp 160)),
 oN 162 (.fa 1 (.tmp 22)),
 oN 163 (.ld1 (.tmp 162)),
 oN 164 (.bin .mul (oK 8) (.tmp 163)),
 oN 165 (.bin .add (.tmp 161) (.tmp 164)),
 oN 166 (.bin .lss (.tmp 159) (.tmp 165)),
 oN 167 (.mv (.tmp 166)),
 ⟨(some 168),(some (167,true)),.fa 0 (.tmp 22)⟩,
 ⟨(some 169),(some (167,true)),.ld1 (.tmp 168)⟩,
 ⟨(some 170),(some (167,true)),.mv (.tmp 18)⟩,
 ⟨(some 171),(some (167,true)),.mv (.tmp 17)⟩,
 ⟨(some 172),(some (167,true)),.bin .mul (.const (.int .i64 (8))) (.tmp 171)⟩,
 ⟨(some 173),(some (167,true)),.bin .add (.tmp 170) (.tmp 172)⟩,
 ⟨(some 174),(some (167,true)),.bin .lss (.tmp 169) (.tmp 173)⟩,
 oN 175 (.pick (.tmp 167) (.tmp 174) (.const (.bool false)))]
def areas_r36:List CO:=[
 oN 4 (.mv (.const (.bool false)))]
def areas_r37:List CO:=[
 oN 176 (.bin .add (.tmp 155) (oK 1)),
 oN 155 (.mv (.tmp 176))]
noncomputable def areas_l38:KC :=
 (.seq (.reg areas_r33)
 (.seq (.cond (.tmp 156) .skip
  (.exit 2))
 (.seq (.block 3 (.seq (.reg areas_r34)
  (.seq (.reg areas_r35)
  (.cond (.tmp 175) (.seq (.reg areas_r36)
   .ret)
   .skip))))
 (.reg areas_r37))))
def areas_r39:List CO:=[
 oN 177 (.mv (.tmp 17)),
 oN 178 (.mv (oK 0))]
def areas_r40:List CO:=[
 oN 179 (.bin .lss (.tmp 178) (.tmp 177))]
def areas_r41:List CO:=[
 oN 180 (.mv (.tmp 178)),
 oN 23 (.mv (.tmp 180))]
def areas_r42:List CO:=[
 oN 182 (.mv (.tmp 7)),
 oN 183 (.mv (.tmp 18)),
 oN 184 (.mv (.tmp 23)),
 oN 185 (.bin .mul (oK 8) (.tmp 184)),
 oN 186 (.bin .add (.tmp 183) (.tmp 185)),
 oN 187 (.ldN 5 (.tmp 12)),
 oN 188 (.call (.func 15) [(.tmp 182),(.tmp 186),(.tmp 187)]),
 oN 181 (.mv (.tmp 188)),
 oN 189 (.ext (.tmp 181) 0),
 oN 190 (.ext (.tmp 181) 1),
 oN 24 (.alloc (blkL [.int .i64 (0),.string ⟨#[]⟩] 47 0)),
 oU (.st 2 (.tmp 24) (.tmp 189)),
 oN 25 (.mv (.tmp 190))]
def areas_r43:List CO:=[
 oN 191 (.mv (.tmp 25)),
 oN 192 (.eq true (.one .i) (.tmp 191) (oK 0)),
 oN 193 (.mv (.tmp 192)),
 ⟨(some 194),(some (193,false)),.fa 1 (.tmp 24)⟩,
 ⟨(some 195),(some (193,false)),.ld1 (.tmp 194)⟩,
 ⟨(some 196),(some (193,false)),.eq true (.one .s) (.tmp 195) (.const (.string ⟨#[0]⟩))⟩,
 oN 197 (.pick (.tmp 193) (.const (.bool true)) (.tmp 196)),
 oN 198 (.mv (.tmp 197)),
 ⟨(some 199),(some (198,false)),.mv (.tmp 7)⟩,
 ⟨(some 200),(some (198,false)),.mv (.tmp 18)⟩,
 ⟨(some 201),(some (198,false)),.mv (.tmp 23)⟩,
 ⟨(some 202),(some (198,false)),.bin .mul (.const (.int .i64 (8))) (.tmp 201)⟩,
 ⟨(some 203),(some (198,false)),.bin .add (.tmp 200) (.tmp 202)⟩,
 ⟨(some 204),(some (198,false)),.ldN 5 (.tmp 12)⟩,
 ⟨(some 205),(some (198,false)),.mv (.tmp 14)⟩,
 ⟨(some 206),(some (198,false)),.bin .add (.const (.int .i64 (33))) (.tmp 205)⟩,
 ⟨(some 207),(some (198,false)),.cInt .u8 (.tmp 206)⟩,
 ⟨(some 208),(some (198,false)),.bslice 1 5 [.int .u8 (0)] [(0,1,(.tmp 207))]⟩,
 ⟨(some 209),(some (198,false)),.cToS (.tmp 208)⟩,
 ⟨(some 210),(some (198,false)),.build [.int .i64 (0),.string ⟨#[]⟩] [(1,1,(.tmp 209))]⟩,
 ⟨(some 211),(some (198,false)),.call (.func 11) [(.tmp 199),(.tmp 203),(.tmp 204),(.tmp 210)]⟩,
 ⟨(some 212),(some (198,false)),.eq true (.one .i) (.tmp 211) (.const (.int .i64 (0)))⟩,
 oN 213 (.pick (.tmp 198) (.const (.bool true)) (.tmp 212))]
def areas_r44:List CO:=[
 oN 4 (.mv (.const (.bool false)))]
def areas_r45:List CO:=[
 oN 214 (.bin .add (.tmp 178) (oK 1)),
 oN 178 (.mv (.tmp 214))]
noncomputable def areas_l46:KC :=
 (.seq (.reg areas_r40)
 (.seq (.cond (.tmp 179) .skip
  (.exit 4))
 (.seq (.block 5 (.seq (.reg areas_r41)
  (.seq (.reg areas_r42)
  (.seq (.reg areas_r43)
  (.cond (.tmp 213) (.seq (.reg areas_r44)
   .ret)
   .skip)))))
 (.reg areas_r45))))
def areas_r47:List CO:=[
 oN 215 (.mv (.tmp 13)),
 oN 216 (.mv (.tmp 18)),
 oN 217 (.mv (.tmp 17)),
 oN 218 (.mv (.tmp 14)),
 oN 219 (.bin .add (oK 33) (.tmp 218)),
 oN 220 (.cInt .u8 (.tmp 219)),
 oN 221 (.build [.int .i64 (0),.int .i64 (0),.int .u8 (0)] [(0,1,(.tmp 216)),(1,1,(.tmp 217)),(2,1,(.tmp 220))]),
 oN 222 (.bslice 1 56 [.int .i64 (0),.int .i64 (0),.int .u8 (0)] [(0,3,(.tmp 221))]),
 oN 223 (.app 56 3 24 (.tmp 215) (.tmp 222)),
 oN 13 (.mv (.tmp 223))]
def areas_r48:List CO:=[
 oN 225 (.mv (.tmp 7)),
 oN 226 (.mv (.tmp 11)),
 oN 227 (.mv (.tmp 0)),
 oN 228 (.mv (.tmp 14)),
 oN 229 (.bin .rem (.tmp 228) (oK 3)),
 oN 230 (.bin .add (.tmp 229) (oK 3)),
 oN 231 (.bin .rem (.tmp 230) (oK 3)),
 oN 232 (.bin .mul (oK 8) (.tmp 231)),
 oN 233 (.bin .add (.tmp 227) (.tmp 232)),
 oN 234 (.mv (.tmp 9)),
 oN 235 (.mv (.tmp 0)),
 oN 236 (.call (.func 19) [(.tmp 225),(.tmp 226),(.tmp 233),(.tmp 234),(.tmp 235)]),
 oN 224 (.mv (.tmp 236)),
 oN 237 (.ext (.tmp 224) 0),
 oN 238 (.ext (.tmp 224) 1),
 oN 26 (.mv (.tmp 237)),
 oN 27 (.mv (.tmp 238))]
def areas_r49:List CO:=[
 oN 239 (.mv (.tmp 26)),
 oN 240 (.un .not (.tmp 239)),
 oN 241 (.mv (.tmp 240)),
 ⟨(some 242),(some (241,false)),.mv (.tmp 27)⟩,
 ⟨(some 243),(some (241,false)),.eq true (.one .i) (.tmp 242) (.const (.int .i64 (0)))⟩,
 oN 244 (.pick (.tmp 241) (.const (.bool true)) (.tmp 243))]
def areas_r50:List CO:=[
 oN 4 (.mv (.const (.bool false)))]
def areas_r51:List CO:=[
 oN 245 (.mv (.tmp 13)),
 oN 246 (.len 1 (.tmp 245)),
 oN 247 (.mv (oK 0))]
def areas_r52:List CO:=[
 oN 248 (.bin .lss (.tmp 247) (.tmp 246))]
def areas_r53:List CO:=[
 oN 249 (.iaS 3 (.tmp 245) (.tmp 247)),
 oN 250 (.ldN 3 (.tmp 249)),
 oN 29 (.alloc (blkL [.int .i64 (0),.int .i64 (0),.int .u8 (0)] 56 0)),
 oU (.st 3 (.tmp 29) (.tmp 250))]
def areas_r54:List CO:=[
 oN 251 (.fa 1 (.tmp 29)),
 oN 252 (.ld1 (.tmp 251)),
 oN 253 (.mv (oK 0))]
def areas_r55:List CO:=[
 oN 254 (.bin .lss (.tmp 253) (.tmp 252))]
def areas_r56:List CO:=[
 oN 255 (.mv (.tmp 253)),
 oN 30 (.mv (.tmp 255))]
def areas_r57:List CO:=[
 oN 257 (.mv (.tmp 7)),
 oN 258 (.fa 0 (.tmp 29)),
 oN 259 (.ld1 (.tmp 258)),
 oN 260 (.mv (.tmp 30)),
 oN 261 (.bin .mul (oK 8) (.tmp 260)),
 oN 262 (.bin .add (.tmp 259) (.tmp 261)),
 oN 263 (.ldN 5 (.tmp 12)),
 oN 264 (.call (.func 15) [(.tmp 257),(.tmp 262),(.tmp 263)]),
 oN 256 (.mv (.tmp 264)),
 oN 265 (.ext (.tmp 256) 0),
 oN 266 (.ext (.tmp 256) 1),
 oN 31 (.alloc (blkL [.int .i64 (0),.string ⟨#[]⟩] 47 0)),
 oU (.st 2 (.tmp 31) (.tmp 265)),
 oN 32 (.mv (.tmp 266))]
def areas_r58:List CO:=[
 oN 268 (.mv (.tmp 7)),
 oN 269 (.fa 0 (.tmp 29)),
 oN 270 (.ld1 (.tmp 269)),
 oN 271 (.mv (.tmp 30)),
 oN 272 (.bin .mul (oK 8) (.tmp 271)),
 oN 273 (.bin .add (.tmp 270) (.tmp 272)),
 oN 274 (.mv (.tmp 11)),
 oN 275 (.bin .add (.tmp 273) (.tmp 274)),
 oN 276 (.mv (.tmp 9)),
 oN 277 (.bin .sub (.tmp 275) (.tmp 276)),
 oN 278 (.ldN 5 (.tmp 12)),
 oN 279 (.call (.func 15) [(.tmp 268),(.tmp 277),(.tmp 278)]),
 oN 267 (.mv (.tmp 279)),
 oN 280 (.ext (.tmp 267) 0),
 oN 281 (.ext (.tmp 267) 1),
 oN 33 (.alloc (blkL [.int .i64 (0),.string ⟨#[]⟩] 47 0)),
 oU (.st 2 (.tmp 33) (.tmp 280)),
 oN 34 (.mv (.tmp 281))]
def areas_r59:List CO:=[
 oN 282 (.mv (.tmp 32)),
 oN 283 (.eq true (.one .i) (.tmp 282) (oK 0)),
 oN 284 (.mv (.tmp 283)),
 ⟨(some 285),(some (284,false)),.mv (.tmp 34)⟩,
 ⟨(some 286),(some (284,false)),.eq true (.one .i) (.tmp 285) (.const (.int .i64 (0)))⟩,
 oN 287 (.pick (.tmp 284) (.const (.bool true)) (.tmp 286)),
 oN 288 (.mv (.tmp 287)),
 ⟨(some 289),(some (288,false)),.fa 1 (.tmp 31)⟩,
 ⟨(some 290),(some (288,false)),.ld1 (.tmp 289)⟩,
 ⟨(some 291),(some (288,false)),.fa 2 (.tmp 29)⟩,
 ⟨(some 292),(some (288,false)),.ld1 (.tmp 291)⟩,
 ⟨(some 293),(some (288,false)),.bslice 1 5 [.int .u8 (0)] [(0,1,(.tmp 292))]⟩,
 ⟨(some 294),(some (288,false)),.cToS (.tmp 293)⟩,
 ⟨(some 295),(some (288,false)),.eq true (.one .s) (.tmp 290) (.tmp 294)⟩,
 oN 296 (.pick (.tmp 288) (.const (.bool true)) (.tmp 295)),
 oN 297 (.mv (.tmp 296)),
 ⟨(some 298),(some (297,false)),.ldN 2 (.tmp 33)⟩,
 ⟨(some 299),(some (297,false)),.ldN 2 (.tmp 31)⟩,
 ⟨(some 300),(some (297,false)),.eq true (.many 2 [(0,.i),(1,.s)]) (.tmp 298) (.tmp 299)⟩,
 oN 301 (.pick (.tmp 297) (.const (.bool true)) (.tmp 300))]
def areas_r60:List CO:=[
 oN 4 (.mv (.const (.bool false)))]
def areas_r61:List CO:=[
 oN 302 (.bin .add (.tmp 253) (oK 1)),
 oN 253 (.mv (.tmp 302))]
noncomputable def areas_l62:KC :=
 (.seq (.reg areas_r55)
 (.seq (.cond (.tmp 254) .skip
  (.exit 8))
 (.seq (.block 9 (.seq (.reg areas_r56)
  (.seq (.reg areas_r57)
  (.seq (.reg areas_r58)
  (.seq (.reg areas_r59)
  (.cond (.tmp 301) (.seq (.reg areas_r60)
   .ret)
   .skip))))))
 (.reg areas_r61))))
def areas_r63:List CO:=[
 oN 303 (.bin .add (.tmp 247) (oK 1)),
 oN 247 (.mv (.tmp 303))]
noncomputable def areas_l64:KC :=
 (.seq (.reg areas_r52)
 (.seq (.cond (.tmp 248) .skip
  (.exit 6))
 (.seq (.block 7 (.seq (.reg areas_r53)
  (.seq (.reg areas_r54)
  (.block 8 (.loop areas_body.sr.sr.sr.sr.sr.sr.sr.sr.sr.sr.sr.sr.sr.sl.sr.bl.lp.sr.sr.sl.bl.sr.sr.sr.sr.bl.lp.sr.sr.sl.bl.sr.sr.bl.lp areas_l62)))))
 (.reg areas_r63))))
def areas_r65:List CO:=[
 oN 304 (.bin .add (.tmp 75) (oK 1)),
 oN 75 (.mv (.tmp 304))]
noncomputable def areas_l66:KC :=
 (.seq (.reg areas_r18)
 (.seq (.cond (.tmp 76) .skip
  (.exit 0))
 (.seq (.block 1 (.seq (.reg areas_r19)
  (.seq (.seq (.reg areas_r20)
  (.cond (.tmp 86) (.seq (.reg areas_r21)
   (.seq (.seq (.reg areas_r22)
   (.cond (.tmp 106) (.seq (.reg areas_r23)
    .ret)
    .skip))
   (.reg areas_r24)))
   (.seq (.reg areas_r25)
   (.seq (.reg areas_r26)
   (.seq (.seq (.reg areas_r27)
   (.cond (.tmp 136) (.seq (.reg areas_r28)
    .ret)
    .skip))
   (.seq (.seq (.reg areas_r29)
   (.cond (.tmp 138) (.exit 1)
    .skip))
   (.seq (.seq (.reg areas_r30)
   (.cond (.tmp 152) (.seq (.reg areas_r31)
    .ret)
    .skip))
   (.seq (.seq (.reg areas_r32)
   (.block 2 (.loop areas_body.sr.sr.sr.sr.sr.sr.sr.sr.sr.sr.sr.sr.sr.sl.sr.bl.lp.sr.sr.sl.bl.sr.sl.sr.cb.sr.sr.sr.sr.sr.sl.sr.bl.lp areas_l38)))
   (.seq (.seq (.reg areas_r39)
   (.block 4 (.loop areas_body.sr.sr.sr.sr.sr.sr.sr.sr.sr.sr.sr.sr.sr.sl.sr.bl.lp.sr.sr.sl.bl.sr.sl.sr.cb.sr.sr.sr.sr.sr.sr.sl.sr.bl.lp areas_l46)))
   (.reg areas_r47))))))))))
  (.seq (.seq (.reg areas_r48)
  (.seq (.reg areas_r49)
  (.cond (.tmp 244) (.seq (.reg areas_r50)
   .ret)
   .skip)))
  (.seq (.reg areas_r51)
  (.block 6 (.loop areas_body.sr.sr.sr.sr.sr.sr.sr.sr.sr.sr.sr.sr.sr.sl.sr.bl.lp.sr.sr.sl.bl.sr.sr.sr.sr.bl.lp areas_l64)))))))
 (.reg areas_r65))))
def areas_r67:List CO:=[
 oN 4 (.mv (.const (.bool true)))]
noncomputable def areas_k:KC :=
 (.seq (.reg areas_r0)
 (.seq (.seq (.reg areas_r1)
 (.cond (.tmp 36) (.seq (.reg areas_r2)
  .ret)
  .skip))
 (.seq (.seq (.reg areas_r3)
 (.cond (.tmp 39) (.seq (.reg areas_r4)
  .ret)
  .skip))
 (.seq (.reg areas_r5)
 (.seq (.reg areas_r6)
 (.seq (.reg areas_r7)
 (.seq (.reg areas_r8)
 (.seq (.seq (.reg areas_r9)
 (.cond (.tmp 62) (.seq (.reg areas_r10)
  .ret)
  .skip))
 (.seq (.reg areas_r11)
 (.seq (.reg areas_r12)
 (.seq (.seq (.reg areas_r13)
 (.cond (.tmp 71) (.seq (.reg areas_r14)
  .ret)
  .skip))
 (.seq (.reg areas_r15)
 (.seq (.reg areas_r16)
 (.seq (.seq (.reg areas_r17)
 (.block 0 (.loop areas_body.sr.sr.sr.sr.sr.sr.sr.sr.sr.sr.sr.sr.sr.sl.sr.bl.lp areas_l66)))
 (.seq (.reg areas_r67)
 .ret)))))))))))))))
theorem areas_comp:kcomp Tb0 Tryz.f4.ntmps areas_body=areas_k:=by kernel_rfl
theorem areas_some:Tryz.f4.body=some areas_body:=rfl
end Go.Proofs.RS
end
noncomputable section
namespace Go.Proofs.RS
open Go Go.Ev Go.Proofs Go.Ar
abbrev tcL:List Value:=[vN 3,vN 1,vN 0,.bool false,vS []]
structure Sit (HL H:Hp) (F:By) (ba:Nat) (va:Value) (bl:List Bk):Prop where
 fn:H.isFn=true
 nx:107≤H.nx
 hX:KeptX (fun c=>c=76∨c=104) HL H
 st:Row H 78 104 0 stA
 tc:Row H 106 40 0 tcL
 mem:ByU H 76 171 F 65536
 all:AllB H ba va bl
 hba:ba=104∨107≤ba
structure GA (t:T Value) (n i len:Nat) (lv va:Value):Prop where
 g0:t.get 0=vN ((n:Nat):Int)
 g7:t.get 7=.pointer (some ⟨78,0,none⟩)
 g9:t.get 9=vN ((8*16:Nat):Int)
 g11:t.get 11=vN ((8*1040:Nat):Int)
 g12:t.get 12=.pointer (some ⟨106,0,none⟩)
 g13:t.get 13=va
 g14:t.get 14=vN ((i:Nat):Int)
 g73:t.get 73=lv
 g74:t.get 74=vN ((len:Nat):Int)
 g75:t.get 75=vN ((i:Nat):Int)
end Go.Proofs.RS
namespace Go.Ar
theorem PrN.in_ {F:By} {n off k:Nat} {us us2:List U} {bl:List Bk} (h:PrN F n us us2 bl off k) {x:Bk} (hx:x∈bl):16≤x.1∧x.1+x.2.1≤n:=by
 have hm:pl x∈places 8 us:=h.perm.symm.subset (List.mem_cons_of_mem _ (List.mem_map.2 ⟨x,hx,rfl⟩))
 have h1:16≤x.1:=(places_in hm).1
 have h2:x.1+x.2.1≤fin 8 us:=(places_in hm).2
 have:=h.is1.le
 omega
end Go.Ar
namespace Go.Proofs.RS
theorem split_at {α:Type}:∀ {l:List α} {k:Nat} {y:α},l[k]?=some y→∃ a b,l=a++y::b∧a.length=k:=by
 intro l
 induction l with
 | nil=>intro k y h;cases h
 | cons x l ih =>
  intro k y h
  cases k with
  | zero=>simp only [List.getElem?_cons_zero,Option.some.injEq] at h;subst h;exact ⟨[],l,rfl,rfl⟩
  | succ k =>
   obtain ⟨a,b,h1,h2⟩:=ih (k:=k) h
   exact ⟨x::a,b,by rw [h1];rfl,by simp [h2]⟩
end Go.Proofs.RS
end
noncomputable section
namespace Go.Proofs.RS
open Go Go.Ev Go.Proofs Go.Ar
section
attribute [local go_sem] Bc_f Bc_t GT Ro_some Rv_eq WOG Yj Yk Yl Ym Yn and_self and_true binV_add binV_lss binV_mul dec_F dec_T evalO_const evalO_tmp exFa_ptr exPick_f exPick_t if_false if_true ok_zero putT_none run true_and wantsV_U wantsV_ff wantsV_ft wantsV_tf wantsV_tt wants_none' wants_some
variable {sp:Nat→List Value→Hp→Option (Value×Hp×Nat×Nat)} {e:Env}
set_option maxRecDepth 10000 in
set_option maxHeartbeats 4000000 in
theorem l38_ok (S:SpX sp) {HL:Hp} {n i len off k ba:Nat} {us us2:List U} {bl:List Bk} {lv va:Value} {F:By} (he0:e.n0≤76) (hHL:HL.nx=107) (hn:n≤512) (hN:PrN F n us us2 bl off k) (hk:1≤k) (hbl:bl.length≤40) {d:Code} {t:T Value} {H:Hp} (hs:Sit HL H F ba va bl) (ga:GA t n i len lv va) (g17:t.get 17=vN ((k:Nat):Int)) (g18:t.get 18=vN ((8*16+8*off:Nat):Int)) (g153:t.get 153=va) (g154:t.get 154=vN ((bl.length:Nat):Int)) (g155:t.get 155=vN ((0:Nat):Int))
 {K:Ex→T Value→List Deferred→Hp→Prop} (hK:∀ t' H',Sit HL H' F ba va bl→GA t' n i len lv va→t'.get 17=vN ((k:Nat):Int)→t'.get 18=vN ((8*16+8*off:Nat):Int)→K .normal t' [] H') :
 WK Tb0 sp e ⟨9,305,none,false⟩ (.block 2 (.loop d areas_l38)) t [] H K:=by
 have hlo:=hN.lo
 have hhi:=hN.hi
 have hf_1:=hs.fn
 have nx_1:=hs.nx
 have hba_1:=hs.hba
 have hst_1:Row H (78) 104 0 stA:=hs.st
 have lt2_:=hst_1.lt
 have htc_1:Row H (106) 40 0 [.int .i64 (3),.int .i64 (1),.int .i64 (0),.bool false,vS []]:=hs.tc
 have lt3_:=htc_1.lt
 have hmem_1:ByU H (76) 171 F (65536):=hs.mem
 have lt4_:=hmem_1.lt
 have hall_1:AllB H (ba) va bl:=hs.all
 have lt5_:=hall_1.lt
 have hX_1:=hs.hX
 obtain ⟨g0_6,g7_6,g9_6,g11_6,g12_6,g13_6,g14_6,g73_6,g74_6,g75_6⟩:=ga
 refine WK.block (WK.loop_ind (fun m t' ds' H'=>ds'=[]∧∃ q:Nat,m=bl.length-q∧q≤bl.length∧Sit HL H' F ba va bl∧t'.get 0=iN n∧t'.get 7=pA 78 0∧t'.get 9=iN (8*16)∧t'.get 11=iN (8*1040)∧t'.get 12=pA 106 0∧t'.get 13=va∧t'.get 14=iN i∧t'.get 17=iN k∧t'.get 18=iN (8*16+8*off)∧t'.get 73=lv∧t'.get 74=iN len∧t'.get 75=iN i∧t'.get 153=va∧t'.get 154=iN (bl.length)∧t'.get 155=iN q) ?_ _ t [] H ⟨rfl,0,rfl,by omega,hs,g0_6,g7_6,g9_6,g11_6,g12_6,g13_6,g14_6,g17,g18,g73_6,g74_6,g75_6,g153,g154,g155⟩)
 rintro m_l7 t_l7 ds_ H_l7 ⟨rfl,q,rfl,hq,hs2,g0_l7,g7_l7,g9_l7,g11_l7,g12_l7,g13_l7,g14_l7,g17_l7,g18_l7,g73_l7,g74_l7,g75_l7,g153_l7,g154_l7,g155_l7⟩
 have hf_8:=hs2.fn
 have nx_8:=hs2.nx
 have hba_8:=hs2.hba
 have hst_8:Row H_l7 (78) 104 0 stA:=hs2.st
 have lt9_:=hst_8.lt
 have htc_8:Row H_l7 (106) 40 0 [.int .i64 (3),.int .i64 (1),.int .i64 (0),.bool false,vS []]:=hs2.tc
 have lt10_:=htc_8.lt
 have hmem_8:ByU H_l7 (76) 171 F (65536):=hs2.mem
 have lt11_:=hmem_8.lt
 have hall_8:AllB H_l7 (ba) va bl:=hs2.all
 have lt12_:=hall_8.lt
 have hX_8:=hs2.hX
 unfold areas_l38
 refine WK.seq ?_
 by_cases hlt:q<bl.length
 case pos =>
  obtain ⟨x,hx⟩:∃ x,bl[q]?=some x:=⟨_,List.getElem?_eq_getElem hlt⟩
  have hxm:x∈bl:=List.mem_of_getElem? hx
  have hap:=hN.apart hk hxm
  obtain ⟨hxi1,hxi2⟩:=hN.in_ hxm
  refine WK.reg_g ?_
  have d13_:decide (((q:Nat):Int)<((bl.length:Nat):Int))=true:=decide_eq_true (by omega)
  refine WOG.all (fun t' H'=>H_l7=H'∧GT t' [(0,iN n),(7,pA 78 0),(9,iN (8*16)),(11,iN (8*1040)),(12,pA 106 0),(13,va),(14,iN i),(17,iN k),(18,iN (8*16+8*off)),(73,lv),(74,iN len),(75,iN i),(153,va),(154,iN (bl.length)),(155,iN q),(156,.bool true)]) ?_ ?_
  ·simp +decide only [areas_r33,g0_l7,g7_l7,g9_l7,g11_l7,g12_l7,g13_l7,g14_l7,g17_l7,g18_l7,g73_l7,g74_l7,g75_l7,g153_l7,g154_l7,g155_l7,d13_,Xo 9,go_sem]
  rintro t14_ _ ⟨rfl,g0_14,g7_14,g9_14,g11_14,g12_14,g13_14,g14_14,g17_14,g18_14,g73_14,g74_14,g75_14,g153_14,g154_14,g155_14,g156_14, -⟩
  refine WK.seq ?_
  refine WK.cond (v:=true) (by rw [evalO_tmp,g156_14];rfl) ?_
  refine WK.skip ?_
  refine WK.seq ?_
  refine WK.block ?_
  refine WK.seq ?_
  refine WK.reg_g ?_
  have m16_:∀ Hq,exIaS 3 va (iN q) Hq=.val (pA ba (q*3)) Hq 0 0:=fun Hq=>iaS_all hall_8 (by omega) Hq
  have m17_:exLdN 3 (pA ba (q*3)) H_l7=.val (.agg ⟨[iN (8*16+8*x.1),iN (x.2.1),uB x.2.2]⟩) H_l7 (bit (ba)) 0:=ldN_all hall_8 hx
  have o18_:e.ok (bit (ba)) 0 H_l7:=.read hall_8.lt (fun h=>absurd h (by omega))
  obtain ⟨H19_,nb20_⟩:=newB hf_8 [.int .i64 (0),.int .i64 (0),.int .u8 (0)] 56
  have m21_:alloc1 (blkL [.int .i64 (0),.int .i64 (0),.int .u8 (0)] 56 0) H_l7 ptrTo 0 0=.val (.pointer (some ⟨H_l7.nx,0,none⟩)) H19_ 0 0:=nb20_.al
  have hf22_:=nb20_.kept.fn
  have nx23_:H19_.nx=H_l7.nx+1:=nb20_.nx
  have m24_:H_l7.nx≤H19_.nx:=by omega
  have lt25_:=nb20_.row.lt
  have k26_:=hX_8.kept nb20_.kept
  obtain ⟨H27_,e28_,wr29_⟩:=exStN_at (o:=0) (vs:=[iN (8*16+8*x.1),iN (x.2.1),uB x.2.2]) hf22_ nb20_.row (by show 0+3≤3;decide)
  have m30_:exSt 3 (pA H_l7.nx 0) (.agg ⟨[iN (8*16+8*x.1),iN (x.2.1),uB x.2.2]⟩) H19_=.val U H27_ 0 (bit (H_l7.nx)):=e28_
  have hf31_:=wr29_.fn
  have nx32_:H27_.nx=H19_.nx:=wr29_.nx
  have m33_:H19_.nx≤H27_.nx:=by omega
  have r34_:Row H27_ (H_l7.nx) 56 0 [iN (8*16+8*x.1),iN (x.2.1),uB x.2.2]:=wr29_.row
  have o35_:e.ok 0 (bit (H_l7.nx)) H27_:=.write r34_.lt (fun h=>absurd h (by omega))
  have k36_:=k26_.wr (b:=H_l7.nx) wr29_.fn wr29_.nx wr29_.else_ (.inr (by omega))
  refine WOG.all (fun t' H'=>H27_=H'∧GT t' [(0,iN n),(7,pA 78 0),(9,iN (8*16)),(11,iN (8*1040)),(12,pA 106 0),(13,va),(14,iN i),(17,iN k),(18,iN (8*16+8*off)),(22,pA H_l7.nx 0),(73,lv),(74,iN len),(75,iN i),(153,va),(154,iN (bl.length)),(155,iN q)]) ?_ ?_
  ·simp +decide only [areas_r34,g0_14,g7_14,g9_14,g11_14,g12_14,g13_14,g14_14,g17_14,g18_14,g73_14,g74_14,g75_14,g153_14,g154_14,g155_14,g156_14,m16_,m17_,o18_,m21_,m24_,m30_,m33_,o35_,Xo 9,go_sem]
  rintro t37_ _ ⟨rfl,g0_37,g7_37,g9_37,g11_37,g12_37,g13_37,g14_37,g17_37,g18_37,g22_37,g73_37,g74_37,g75_37,g153_37,g154_37,g155_37, -⟩
  refine WK.seq ?_
  by_cases hlo2:x.1+x.2.1≤off
  case pos =>
   refine WK.reg_g ?_
   have m39_:exLd1 (pA H_l7.nx 0) H27_=.val (iN (8*16+8*x.1)) H27_ (bit (H_l7.nx)) 0:=exLd1_row r34_ rfl
   have o40_:=okr (e:=e) r34_ (by omega)
   have m41_:exLd1 (pA H_l7.nx 1) H27_=.val (iN (x.2.1)) H27_ (bit (H_l7.nx)) 0:=exLd1_row r34_ rfl
   have w42_:Value.int .i64 (wrapF .i64 ((8:Int)*((x.2.1:Nat):Int)))=.int .i64 (((8*x.2.1):Nat):Int):=wF (by omega)
   have w43_:Value.int .i64 (wrapF .i64 (((8*16+8*x.1:Nat):Int)+(((8*x.2.1):Nat):Int)))=.int .i64 ((((8*16+8*x.1)+((8*x.2.1))):Nat):Int):=wF (by omega)
   have d44_:decide (((8*16+8*off:Nat):Int)<((((8*16+8*x.1)+((8*x.2.1))):Nat):Int))=false:=decide_eq_false (by omega)
   refine WOG.all (fun t' H'=>H27_=H'∧GT t' [(0,iN n),(7,pA 78 0),(9,iN (8*16)),(11,iN (8*1040)),(12,pA 106 0),(13,va),(14,iN i),(17,iN k),(18,iN (8*16+8*off)),(73,lv),(74,iN len),(75,iN i),(153,va),(154,iN (bl.length)),(155,iN q),(175,.bool false)]) ?_ ?_
   ·simp +decide only [areas_r35,g0_37,g7_37,g9_37,g11_37,g12_37,g13_37,g14_37,g17_37,g18_37,g22_37,g73_37,g74_37,g75_37,g153_37,g154_37,g155_37,m39_,o40_,m41_,o40_,w42_,w43_,d44_,Xo 9,go_sem]
   rintro t45_ _ ⟨rfl,g0_45,g7_45,g9_45,g11_45,g12_45,g13_45,g14_45,g17_45,g18_45,g73_45,g74_45,g75_45,g153_45,g154_45,g155_45,g175_45, -⟩
   refine WK.cond (v:=false) (by rw [evalO_tmp,g175_45];rfl) ?_
   refine WK.skip ?_
   refine WK.reg_g ?_
   have w47_:Value.int .i64 (wrapF .i64 (((q:Nat):Int)+(1:Int)))=.int .i64 (((q+1):Nat):Int):=wF (by omega)
   refine WOG.all (fun t' H'=>H27_=H'∧GT t' [(0,iN n),(7,pA 78 0),(9,iN (8*16)),(11,iN (8*1040)),(12,pA 106 0),(13,va),(14,iN i),(17,iN k),(18,iN (8*16+8*off)),(73,lv),(74,iN len),(75,iN i),(153,va),(154,iN (bl.length)),(155,iN ((q+1)))]) ?_ ?_
   ·simp +decide only [areas_r37,g0_45,g7_45,g9_45,g11_45,g12_45,g13_45,g14_45,g17_45,g18_45,g73_45,g74_45,g75_45,g153_45,g154_45,g155_45,g175_45,w47_,Xo 9,go_sem]
   rintro t48_ _ ⟨rfl,g0_48,g7_48,g9_48,g11_48,g12_48,g13_48,g14_48,g17_48,g18_48,g73_48,g74_48,g75_48,g153_48,g154_48,g155_48, -⟩
   have r50_:=(hst_8.mv nb20_.kept).ot wr29_.else_ (by omega)
   have r51_:=(htc_8.mv nb20_.kept).ot wr29_.else_ (by omega)
   have r52_:=(hmem_8.mv nb20_.kept).ot wr29_.else_ (by omega)
   have r53_:=(hall_8.mv nb20_.kept).ot wr29_.else_ (by omega)
   exact ⟨_,by omega,rfl,q+1,rfl,by omega,⟨hf31_,by omega,k36_,r50_,r51_,r52_,r53_,by omega⟩,g0_48,g7_48,g9_48,g11_48,g12_48,g13_48,g14_48,g17_48,g18_48,g73_48,g74_48,g75_48,g153_48,g154_48,g155_48⟩
  case neg =>
   have hap2:off+k≤x.1:=by omega
   refine WK.reg_g ?_
   have m39_:exLd1 (pA H_l7.nx 0) H27_=.val (iN (8*16+8*x.1)) H27_ (bit (H_l7.nx)) 0:=exLd1_row r34_ rfl
   have o40_:=okr (e:=e) r34_ (by omega)
   have m41_:exLd1 (pA H_l7.nx 1) H27_=.val (iN (x.2.1)) H27_ (bit (H_l7.nx)) 0:=exLd1_row r34_ rfl
   have w42_:Value.int .i64 (wrapF .i64 ((8:Int)*((x.2.1:Nat):Int)))=.int .i64 (((8*x.2.1):Nat):Int):=wF (by omega)
   have w43_:Value.int .i64 (wrapF .i64 (((8*16+8*x.1:Nat):Int)+(((8*x.2.1):Nat):Int)))=.int .i64 ((((8*16+8*x.1)+((8*x.2.1))):Nat):Int):=wF (by omega)
   have d44_:decide (((8*16+8*off:Nat):Int)<((((8*16+8*x.1)+((8*x.2.1))):Nat):Int))=true:=decide_eq_true (by omega)
   have m45_:exLd1 (pA H_l7.nx 0) H27_=.val (iN (8*16+8*x.1)) H27_ (bit (H_l7.nx)) 0:=exLd1_row r34_ rfl
   have w46_:Value.int .i64 (wrapF .i64 ((8:Int)*((k:Nat):Int)))=.int .i64 (((8*k):Nat):Int):=wF (by omega)
   have w47_:Value.int .i64 (wrapF .i64 (((8*16+8*off:Nat):Int)+(((8*k):Nat):Int)))=.int .i64 ((((8*16+8*off)+((8*k))):Nat):Int):=wF (by omega)
   have d48_:decide (((8*16+8*x.1:Nat):Int)<((((8*16+8*off)+((8*k))):Nat):Int))=false:=decide_eq_false (by omega)
   refine WOG.all (fun t' H'=>H27_=H'∧GT t' [(0,iN n),(7,pA 78 0),(9,iN (8*16)),(11,iN (8*1040)),(12,pA 106 0),(13,va),(14,iN i),(17,iN k),(18,iN (8*16+8*off)),(73,lv),(74,iN len),(75,iN i),(153,va),(154,iN (bl.length)),(155,iN q),(175,.bool false)]) ?_ ?_
   ·simp +decide only [areas_r35,g0_37,g7_37,g9_37,g11_37,g12_37,g13_37,g14_37,g17_37,g18_37,g22_37,g73_37,g74_37,g75_37,g153_37,g154_37,g155_37,m39_,o40_,m41_,o40_,w42_,w43_,d44_,m45_,o40_,w46_,w47_,d48_,Xo 9,go_sem]
   rintro t49_ _ ⟨rfl,g0_49,g7_49,g9_49,g11_49,g12_49,g13_49,g14_49,g17_49,g18_49,g73_49,g74_49,g75_49,g153_49,g154_49,g155_49,g175_49, -⟩
   refine WK.cond (v:=false) (by rw [evalO_tmp,g175_49];rfl) ?_
   refine WK.skip ?_
   refine WK.reg_g ?_
   have w51_:Value.int .i64 (wrapF .i64 (((q:Nat):Int)+(1:Int)))=.int .i64 (((q+1):Nat):Int):=wF (by omega)
   refine WOG.all (fun t' H'=>H27_=H'∧GT t' [(0,iN n),(7,pA 78 0),(9,iN (8*16)),(11,iN (8*1040)),(12,pA 106 0),(13,va),(14,iN i),(17,iN k),(18,iN (8*16+8*off)),(73,lv),(74,iN len),(75,iN i),(153,va),(154,iN (bl.length)),(155,iN ((q+1)))]) ?_ ?_
   ·simp +decide only [areas_r37,g0_49,g7_49,g9_49,g11_49,g12_49,g13_49,g14_49,g17_49,g18_49,g73_49,g74_49,g75_49,g153_49,g154_49,g155_49,g175_49,w51_,Xo 9,go_sem]
   rintro t52_ _ ⟨rfl,g0_52,g7_52,g9_52,g11_52,g12_52,g13_52,g14_52,g17_52,g18_52,g73_52,g74_52,g75_52,g153_52,g154_52,g155_52, -⟩
   have r54_:=(hst_8.mv nb20_.kept).ot wr29_.else_ (by omega)
   have r55_:=(htc_8.mv nb20_.kept).ot wr29_.else_ (by omega)
   have r56_:=(hmem_8.mv nb20_.kept).ot wr29_.else_ (by omega)
   have r57_:=(hall_8.mv nb20_.kept).ot wr29_.else_ (by omega)
   exact ⟨_,by omega,rfl,q+1,rfl,by omega,⟨hf31_,by omega,k36_,r54_,r55_,r56_,r57_,by omega⟩,g0_52,g7_52,g9_52,g11_52,g12_52,g13_52,g14_52,g17_52,g18_52,g73_52,g74_52,g75_52,g153_52,g154_52,g155_52⟩
 case neg =>
  refine WK.reg_g ?_
  have d13_:decide (((q:Nat):Int)<((bl.length:Nat):Int))=false:=decide_eq_false (by omega)
  refine WOG.all (fun t' H'=>H_l7=H'∧GT t' [(0,iN n),(7,pA 78 0),(9,iN (8*16)),(11,iN (8*1040)),(12,pA 106 0),(13,va),(14,iN i),(17,iN k),(18,iN (8*16+8*off)),(73,lv),(74,iN len),(75,iN i),(153,va),(154,iN (bl.length)),(155,iN q),(156,.bool false)]) ?_ ?_
  ·simp +decide only [areas_r33,g0_l7,g7_l7,g9_l7,g11_l7,g12_l7,g13_l7,g14_l7,g17_l7,g18_l7,g73_l7,g74_l7,g75_l7,g153_l7,g154_l7,g155_l7,d13_,Xo 9,go_sem]
  rintro t14_ _ ⟨rfl,g0_14,g7_14,g9_14,g11_14,g12_14,g13_14,g14_14,g17_14,g18_14,g73_14,g74_14,g75_14,g153_14,g154_14,g155_14,g156_14, -⟩
  refine WK.seq ?_
  refine WK.cond (v:=false) (by rw [evalO_tmp,g156_14];rfl) ?_
  refine WK.exit ?_
  exact hK _ _ ⟨hf_8,by omega,hX_8,hst_8,htc_8,hmem_8,hall_8,by omega⟩ ⟨g0_14,g7_14,g9_14,g11_14,g12_14,g13_14,g14_14,g73_14,g74_14,g75_14⟩ g17_14 g18_14
end
section
attribute [local go_sem] Bc_f Bc_t GT Ro_some Rv_eq WOG Yj Yk Yl Ym Yn Yo Yp Yq Yr and_self and_true binV_add binV_lss binV_mul callV_func dec_F dec_T evalL evalO_const evalO_func evalO_tmp exEq_int exFa_ptr exPick_f exPick_t if_false if_true ok_zero putT_none run true_and wantsV_U wantsV_ff wantsV_ft wantsV_tf wantsV_tt wants_none' wants_some
variable {sp:Nat→List Value→Hp→Option (Value×Hp×Nat×Nat)} {e:Env}
set_option maxRecDepth 10000 in
set_option maxHeartbeats 4000000 in
theorem l46_ok (S:SpX sp) {HL:Hp} {n i len off k ba:Nat} {us us2:List U} {bl:List Bk} {lv va:Value} {F:By} (he0:e.n0≤76) (hHL:HL.nx=107) (hn:n≤512) (hN:PrN F n us us2 bl off k) (hi:i≤40) {d:Code} {t:T Value} {H:Hp} (hs:Sit HL H F ba va bl) (ga:GA t n i len lv va) (g17:t.get 17=vN ((k:Nat):Int)) (g18:t.get 18=vN ((8*16+8*off:Nat):Int)) (g177:t.get 177=vN ((k:Nat):Int)) (g178:t.get 178=vN ((0:Nat):Int))
 {K:Ex→T Value→List Deferred→Hp→Prop} (hK:∀ t' H',Sit HL H' (fill F (16+off) k (UInt8.ofNat (33+i))) ba va bl→GA t' n i len lv va→t'.get 17=vN ((k:Nat):Int)→t'.get 18=vN ((8*16+8*off:Nat):Int)→K .normal t' [] H') :
 WK Tb0 sp e ⟨9,305,none,false⟩ (.block 4 (.loop d areas_l46)) t [] H K:=by
 have hlo:=hN.lo
 have hhi:=hN.hi
 have hf_1:=hs.fn
 have nx_1:=hs.nx
 have hba_1:=hs.hba
 have hst_1:Row H (78) 104 0 stA:=hs.st
 have lt2_:=hst_1.lt
 have htc_1:Row H (106) 40 0 [.int .i64 (3),.int .i64 (1),.int .i64 (0),.bool false,vS []]:=hs.tc
 have lt3_:=htc_1.lt
 have hmem_1:ByU H (76) 171 F (65536):=hs.mem
 have lt4_:=hmem_1.lt
 have hall_1:AllB H (ba) va bl:=hs.all
 have lt5_:=hall_1.lt
 have hX_1:=hs.hX
 obtain ⟨g0_6,g7_6,g9_6,g11_6,g12_6,g13_6,g14_6,g73_6,g74_6,g75_6⟩:=ga
 refine WK.block (WK.loop_ind (fun m t' ds' H'=>ds'=[]∧∃ q:Nat,m=k-q∧q≤k∧Sit HL H' (fill F (16+off) q (UInt8.ofNat (33+i))) ba va bl∧t'.get 0=iN n∧t'.get 7=pA 78 0∧t'.get 9=iN (8*16)∧t'.get 11=iN (8*1040)∧t'.get 12=pA 106 0∧t'.get 13=va∧t'.get 14=iN i∧t'.get 17=iN k∧t'.get 18=iN (8*16+8*off)∧t'.get 73=lv∧t'.get 74=iN len∧t'.get 75=iN i∧t'.get 177=iN k∧t'.get 178=iN q) ?_ _ t [] H ⟨rfl,0,rfl,by omega,fill_zero F (16+off) (UInt8.ofNat (33+i))▸hs,g0_6,g7_6,g9_6,g11_6,g12_6,g13_6,g14_6,g17,g18,g73_6,g74_6,g75_6,g177,g178⟩)
 rintro m_l7 t_l7 ds_ H_l7 ⟨rfl,q,rfl,hq,hs2,g0_l7,g7_l7,g9_l7,g11_l7,g12_l7,g13_l7,g14_l7,g17_l7,g18_l7,g73_l7,g74_l7,g75_l7,g177_l7,g178_l7⟩
 have hf_8:=hs2.fn
 have nx_8:=hs2.nx
 have hba_8:=hs2.hba
 have hst_8:Row H_l7 (78) 104 0 stA:=hs2.st
 have lt9_:=hst_8.lt
 have htc_8:Row H_l7 (106) 40 0 [.int .i64 (3),.int .i64 (1),.int .i64 (0),.bool false,vS []]:=hs2.tc
 have lt10_:=htc_8.lt
 have hmem_8:ByU H_l7 (76) 171 (fill F (16+off) q (UInt8.ofNat (33+i))) (65536):=hs2.mem
 have lt11_:=hmem_8.lt
 have hall_8:AllB H_l7 (ba) va bl:=hs2.all
 have lt12_:=hall_8.lt
 have hX_8:=hs2.hX
 unfold areas_l46
 refine WK.seq ?_
 by_cases hlt:q<k
 case pos =>
  have hz0:fill F (16+off) q (UInt8.ofNat (33+i)) (16+off+q)=0:=by rw [fill_ge (by omega)];exact hN.zero q hlt
  refine WK.reg_g ?_
  have d13_:decide (((q:Nat):Int)<((k:Nat):Int))=true:=decide_eq_true (by omega)
  refine WOG.all (fun t' H'=>H_l7=H'∧GT t' [(0,iN n),(7,pA 78 0),(9,iN (8*16)),(11,iN (8*1040)),(12,pA 106 0),(13,va),(14,iN i),(17,iN k),(18,iN (8*16+8*off)),(73,lv),(74,iN len),(75,iN i),(177,iN k),(178,iN q),(179,.bool true)]) ?_ ?_
  ·simp +decide only [areas_r40,g0_l7,g7_l7,g9_l7,g11_l7,g12_l7,g13_l7,g14_l7,g17_l7,g18_l7,g73_l7,g74_l7,g75_l7,g177_l7,g178_l7,d13_,Xo 9,go_sem]
  rintro t14_ _ ⟨rfl,g0_14,g7_14,g9_14,g11_14,g12_14,g13_14,g14_14,g17_14,g18_14,g73_14,g74_14,g75_14,g177_14,g178_14,g179_14, -⟩
  refine WK.seq ?_
  refine WK.cond (v:=true) (by rw [evalO_tmp,g179_14];rfl) ?_
  refine WK.skip ?_
  refine WK.seq ?_
  refine WK.block ?_
  refine WK.seq ?_
  refine WK.reg_g ?_
  refine WOG.all (fun t' H'=>H_l7=H'∧GT t' [(0,iN n),(7,pA 78 0),(9,iN (8*16)),(11,iN (8*1040)),(12,pA 106 0),(13,va),(14,iN i),(17,iN k),(18,iN (8*16+8*off)),(23,iN q),(73,lv),(74,iN len),(75,iN i),(177,iN k),(178,iN q)]) ?_ ?_
  ·simp +decide only [areas_r41,g0_14,g7_14,g9_14,g11_14,g12_14,g13_14,g14_14,g17_14,g18_14,g73_14,g74_14,g75_14,g177_14,g178_14,g179_14,Xo 9,go_sem]
  rintro t16_ _ ⟨rfl,g0_16,g7_16,g9_16,g11_16,g12_16,g13_16,g14_16,g17_16,g18_16,g23_16,g73_16,g74_16,g75_16,g177_16,g178_16, -⟩
  refine WK.seq ?_
  refine WK.reg_g ?_
  refine WOG.hide fun K0 hK0=>?_
  have w18_:Value.int .i64 (wrapF .i64 ((8:Int)*((q:Nat):Int)))=.int .i64 (((8*q):Nat):Int):=wF (by omega)
  have m19_:binV .add (iN (8*16+8*off)) (iN ((8*q)))=some (iN (8*(16+off+q))):=congrArg (fun z=>some (Value.int .i64 z)) (by rw [show Int.add _ _=(((8*(16+off+q):Nat):Int)) from by show ((_:Int)+_)=_;omega];exact wrapF_nat (by omega))
  have m20_:exLdN 5 (pA 106 0) H_l7=.val (.agg ⟨[.int .i64 (3),.int .i64 (1),.int .i64 (0),.bool false,vS []]⟩) H_l7 (bit (106)) 0:=exLdN_row htc_8 (by show 0+5≤5;decide)
  have o21_:=okr (e:=e) htc_8 (by omega)
  simp +decide only [areas_r42,g7_16,g12_16,g18_16,g23_16,w18_,m19_,m20_,o21_,Xo 9,go_sem]
  refine EC.mono ((rload_ok S hf_8 (by omega) hst_8 rfl rfl hmem_8 (fun h=>absurd h (by omega)) (fun h=>absurd h (by omega)) (p:=16+off+q) (by omega)).mono fun v H1 _ h_=>by rwa [hz0] at h_) fun v H22_ _ hv23_=>?_
  obtain ⟨rfl,hk24_⟩:=hv23_
  have hf25_:=hk24_.fn
  have nx26_:=hk24_.nx
  have k27_:=hX_8.kept hk24_
  rw [WOGk]
  have m28_:∀ Hq,exExt (.tuple #[.agg ⟨[.int .i64 (0),vS [0]]⟩,.int .i64 (0)]) 0 Hq=.val (.agg ⟨[.int .i64 (0),vS [0]]⟩) Hq 0 0:=fun _=>rfl
  have m29_:∀ Hq,exExt (.tuple #[.agg ⟨[.int .i64 (0),vS [0]]⟩,.int .i64 (0)]) 1 Hq=.val (.int .i64 (0)) Hq 0 0:=fun _=>rfl
  obtain ⟨H30_,nb31_⟩:=newB hf25_ [.int .i64 (0),.string ⟨#[]⟩] 47
  have m32_:alloc1 (blkL [.int .i64 (0),.string ⟨#[]⟩] 47 0) H22_ ptrTo 0 0=.val (.pointer (some ⟨H22_.nx,0,none⟩)) H30_ 0 0:=nb31_.al
  have hf33_:=nb31_.kept.fn
  have nx34_:H30_.nx=H22_.nx+1:=nb31_.nx
  have m35_:H22_.nx≤H30_.nx:=by omega
  have lt36_:=nb31_.row.lt
  have k37_:=k27_.kept nb31_.kept
  obtain ⟨H38_,e39_,wr40_⟩:=exStN_at (o:=0) (vs:=[.int .i64 (0),vS [0]]) hf33_ nb31_.row (by show 0+2≤2;decide)
  have m41_:exSt 2 (pA H22_.nx 0) (.agg ⟨[.int .i64 (0),vS [0]]⟩) H30_=.val U H38_ 0 (bit (H22_.nx)):=e39_
  have hf42_:=wr40_.fn
  have nx43_:H38_.nx=H30_.nx:=wr40_.nx
  have m44_:H30_.nx≤H38_.nx:=by omega
  have r45_:Row H38_ (H22_.nx) 47 0 [.int .i64 (0),vS [0]]:=wr40_.row
  have o46_:e.ok 0 (bit (H22_.nx)) H38_:=.write r45_.lt (fun h=>absurd h (by omega))
  have k47_:=k37_.wr (b:=H22_.nx) wr40_.fn wr40_.nx wr40_.else_ (.inr (by omega))
  refine WOG.all (fun t' H'=>H38_=H'∧GT t' [(0,iN n),(7,pA 78 0),(9,iN (8*16)),(11,iN (8*1040)),(12,pA 106 0),(13,va),(14,iN i),(17,iN k),(18,iN (8*16+8*off)),(23,iN q),(24,pA H22_.nx 0),(25,.int .i64 (0)),(73,lv),(74,iN len),(75,iN i),(177,iN k),(178,iN q)]) ?_ ?_
  ·simp +decide only [areas_r42,g0_16,g7_16,g9_16,g11_16,g12_16,g13_16,g14_16,g17_16,g18_16,g23_16,g73_16,g74_16,g75_16,g177_16,g178_16,m28_,m29_,m32_,m35_,m41_,m44_,o46_,Xo 9,go_sem]
  rintro t48_ _ ⟨rfl,g0_48,g7_48,g9_48,g11_48,g12_48,g13_48,g14_48,g17_48,g18_48,g23_48,g24_48,g25_48,g73_48,g74_48,g75_48,g177_48,g178_48, -⟩
  refine hK0 _ _ ?_
  refine WK.seq ?_
  refine WK.reg_g ?_
  refine WOG.hide fun K0 hK0=>?_
  have d50_:decide ((0:Int)=(0:Int))=true:=decide_eq_true (by omega)
  have m51_:exLd1 (pA H22_.nx 1) H38_=.val (vS [0]) H38_ (bit (H22_.nx)) 0:=exLd1_row r45_ rfl
  have o52_:=okr (e:=e) r45_ (by omega)
  have m53_:∀ Hq,exEq true (.one .s) (vS [0]) (.string ⟨#[0]⟩) Hq=.val (.bool false) Hq 0 0:=fun Hq=>rfl
  have w54_:Value.int .i64 (wrapF .i64 ((8:Int)*((q:Nat):Int)))=.int .i64 (((8*q):Nat):Int):=wF (by omega)
  have m55_:binV .add (iN (8*16+8*off)) (iN ((8*q)))=some (iN (8*(16+off+q))):=congrArg (fun z=>some (Value.int .i64 z)) (by rw [show Int.add _ _=(((8*(16+off+q):Nat):Int)) from by show ((_:Int)+_)=_;omega];exact wrapF_nat (by omega))
  have r56_:=((htc_8.mv hk24_).mv nb31_.kept).ot wr40_.else_ (by omega)
  have m57_:exLdN 5 (pA 106 0) H38_=.val (.agg ⟨[.int .i64 (3),.int .i64 (1),.int .i64 (0),.bool false,vS []]⟩) H38_ (bit (106)) 0:=exLdN_row r56_ (by show 0+5≤5;decide)
  have o58_:=okr (e:=e) r56_ (by omega)
  have w59_:Value.int .i64 (wrapF .i64 ((33:Int)+((i:Nat):Int)))=.int .i64 (((33+i):Nat):Int):=wF (by omega)
  have m60_:∀ Hq,exCInt .u8 (iN ((33+i))) Hq=.val (uB (UInt8.ofNat ((33+i)))) Hq 0 0:=cU8 _
  obtain ⟨H61_,e62_,rw63_,kp64_,nx65_⟩:=bsl_one hf42_ (UInt8.ofNat ((33+i)))
  have m66_:∀ t:T Value,t.get 207=uB (UInt8.ofNat ((33+i)))→fillL t [.int .u8 (0)] [(0,1,.tmp 207)]=some [uB (UInt8.ofNat ((33+i)))]:=fun t h0=>by simp only [fillL,evalO_tmp,h0];rfl
  have m67_:alloc1 (blkL [uB (UInt8.ofNat ((33+i)))] 5 0) H38_ (fun i=>mkSlV (some (i,0)) 1 1 false) 0 0=.val (.slice (some ⟨H38_.nx,0,none⟩) (1) (2*1)) H61_ 0 0:=e62_
  have hf68_:=kp64_.fn
  have m69_:H38_.nx≤H61_.nx:=by omega
  have k70_:=k47_.kept kp64_
  have lt71_:=rw63_.lt
  have m72_:exToS (sC H38_.nx 0 (1) (2*1)) H61_=.val (vS [UInt8.ofNat ((33+i))]) H61_ (bit (H38_.nx)) 0:=ByU.toS0 rw63_ (by omega)
  have o73_:=okr (e:=e) rw63_ (by omega)
  have m74_:∀ t:T Value,t.get 209=vS [UInt8.ofNat ((33+i))]→fillL t [.int .i64 (0),.string ⟨#[]⟩] [(1,1,(.tmp 209))]=some [.int .i64 (0),vS [UInt8.ofNat ((33+i))]]:=fun t h0=>by simp only [fillL,evalO_tmp,evalO_const,h0];rfl
  have r75_:=(((hst_8.mv hk24_).mv nb31_.kept).ot wr40_.else_ (by omega)).mv kp64_
  have r76_:=(((hmem_8.mv hk24_).mv nb31_.kept).ot wr40_.else_ (by omega)).mv kp64_
  simp +decide only [areas_r43,g7_48,g12_48,g14_48,g18_48,g23_48,g24_48,g25_48,d50_,m51_,o52_,m53_,w54_,m55_,m57_,o58_,w59_,m60_,m66_,exFill_some,m67_,m69_,m72_,o73_,m74_,exFill_some,Xo 9,go_sem]
  refine EC.mono (rstore_ok S hf68_ (by omega) r75_ rfl rfl r76_ (fun h=>absurd h (by omega)) (fun h=>absurd h (by omega)) (fun h=>absurd h (by omega)) (by decide) (p:=16+off+q) (u:=UInt8.ofNat (33+i)) (by omega)) fun v H77_ _ hv78_=>?_
  obtain ⟨rfl,ov79_⟩:=hv78_
  have hf80_:=ov79_.fn
  have nx81_:=ov79_.nx
  have k82_:=k70_.upd ov79_.fn ov79_.nx ov79_.old (.inl (.inl rfl))
  rw [WOGk]
  have d83_:decide ((0:Int)=(0:Int))=true:=decide_eq_true (by omega)
  refine WOG.all (fun t' H'=>H77_=H'∧GT t' [(0,iN n),(7,pA 78 0),(9,iN (8*16)),(11,iN (8*1040)),(12,pA 106 0),(13,va),(14,iN i),(17,iN k),(18,iN (8*16+8*off)),(73,lv),(74,iN len),(75,iN i),(177,iN k),(178,iN q),(213,.bool false)]) ?_ ?_
  ·simp +decide only [areas_r43,g0_48,g7_48,g9_48,g11_48,g12_48,g13_48,g14_48,g17_48,g18_48,g23_48,g24_48,g25_48,g73_48,g74_48,g75_48,g177_48,g178_48,d83_,Xo 9,go_sem]
  rintro t84_ _ ⟨rfl,g0_84,g7_84,g9_84,g11_84,g12_84,g13_84,g14_84,g17_84,g18_84,g73_84,g74_84,g75_84,g177_84,g178_84,g213_84, -⟩
  refine hK0 _ _ ?_
  refine WK.cond (v:=false) (by rw [evalO_tmp,g213_84];rfl) ?_
  refine WK.skip ?_
  refine WK.reg_g ?_
  have w86_:Value.int .i64 (wrapF .i64 (((q:Nat):Int)+(1:Int)))=.int .i64 (((q+1):Nat):Int):=wF (by omega)
  refine WOG.all (fun t' H'=>H77_=H'∧GT t' [(0,iN n),(7,pA 78 0),(9,iN (8*16)),(11,iN (8*1040)),(12,pA 106 0),(13,va),(14,iN i),(17,iN k),(18,iN (8*16+8*off)),(73,lv),(74,iN len),(75,iN i),(177,iN k),(178,iN ((q+1)))]) ?_ ?_
  ·simp +decide only [areas_r45,g0_84,g7_84,g9_84,g11_84,g12_84,g13_84,g14_84,g17_84,g18_84,g73_84,g74_84,g75_84,g177_84,g178_84,g213_84,w86_,Xo 9,go_sem]
  rintro t87_ _ ⟨rfl,g0_87,g7_87,g9_87,g11_87,g12_87,g13_87,g14_87,g17_87,g18_87,g73_87,g74_87,g75_87,g177_87,g178_87, -⟩
  have r89_:ByU H77_ (76) 171 (fill F (16+off) (q+1) (UInt8.ofNat (33+i))) (65536):=ByU.congr ov79_.row (fun j hj=>fill_next j)
  have r90_:=r75_.mo ov79_.old (by omega)
  have r91_:=(r56_.mv kp64_).mo ov79_.old (by omega)
  have r92_:=((((hall_8.mv hk24_).mv nb31_.kept).ot wr40_.else_ (by omega)).mv kp64_).mo ov79_.old (by omega)
  have r93_:=(r45_.mv kp64_).mo ov79_.old (by omega)
  have r94_:=rw63_.mo ov79_.old (by omega)
  exact ⟨_,by omega,rfl,q+1,rfl,by omega,⟨hf80_,by omega,k82_,r90_,r91_,r89_,r92_,by omega⟩,g0_87,g7_87,g9_87,g11_87,g12_87,g13_87,g14_87,g17_87,g18_87,g73_87,g74_87,g75_87,g177_87,g178_87⟩
 case neg =>
  have hqk:q=k:=by omega
  refine WK.reg_g ?_
  have d13_:decide (((q:Nat):Int)<((k:Nat):Int))=false:=decide_eq_false (by omega)
  refine WOG.all (fun t' H'=>H_l7=H'∧GT t' [(0,iN n),(7,pA 78 0),(9,iN (8*16)),(11,iN (8*1040)),(12,pA 106 0),(13,va),(14,iN i),(17,iN k),(18,iN (8*16+8*off)),(73,lv),(74,iN len),(75,iN i),(177,iN k),(178,iN q),(179,.bool false)]) ?_ ?_
  ·simp +decide only [areas_r40,g0_l7,g7_l7,g9_l7,g11_l7,g12_l7,g13_l7,g14_l7,g17_l7,g18_l7,g73_l7,g74_l7,g75_l7,g177_l7,g178_l7,d13_,Xo 9,go_sem]
  rintro t14_ _ ⟨rfl,g0_14,g7_14,g9_14,g11_14,g12_14,g13_14,g14_14,g17_14,g18_14,g73_14,g74_14,g75_14,g177_14,g178_14,g179_14, -⟩
  refine WK.seq ?_
  refine WK.cond (v:=false) (by rw [evalO_tmp,g179_14];rfl) ?_
  refine WK.exit ?_
  have hz:Sit HL H_l7 (fill F (16+off) q (UInt8.ofNat (33+i))) ba va bl:=⟨hf_8,by omega,hX_8,hst_8,htc_8,hmem_8,hall_8,by omega⟩
  rw [hqk] at hz
  exact hK _ _ hz ⟨g0_14,g7_14,g9_14,g11_14,g12_14,g13_14,g14_14,g73_14,g74_14,g75_14⟩ g17_14 g18_14
end
end Go.Proofs.RS
end
