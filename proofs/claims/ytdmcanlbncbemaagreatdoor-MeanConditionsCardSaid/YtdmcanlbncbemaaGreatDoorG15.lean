/-
  A part of the proof that pliantlaw16.MeanConditions returns true and leaves its arguments alone. Conditions: those of the card in the last text.
-/
import Derived.Ground.Names2Prog
import Derived.Ground.NamesProg
import Derived.Shelf.Strconv.Itoa3
import Derived.Shelf.Strings.SlTrimAscii
import Derived.Shelf.Strings.Trim
import Derived.Test.YtdmcanlbncbemaaGreatDoorProg
import Derived.Test.YtdmcanlbncbemaaGreatDoorG09
import Derived.Test.YtdmcanlbncbemaaGreatDoorG13
import Derived.Test.YtdmcanlbncbemaaGreatDoorG14
set_option linter.unusedSimpArgs false
set_option linter.unusedVariables false
set_option linter.unusedSectionVars false
noncomputable section
namespace Go.Proofs
open Go.Shelf
def Tryz.lays161_ren : Go.Shelf.Ren := ⟨fun | 161 => 383 | 231 => 369 | 227 => 371 | 233 => 372 | 235 => 374 | 228 => 437 | 197 => 438 | 151 => 439 | 260 => 495 | 152 => 482 | 137 => 481 | 119 => 537 | 224 => 538 | 225 => 539 | 217 => 536 | 266 => 557 | n => n, fun | 9 => 9 | 4 => 4 | 3 => 3 | 5 => 5 | 117 => 471 | 116 => 470 | 0 => 0 | 124 => 474 | 105 => 526 | 21 => 21 | 119 => 100 | 46 => 216 | 139 => 619 | 138 => 618 | n => n, fun | 3 => 12 | 4 => 13 | n => n⟩
theorem Tryz.lays161 : Go.Proofs.Lays.n161 Tryz.prog Tryz.lays161_ren := {
  mixed := by kernel_rfl
  f119 := Tryz.func537.trans (congrArg some (by kernel_rfl))
  f137 := Tryz.func481.trans (congrArg some (by kernel_rfl))
  f151 := Tryz.func439.trans (congrArg some (by kernel_rfl))
  f152 := Tryz.func482.trans (congrArg some (by kernel_rfl))
  f161 := Tryz.func383.trans (congrArg some (by kernel_rfl))
  f197 := Tryz.func438.trans (congrArg some (by kernel_rfl))
  f217 := Tryz.func536.trans (congrArg some (by kernel_rfl))
  f224 := Tryz.func538.trans (congrArg some (by kernel_rfl))
  f225 := Tryz.func539.trans (congrArg some (by kernel_rfl))
  f227 := Tryz.func371.trans (congrArg some (by kernel_rfl))
  f228 := Tryz.func437.trans (congrArg some (by kernel_rfl))
  f231 := Tryz.func369.trans (congrArg some (by kernel_rfl))
  f233 := Tryz.func372.trans (congrArg some (by kernel_rfl))
  f235 := Tryz.func374.trans (congrArg some (by kernel_rfl))
  f260 := Tryz.func495.trans (congrArg some (by kernel_rfl))
  f266 := Tryz.func557.trans (congrArg some (by kernel_rfl))
  t0 := Tryz.underlying0
  a0 := Tryz.isAgg0
  z0 := Tryz.sizeOf0
  v0 := Tryz.zeroValue0
  t3 := Tryz.underlying3
  a3 := Tryz.isAgg3
  z3 := Tryz.sizeOf3
  v3 := Tryz.zeroValue3
  t4 := Tryz.underlying4
  a4 := Tryz.isAgg4
  z4 := Tryz.sizeOf4
  v4 := Tryz.zeroValue4
  t5 := Tryz.underlying5
  a5 := Tryz.isAgg5
  z5 := Tryz.sizeOf5
  v5 := Tryz.zeroValue5
  t9 := Tryz.underlying9
  a9 := Tryz.isAgg9
  z9 := Tryz.sizeOf9
  v9 := Tryz.zeroValue9
  t21 := Tryz.underlying21
  a21 := Tryz.isAgg21
  z21 := Tryz.sizeOf21
  v21 := Tryz.zeroValue21
  t46 := Tryz.underlying216
  a46 := Tryz.isAgg216
  z46 := Tryz.sizeOf216
  v46 := Tryz.zeroValue216
  t105 := Tryz.underlying526
  a105 := Tryz.isAgg526
  z105 := Tryz.sizeOf526
  v105 := Tryz.zeroValue526
  t116 := Tryz.underlying470
  a116 := Tryz.isAgg470
  z116 := Tryz.sizeOf470
  t117 := Tryz.underlying471
  a117 := Tryz.isAgg471
  z117 := Tryz.sizeOf471
  v117 := Tryz.zeroValue471
  t119 := Tryz.underlying100
  a119 := Tryz.isAgg100
  z119 := Tryz.sizeOf100
  t124 := Tryz.underlying474
  a124 := Tryz.isAgg474
  z124 := Tryz.sizeOf474
  v124 := Tryz.zeroValue474
  t138 := Tryz.underlying618
  a138 := Tryz.isAgg618
  z138 := Tryz.sizeOf618
  v138 := Tryz.zeroValue618
  t139 := Tryz.underlying619
  a139 := Tryz.isAgg619
  z139 := Tryz.sizeOf619
  v139 := Tryz.zeroValue619
  g3 := by kernel_rfl
  g4 := by kernel_rfl }
theorem Tryz.strings_TrimLeft_one (s : ByteArray) (c : UInt8) (hc : c.toNat < 128) (w : World) :
    Calls Tryz.prog 383 #[.string s, .string ⟨#[c]⟩] w fun e w' => e = .returned (.string ⟨(Lib.trimLeftB s.data.toList c).toArray⟩) ∧ w' = w := Any.strings_TrimLeft_one Tryz.lays161 s c hc w
def Tryz.lays162_ren : Go.Shelf.Ren := ⟨fun | 162 => 441 | 232 => 370 | 227 => 371 | 234 => 373 | 236 => 375 | 228 => 437 | 271 => 440 | 151 => 439 | 120 => 496 | 197 => 438 | 152 => 482 | 260 => 495 | 137 => 481 | 119 => 537 | 224 => 538 | 225 => 539 | 217 => 536 | 266 => 557 | n => n, fun | 9 => 9 | 4 => 4 | 3 => 3 | 5 => 5 | 117 => 471 | 116 => 470 | 0 => 0 | 124 => 474 | 21 => 21 | 105 => 526 | 46 => 216 | 119 => 100 | 139 => 619 | 138 => 618 | n => n, fun | 3 => 12 | 4 => 13 | n => n⟩
theorem Tryz.lays162 : Go.Proofs.Lays.n162 Tryz.prog Tryz.lays162_ren := {
  mixed := by kernel_rfl
  f119 := Tryz.func537.trans (congrArg some (by kernel_rfl))
  f120 := Tryz.func496.trans (congrArg some (by kernel_rfl))
  f137 := Tryz.func481.trans (congrArg some (by kernel_rfl))
  f151 := Tryz.func439.trans (congrArg some (by kernel_rfl))
  f152 := Tryz.func482.trans (congrArg some (by kernel_rfl))
  f162 := Tryz.func441.trans (congrArg some (by kernel_rfl))
  f197 := Tryz.func438.trans (congrArg some (by kernel_rfl))
  f217 := Tryz.func536.trans (congrArg some (by kernel_rfl))
  f224 := Tryz.func538.trans (congrArg some (by kernel_rfl))
  f225 := Tryz.func539.trans (congrArg some (by kernel_rfl))
  f227 := Tryz.func371.trans (congrArg some (by kernel_rfl))
  f228 := Tryz.func437.trans (congrArg some (by kernel_rfl))
  f232 := Tryz.func370.trans (congrArg some (by kernel_rfl))
  f234 := Tryz.func373.trans (congrArg some (by kernel_rfl))
  f236 := Tryz.func375.trans (congrArg some (by kernel_rfl))
  f260 := Tryz.func495.trans (congrArg some (by kernel_rfl))
  f266 := Tryz.func557.trans (congrArg some (by kernel_rfl))
  f271 := Tryz.func440.trans (congrArg some (by kernel_rfl))
  t0 := Tryz.underlying0
  a0 := Tryz.isAgg0
  z0 := Tryz.sizeOf0
  v0 := Tryz.zeroValue0
  t3 := Tryz.underlying3
  a3 := Tryz.isAgg3
  z3 := Tryz.sizeOf3
  v3 := Tryz.zeroValue3
  t4 := Tryz.underlying4
  a4 := Tryz.isAgg4
  z4 := Tryz.sizeOf4
  v4 := Tryz.zeroValue4
  t5 := Tryz.underlying5
  a5 := Tryz.isAgg5
  z5 := Tryz.sizeOf5
  v5 := Tryz.zeroValue5
  t9 := Tryz.underlying9
  a9 := Tryz.isAgg9
  z9 := Tryz.sizeOf9
  v9 := Tryz.zeroValue9
  t21 := Tryz.underlying21
  a21 := Tryz.isAgg21
  z21 := Tryz.sizeOf21
  v21 := Tryz.zeroValue21
  t46 := Tryz.underlying216
  a46 := Tryz.isAgg216
  z46 := Tryz.sizeOf216
  v46 := Tryz.zeroValue216
  t105 := Tryz.underlying526
  a105 := Tryz.isAgg526
  z105 := Tryz.sizeOf526
  v105 := Tryz.zeroValue526
  t116 := Tryz.underlying470
  a116 := Tryz.isAgg470
  z116 := Tryz.sizeOf470
  t117 := Tryz.underlying471
  a117 := Tryz.isAgg471
  z117 := Tryz.sizeOf471
  v117 := Tryz.zeroValue471
  t119 := Tryz.underlying100
  a119 := Tryz.isAgg100
  z119 := Tryz.sizeOf100
  t124 := Tryz.underlying474
  a124 := Tryz.isAgg474
  z124 := Tryz.sizeOf474
  v124 := Tryz.zeroValue474
  t138 := Tryz.underlying618
  a138 := Tryz.isAgg618
  z138 := Tryz.sizeOf618
  v138 := Tryz.zeroValue618
  t139 := Tryz.underlying619
  a139 := Tryz.isAgg619
  z139 := Tryz.sizeOf619
  v139 := Tryz.zeroValue619
  g3 := by kernel_rfl
  g4 := by kernel_rfl }
theorem Tryz.strings_TrimRight_one (s : ByteArray) (c : UInt8) (hc : c.toNat < 128) (w : World) (hs : s.size ≤ 9223372036854775807) :
    Calls Tryz.prog 441 #[.string s, .string ⟨#[c]⟩] w fun e w' => e = .returned (.string ⟨(Lib.trimRightB s.data.toList c).toArray⟩) ∧ w' = w := Any.strings_TrimRight_one Tryz.lays162 s c hc w hs
def Tryz.laysM171_ren : Go.Shelf.Ren := ⟨fun | 171 => 13 | 243 => 28 | 246 => 42 | 283 => 61 | 284 => 62 | 285 => 63 | 286 => 64 | 129 => 115 | 317 => 114 | 318 => 116 | 319 => 117 | 320 => 118 | 337 => 161 | 338 => 162 | n => n, fun | 3 => 3 | 9 => 9 | 2 => 2 | 4 => 4 | 171 => 148 | 0 => 0 | 53 => 66 | 37 => 126 | 5 => 5 | 173 => 151 | 212 => 214 | 51 => 141 | 20 => 20 | 213 => 215 | 46 => 216 | 232 => 333 | 233 => 334 | n => n, fun | 17 => 2 | 18 => 4 | 19 => 5 | n => n⟩
theorem Tryz.laysM171 : Go.Proofs.LaysM.n171 Tryz.prog Tryz.laysM171_ren := {
  mixed := by kernel_rfl
  f129 := Tryz.func115.trans (congrArg some (by kernel_rfl))
  f171 := Tryz.func13.trans (congrArg some (by kernel_rfl))
  f243 := Tryz.func28.trans (congrArg some (by kernel_rfl))
  f246 := Tryz.func42.trans (congrArg some (by kernel_rfl))
  f283 := Tryz.func61.trans (congrArg some (by kernel_rfl))
  f284 := Tryz.func62.trans (congrArg some (by kernel_rfl))
  f285 := Tryz.func63.trans (congrArg some (by kernel_rfl))
  f286 := Tryz.func64.trans (congrArg some (by kernel_rfl))
  f317 := Tryz.func114.trans (congrArg some (by kernel_rfl))
  f318 := Tryz.func116.trans (congrArg some (by kernel_rfl))
  f319 := Tryz.func117.trans (congrArg some (by kernel_rfl))
  f320 := Tryz.func118.trans (congrArg some (by kernel_rfl))
  f337 := Tryz.func161.trans (congrArg some (by kernel_rfl))
  f338 := Tryz.func162.trans (congrArg some (by kernel_rfl))
  t0 := Tryz.underlying0
  a0 := Tryz.isAgg0
  z0 := Tryz.sizeOf0
  v0 := Tryz.zeroValue0
  t2 := Tryz.underlying2
  a2 := Tryz.isAgg2
  z2 := Tryz.sizeOf2
  v2 := Tryz.zeroValue2
  t3 := Tryz.underlying3
  a3 := Tryz.isAgg3
  z3 := Tryz.sizeOf3
  v3 := Tryz.zeroValue3
  t4 := Tryz.underlying4
  a4 := Tryz.isAgg4
  z4 := Tryz.sizeOf4
  v4 := Tryz.zeroValue4
  t5 := Tryz.underlying5
  a5 := Tryz.isAgg5
  z5 := Tryz.sizeOf5
  v5 := Tryz.zeroValue5
  t9 := Tryz.underlying9
  a9 := Tryz.isAgg9
  z9 := Tryz.sizeOf9
  v9 := Tryz.zeroValue9
  t20 := Tryz.underlying20
  a20 := Tryz.isAgg20
  z20 := Tryz.sizeOf20
  v20 := Tryz.zeroValue20
  t37 := Tryz.underlying126
  a37 := Tryz.isAgg126
  z37 := Tryz.sizeOf126
  v37 := Tryz.zeroValue126
  t46 := Tryz.underlying216
  a46 := Tryz.isAgg216
  z46 := Tryz.sizeOf216
  v46 := Tryz.zeroValue216
  t51 := Tryz.underlying141
  a51 := Tryz.isAgg141
  z51 := Tryz.sizeOf141
  v51 := Tryz.zeroValue141
  t53 := Tryz.underlying66
  a53 := Tryz.isAgg66
  z53 := Tryz.sizeOf66
  v53 := Tryz.zeroValue66
  t171 := Tryz.underlying148
  a171 := Tryz.isAgg148
  z171 := Tryz.sizeOf148
  v171 := Tryz.zeroValue148
  t173 := Tryz.underlying151
  a173 := Tryz.isAgg151
  z173 := Tryz.sizeOf151
  v173 := Tryz.zeroValue151
  t212 := Tryz.underlying214
  a212 := Tryz.isAgg214
  z212 := Tryz.sizeOf214
  v212 := Tryz.zeroValue214
  t213 := Tryz.underlying215
  a213 := Tryz.isAgg215
  z213 := Tryz.sizeOf215
  t232 := Tryz.underlying333
  a232 := Tryz.isAgg333
  z232 := Tryz.sizeOf333
  v232 := Tryz.zeroValue333
  t233 := Tryz.underlying334
  a233 := Tryz.isAgg334
  z233 := Tryz.sizeOf334
  v233 := Tryz.zeroValue334
  g17 := by kernel_rfl
  g18 := by kernel_rfl
  g19 := by kernel_rfl
  i0 := by kernel_rfl
  i2 := by kernel_rfl
  i3 := by kernel_rfl
  i4 := by kernel_rfl
  i5 := by kernel_rfl
  i9 := by kernel_rfl
  i20 := by kernel_rfl
  i37 := by kernel_rfl
  i46 := by kernel_rfl
  i51 := by kernel_rfl
  i53 := by kernel_rfl
  i171 := by kernel_rfl
  i173 := by kernel_rfl
  i212 := by kernel_rfl
  i232 := by kernel_rfl
  i233 := by kernel_rfl
  m17 := by kernel_rfl
  m18 := by kernel_rfl
  m19 := by kernel_rfl }
open Go.RowKit Go.Sort Go.Lib in
theorem Tryz.strconv_Itoa (n : Int) (h0 : -9223372036854775808 ≤ n) (h1 : n ≤ 9223372036854775807) (w : World) (htab : Lib.TabIs Tryz.prog w "internal/strconv.uint64pow10" .u64 Lib.pow10Tab) :
    Calls Tryz.prog 13 #[.int .i64 n] w fun e w' => e = .returned (.string ⟨(Lib.itoa n).toArray⟩) ∧ ∃ k os, w' = grow (w.drewN k) os := Any.strconv_Itoa Tryz.laysM171 n h0 h1 w htab
end Go.Proofs
end
noncomputable section
namespace Go.Proofs.CN
open Go Go.Ev Go.Proofs Go.Ev.SM Go.Proofs.MN
theorem ent383 (args : Array Value) (W : World) : (callFunc 383 args).run Tryz.prog W = .ok (.enter 383 args) W := by kernel_rfl
theorem ent441 (args : Array Value) (W : World) : (callFunc 441 args).run Tryz.prog W = .ok (.enter 441 args) W := by kernel_rfl
end Go.Proofs.CN
end
noncomputable section
namespace Go.Proofs
open Go.Shelf
def Tryz.lays160_ren : Go.Shelf.Ren := ⟨fun | 160 => 309 | 232 => 370 | 231 => 369 | 227 => 371 | 234 => 373 | 233 => 372 | 236 => 375 | 235 => 374 | 228 => 437 | 271 => 440 | 151 => 439 | 197 => 438 | 120 => 496 | 152 => 482 | 260 => 495 | 137 => 481 | 119 => 537 | 224 => 538 | 225 => 539 | 217 => 536 | 266 => 557 | n => n, fun | 9 => 9 | 4 => 4 | 3 => 3 | 5 => 5 | 117 => 471 | 116 => 470 | 0 => 0 | 124 => 474 | 21 => 21 | 105 => 526 | 46 => 216 | 119 => 100 | 139 => 619 | 138 => 618 | n => n, fun | 3 => 12 | 4 => 13 | n => n⟩
theorem Tryz.lays160 : Go.Proofs.Lays.n160 Tryz.prog Tryz.lays160_ren := {
  mixed := by kernel_rfl
  f119 := Tryz.func537.trans (congrArg some (by kernel_rfl))
  f120 := Tryz.func496.trans (congrArg some (by kernel_rfl))
  f137 := Tryz.func481.trans (congrArg some (by kernel_rfl))
  f151 := Tryz.func439.trans (congrArg some (by kernel_rfl))
  f152 := Tryz.func482.trans (congrArg some (by kernel_rfl))
  f160 := Tryz.func309.trans (congrArg some (by kernel_rfl))
  f197 := Tryz.func438.trans (congrArg some (by kernel_rfl))
  f217 := Tryz.func536.trans (congrArg some (by kernel_rfl))
  f224 := Tryz.func538.trans (congrArg some (by kernel_rfl))
  f225 := Tryz.func539.trans (congrArg some (by kernel_rfl))
  f227 := Tryz.func371.trans (congrArg some (by kernel_rfl))
  f228 := Tryz.func437.trans (congrArg some (by kernel_rfl))
  f231 := Tryz.func369.trans (congrArg some (by kernel_rfl))
  f232 := Tryz.func370.trans (congrArg some (by kernel_rfl))
  f233 := Tryz.func372.trans (congrArg some (by kernel_rfl))
  f234 := Tryz.func373.trans (congrArg some (by kernel_rfl))
  f235 := Tryz.func374.trans (congrArg some (by kernel_rfl))
  f236 := Tryz.func375.trans (congrArg some (by kernel_rfl))
  f260 := Tryz.func495.trans (congrArg some (by kernel_rfl))
  f266 := Tryz.func557.trans (congrArg some (by kernel_rfl))
  f271 := Tryz.func440.trans (congrArg some (by kernel_rfl))
  t0 := Tryz.underlying0
  a0 := Tryz.isAgg0
  z0 := Tryz.sizeOf0
  v0 := Tryz.zeroValue0
  t3 := Tryz.underlying3
  a3 := Tryz.isAgg3
  z3 := Tryz.sizeOf3
  v3 := Tryz.zeroValue3
  t4 := Tryz.underlying4
  a4 := Tryz.isAgg4
  z4 := Tryz.sizeOf4
  v4 := Tryz.zeroValue4
  t5 := Tryz.underlying5
  a5 := Tryz.isAgg5
  z5 := Tryz.sizeOf5
  v5 := Tryz.zeroValue5
  t9 := Tryz.underlying9
  a9 := Tryz.isAgg9
  z9 := Tryz.sizeOf9
  v9 := Tryz.zeroValue9
  t21 := Tryz.underlying21
  a21 := Tryz.isAgg21
  z21 := Tryz.sizeOf21
  v21 := Tryz.zeroValue21
  t46 := Tryz.underlying216
  a46 := Tryz.isAgg216
  z46 := Tryz.sizeOf216
  v46 := Tryz.zeroValue216
  t105 := Tryz.underlying526
  a105 := Tryz.isAgg526
  z105 := Tryz.sizeOf526
  v105 := Tryz.zeroValue526
  t116 := Tryz.underlying470
  a116 := Tryz.isAgg470
  z116 := Tryz.sizeOf470
  t117 := Tryz.underlying471
  a117 := Tryz.isAgg471
  z117 := Tryz.sizeOf471
  v117 := Tryz.zeroValue471
  t119 := Tryz.underlying100
  a119 := Tryz.isAgg100
  z119 := Tryz.sizeOf100
  t124 := Tryz.underlying474
  a124 := Tryz.isAgg474
  z124 := Tryz.sizeOf474
  v124 := Tryz.zeroValue474
  t138 := Tryz.underlying618
  a138 := Tryz.isAgg618
  z138 := Tryz.sizeOf618
  v138 := Tryz.zeroValue618
  t139 := Tryz.underlying619
  a139 := Tryz.isAgg619
  z139 := Tryz.sizeOf619
  v139 := Tryz.zeroValue619
  g3 := by kernel_rfl
  g4 := by kernel_rfl }
end Go.Proofs
end
noncomputable section
namespace Go.Proofs.CN
open Go Go.Ev Go.Proofs Go.Ev.SM Go.Proofs.MN
inductive LibR : Nat → List Value → Value → Prop
  | itoa (n : Int) (h0 : -9223372036854775808 ≤ n) (h1 : n ≤ 9223372036854775807) : LibR 13 [.int .i64 n] (.string ⟨(Lib.itoa n).toArray⟩)
  | trimL (s : ByteArray) (c : UInt8) (hc : c.toNat < 128) : LibR 383 [.string s, .string ⟨#[c]⟩] (.string ⟨(Lib.trimLeftB s.data.toList c).toArray⟩)
  | trimR (s : ByteArray) (c : UInt8) (hc : c.toNat < 128) (hs : s.size ≤ 9223372036854775807) : LibR 441 [.string s, .string ⟨#[c]⟩] (.string ⟨(Lib.trimRightB s.data.toList c).toArray⟩)
  | trim (s t : ByteArray) (h2 : 2 ≤ t.size) (h0 : 0 < s.size) (hs : s.size ≤ 9223372036854775807) (hcs : t.size < 4294967281) (hac : ∀ (j : Nat) b, t.data.toList[j]? = some b → b.toNat < 128) :
      LibR 309 [.string s, .string t] (.string ⟨(Lib.trimS s.data.toList t.data.toList).toArray⟩)
theorem zero470 (w : World) : (zeroValue 470).run Tryz.prog w = .ok (.agg (Array.replicate 256 (.bool false))) w := by kernel_rfl
theorem size470 : (Tryz.prog.info? 470).map (·.size) = some 256 := by kernel_rfl
theorem ent13 (args : Array Value) (W : World) : (callFunc 13 args).run Tryz.prog W = .ok (.enter 13 args) W := by kernel_rfl
theorem ent309 (args : Array Value) (W : World) : (callFunc 309 args).run Tryz.prog W = .ok (.enter 309 args) W := by kernel_rfl
theorem LibR.ent {f : Nat} {l : List Value} {v : Value} (h : LibR f l v) (args : Array Value) (W : World) : (callFunc f args).run Tryz.prog W = .ok (.enter f args) W := by
  cases h
  · exact ent13 _ _
  · exact ent383 _ _
  · exact ent441 _ _
  · exact ent309 _ _
theorem LibR.calls {f : Nat} {l : List Value} {v : Value} (h : LibR f l v) (W : World) (ht : f = 13 → Lib.TabIs Tryz.prog W "internal/strconv.uint64pow10" .u64 Lib.pow10Tab) (args : Array Value) (ha : args.toList = l) :
    Calls Tryz.prog f args W fun e W' => e = .returned v ∧ ∃ k os, W' = Sort.grow (W.drewN k) os := by
  have : args = l.toArray := by rw [← ha]
  subst this
  cases h with
  | itoa n h0 h1 => exact Tryz.strconv_Itoa n h0 h1 W (ht rfl)
  | trimL s c hc =>
    refine (Tryz.strings_TrimLeft_one s c hc W).mono fun e W' h => ?_
    exact ⟨h.1, 0, #[], by rw [h.2]; simp [Sort.grow, World.drewN]⟩
  | trimR s c hc hs =>
    refine (Tryz.strings_TrimRight_one s c hc W hs).mono fun e W' h => ?_
    exact ⟨h.1, 0, #[], by rw [h.2]; simp [Sort.grow, World.drewN]⟩
  | trim s t h2 h0 hs hcs hac =>
    refine (Any.strings_Trim_set Tryz.lays160 zero470 size470 s t W h2 h0 hs hcs hac).mono fun e W' h => ?_
    obtain ⟨he, q, hw⟩ := h
    refine ⟨he, q, #[.cells (Lib.setCells t.data.toList) (Tryz.lays160_ren.t 116)] ++ #[.cells (Lib.setCells t.data.toList) (Tryz.lays160_ren.t 116)], ?_⟩
    rw [hw, Sort.alloc_eq_grow, Sort.alloc_eq_grow, Sort.grow_grow]; rfl
theorem pw_tab {β : Mp} {W : World} {m : Bm} (h : BOk β W pwB m) (h2 : m.rb = 2) (h3 : m.sh = 0) : Lib.TabIs Tryz.prog W "internal/strconv.uint64pow10" .u64 Lib.pow10Tab := by
  obtain ⟨t, ht, hc⟩ := blkL_eq ((List.range 20).map fun i => Value.int .u64 (.ofNat (Nat.pow 10 i))) 214 0
  unfold pwB at h
  rw [ht] at h
  obtain ⟨o, ho, cs, fr, rfl, h4, h5, h6, h7, h8, h9⟩ := h
  rw [h2] at ho
  unfold Lib.TabIs World.var?
  rw [show Tryz.prog.globalNamed "internal/strconv.uint64pow10" = some 2 from by kernel_rfl]
  show (match W.heap[2]? with | some (.cells cs _ _) => some cs | _ => none) = _
  rw [ho]
  show some cs = some _
  congr 1
  have hn : cs.size = 20 := by rw [h4, (h6 rfl).2]; rfl
  apply Array.ext
  · rw [hn]; rfl
  · intro i h1 h2'
    have hi : i < 20 := by omega
    obtain ⟨q1, v', q2, q3⟩ := h8 i (by show i < _; simpa using hi)
    rw [h3, Nat.zero_add, Array.getElem?_eq_getElem h1] at q2
    have hv := hc i (.int .u64 (.ofNat (Nat.pow 10 i))) (by rw [List.getElem?_map, List.getElem?_range hi]; rfl)
    rw [hv] at q3
    cases q3
    rw [Option.some.inj q2]
    have key : (Lib.pow10Tab.map fun z => Value.int .u64 z) = (List.range 20).map fun i => Value.int .u64 (.ofNat (Nat.pow 10 i)) := by kernel_rfl
    have : ((Lib.pow10Tab.map fun z => Value.int .u64 z).toArray)[i]? = some (Value.int .u64 (.ofNat (Nat.pow 10 i))) := by
      rw [List.getElem?_toArray, key, List.getElem?_map, List.getElem?_range hi]; rfl
    rw [Array.getElem?_eq_getElem h2'] at this
    exact (Option.some.inj this).symm
abbrev LibT := Nat → List Value → Option Value
def LtOk (P : Sem → Prop) (lt : LibT) : Prop := ∀ s, P s → ∀ f l v, lt f l = some v → l.all okA = true ∧ okA v = true ∧ LibR f (l.map (real s)) (real s v)
def spLib (lt : LibT) (f : Nat) (args : List Value) (H : Hp) : Ans := match lt f args with
  | some v => Bc (Nat.beq f 13) (Bc (hasPw H) (some (v, H, 4, 0)) none) (some (v, H, 0, 0))
  | none => none
theorem lib_ok {P : Sem → Prop} {hk : HkOp → List Value → Option Value} {hok : HkOk P hk} {lt : LibT} (hlt : LtOk P lt) {f : Nat} {args : List Value} {H H' : Hp} {v : Value} {r w : Nat} (hw : H.wf) (h : spLib lt f args H = some (v, H', r, w)) :
    @TaskOk (SyC P hk hok) Tryz.prog NG (.call f args) H (.k (.ret v H' r w)) := by
  letI := SyC P hk hok
  unfold spLib at h
  cases e1 : lt f args with
  | none => rw [e1] at h; cases h
  | some u =>
    rw [e1] at h
    replace h : Bc (Nat.beq f 13) (Bc (hasPw H) (some (u, H, 4, 0)) none) (some (u, H, 0, 0)) = some (v, H', r, w) := h
    have key : ∀ {r' : Nat}, (f = 13 → hasPw H = true ∧ r' = 4) → TaskOk Tryz.prog NG (.call f args) H (.k (.ret u H r' 0)) := by
      intro r' hp
      have hent : ∀ (args : Array Value) (W : World), (callFunc f args).run Tryz.prog W = .ok (.enter f args) W ∨ True := fun _ _ => .inr trivial
      refine ⟨Can.refl hw, fun β W hg p args' hl => ?_⟩
      obtain ⟨hg1, s, hP, tb⟩ := hg
      obtain ⟨q1, q2, q3⟩ := hlt s hP f args u e1
      have hr := reals_of (hok.sc s hP) tb q1 hl
      refine .inl ⟨q3.ent _ _, callsIn_wide.2 ((q3.calls W (fun hf => ?_) args' hr).mono fun e W' hR => ?_)⟩
      · obtain ⟨p1, rfl⟩ := hp hf
        obtain ⟨m, em, hm1, hm2⟩ := hg1 2 (by decide)
        have hal : alive H 2 := by
          unfold hasPw at p1
          refine ⟨?_, covB_alive p1 (by show pwB ≠ .no; obtain ⟨t, ht, _⟩ := blkL_eq ((List.range 20).map fun i => Value.int .u64 (.ofNat (Nat.pow 10 i))) 214 0; unfold pwB; rw [ht]; exact fun h => by cases h)⟩
          rcases Nat.lt_or_ge 2 H.nx with h | h
          · exact h
          · exfalso
            have : H.blk 2 = .no := blk_out h
            rw [this] at p1; cases p1
        obtain ⟨m', em', hb⟩ := p.rel 2 (.inl (by decide)) hal
        rw [em] at em'; cases em'
        have hb2 := covB_ok (tab := fun _ => none) TabOk.none (mapOk_cut β 15) ⟨s, hP, tb⟩ p1 hb
        exact pw_tab hb2 hm1 hm2
      · obtain ⟨rfl, k, os, rfl⟩ := hR
        exact ⟨β, _, rfl, (real_of (hok.sc s hP) tb q2).2 rfl, (Post.refl p.dom).grow (os := os) rfl ⟨rfl, rfl, rfl⟩⟩
    cases e2 : Nat.beq f 13 with
    | true =>
      rw [e2, Bc_t] at h
      obtain ⟨h1, h⟩ := bc_some h
      cases h
      exact key fun _ => ⟨h1, rfl⟩
    | false =>
      rw [e2, Bc_f] at h
      cases h
      exact key fun hf => by rw [hf] at e2; cases e2
def hkT (sh : Sh) (cut : Bool) : HkOp → List Value → Option Value
  | .bin .add, [.int .i64 (.ofNat 0), .chan (some k)] => Bc (!cut && (!sh.ng && (Nat.beq sh.L 1 && Nat.beq k 3140))) (some (sy 4000)) none
  | .bin .add, [.chan (some j), .chan (some k)] => Bc (!cut && (!sh.ng && (Nat.blt 1 sh.L && (Nat.beq (j + 1) (3180 + sh.L) && Nat.beq j (k + 40))))) (some (sy 4000)) none
  | .neg, [.chan (some k)] => Bc (sh.ng && (Bc cut (Nat.beq k 4001) (Nat.beq k (3160 + sh.L)))) (some (sy 4000)) none
  | .bin .rem, [.chan (some k), .int .i64 (.ofNat 32768)] => Bc (cut && Nat.beq k (3160 + sh.L)) (some (sy (Bc sh.ng 4001 4000))) none
  | _, _ => none
theorem nb_not {b : Bool} : (!b) = true ↔ b = false := by cases b <;> simp
theorem at3 (zs : Nat → Int) {j : Nat} (h : j < 1000) : semZ zs (3000 + j) = slot (zs 3) j := by
  unfold semZ
  rw [show (3000 + j) / 1000 = 3 from by omega, show (3000 + j) % 1000 = j from by omega]
theorem tmod_small {z : Int} (h : z.natAbs < 32768) : z.tmod 32768 = z := by
  rcases Int.natAbs_eq z with e | e
  · rw [e]; exact Int.tmod_eq_of_lt (by omega) (by omega)
  · rw [e, Int.neg_tmod, Int.tmod_eq_of_lt (by omega) (by omega)]
theorem tmod_abs (z : Int) : ((z.tmod 32768).natAbs : Int) = ((z.natAbs : Int)).tmod 32768 := by
  rcases Int.natAbs_eq z with e | e
  · rw [e, Int.natAbs_natCast]
    have : (0 : Int) ≤ ((z.natAbs : Int)).tmod 32768 := Int.tmod_nonneg _ (by omega)
    omega
  · rw [e, Int.neg_tmod, Int.natAbs_neg, Int.natAbs_neg, Int.natAbs_natCast]
    have : (0 : Int) ≤ ((z.natAbs : Int)).tmod 32768 := Int.tmod_nonneg _ (by omega)
    omega
theorem tmod_sign {z : Int} (h : z < 0) : z.tmod 32768 = -((z.tmod 32768).natAbs : Int) := by
  rw [tmod_abs]
  have e : z = -((z.natAbs : Nat) : Int) := by omega
  conv => lhs; rw [e]
  rw [Int.neg_tmod]
theorem rem_n {m : Nat} : binV0 .rem (nI .i64 m) (nI .i64 32768) = some (.int .i64 (((m : Nat) : Int).tmod 32768)) := rfl
theorem hkT_ok {Q : (Nat → Int) → Prop} {sh : Sh} {cut : Bool} (hQ : ∀ zs, Q zs → ShOk sh (zs 3) ∧ zs 4 = (zs 3).tmod 32768 ∧ (cut = false → sh.hi < 32768)) : HkS (PW Q) (hkT sh cut) := by
  rintro s ⟨zs, rfl, hl, hr, hq⟩ h l v e
  obtain ⟨o, h4, hc⟩ := hQ zs hq
  have h6 : (zs 3).natAbs < 1000000 := Nat.lt_of_le_of_lt o.hi o.h6
  have hhi := o.hi
  have hng := o.ng
  have hL := o.L
  have hnd := nd_le (zs 3).natAbs
  have hnp := nd_pos (zs 3).natAbs
  have hpL : slot (zs 3) (160 + sh.L) = nI .i64 (zs 3).natAbs := by
    rw [slot_160 _ (by omega), hL, Nat.sub_self, Nat.pow_zero, Nat.div_one]
  have h40 : semZ zs 4000 = .int .i64 (zs 4) := at4 zs (j := 0) (by omega)
  have h41 : semZ zs 4001 = nI .i64 (zs 4).natAbs := at4 zs (j := 1) (by omega)
  unfold hkT at e
  split at e
  · replace e := bc_some e
    obtain ⟨c, e⟩ := e
    simp only [Bool.and_eq_true, beq_iff, nb_not] at c
    obtain ⟨c1, c2, c3, rfl⟩ := c
    cases e
    have h43 : zs 4 = zs 3 := by rw [h4]; exact tmod_small (by have := hc c1; omega)
    rw [c2, if_neg Bool.false_ne_true] at hng
    refine ⟨ok2j (by omega) rfl, rfl, ?_⟩
    show hkV (.bin .add) [nI .i64 0, semZ zs (3000 + (140 + 0))] = some (semZ zs 4000)
    rw [at3 zs (by omega), slot_140 _ (by omega), h40, h43]
    refine (bin_add_n (c := (zs 3).natAbs) ?_ (by omega)).trans ?_
    · rw [Nat.zero_add, dgt_0 h6, hL, c3]; simp
    · show some (Value.int .i64 (((zs 3).natAbs : Nat) : Int)) = _
      rw [show (((zs 3).natAbs : Nat) : Int) = zs 3 from by omega]
  · rename_i j k
    replace e := bc_some e
    obtain ⟨c, e⟩ := e
    simp only [Bool.and_eq_true, beq_iff, blt_iff, nb_not] at c
    obtain ⟨c1, c2, c3, c4, c5⟩ := c
    cases e
    have h43 : zs 4 = zs 3 := by rw [h4]; exact tmod_small (by have := hc c1; omega)
    rw [c2, if_neg Bool.false_ne_true] at hng
    obtain ⟨i, hi⟩ : ∃ i, sh.L = i + 1 := ⟨sh.L - 1, by omega⟩
    have e1 : j = 3000 + (180 + i) := by omega
    have e2 : k = 3000 + (140 + i) := by omega
    subst e1; subst e2
    refine ⟨ok2s (by omega) (by omega), rfl, ?_⟩
    show hkV (.bin .add) [semZ zs (3000 + (180 + i)), semZ zs (3000 + (140 + i))] = some (semZ zs 4000)
    rw [at3 zs (by omega), at3 zs (by omega), slot_140 _ (by omega), slot_180 _ (by omega), h40, h43]
    have hp := pre_dgt (m := (zs 3).natAbs) (i := i) (by omega)
    refine (bin_add_n (c := (zs 3).natAbs) ?_ (by omega)).trans ?_
    · rw [hp, hL, hi, Nat.sub_self, Nat.pow_zero, Nat.div_one]
    · show some (Value.int .i64 (((zs 3).natAbs : Nat) : Int)) = _
      rw [show (((zs 3).natAbs : Nat) : Int) = zs 3 from by omega]
  · rename_i k
    replace e := bc_some e
    obtain ⟨c, e⟩ := e
    rw [Bool.and_eq_true] at c
    obtain ⟨c1, c2⟩ := c
    cases e
    rw [c1, if_pos rfl] at hng
    cases hcut : cut with
    | true =>
      rw [hcut, Bc_t, beq_iff] at c2; subst c2
      refine ⟨rfl, rfl, ?_⟩
      show hkV .neg [semZ zs 4001] = some (semZ zs 4000)
      rw [h41, h40]
      show some (Value.int .i64 (wrapF .i64 (0 - (((zs 4).natAbs : Nat) : Int)))) = _
      rw [show 0 - (((zs 4).natAbs : Nat) : Int) = zs 4 from by
        have := tmod_sign hng
        rw [h4]; omega, wrap64 (by omega) (by omega)]
    | false =>
      rw [hcut, Bc_f, beq_iff] at c2; subst c2
      have h43 : zs 4 = zs 3 := by rw [h4]; exact tmod_small (by have := hc hcut; omega)
      refine ⟨ok1 (by omega), rfl, ?_⟩
      show hkV .neg [semZ zs (3160 + sh.L)] = some (semZ zs 4000)
      rw [show 3160 + sh.L = 3000 + (160 + sh.L) from by omega, at3 zs (by omega), hpL, h40, h43]
      show some (Value.int .i64 (wrapF .i64 (0 - (((zs 3).natAbs : Nat) : Int)))) = _
      rw [show 0 - (((zs 3).natAbs : Nat) : Int) = zs 3 from by omega, wrap64 (by omega) (by omega)]
  · rename_i k
    replace e := bc_some e
    obtain ⟨c, e⟩ := e
    rw [Bool.and_eq_true, beq_iff] at c
    obtain ⟨c1, rfl⟩ := c
    cases e
    have key : hkV (.bin .rem) [semZ zs (3160 + sh.L), nI .i64 32768] = some (nI .i64 (zs 4).natAbs) := by
      rw [show 3160 + sh.L = 3000 + (160 + sh.L) from by omega, at3 zs (by omega), hpL]
      refine rem_n.trans ?_
      rw [← tmod_abs, ← h4]; rfl
    cases hb : sh.ng with
    | true =>
      rw [Bc_t]
      refine ⟨ok2i (by omega) rfl, rfl, ?_⟩
      refine key.trans ?_
      show _ = some (semZ zs 4001)
      rw [h41]
    | false =>
      rw [Bc_f]
      rw [hb, if_neg Bool.false_ne_true] at hng
      refine ⟨ok2i (by omega) rfl, rfl, ?_⟩
      refine key.trans ?_
      show _ = some (semZ zs 4000)
      rw [h40, h4]
      have : (0 : Int) ≤ (zs 3).tmod 32768 := Int.tmod_nonneg _ hng
      show some (Value.int .i64 (((zs 3).tmod 32768).natAbs : Int)) = _
      rw [show ((((zs 3).tmod 32768).natAbs : Nat) : Int) = (zs 3).tmod 32768 from by omega]
  · cases e
def chkS : List Value → Nat → Nat → Bool
  | [], _, n => Nat.beq n 0
  | v :: r, k, n => match v with | .chan (some j) => Bc (Nat.beq j k && Nat.blt 0 n) (chkS r (k + 1) (n - 1)) false | _ => false
theorem chkS_inv : ∀ {l : List Value} {k n : Nat}, chkS l k n = true → l = (List.range n).map fun i => sy (k + i)
  | [], k, n, h => by have := (beq_iff _ _).1 h; subst this; rfl
  | v :: r, k, n, h => by
    unfold chkS at h
    split at h
    · rename_i j
      cases e : (Nat.beq j k && Nat.blt 0 n) with
      | false => rw [e, Bc_f] at h; cases h
      | true =>
        rw [e, Bc_t] at h
        simp only [Bool.and_eq_true, beq_iff, blt_iff] at e
        obtain ⟨rfl, e⟩ := e
        obtain ⟨m, rfl⟩ : ∃ m, n = m + 1 := ⟨n - 1, by omega⟩
        rw [chkS_inv h, List.range_succ_eq_map, List.map_cons, List.map_map]
        congr 1
        apply List.map_congr_left
        intro i hi
        show sy (j + 1 + i) = sy (j + (i + 1))
        congr 1; omega
    · cases h
def hkP (S : Nat) (sh : Sh) : HkOp → List Value → Option Value
  | .bin .add, [.string s, .chan (some k)] => Bc (Nat.beq k (1000 * S + 2) && isSt s (Bc sh.ng [45] [])) (some (sy (1000 * S + 4)))
      (Bc (Nat.beq k (1000 * S + 4) && isSt s []) (some (sy (1000 * S + 4)))
      (Bc (Nat.beq k (1000 * S + 4) && isSt s (List.replicate (9 - (sh.L + sg sh.ng)) 32)) (some (sy (1000 * S + 5))) none))
  | .str, l => Bc (chkS l (1000 * S + 200) (sh.L + sg sh.ng)) (some (sy (1000 * S + 4))) none
  | _, _ => none
theorem stx_split {z : Int} {b : Bool} (h : if b then z < 0 else 0 ≤ z) : (Bc b [45] [] : List UInt8) ++ txt z.natAbs = stx z := by
  cases b with
  | true => exact (stx_neg h).symm
  | false => exact (stx_pos h).symm
theorem hkP_ok {Q : (Nat → Int) → Prop} {S : Nat} {sh : Sh} (hQ : ∀ zs, Q zs → ShOk sh (zs S)) : HkS (PW Q) (hkP S sh) := by
  rintro s ⟨zs, rfl, hl, hr, hq⟩ h l v e
  have o := hQ zs hq
  have hng := o.ng
  have hL := o.L
  have hnd := nd_le (zs S).natAbs
  have hsg := sg_le sh.ng
  have hsl := stx_len (zs S) sh.ng hng
  unfold hkP at e
  split at e
  · rename_i s k
    cases c1 : (Nat.beq k (1000 * S + 2) && isSt s (Bc sh.ng [45] [])) with
    | true =>
      rw [c1, Bc_t] at e; cases e
      rw [Bool.and_eq_true, beq_iff] at c1
      obtain ⟨rfl, c1⟩ := c1
      have := isSt_inv c1; subst this
      refine ⟨ok2j (by omega) rfl, ok_sy (by omega), ?_⟩
      show hkV (.bin .add) [sI (Bc sh.ng [45] []), semZ zs (1000 * S + 2)] = some (semZ zs (1000 * S + 4))
      rw [atS zs S (by omega), atS zs S (by omega)]
      exact bin_app (stx_split hng) (by rw [hsl]; omega)
    | false =>
    rw [c1, Bc_f] at e
    cases c2 : (Nat.beq k (1000 * S + 4) && isSt s []) with
    | true =>
      rw [c2, Bc_t] at e; cases e
      rw [Bool.and_eq_true, beq_iff] at c2
      obtain ⟨rfl, c2⟩ := c2
      have := isSt_inv c2; subst this
      refine ⟨ok2j (by omega) rfl, ok_sy (by omega), ?_⟩
      show hkV (.bin .add) [sI [], semZ zs (1000 * S + 4)] = some (semZ zs (1000 * S + 4))
      rw [atS zs S (by omega)]
      exact bin_app (List.nil_append _) (by rw [hsl]; omega)
    | false =>
    rw [c2, Bc_f] at e
    replace e := bc_some e
    obtain ⟨c3, e⟩ := e
    rw [Bool.and_eq_true, beq_iff] at c3
    obtain ⟨rfl, c3⟩ := c3
    have := isSt_inv c3; subst this
    cases e
    refine ⟨ok2j (by omega) rfl, ok_sy (by omega), ?_⟩
    show hkV (.bin .add) [sI (List.replicate (9 - (sh.L + sg sh.ng)) 32), semZ zs (1000 * S + 4)] = some (semZ zs (1000 * S + 5))
    rw [atS zs S (by omega), atS zs S (by omega)]
    refine bin_app (y := stx (zs S)) (z := List.replicate (9 - (stx (zs S)).length) 32 ++ stx (zs S)) ?_ ?_
    · rw [hsl, hL]
    · rw [List.length_append, List.length_replicate, hsl]; omega
  · rename_i l
    replace e := bc_some e
    obtain ⟨c, e⟩ := e
    have hl2 := chkS_inv c
    cases e
    subst hl2
    refine ⟨?_, ok_sy (by omega), ?_⟩
    · rw [List.all_eq_true]; intro x hx
      obtain ⟨i, _, rfl⟩ := List.mem_map.1 hx
      exact ok_sy (by omega)
    rw [List.map_map]
    have e1 : (List.range (sh.L + sg sh.ng)).map (real (semZ zs) ∘ fun i => sy (1000 * S + 200 + i)) = (List.range (sh.L + sg sh.ng)).map fun i => nI .u8 ((stx (zs S)).getD i 0).toNat := by
      apply List.map_congr_left
      intro i hi
      have hi := List.mem_range.1 hi
      show semZ zs (1000 * S + 200 + i) = _
      rw [show 1000 * S + 200 + i = 1000 * S + (200 + i) from by omega, atS zs S (by omega), slot_200 _ (by omega)]
    rw [e1]
    show (match strOf ((List.range (sh.L + sg sh.ng)).map fun i => nI .u8 ((stx (zs S)).getD i 0).toNat) with | some s => some (Value.string ⟨⟨s⟩⟩) | none => none) = _
    rw [strOf_bits (fun i => ((stx (zs S)).getD i 0).toNat) (fun i => UInt8.toNat_lt _)]
    show some (sI ((List.range (sh.L + sg sh.ng)).map fun i => UInt8.ofNat ((stx (zs S)).getD i 0).toNat)) = some (semZ zs (1000 * S + 4))
    rw [atS zs S (by omega)]
    congr 1
    show sI _ = sI (stx (zs S))
    congr 1
    apply List.ext_getElem?
    intro i
    rw [List.getElem?_map]
    by_cases hi : i < sh.L + sg sh.ng
    · rw [List.getElem?_range hi]
      have hi2 : i < (stx (zs S)).length := by rw [hsl, hL]; exact hi
      show some (UInt8.ofNat ((stx (zs S)).getD i 0).toNat) = _
      rw [UInt8.ofNat_toNat, List.getElem?_eq_getElem hi2, getD_of (List.getElem?_eq_getElem hi2)]
    · rw [List.getElem?_eq_none (by rw [List.length_range]; omega), List.getElem?_eq_none (by rw [hsl, hL]; omega)]; rfl
  · cases e
def tenD : List UInt8 := [48, 49, 50, 51, 52, 53, 54, 55, 56, 57]
def ltD (S : Nat) (sh : Sh) (f : Nat) (args : List Value) : Option Value := match args with
  | [.chan (some k)] => Bc (Nat.beq f 13 && !(Nat.beq S 0)) (Bc (Nat.beq k (1000 * S)) (some (Bc (Nat.beq sh.hi 0) (sI [48]) (sy (Bc sh.ng (1000 * S + 4) (1000 * S + 2))))) (Bc (Nat.beq k (1000 * S + 1)) (some (sy (1000 * S + 2))) none)) none
  | [.chan (some k), .string s] => Bc (Nat.beq f 383)
      (Bc (Nat.beq k (1000 * S + 2) && (Nat.blt sh.q 6 && isSt s [48])) (some (sy (1000 * S + 2))) (Bc (Nat.beq k (1000 * S + 5) && isSt s [32]) (some (sy (1000 * S + 4))) (Bc (Nat.beq k (1000 * S + 2) && (Nat.beq sh.hi 0 && isSt s [48])) (some (sI [])) none)))
      (Bc (Nat.beq f 441) (Bc (Nat.beq k (1000 * S + 2) && (Nat.blt sh.q 6 && isSt s [48])) (some (sy (1000 * S + 3))) none)
      (Bc (Nat.beq f 309) (Bc (Nat.beq k (1000 * S + 3) && (Nat.blt sh.q 6 && (Nat.blt sh.q sh.L && isSt s tenD))) (some (sI [])) none) none))
  | _ => none
theorem ten_has {m i : Nat} : tenD.contains (UInt8.ofNat (48 + dgt m i)) = true := by
  have := dgt_lt m i
  generalize dgt m i = d at this
  rcases (by omega : d = 0 ∨ d = 1 ∨ d = 2 ∨ d = 3 ∨ d = 4 ∨ d = 5 ∨ d = 6 ∨ d = 7 ∨ d = 8 ∨ d = 9) with rfl | rfl | rfl | rfl | rfl | rfl | rfl | rfl | rfl | rfl <;> decide
theorem drop_all {p : UInt8 → Bool} : ∀ {l : List UInt8}, (∀ c ∈ l, p c = true) → l.dropWhile p = []
  | [], _ => rfl
  | c :: l, h => by rw [List.dropWhile_cons_of_pos (h c List.mem_cons_self)]; exact drop_all fun c hc => h c (List.mem_cons_of_mem _ hc)
theorem trimS_all {l : List UInt8} (h : ∀ c ∈ l, tenD.contains c = true) : Lib.trimS l tenD = [] := by
  unfold Lib.trimS Lib.trimLeftS Lib.trimRightS
  rw [drop_all (l := l.reverse) (fun c hc => h c (List.mem_reverse.1 hc))]; rfl
theorem txt_mem {m : Nat} {c : UInt8} (h : c ∈ txt m) : ∃ i, c = UInt8.ofNat (48 + dgt m i) := by
  unfold txt at h
  obtain ⟨i, _, rfl⟩ := List.mem_map.1 h
  exact ⟨i, rfl⟩
theorem trimL_pad {l : List UInt8} (h : l.head? ≠ some 32) : ∀ n, Lib.trimLeftB (List.replicate n 32 ++ l) 32 = l
  | 0 => by
    unfold Lib.trimLeftB
    cases l with
    | nil => rfl
    | cons c l =>
      have : ¬ c = 32 := fun e => h (by rw [e]; rfl)
      show List.dropWhile _ (c :: l) = _
      rw [List.dropWhile_cons_of_neg (by simp [this])]
  | n + 1 => by
    have := trimL_pad h n
    unfold Lib.trimLeftB at this ⊢
    rw [List.replicate_succ, List.cons_append, List.dropWhile_cons_of_pos (by simp), this]
theorem stx_head (z : Int) : (stx z).head? ≠ some 32 := by
  rcases (by omega : z < 0 ∨ 0 ≤ z) with h | h
  · rw [stx_neg h]; intro h; cases h
  · rw [stx_pos h]
    have hp := nd_pos z.natAbs
    have e := txt_at (m := z.natAbs) (i := 0) hp
    rw [List.head?_eq_getElem?, e]
    intro h
    have := congrArg UInt8.toNat (Option.some.inj h)
    rw [ch_dgt] at this
    have h2 : (32 : UInt8).toNat = 32 := rfl
    omega
theorem bsz (l : List UInt8) : (ByteArray.mk ⟨l⟩).size = l.length := rfl
theorem ltD_ok {Q : (Nat → Int) → Prop} {S : Nat} {sh : Sh} (hQ : ∀ zs, Q zs → ShOk sh (zs S)) : LtOk (PW Q) (ltD S sh) := by
  rintro s ⟨zs, rfl, hl, hr, hq⟩ f l v e
  have o := hQ zs hq
  have h6 : (zs S).natAbs < 1000000 := Nat.lt_of_le_of_lt o.hi o.h6
  have hng := o.ng
  have hhi := o.hi
  have hL := o.L
  have hnd := nd_le (zs S).natAbs
  unfold ltD at e
  split at e
  · rename_i k
    replace e := bc_some e
    obtain ⟨c, e⟩ := e
    rw [Bool.and_eq_true, beq_iff, nb_not] at c
    obtain ⟨rfl, c⟩ := c
    have hS : 0 < S := by
      cases S with
      | zero => cases c
      | succ S => omega
    cases c1 : Nat.beq k (1000 * S) with
    | true =>
      rw [c1, Bc_t] at e; cases e
      rw [beq_iff] at c1; subst c1
      have key : ∀ w, w = Value.string ⟨(stx (zs S)).toArray⟩ → LibR 13 [semZ zs (1000 * S + 0)] w := by
        rintro w rfl
        rw [atS zs S (by omega), ← stx_itoa h6]
        exact .itoa (zs S) (by omega) (by omega)
      cases c2 : Nat.beq sh.hi 0 with
      | true =>
        rw [beq_iff] at c2
        refine ⟨ok1 (by omega), rfl, key _ ?_⟩
        rw [show zs S = 0 from by omega]; rfl
      | false =>
        rw [Bc_f]
        cases hb : sh.ng with
        | true =>
          refine ⟨ok1 (by omega), ok_sy (by rw [Bc_t]; omega), key _ ?_⟩
          show semZ zs (1000 * S + 4) = _
          rw [atS zs S (by omega)]; rfl
        | false =>
          rw [hb, if_neg Bool.false_ne_true] at hng
          refine ⟨ok1 (by omega), ok_sy (by rw [Bc_f]; omega), key _ ?_⟩
          show semZ zs (1000 * S + 2) = _
          rw [atS zs S (by omega), stx_pos hng]; rfl
    | false =>
    rw [c1, Bc_f] at e
    replace e := bc_some e
    obtain ⟨c2, e⟩ := e
    rw [beq_iff] at c2; subst c2
    cases e
    refine ⟨ok1 (by omega), ok_sy (by omega), ?_⟩
    show LibR 13 [semZ zs (1000 * S + 1)] (semZ zs (1000 * S + 2))
    rw [atS zs S (by omega), atS zs S (by omega)]
    have := LibR.itoa (((zs S).natAbs : Nat) : Int) (by omega) (by omega)
    rw [stx_itoa (by omega), stx_pos (by omega), Int.natAbs_natCast] at this
    exact this
  · rename_i k s
    cases c0 : Nat.beq f 383 with
    | true =>
      rw [c0, Bc_t] at e
      rw [beq_iff] at c0; subst c0
      cases c1 : (Nat.beq k (1000 * S + 2) && (Nat.blt sh.q 6 && isSt s [48])) with
      | true =>
        rw [c1, Bc_t] at e; cases e
        simp only [Bool.and_eq_true, beq_iff, blt_iff] at c1
        obtain ⟨rfl, c1, c2⟩ := c1
        have := isSt_inv c2; subst this
        refine ⟨ok2i (by omega) rfl, ok_sy (by omega), ?_⟩
        show LibR 383 [semZ zs (1000 * S + 2), .string ⟨#[48]⟩] (semZ zs (1000 * S + 2))
        rw [atS zs S (by omega)]
        have := LibR.trimL ⟨⟨txt (zs S).natAbs⟩⟩ 48 (by decide)
        rw [trimL_txt (o.q c1).2 h6] at this
        exact this
      | false =>
      rw [c1, Bc_f] at e
      cases c2 : (Nat.beq k (1000 * S + 5) && isSt s [32]) with
      | true =>
        rw [c2, Bc_t] at e; cases e
        rw [Bool.and_eq_true, beq_iff] at c2
        obtain ⟨rfl, c2⟩ := c2
        have := isSt_inv c2; subst this
        refine ⟨ok2i (by omega) rfl, ok_sy (by omega), ?_⟩
        show LibR 383 [semZ zs (1000 * S + 5), .string ⟨#[32]⟩] (semZ zs (1000 * S + 4))
        rw [atS zs S (by omega), atS zs S (by omega)]
        have := LibR.trimL ⟨⟨List.replicate (9 - (stx (zs S)).length) 32 ++ stx (zs S)⟩⟩ 32 (by decide)
        rw [trimL_pad (stx_head _)] at this
        exact this
      | false =>
      rw [c2, Bc_f] at e
      replace e := bc_some e
      obtain ⟨c3, e⟩ := e
      simp only [Bool.and_eq_true, beq_iff] at c3
      obtain ⟨rfl, c3, c4⟩ := c3
      have := isSt_inv c4; subst this
      cases e
      refine ⟨ok2i (by omega) rfl, rfl, ?_⟩
      show LibR 383 [semZ zs (1000 * S + 2), .string ⟨#[48]⟩] (sI [])
      rw [atS zs S (by omega), show zs S = 0 from by omega]
      exact LibR.trimL ⟨⟨txt 0⟩⟩ 48 (by decide)
    | false =>
    rw [c0, Bc_f] at e
    cases c1 : Nat.beq f 441 with
    | true =>
      rw [c1, Bc_t] at e
      rw [beq_iff] at c1; subst c1
      replace e := bc_some e
      obtain ⟨c2, e⟩ := e
      simp only [Bool.and_eq_true, beq_iff, blt_iff] at c2
      obtain ⟨rfl, c2, c3⟩ := c2
      have := isSt_inv c3; subst this
      cases e
      refine ⟨ok2i (by omega) rfl, ok_sy (by omega), ?_⟩
      show LibR 441 [semZ zs (1000 * S + 2), .string ⟨#[48]⟩] (semZ zs (1000 * S + 3))
      rw [atS zs S (by omega), atS zs S (by omega)]
      have := LibR.trimR ⟨⟨txt (zs S).natAbs⟩⟩ 48 (by decide) (by rw [bsz, txt_len]; omega)
      rw [trimR_txt _ (o.q c2).2 h6] at this
      exact this
    | false =>
    rw [c1, Bc_f] at e
    replace e := bc_some e
    obtain ⟨c2, e⟩ := e
    rw [beq_iff] at c2; subst c2
    replace e := bc_some e
    obtain ⟨c3, e⟩ := e
    simp only [Bool.and_eq_true, beq_iff, blt_iff] at c3
    obtain ⟨rfl, c3, c4, c5⟩ := c3
    have := isSt_inv c5; subst this
    cases e
    refine ⟨ok2i (by omega) rfl, rfl, ?_⟩
    show LibR 309 [semZ zs (1000 * S + 3), sI tenD] (sI [])
    rw [atS zs S (by omega)]
    have hz := (o.q c3).1
    have hlen : ((txt (zs S).natAbs).take (nd (zs S).natAbs - nz (zs S).natAbs)).length = sh.L - sh.q := by rw [List.length_take, txt_len, hL, hz]; omega
    have := LibR.trim ⟨⟨(txt (zs S).natAbs).take (nd (zs S).natAbs - nz (zs S).natAbs)⟩⟩ ⟨⟨tenD⟩⟩ (by decide) (by rw [bsz, hlen]; omega) (by rw [bsz, hlen]; omega) (by decide) (by
      intro j b hb
      have hm : b ∈ tenD := List.mem_of_getElem? hb
      have : ∀ b ∈ tenD, b.toNat < 128 := by decide
      exact this b hm)
    rw [trimS_all (fun c hc => by obtain ⟨i, rfl⟩ := txt_mem (List.mem_of_mem_take hc); exact ten_has)] at this
    exact this
  · cases e
abbrev SyHk (hk : HkOp → List Value → Option Value) : SyO := ⟨hk⟩
def mkLib : Nat := 2 ^ 13 + 2 ^ 383 + 2 ^ 441 + 2 ^ 309
def spA (lt : LibT) (f : Nat) (args : List Value) (H : Hp) : Ans :=
  Bc (Nat.testBit mkTy f) (npS (spTy f args H)) (Bc (Nat.testBit mkLib f) (npS (spLib lt f args H)) (Bc (Nat.testBit mkM f) (npS (spM f args H)) none))
def ivOr (f g : Ivl) : Ivl := fun k => match f k with | some x => some x | none => g k
def iv4 : Ivl := fun k => Bc (Nat.beq k 4000) (some (.i64, -32767, 32767)) none
def hkA (sh : Sh) (cut : Bool) : HkOp → List Value → Option Value := hkOr (hkI (ivOr (ivD 3 sh) iv4)) (hkOr (hkT sh cut) (hkD 3 sh))
def T31 : Value := tyV 2 31
def tyC (n : Int) : Value := tyV 3 n
def vlS (v : Value) : Value := .agg ⟨[.int .i64 0, v]⟩
def toK (from_ x : Value) (cond : Int) : Clm := ⟨144, [x, from_, T15], [(2, pwB)], NG, tup [vl (sy 4000), nV cond, nV 0], [], NG, 4, 0⟩
def shZ : Sh := ⟨1, 6, false, 0, 0⟩
def tabZ (z : Bool) : Nat → Option Value := fun k => Bc (z && Nat.beq k 4000) (some (.int .i64 0)) none
noncomputable def toB (sh : Sh) (cut : Bool) (from_ x : Value) (cond : Int) : Bool := @clB (SyHk (hkA sh cut)) (spA (ltD 3 sh)) (tabZ (Nat.beq sh.hi 0)) (toK from_ x cond) []
def shM (L q : Nat) (ng : Bool) : Sh := ⟨L, q, ng, 10 ^ (L - 1), min (10 ^ L - 1) 32767⟩
def shN (L q : Nat) (ng : Bool) : Sh := ⟨L, q, ng, max (10 ^ (L - 1)) 32768, min (10 ^ L - 1) 262143⟩
noncomputable def allS (f : Nat → Bool → Bool) (ngs : Bool) : List Nat → Bool := fun l => @List.rec Nat (fun _ => Bool) true (fun q _ ih => Bc (f q false) (Bc ngs (Bc (f q true) ih false) ih) false) l
theorem allS_mem {f : Nat → Bool → Bool} : ∀ {l : List Nat}, allS f true l = true → ∀ q ∈ l, ∀ b, f q b = true
  | [], _, x, hx, _ => by cases hx
  | y :: l, h, x, hx, b => by
    have h : Bc (f y false) (Bc true (Bc (f y true) (allS f true l) false) (allS f true l)) false = true := h
    cases e : f y false with
    | false => rw [e, Bc_f] at h; cases h
    | true =>
      rw [e, Bc_t, Bc_t] at h
      cases e2 : f y true with
      | false => rw [e2, Bc_f] at h; cases h
      | true =>
        rw [e2, Bc_t] at h
        rcases List.mem_cons.1 hx with rfl | hx
        · cases b <;> assumption
        · exact allS_mem h x hx b
theorem allS_memF {f : Nat → Bool → Bool} : ∀ {l : List Nat}, allS f false l = true → ∀ q ∈ l, f q false = true
  | [], _, x, hx => by cases hx
  | y :: l, h, x, hx => by
    have h : Bc (f y false) (Bc false (Bc (f y true) (allS f false l) false) (allS f false l)) false = true := h
    cases e : f y false with
    | false => rw [e, Bc_f] at h; cases h
    | true =>
      rw [e, Bc_t, Bc_f] at h
      rcases List.mem_cons.1 hx with rfl | hx
      · exact e
      · exact allS_memF h x hx
def v3 : Value := vl (sy 3000)
def v3S : Value := vlS (sy 3004)
noncomputable def toU (L q : Nat) (ng : Bool) : Bool := toB (shM L q ng) false T31 v3 0
noncomputable def toN (L q : Nat) (ng : Bool) : Bool := toB (shN L q ng) true T31 v3 1
noncomputable def toF (L q : Nat) (ng : Bool) : Bool := toB (shM L q ng) false T15 v3 0
noncomputable def toS (L q : Nat) (ng : Bool) : Bool := toB (shM L q ng) false (tyC (L + sg ng)) v3S 0
end Go.Proofs.CN
end
