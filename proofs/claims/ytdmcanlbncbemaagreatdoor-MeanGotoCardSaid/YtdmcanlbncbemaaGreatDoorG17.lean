/-
  A part of the proof that pliantlaw16.MeanGoto returns true and leaves its arguments alone. Conditions: those of the card in the last text.
-/
import Derived.Test.YtdmcanlbncbemaaGreatDoorG14
set_option linter.unusedSimpArgs false
set_option linter.unusedVariables false
set_option linter.unusedSectionVars false
noncomputable section
namespace Go.Ev.SM
def f0 : Value := .bool false
def progF : List (Nat × Blk) := [(29, blkL [(nV 1), (nV 0), (nV 0), (nV 0), sn, sn, nV 2, nV 15, nV 0, f0, s0] 28 0),
  (30, blkL [(nV 1), nV 2, nV 15, nV 0, f0, s0, (sy 100), s0, (nV 0), sn, sn] 35 0),
  (33, blkL [(nV 1), (nV 0), (nV 0), (nV 0), sn, sn, nV 2, nV 15, nV 0, f0, s0] 28 0),
  (34, blkL [(nV 2), nV 2, nV 15, nV 0, f0, s0, (nV 0), s0, (nV 0), sn, (sl 33 1 2)] 35 0),
  (36, blkL [(nV 8), (nV 10), sn, sn, (nV 2), (nV 0), (nV 3), sn, (nV 0), f0, f0, (nV 2), (nV 20), (sl 29 1 2), (sl 30 1 2), (nV 0), (nV 0), (nV 0), sn, (nV 0), f0, f0, (nV 6), (nV 30), sn, sn, (nV 1), (nV 0), (nV 0), sn, (nV 0), f0, f0, (nV 15), (nV 40), sn, (sl 34 1 2), (nV 0), (nV 0), (nV 0), sn, (nV 0), f0, f0] 41 0),
  (46, blkL [(nV 1), (nV 1), (nV 0), (nV 0), sn, sn, nV 2, nV 15, nV 0, f0, s0] 28 0),
  (49, blkL [(nV 2), nV 2, nV 15, nV 0, f0, s0, (nV 0), s0, (nV 0), sn, (sl 46 1 2), (nV 1), nV 2, nV 15, nV 0, f0, s0, (nV 1), s0, (nV 0), sn, sn] 35 0),
  (51, blkL [(nV 18), (nV 4), (nV 1), (nV 0), f0, s0, (nV 0), s0, (nV 4), (sl 49 2 4), sn] 35 0),
  (54, blkL [(nV 1), (nV 1), (nV 0), (nV 0), sn, sn, nV 2, nV 15, nV 0, f0, s0] 28 0),
  (88, blkL [(nV 2), nV 2, nV 15, nV 0, f0, s0, (nV 0), s0, (nV 0), sn, (sl 54 1 2), (nV 1), nV 2, nV 15, nV 0, f0, s0, (nV 1), s0, (nV 0), sn, sn] 35 0),
  (89, blkL [(nV 7), (nV 2), (nV 16), (nV 0), f0, s0, (nV 0), s0, (nV 0), (sl 88 2 4), sn] 35 0),
  (93, blkL [(nV 1), (nV 1), (nV 0), (nV 0), sn, sn, nV 2, nV 15, nV 0, f0, s0] 28 0),
  (94, blkL [(nV 4), nV 2, nV 15, nV 0, f0, s0, (nV 0), s0, (nV 0), (sl 89 1 2), sn] 35 0),
  (133, blkL [(nV 1), nV 2, nV 15, nV 0, f0, s0, (nV 1), s0, (nV 0), sn, sn, (nV 1), nV 2, nV 15, nV 0, f0, s0, (nV 0), s0, (nV 0), sn, sn] 35 0),
  (134, blkL [(nV 9), (nV 2), (nV 31), (nV 0), f0, s0, (nV 0), s0, (nV 0), (sl 133 2 4), sn] 35 0),
  (138, blkL [(nV 1), (nV 0), (nV 0), (nV 0), sn, sn, nV 2, nV 15, nV 0, f0, s0] 28 0),
  (139, blkL [(nV 4), nV 2, nV 15, nV 0, f0, s0, (nV 0), s0, (nV 0), (sl 134 1 2), sn] 35 0),
  (142, blkL [(nV 1), nV 2, nV 15, nV 0, f0, s0, (nV 99), s0, (nV 0), sn, sn] 35 0),
  (144, blkL [(nV 4), (nV 10), sn, (sl 51 1 2), (nV 3), (nV 0), (nV 0), sn, (nV 0), f0, f0, (nV 2), (nV 20), (sl 93 1 2), (sl 94 1 2), (nV 0), (nV 0), (nV 0), sn, (nV 0), f0, f0, (nV 6), (nV 30), sn, sn, (nV 1), (nV 0), (nV 0), sn, (nV 0), f0, f0, (nV 2), (nV 40), (sl 138 1 2), (sl 139 1 2), (nV 0), (nV 0), (nV 0), sn, (nV 0), f0, f0, (nV 15), (nV 50), sn, (sl 142 1 2), (nV 0), (nV 0), (nV 0), sn, (nV 0), f0, f0] 41 0),
  (146, blkL [(nV 5), (nV 10), sn, sn, (nV 3), (nV 0), (nV 0), sn, (nV 0), f0, f0] 41 0),
  (148, blkL [(nV 5), (nV 10), sn, sn, (nV 3), (nV 0), (nV 0), sn, (nV 0), f0, f0] 41 0),
  (149, blkL [(st8 [77, 65, 73, 78]), (nV (-1)), (nV 0), (nV 16), sn, (sl 36 4 8), sn, (st8 [68, 69, 69, 80]), (nV 0), (nV 0), (nV 16), sn, (sl 144 5 10), sn, (st8 [85]), (nV 0), (nV 0), (nV 0), sn, (sl 146 1 2), sn, (st8 [79, 85, 84]), (nV 0), (nV 0), (nV 0), sn, (sl 148 1 2), sn] 49 0),
  (151, blkL [(st8 [83, 89, 83, 80, 82, 73, 78, 84]), (nV 2)] 90 0)]
def chkAF : List Value := [(.agg ⟨[(sl 149 4 8), (nV 0), sn, (sl 151 1 2), sn, sn]⟩)]
def progT : List (Nat × Blk) := [(29, blkL [(nV 1), (nV 0), (nV 0), (nV 0), sn, sn, nV 2, nV 15, nV 0, f0, s0] 28 0),
  (30, blkL [(nV 1), nV 2, nV 15, nV 0, f0, s0, (sy 100), s0, (nV 0), sn, sn] 35 0),
  (33, blkL [(nV 1), (nV 0), (nV 0), (nV 0), sn, sn, nV 2, nV 15, nV 0, f0, s0] 28 0),
  (34, blkL [(nV 2), nV 2, nV 15, nV 0, f0, s0, (nV 0), s0, (nV 0), sn, (sl 33 1 2)] 35 0),
  (36, blkL [(nV 8), (nV 10), sn, sn, (nV 2), (nV 0), (nV 3), sn, (nV 0), f0, f0, (nV 2), (nV 20), (sl 29 1 2), (sl 30 1 2), (nV 0), (nV 0), (nV 0), sn, (nV 0), f0, f0, (nV 6), (nV 30), sn, sn, (nV 1), (nV 0), (nV 0), sn, (nV 0), f0, f0, (nV 15), (nV 40), sn, (sl 34 1 2), (nV 0), (nV 0), (nV 0), sn, (nV 0), f0, f0] 41 0),
  (46, blkL [(nV 1), (nV 1), (nV 0), (nV 0), sn, sn, nV 2, nV 15, nV 0, f0, s0] 28 0),
  (49, blkL [(nV 2), nV 2, nV 15, nV 0, f0, s0, (nV 0), s0, (nV 0), sn, (sl 46 1 2), (nV 1), nV 2, nV 15, nV 0, f0, s0, (nV 1), s0, (nV 0), sn, sn] 35 0),
  (51, blkL [(nV 18), (nV 4), (nV 1), (nV 0), f0, s0, (nV 0), s0, (nV 4), (sl 49 2 4), sn] 35 0),
  (54, blkL [(nV 1), (nV 1), (nV 0), (nV 0), sn, sn, nV 2, nV 15, nV 0, f0, s0] 28 0),
  (88, blkL [(nV 2), nV 2, nV 15, nV 0, f0, s0, (nV 0), s0, (nV 0), sn, (sl 54 1 2), (nV 1), nV 2, nV 15, nV 0, f0, s0, (nV 1), s0, (nV 0), sn, sn] 35 0),
  (89, blkL [(nV 7), (nV 2), (nV 16), (nV 0), f0, s0, (nV 0), s0, (nV 0), (sl 88 2 4), sn] 35 0),
  (93, blkL [(nV 1), (nV 1), (nV 0), (nV 0), sn, sn, nV 2, nV 15, nV 0, f0, s0] 28 0),
  (94, blkL [(nV 4), nV 2, nV 15, nV 0, f0, s0, (nV 0), s0, (nV 0), (sl 89 1 2), sn] 35 0),
  (133, blkL [(nV 1), nV 2, nV 15, nV 0, f0, s0, (nV 1), s0, (nV 0), sn, sn, (nV 1), nV 2, nV 15, nV 0, f0, s0, (nV 0), s0, (nV 0), sn, sn] 35 0),
  (134, blkL [(nV 9), (nV 2), (nV 31), (nV 0), f0, s0, (nV 0), s0, (nV 0), (sl 133 2 4), sn] 35 0),
  (138, blkL [(nV 1), (nV 0), (nV 0), (nV 0), sn, sn, nV 2, nV 15, nV 0, f0, s0] 28 0),
  (139, blkL [(nV 4), nV 2, nV 15, nV 0, f0, s0, (nV 0), s0, (nV 0), (sl 134 1 2), sn] 35 0),
  (142, blkL [(nV 1), nV 2, nV 15, nV 0, f0, s0, (nV 99), s0, (nV 0), sn, sn] 35 0),
  (144, blkL [(nV 4), (nV 10), sn, (sl 51 1 2), (nV 3), (nV 0), (nV 0), sn, (nV 0), f0, f0, (nV 2), (nV 20), (sl 93 1 2), (sl 94 1 2), (nV 0), (nV 0), (nV 0), sn, (nV 0), f0, f0, (nV 6), (nV 30), sn, sn, (nV 1), (nV 0), (nV 0), sn, (nV 0), f0, f0, (nV 2), (nV 40), (sl 138 1 2), (sl 139 1 2), (nV 0), (nV 0), (nV 0), sn, (nV 0), f0, f0, (nV 15), (nV 50), sn, (sl 142 1 2), (nV 0), (nV 0), (nV 0), sn, (nV 0), f0, f0] 41 0),
  (150, blkL [(nV 1), nV 2, nV 15, nV 0, f0, s0, (nV 98), s0, (nV 0), sn, sn] 35 0),
  (152, blkL [(nV 6), (nV 10), sn, sn, (nV 3), (nV 0), (nV 0), sn, (nV 0), f0, f0, (nV 15), (nV 20), sn, (sl 150 1 2), (nV 0), (nV 0), (nV 0), sn, (nV 0), f0, f0] 41 0),
  (153, blkL [(nV 5), (nV 10), sn, sn, (nV 3), (nV 0), (nV 0), sn, (nV 0), f0, f0] 41 0),
  (154, blkL [(st8 [77, 65, 73, 78]), (nV (-1)), (nV 0), (nV 16), sn, (sl 36 4 8), sn, (st8 [68, 69, 69, 80]), (nV 0), (nV 0), (nV 16), sn, (sl 144 5 10), sn, (st8 [85]), (nV 0), (nV 0), (nV 0), sn, (sl 152 2 4), sn, (st8 [79, 85, 84]), (nV 0), (nV 0), (nV 0), sn, (sl 153 1 2), sn] 49 0),
  (156, blkL [(st8 [83, 89, 83, 80, 82, 73, 78, 84]), (nV 2)] 90 0)]
def chkAT : List Value := [(.agg ⟨[(sl 154 4 8), (nV 0), sn, (sl 156 1 2), sn, sn]⟩)]
structure GV where
  th : Bool
  o : Nat
def gP (g : GV) : Nat := if g.th then 154 else 149
def gN0 (g : GV) (e : Nat) : Nat := 132 * e + 113 + g.o
def gA (g : GV) (e : Nat) : Nat := if e = 1 then 201 + g.o else 132 * e - 11 + g.o
def gT (g : GV) (e : Nat) : Nat := 132 * e + 111 + g.o
def gAct (g : GV) (i : Nat) : List Value := if i = 0 then [nV 0, sn, nV 16, nV (-1), sl (218 + g.o) 1 3, nV 0, nV 0, nV 0, s0, s0] else [nV 1, sl (132 * i + 116 + g.o) 0 0, nV (16 + 8 * i), nV 0, sn, nV 0, nV 0, nV 0, s0, s0]
def gActs (g : GV) (e : Nat) : List Value := ((List.range e).map (gAct g)).flatten
def gSt (g : GV) (acts : Value) (top : Nat) (steps : Value) (no : Nat) : List Value := [sl (183 + g.o) 4 9, nV 0, sn, sl (170 + g.o) 1 3, sn, sn, pt (184 + g.o), acts, nV top, sl (192 + g.o) 1 3, sl (194 + g.o) 1 3, sl (196 + g.o) 1 3, sl (185 + g.o) 0 0, .pointer none, sn, steps, nV 1000, nV no, f0, f0, nV 0, nV 0]
def gMa (g : GV) (s u : Value) : List Value := [pt (186 + g.o), sl (gP g) 4 8, nV 0, sn, sl (gP g + 2) 1 2, sn, sn, sl (202 + g.o) 32 64, s, u]
def gMe (v : Value) : Blk := .cells (T.set 6 (.e (.int .u8 0)) 17 v) 65536 199 0 0 0
def gIds (g : GV) : List Nat := [46, 49, 51, 54, 88, 89, 93, 94, 133, 134, 139, 144] ++ (if g.th then [152, 153, 154] else [146, 149])
def gProg (g : GV) : List (Nat × Blk) := if g.th then progT else progF
def gOwn : Blk := blkL [st8 [77, 65, 73, 78], nV (-1), nV 0, nV 16, sn, sn, sn, st8 [68, 69, 69, 80], nV 0, nV 0, nV 16, sn, sn, sn, st8 [85], nV 0, nV 0, nV 0, sn, sn, sn, st8 [79, 85, 84], nV 0, nV 0, nV 0, sn, sn, sn] 49 8
def gRest (g : GV) : List (Nat × Blk) := (gProg g).filter (fun x => (gIds g).any (Nat.beq x.1)) ++ [(2, pwB), (183 + g.o, gOwn), (202 + g.o, .cells (wrL 2 opsL 0 (.e .nilFunc)) 32 189 0 0 0), (218 + g.o, blkL [nV 3, nV 0, nV 2] 446 4)]
def gPre (g : GV) (e : Nat) (u : Value) : List (Nat × Blk) := [(186 + g.o, blkL (gSt g (sl (gA g e) e (2 * e + 1)) (8 * e + 10) (nV (3 * e)) 30) 130 0), (184 + g.o, gMe (sy (199 + e))), (gA g e, blkL (gActs g e) 137 11),
  (203 + g.o, blkL (gMa g (sl (gT g e) (3 * e) (6 * e + 1)) u) 98 0), (gT g e, blkL (List.replicate (3 * e) UK) 3 2)] ++ gRest g
def gPost (g : GV) (e : Nat) (u s st : Value) (B : Blk) : List (Nat × Blk) := [(186 + g.o, blkL (gSt g (sl (gN0 g e) 1 3) 24 st 10) 130 0), (184 + g.o, gMe (.int .u8 1)), (gA g e, .no),
  (203 + g.o, blkL (gMa g s u) 98 0), (gT g e, .no), (gN0 g e, blkL (gAct g 0) 137 11), (gN0 g e + 1, B)]
def gArgs (g : GV) : List Value := [pt (203 + g.o), .agg ⟨[nV 6, nV 30, sn, sn, nV 1, nV 0, nV 0, sn, nV 0, f0, f0]⟩, nV 1, sn]
def gV : Value := panV (.iface 326 (.agg ⟨[nV 1, nV 3]⟩))
def gW (g : GV) (e : Nat) : List Nat := [186 + g.o, 184 + g.o, gA g e, 203 + g.o, gT g e]
def gS (g : GV) (e x c : Nat) : Value := .slice (some ⟨gN0 g e + 1, 0, none⟩) x c
def clG (g : GV) (e : Nat) (u s st : Value) (B : Blk) : Clm := ⟨153, gArgs g, gPre g e u, gN0 g e, gV, gPost g e u s st B, gN0 g e + 2, maskL (gW g e ++ [2, 183 + g.o, 202 + g.o, 218 + g.o] ++ gIds g), maskL (gW g e)⟩
def gX (g : GV) (n : Nat) : Nat := 3 * n + (if g.th then 4 else 3)
def gB (x : Nat) : Blk := blkL (List.replicate x UK) 3 2
def clGn (g : GV) (n e : Nat) (u : Value) : Clm := clG g e u (gS g e (gX g n) (2 * gX g n + 1)) (nV (Int.ofNat (gX g n))) (gB (gX g n))
def spCmp1 (lim : Nat) (args : List Value) (H : Hp) : Ans := match args with
  | [a, ta, b, tb] => (match symOf a with
    | some k => Bc (isTy 15 ta && (isTy 15 tb && (isVl 1 b && (Nat.ble 100 k && Nat.blt k (100 + lim))))) (ans (.tuple ⟨[nV 1, nV 0]⟩) H) none
    | none => none)
  | _ => none
def spDec1 (lim : Nat) (base : Bool) (args : List Value) (H : Hp) : Ans := match args with
  | [ta, .chan (some k)] => Bc (isTy 15 ta && (Nat.ble 500 k && Nat.blt k 562)) (ans (.tuple ⟨[vl (Bc (base && Nat.beq k (500 + lim)) (nV 1) (sy (Nat.sub k 400))), nV 0]⟩) H) none
  | _ => none
def spGt (lim : Nat) (base : Bool) (g : Nat) (nest : List Value → Hp → Ans) (f : Nat) (args : List Value) (H : Hp) : Ans :=
  Bc (Nat.testBit mkTy f) (npS (spTy f args H)) (Bc (Nat.testBit mkSy f) (npS (Bc (Nat.beq f 150) (spCmp1 lim args H) (Bc (Nat.beq f 307) (spDec1 lim base args H) (spSy lim false f args H)))) (Bc (Nat.beq f g) (nest args H) (Bc (Nat.testBit mkM f) (npS (spM f args H)) (Bc (Nat.beq f 54) (npS (spMem args H)) none))))
end Go.Ev.SM
end
