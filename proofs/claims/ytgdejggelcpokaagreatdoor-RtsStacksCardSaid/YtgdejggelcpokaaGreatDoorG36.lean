/-
 A part of the proof that pliantlaw15.RtsStacks returns true and leaves its arguments alone. Conditions: those of the card in the last text.
-/
import Derived.Test.YtgdejggelcpokaaGreatDoorG21
import Derived.Test.YtgdejggelcpokaaGreatDoorG35
set_option linter.unusedSimpArgs false
set_option linter.unusedVariables false
set_option linter.unusedSectionVars false
noncomputable section
namespace Go.Proofs.RS
open Go Go.Ev Go.Proofs
def H0:Hp:=.fn (fun b=>Bc (Nat.beq b 5) g5 .no) 13
def trH (x:TR):Hp:=match x with | .k (.ret _ H _ _)=>H | _=>.fn (fun _=>.no) 0
def trR (x:TR):Nat:=match x with | .k (.ret _ _ r _)=>r | _=>0
def trW (x:TR):Nat:=match x with | .k (.ret _ _ _ w)=>w | _=>0
def rH (x:R):Hp:=match x with | .val _ H _ _=>H | _=>.fn (fun _=>.no) 0
abbrev pV:Value:=.agg ⟨[.slice (some ⟨15,0,none⟩) 2 4,vN 32,.slice none 0 0,.slice (some ⟨16,0,none⟩) 2 4,.slice (some ⟨17,0,none⟩) 1 2,.slice (some ⟨18,0,none⟩) 1 2]⟩
abbrev inV:Value:=.agg ⟨[.slice (some ⟨20,0,none⟩) 2 4,.slice (some ⟨22,0,none⟩) 2 4,vN 3]⟩
section
noncomputable def T7:TR:=ev Tb0 spL 1000 (.call 7 []) H0
noncomputable def hA:Hp:=(trH (T7)).push (blkL [.slice none 0 0,.int .i64 (0),.slice none 0 0,.slice none 0 0,.slice none 0 0,.slice none 0 0] 29 0)
noncomputable def hB:Hp:=(hA).push (blkL [.slice none 0 0,.slice none 0 0,.int .i64 (0)] 32 0)
noncomputable def hC:Hp:=rH (exSt 6 (.pointer (some ⟨23,0,none⟩)) pV (hB))
noncomputable def hD:Hp:=rH (exSt 3 (.pointer (some ⟨24,0,none⟩)) inV (hC))
noncomputable def hE:Hp:=rH (exSt 1 (.pointer (some ⟨22,1,none⟩)) (.slice none 0 0) (hD))
noncomputable def T8:TR:=ev Tb0 spL 100000 (.call 8 [pV,inV]) (hE)
noncomputable def hM:Hp:=(trH (T8)).push (.obj (.map #[] 0))
def wOk (n0:Nat) (x:TR):Bool:=match x with
 | .k (.ret _ H r w)=>Nat.beq (Nat.land w (Nat.sub (Nat.pow 2 n0) 1)) 0 && Nat.blt r (Nat.pow 2 H.nx) && Nat.blt w (Nat.pow 2 H.nx)
 | _=>false
theorem run7:ev Tb0 spL 1000 (.call 7 []) H0=.k (.ret (.tuple #[pV,inV]) (trH (T7)) (trR (T7)) (trW (T7))):=by kernel_rfl
theorem ok7:wOk 13 (ev Tb0 spL 1000 (.call 7 []) H0)=true:=by kernel_rfl
theorem nx7:(trH (T7)).nx=23:=by kernel_rfl
theorem alA:alloc1 (blkL [.slice none 0 0,.int .i64 (0),.slice none 0 0,.slice none 0 0,.slice none 0 0,.slice none 0 0] 29 0) (trH (T7)) ptrTo 0 0=.val (.pointer (some ⟨23,0,none⟩)) (hA) 0 0:=by kernel_rfl
theorem alB:alloc1 (blkL [.slice none 0 0,.slice none 0 0,.int .i64 (0)] 32 0) (hA) ptrTo 0 0=.val (.pointer (some ⟨24,0,none⟩)) (hB) 0 0:=by kernel_rfl
theorem stC:exSt 6 (.pointer (some ⟨23,0,none⟩)) pV (hB)=.val U (hC) 0 (bit 23):=by kernel_rfl
theorem stD:exSt 3 (.pointer (some ⟨24,0,none⟩)) inV (hC)=.val U (hD) 0 (bit 24):=by kernel_rfl
theorem ldD:exLd1 (.pointer (some ⟨24,1,none⟩)) (hD)=.val (.slice (some ⟨22,0,none⟩) 2 4) (hD) (bit 24) 0:=by kernel_rfl
theorem stE:exSt 1 (.pointer (some ⟨22,1,none⟩)) (.slice none 0 0) (hD)=.val U (hE) 0 (bit 22):=by kernel_rfl
theorem ldE:exLdN 6 (.pointer (some ⟨23,0,none⟩)) (hE)=.val pV (hE) (bit 23) 0:=by kernel_rfl
theorem ldF:exLdN 3 (.pointer (some ⟨24,0,none⟩)) (hE)=.val inV (hE) (bit 24) 0:=by kernel_rfl
theorem nxs:(hA).nx=24∧(hB).nx=25∧(hC).nx=25∧(hD).nx=25∧(hE).nx=25:=⟨by kernel_rfl,by kernel_rfl,by kernel_rfl,by kernel_rfl,by kernel_rfl⟩
def rdB (b:Blk):Option (List Value×TypeId×Nat×Nat×Nat):=match b with
 | .cells t n ty op lo hi=>some (rdL t n 0,ty,op,lo,hi)
 | _=>none
set_option maxHeartbeats 4000000 in
theorem run8:ev Tb0 spL 100000 (.call 8 [pV,inV]) hE=.k (.ret (.tuple #[.pointer (some ⟨76,0,none⟩),.int .i64 0]) (trH (T8)) (trR (T8)) (trW (T8))):=by kernel_rfl
set_option maxHeartbeats 4000000 in
theorem look8:(wOk 13 (ev Tb0 spL 100000 (.call 8 [pV,inV]) hE),(trH T8).nx,hM.isFn,(List.range 13).map hM.blk,[76,93,95,80,79,89].map fun b=>rdB (hM.blk b))=(true,101,true,(List.range 13).map H0.blk,[some (stL,104,0,0,0),some ([.pointer (some ⟨80,0,none⟩),.pointer none],108,2,0,0),some ([.pointer none,.pointer (some ⟨89,0,none⟩)],109,2,0,0),
 some ([vN 2,.pointer (some ⟨79,0,none⟩)],117,0,0,0),some ([vS [],vN 0],176,0,0,0),some ([vN 3,.slice none 0 0,vS []],120,0,0,0)]):=by kernel_rfl
end
theorem mM8:hM=(trH T8).push (.obj (.map #[] 0)):=by unfold hM;exact rfl
end Go.Proofs.RS
end
