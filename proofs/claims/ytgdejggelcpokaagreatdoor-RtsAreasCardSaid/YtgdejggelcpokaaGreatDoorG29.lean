/-
 A part of the proof that pliantlaw15.RtsAreas returns true and leaves its arguments alone. Conditions: those of the card in the last text.
-/
import Derived.Test.YtgdejggelcpokaaGreatDoorG28
set_option linter.unusedSimpArgs false
set_option linter.unusedVariables false
set_option linter.unusedSectionVars false
noncomputable section
namespace Go.Proofs.RS
open Go Go.Ev Go.Proofs
theorem rdB_row {H:Hp} {b ty op:Nat} {L:List Value} (h:rdB (H.blk b)=some (L,ty,op,0,0)):Row H b ty op L:=by
 unfold rdB at h
 split at h
 ·rename_i t n ty' op' lo hi hb
  simp only [Option.some.injEq,Prod.mk.injEq] at h
  obtain ⟨rfl,rfl,rfl,rfl,rfl⟩:=h
  refine ⟨t,by rw [hb,rdL_len],fun i v hv=>?_⟩
  have hi:i<(rdL t n 0).length:=by
   rcases Nat.lt_or_ge i (rdL t n 0).length with h' | h'
   ·exact h'
   ·rw [List.getElem?_eq_none h'] at hv;cases hv
  rw [rdL_len] at hi
  rw [rdL_get t n 0 i hi,Nat.zero_add] at hv
  exact Option.some.inj hv
 ·cases h
theorem wOk_ok {n0:Nat} {x:TR} (h:wOk n0 x=true) {v:Value} {H:Hp} {r w:Nat} (e:x=.k (.ret v H r w)):(envS n0).ok r w H:=by
 subst e
 simp only [wOk,Bool.and_eq_true] at h
 obtain ⟨⟨h1,h2⟩,h3⟩:=h
 have h1':Nat.land w (2 ^ n0-1)=0:=(beq_iff _ _).1 h1
 have h2':r<2 ^ H.nx:=(blt_iff _ _).1 h2
 have h3':w<2 ^ H.nx:=(blt_iff _ _).1 h3
 refine ⟨fun _ _ _=>trivial,fun b hb hw=>?_,fun b hb=>?_⟩
 ·have h4:(w &&& (2 ^ n0-1)).testBit b=(0:Nat).testBit b:=by
   show (Nat.land w (2 ^ n0-1)).testBit b=_
   rw [h1']
  rw [Nat.testBit_and,Nat.testBit_two_pow_sub_one,hw] at h4
  simp at h4
  have hb':b<n0:=hb
  omega
 ·rcases Nat.lt_or_ge b H.nx with h | h
  ·exact h
  ·have hlt:∀ z,z<2 ^ H.nx→z.testBit b=false:=fun z hz=>Nat.testBit_lt_two_pow (Nat.lt_of_lt_of_le hz (Nat.pow_le_pow_right (by decide) h))
   rcases hb with hb | hb
   ·rw [hlt r h2'] at hb;cases hb
   ·rw [hlt w h3'] at hb;cases hb
theorem EC.of_run {tb:Tb} {sp:Nat→List Value→Hp→Option (Value×Hp×Nat×Nat)} {N n0:Nat} {f:FuncId} {args:List Value} {H:Hp} {v:Value} {H':Hp} {r w:Nat} {K:Value→Hp→Prop} (h:ev tb sp N (.call f args) H=.k (.ret v H' r w)) (hok:wOk n0 (ev tb sp N (.call f args) H)=true) (hn:H.nx≤H'.nx) (hK:K v H'):EC tb sp (envS n0) f args H K :=
 ⟨N,v,H',r,w,h,wOk_ok hok h,hn,hK⟩
theorem EC.of_sp {tb:Tb} {sp:Nat→List Value→Hp→Option (Value×Hp×Nat×Nat)} {e:Env} {f:FuncId} {args:List Value} {H:Hp} {v:Value} {H':Hp} {r w:Nat} {K:Value→Hp→Prop} (h:sp f args H=some (v,H',r,w)) (hok:e.ok r w H') (hn:H.nx≤H'.nx) (hK:K v H'):EC tb sp e f args H K :=
 ⟨1,v,H',r,w,by show evTask tb sp (ev tb sp 0) (.call f args) H=_;simp only [evTask,h],hok,hn,hK⟩
structure Start (H7 hA hB hC hD hE H8 hM:Hp) (r7 w7 r8 w8:Nat):Prop where
 run7:ev Tb0 spL 1000 (.call 7 []) H0=.k (.ret (.tuple #[pV,inV]) H7 r7 w7)
 ok7:wOk 13 (ev Tb0 spL 1000 (.call 7 []) H0)=true
 nx7:H7.nx=23
 alA:alloc1 (blkL [.slice none 0 0,.int .i64 (0),.slice none 0 0,.slice none 0 0,.slice none 0 0,.slice none 0 0] 29 0) H7 ptrTo 0 0=.val (.pointer (some ⟨23,0,none⟩)) hA 0 0
 alB:alloc1 (blkL [.slice none 0 0,.slice none 0 0,.int .i64 (0)] 32 0) hA ptrTo 0 0=.val (.pointer (some ⟨24,0,none⟩)) hB 0 0
 stC:exSt 6 (.pointer (some ⟨23,0,none⟩)) pV hB=.val U hC 0 (bit 23)
 stD:exSt 3 (.pointer (some ⟨24,0,none⟩)) inV hC=.val U hD 0 (bit 24)
 ldD:exLd1 (.pointer (some ⟨24,1,none⟩)) hD=.val (.slice (some ⟨22,0,none⟩) 2 4) hD (bit 24) 0
 stE:exSt 1 (.pointer (some ⟨22,1,none⟩)) (.slice none 0 0) hD=.val U hE 0 (bit 22)
 ldE:exLdN 6 (.pointer (some ⟨23,0,none⟩)) hE=.val pV hE (bit 23) 0
 ldF:exLdN 3 (.pointer (some ⟨24,0,none⟩)) hE=.val inV hE (bit 24) 0
 nxs:hA.nx=24∧hB.nx=25∧hC.nx=25∧hD.nx=25∧hE.nx=25
 run8:ev Tb0 spL 100000 (.call 8 [pV,inV]) hE=.k (.ret (.tuple #[.pointer (some ⟨76,0,none⟩),.int .i64 0]) H8 r8 w8)
 mM:hM=H8.push (.obj (.map #[] 0))
 look:(wOk 13 (ev Tb0 spL 100000 (.call 8 [pV,inV]) hE),H8.nx,hM.isFn,(List.range 13).map hM.blk,[76,93,95,80,79,89].map fun b=>rdB (hM.blk b))=(true,101,true,(List.range 13).map H0.blk,[some (stL,104,0,0,0),some ([.pointer (some ⟨80,0,none⟩),.pointer none],108,2,0,0),some ([.pointer none,.pointer (some ⟨89,0,none⟩)],109,2,0,0),
  some ([vN 2,.pointer (some ⟨79,0,none⟩)],117,0,0,0),some ([vS [],vN 0],176,0,0,0),some ([vN 3,.slice none 0 0,vS []],120,0,0,0)])
set_option maxRecDepth 100000 in
theorem start  : Start (trH (T7)) (hA) (hB) (hC) (hD) (hE) (trH (T8)) (hM) (trR (T7)) (trW (T7)) (trR (T8)) (trW (T8)) :=
 @Start.mk (trH (T7)) (hA) (hB) (hC) (hD) (hE) (trH (T8)) (hM) (trR (T7)) (trW (T7)) (trR (T8)) (trW (T8))
  run7 ok7 nx7 alA alB stC stD ldD stE ldE ldF nxs run8 mM8 look8
end Go.Proofs.RS
end
