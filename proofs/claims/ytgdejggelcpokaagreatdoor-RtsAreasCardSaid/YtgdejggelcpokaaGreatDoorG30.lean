/-
 A part of the proof that pliantlaw15.RtsAreas returns true and leaves its arguments alone. Conditions: those of the card in the last text.
-/
import Derived.Test.YtgdejggelcpokaaGreatDoorG29
set_option linter.unusedSimpArgs false
set_option linter.unusedVariables false
set_option linter.unusedSectionVars false
noncomputable section
namespace Go.Proofs.RS
open Go Go.Ev Go.Proofs
abbrev pVA:Value:=.agg ⟨[.slice (some ⟨15,0,none⟩) 2 4,vN 16384,.slice none 0 0,.slice (some ⟨16,0,none⟩) 2 4,.slice (some ⟨17,0,none⟩) 1 2,.slice (some ⟨18,0,none⟩) 1 2]⟩
abbrev sA:Value:=.pointer (some ⟨78,0,none⟩)
def stA:List Value:=[.slice (some ⟨75,0,none⟩) 2 5,vN 16384,.slice none 0 0,.slice (some ⟨64,0,none⟩) 2 5,.slice (some ⟨66,0,none⟩) 1 3,.slice (some ⟨68,0,none⟩) 1 3,.pointer (some ⟨76,0,none⟩),.slice (some ⟨104,0,none⟩) 1 3,vN 2072,.slice (some ⟨95,0,none⟩) 2 5,.slice (some ⟨97,0,none⟩) 2 5,.slice (some ⟨99,0,none⟩) 2 5,.slice (some ⟨77,0,none⟩) 1 2,.pointer none,.slice none 0 0,vN 0,vN 3,vN 0,.bool false,.bool false,vN 0,vN 0]
noncomputable def hEA:Hp:=rH (exSt 1 (.pointer (some ⟨23,1,none⟩)) (vN 16384) hD)
noncomputable def T8a:TR:=ev Tb0 spL 100000 (.call 8 [pVA,inV]) hEA
theorem stEA:exSt 1 (.pointer (some ⟨23,1,none⟩)) (vN 16384) hD=.val U hEA 0 (bit 23):=by kernel_rfl
theorem ldEA:exLdN 6 (.pointer (some ⟨23,0,none⟩)) hEA=.val pVA hEA (bit 23) 0:=by kernel_rfl
theorem ldFA:exLdN 3 (.pointer (some ⟨24,0,none⟩)) hEA=.val inV hEA (bit 24) 0:=by kernel_rfl
theorem nxEA:hEA.nx=25:=by kernel_rfl
set_option maxHeartbeats 4000000 in
theorem run8a:(match ev Tb0 spL 100000 (.call 8 [pVA,inV]) hEA with | .k (.ret v H r w)=>(some v,H.nx,wOk 13 (.k (.ret v H r w))) | _=>(none,0,false))=(some (.tuple #[sA,.int .i64 0]),105,true):=by kernel_rfl
set_option maxHeartbeats 4000000 in
theorem run10a:(match ev Tb0 spL 1000 (.call 10 [sA,vN 2,vN 0,vN 0]) (trH T8a) with | .k (.ret v H r w)=>(some v,H.nx,wOk 13 (.k (.ret v H r w)),H.isFn,(List.range 13).map H.blk,rdB (H.blk 78),H.blk 76,(rdB (H.blk 104)).isSome) | _=>(none,0,false,false,[],none,.no,false)) =
 (some (.tuple #[vN 128,vN 0]),106,true,true,(List.range 13).map H0.blk,some (stA,104,0,0,0),.cells (.e (.int .u8 0)) 65536 171 0 0 0,true):=by kernel_rfl
structure StartA (H7 hA hB hC hD hE H8 H10:Hp) (r7 w7 r8 w8 r10 w10:Nat):Prop where
 run7:ev Tb0 spL 1000 (.call 7 []) H0=.k (.ret (.tuple #[pV,inV]) H7 r7 w7)
 ok7:wOk 13 (ev Tb0 spL 1000 (.call 7 []) H0)=true
 nx7:H7.nx=23
 alA:alloc1 (blkL [.slice none 0 0,.int .i64 (0),.slice none 0 0,.slice none 0 0,.slice none 0 0,.slice none 0 0] 29 0) H7 ptrTo 0 0=.val (.pointer (some ⟨23,0,none⟩)) hA 0 0
 alB:alloc1 (blkL [.slice none 0 0,.slice none 0 0,.int .i64 (0)] 32 0) hA ptrTo 0 0=.val (.pointer (some ⟨24,0,none⟩)) hB 0 0
 stC:exSt 6 (.pointer (some ⟨23,0,none⟩)) pV hB=.val U hC 0 (bit 23)
 stD:exSt 3 (.pointer (some ⟨24,0,none⟩)) inV hC=.val U hD 0 (bit 24)
 stE:exSt 1 (.pointer (some ⟨23,1,none⟩)) (vN 16384) hD=.val U hE 0 (bit 23)
 ldE:exLdN 6 (.pointer (some ⟨23,0,none⟩)) hE=.val pVA hE (bit 23) 0
 ldF:exLdN 3 (.pointer (some ⟨24,0,none⟩)) hE=.val inV hE (bit 24) 0
 nxs:hA.nx=24∧hB.nx=25∧hC.nx=25∧hD.nx=25∧hE.nx=25
 run8:ev Tb0 spL 100000 (.call 8 [pVA,inV]) hE=.k (.ret (.tuple #[sA,.int .i64 0]) H8 r8 w8)
 ok8:wOk 13 (ev Tb0 spL 100000 (.call 8 [pVA,inV]) hE)=true
 nx8:H8.nx=105
 run10:ev Tb0 spL 1000 (.call 10 [sA,vN 2,vN 0,vN 0]) H8=.k (.ret (.tuple #[vN 128,vN 0]) H10 r10 w10)
 ok10:wOk 13 (ev Tb0 spL 1000 (.call 10 [sA,vN 2,vN 0,vN 0]) H8)=true
 nx10:H10.nx=106
 fn10:H10.isFn=true
 low:(List.range 13).map H10.blk=(List.range 13).map H0.blk
 st:rdB (H10.blk 78)=some (stA,104,0,0,0)
 mem:H10.blk 76=.cells (.e (.int .u8 0)) 65536 171 0 0 0
 acts:(rdB (H10.blk 104)).isSome=true
theorem m8_inv {x:TR} {a:Value} {n:Nat} (h:(match x with | .k (.ret v H r w)=>(some v,H.nx,wOk 13 (.k (.ret v H r w))) | _=>(none,0,false))=(some a,n,true)):∃ H r w,x=.k (.ret a H r w)∧H.nx=n∧wOk 13 x=true:=by
 split at h
 ·rename_i v H r w
  simp only [Prod.mk.injEq,Option.some.injEq] at h
  obtain ⟨rfl,rfl,h3⟩:=h
  exact ⟨H,r,w,rfl,rfl,h3⟩
 ·simp at h
theorem m10_inv {x:TR} {a:Value} {n:Nat} {L:List Blk} {s:List Value×TypeId×Nat×Nat×Nat} {m:Blk} (h:(match x with | .k (.ret v H r w)=>(some v,H.nx,wOk 13 (.k (.ret v H r w)),H.isFn,(List.range 13).map H.blk,rdB (H.blk 78),H.blk 76,(rdB (H.blk 104)).isSome) | _=>(none,0,false,false,[],none,.no,false))=(some a,n,true,true,L,some s,m,true)) :
 ∃ H r w,x=.k (.ret a H r w)∧H.nx=n∧wOk 13 x=true∧H.isFn=true∧(List.range 13).map H.blk=L∧rdB (H.blk 78)=some s∧H.blk 76=m∧(rdB (H.blk 104)).isSome=true:=by
 split at h
 ·rename_i v H r w
  simp only [Prod.mk.injEq,Option.some.injEq] at h
  obtain ⟨rfl,rfl,h3,h4,h5,h6,h7,h8⟩:=h
  exact ⟨H,r,w,rfl,rfl,h3,h4,h5,h6,h7,h8⟩
 ·simp at h
theorem startA:∃ H7 hA hB hC hD hE H8 H10 r7 w7 r8 w8 r10 w10,StartA H7 hA hB hC hD hE H8 H10 r7 w7 r8 w8 r10 w10:=by
 obtain ⟨H8,r8,w8,e1,e2,e3⟩:=m8_inv run8a
 have h8:trH T8a=H8:=by unfold T8a;rw [e1];rfl
 have r10:=run10a
 rw [h8] at r10
 obtain ⟨H10,r10,w10,f1,f2,f3,f4,f5,f6,f7,f8⟩:=m10_inv r10
 obtain ⟨n1,n2,n3,n4,n5⟩:=nxs
 exact ⟨_,_,_,_,_,_,_,_,_,_,_,_,_,_,⟨run7,ok7,nx7,alA,alB,stC,stD,stEA,ldEA,ldFA,⟨n1,n2,n3,n4,nxEA⟩,e1,e3,e2,f1,f3,f2,f4,f5,f6,f7,f8⟩⟩
end Go.Proofs.RS
end
