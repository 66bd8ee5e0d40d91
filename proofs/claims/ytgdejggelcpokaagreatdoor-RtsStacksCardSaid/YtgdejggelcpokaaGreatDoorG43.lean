/-
 A part of the proof that pliantlaw15.RtsStacks returns true and leaves its arguments alone. Conditions: those of the card in the last text.
-/
import Derived.Test.YtgdejggelcpokaaGreatDoorG42
set_option linter.unusedSimpArgs false
set_option linter.unusedVariables false
set_option linter.unusedSectionVars false
noncomputable section
namespace Go.Proofs.YtgdejggelcpokaaGreatDoor.rtsStacks
open Go.ChangeShapes Go.WideShapes Go.ChangeAt Go.RowKit Go.Deep
def flat:Nat→DataW Unit→List Value
 | 0,_=>[]
 | n+1,.agg ps=>ps.flatMap (flat n)
 | _+1,.lit (.int k z)=>[.int k z]
 | _+1,_=>[]
def setRow (b:Nat) (cs:Array Value) (h:Array Obj):Array Obj:=h.modify b fun
 | .cells _ t frozen=>.cells cs t frozen
 | o=>o
def laidRows (n:Nat) (h:Array Obj):Array Obj :=
 let h:=setRow 0 ⟨flat 4 Rows.laid_pliant_core_shapes⟩ h
 let h:=setRow 1 ⟨flat 4 Rows.laid_pliant_core_operands⟩ h
 let h:=setRow 2 ⟨flat 4 Rows.laid_pliant_picture_punched⟩ h
 let h:=setRow 3 #[.iface 405 (.pointer (some ⟨n,0,none⟩))] h
 let h:=setRow 4 #[.iface 405 (.pointer (some ⟨n+1,0,none⟩))] h
 let h:=setRow 5 ⟨flat 4 Rows.laid_internal_strconv_uint64pow10⟩ h
 let h:=setRow 6 ⟨flat 4 Rows.laid_unicode_utf8_first⟩ h
 let h:=setRow 7 ⟨flat 4 Rows.laid_unicode_utf8_acceptRanges⟩ h
 let h:=setRow 9 ⟨flat 4 Rows.laid_math_bits_deBruijn32tab⟩ h
 let h:=setRow 10 ⟨flat 4 Rows.laid_math_bits_deBruijn64tab⟩ h
 h
noncomputable def laidWorld (os:Os):World :=
 let w0:=World.holding Tryz.prog os ⟨#[.cells #[.string ⟨#[105,110,118,97,108,105,100,32,115,121,110,116,97,120]⟩] 407,.cells #[.string ⟨#[118,97,108,117,101,32,111,117,116,32,111,102,32,114,97,110,103,101]⟩] 407],#[],[]⟩
 { w0 with heap:=laidRows (World.settled Tryz.prog os).heap.size w0.heap }
noncomputable abbrev witW (os:Os):World:=((laidWorld os).forCall (fun _ _=>0) ⟨#[],#[.slice none 0 0,.slice none 0 0],[]⟩)
theorem laid_met (os:Os):laidMet Tryz.prog Rows.rtsStacksRow.laid (witW os).memory:=laidMet_of_run' 8 (by kernel_rfl) (by kernel_rfl)
theorem reads (os:Os) {H:Type} (enc:TypeId×Value→H):∃ places,DataW.whole enc Tryz.prog (witW os).memory Tryz.f3.params.toList Rows.rtsStacksSpec.vars false #[Value.slice none 0 0,Value.slice none 0 0].toList 8=some ([.nil,.nil],[],places):=⟨[],by kernel_rfl⟩
theorem laid_metH (os:Os):laidMetH Tryz.prog Rows.rtsStacksRow.laid (witW os).memory:=by
 have e:(Rows.rtsStacksRow.laid.filter fun x=>x.2.handleName?.isSome)=[]:=by kernel_rfl
 unfold laidMetH
 rw [e]
 exact laid_met os
set_option maxRecDepth 100000 in
theorem lifted (os:Os) (started:os.Started) (H:Type) (enc:TypeId×Value→H) (F:Stop.Interp) :
 ReturnsInHanded {} Tryz.checked os 3 .any ((OpenSpec.ofChange Rows.rtsStacksSpec).preRow enc Tryz.prog Tryz.f3 Rows.rtsStacksRow.domain false Rows.rtsStacksRow.laid) (((OpenSpec.ofChange Rows.rtsStacksSpec).at F).post enc Tryz.prog Tryz.f3 false true false false):=by
 obtain ⟨places,hx⟩:=reads os enc
 refine returnsInHanded_of_row (C:=Tryz.checked) (s:=OpenSpec.ofChange Rows.rtsStacksSpec) own started (by kernel_rfl) Tryz.func3
  (witness_row_atRef (enc:=enc) (C:=Tryz.checked) false (laidWorld os) #[.slice none 0 0,.slice none 0 0] rfl (by kernel_rfl) (by kernel_rfl) (by kernel_rfl)
   (OpenSpec.preRow_of_cond 8 hx (by kernel_rfl) (fun k hk=>by cases hk) (by kernel_rfl) (laid_metH os))) ?_
 intro W base args ds gs before hval hW _ hcond _ hL hS _
 exact contract H enc W base args ds gs before hval hW hL hS
end Go.Proofs.YtgdejggelcpokaaGreatDoor.rtsStacks
end
