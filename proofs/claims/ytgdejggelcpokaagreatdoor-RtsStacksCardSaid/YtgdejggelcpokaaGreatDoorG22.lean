/-
 A part of the proof that pliantlaw15.RtsStacks returns true and leaves its arguments alone. Conditions: those of the card in the last text.
-/
import Derived.KernelRfl
import Derived.Test.YtgdejggelcpokaaGreatDoorG21
set_option linter.unusedSimpArgs false
set_option linter.unusedVariables false
set_option linter.unusedSectionVars false
noncomputable section
namespace Go.Proofs.RS
open Go Go.Ev Go.Proofs
abbrev charV:Value:=.agg ⟨[vN 3,vN 1,vN 0,.bool false,vS []]⟩
abbrev valV (s:List UInt8):Value:=.agg ⟨[vN 0,vS s]⟩
def bitU (u:UInt8) (i:Nat):UInt8:=UInt8.ofNat (48+u.toNat / 2 ^ (7-i) % 2)
def bitsOf (u:UInt8):List UInt8:=(List.range 8).map (bitU u)
theorem run93:retV (ev Tb0 sp0 2000 (.call 93 [charV]) (E0 NG))=some (.bool true):=by kernel_rfl
theorem run51:retV (ev Tb0 sp0 2000 (.call 51 [charV]) (E0 NG))=some (vN 0):=by kernel_rfl
theorem run102:retV (ev Tb0 sp0 2000 (.call 102 [charV]) (E0 NG))=some (vN 8):=by kernel_rfl
theorem run50:(List.range 256).map (fun u=>retV (ev Tb0 sp0 2000 (.call 50 [charV,valV [UInt8.ofNat u]]) (E0 NG)))=(List.range 256).map (fun u=>some (vN 0)):=by kernel_rfl
theorem run89_0:(List.range 32).map (fun u=>retV (ev Tb0 sp0 4000 (.call 89 [charV,valV [UInt8.ofNat (0+u)]]) (E0 NG)))=(List.range 32).map (fun u=>some (.tuple #[vS (bitsOf (UInt8.ofNat (0+u))),vN 0])):=by kernel_rfl
theorem run89_1:(List.range 32).map (fun u=>retV (ev Tb0 sp0 4000 (.call 89 [charV,valV [UInt8.ofNat (32+u)]]) (E0 NG)))=(List.range 32).map (fun u=>some (.tuple #[vS (bitsOf (UInt8.ofNat (32+u))),vN 0])):=by kernel_rfl
theorem run89_2:(List.range 32).map (fun u=>retV (ev Tb0 sp0 4000 (.call 89 [charV,valV [UInt8.ofNat (64+u)]]) (E0 NG)))=(List.range 32).map (fun u=>some (.tuple #[vS (bitsOf (UInt8.ofNat (64+u))),vN 0])):=by kernel_rfl
theorem run89_3:(List.range 32).map (fun u=>retV (ev Tb0 sp0 4000 (.call 89 [charV,valV [UInt8.ofNat (96+u)]]) (E0 NG)))=(List.range 32).map (fun u=>some (.tuple #[vS (bitsOf (UInt8.ofNat (96+u))),vN 0])):=by kernel_rfl
theorem run89_4:(List.range 32).map (fun u=>retV (ev Tb0 sp0 4000 (.call 89 [charV,valV [UInt8.ofNat (128+u)]]) (E0 NG)))=(List.range 32).map (fun u=>some (.tuple #[vS (bitsOf (UInt8.ofNat (128+u))),vN 0])):=by kernel_rfl
theorem run89_5:(List.range 32).map (fun u=>retV (ev Tb0 sp0 4000 (.call 89 [charV,valV [UInt8.ofNat (160+u)]]) (E0 NG)))=(List.range 32).map (fun u=>some (.tuple #[vS (bitsOf (UInt8.ofNat (160+u))),vN 0])):=by kernel_rfl
theorem run89_6:(List.range 32).map (fun u=>retV (ev Tb0 sp0 4000 (.call 89 [charV,valV [UInt8.ofNat (192+u)]]) (E0 NG)))=(List.range 32).map (fun u=>some (.tuple #[vS (bitsOf (UInt8.ofNat (192+u))),vN 0])):=by kernel_rfl
theorem run89_7:(List.range 32).map (fun u=>retV (ev Tb0 sp0 4000 (.call 89 [charV,valV [UInt8.ofNat (224+u)]]) (E0 NG)))=(List.range 32).map (fun u=>some (.tuple #[vS (bitsOf (UInt8.ofNat (224+u))),vN 0])):=by kernel_rfl
end Go.Proofs.RS
end
