/-
 A part of the proof that pliantlaw15.RtsStacks returns true and leaves its arguments alone. Conditions: those of the card in the last text.
-/
import Derived.Test.YtgdejggelcpokaaGreatDoorG22
set_option linter.unusedSimpArgs false
set_option linter.unusedVariables false
set_option linter.unusedSectionVars false
noncomputable section
namespace Go.Proofs.RS
open Go Go.Ev Go.Proofs
theorem run100_0:(List.range 32).map (fun u=>retV (ev Tb0 sp0 4000 (.call 100 [charV,vS (bitsOf (UInt8.ofNat (0+u)))]) (E0 NG)))=(List.range 32).map (fun u=>some (.tuple #[valV [UInt8.ofNat (0+u)],vN 0])):=by kernel_rfl
theorem run100_1:(List.range 32).map (fun u=>retV (ev Tb0 sp0 4000 (.call 100 [charV,vS (bitsOf (UInt8.ofNat (32+u)))]) (E0 NG)))=(List.range 32).map (fun u=>some (.tuple #[valV [UInt8.ofNat (32+u)],vN 0])):=by kernel_rfl
theorem run100_2:(List.range 32).map (fun u=>retV (ev Tb0 sp0 4000 (.call 100 [charV,vS (bitsOf (UInt8.ofNat (64+u)))]) (E0 NG)))=(List.range 32).map (fun u=>some (.tuple #[valV [UInt8.ofNat (64+u)],vN 0])):=by kernel_rfl
theorem run100_3:(List.range 32).map (fun u=>retV (ev Tb0 sp0 4000 (.call 100 [charV,vS (bitsOf (UInt8.ofNat (96+u)))]) (E0 NG)))=(List.range 32).map (fun u=>some (.tuple #[valV [UInt8.ofNat (96+u)],vN 0])):=by kernel_rfl
theorem run100_4:(List.range 32).map (fun u=>retV (ev Tb0 sp0 4000 (.call 100 [charV,vS (bitsOf (UInt8.ofNat (128+u)))]) (E0 NG)))=(List.range 32).map (fun u=>some (.tuple #[valV [UInt8.ofNat (128+u)],vN 0])):=by kernel_rfl
theorem run100_5:(List.range 32).map (fun u=>retV (ev Tb0 sp0 4000 (.call 100 [charV,vS (bitsOf (UInt8.ofNat (160+u)))]) (E0 NG)))=(List.range 32).map (fun u=>some (.tuple #[valV [UInt8.ofNat (160+u)],vN 0])):=by kernel_rfl
theorem run100_6:(List.range 32).map (fun u=>retV (ev Tb0 sp0 4000 (.call 100 [charV,vS (bitsOf (UInt8.ofNat (192+u)))]) (E0 NG)))=(List.range 32).map (fun u=>some (.tuple #[valV [UInt8.ofNat (192+u)],vN 0])):=by kernel_rfl
theorem run100_7:(List.range 32).map (fun u=>retV (ev Tb0 sp0 4000 (.call 100 [charV,vS (bitsOf (UInt8.ofNat (224+u)))]) (E0 NG)))=(List.range 32).map (fun u=>some (.tuple #[valV [UInt8.ofNat (224+u)],vN 0])):=by kernel_rfl
end Go.Proofs.RS
end
