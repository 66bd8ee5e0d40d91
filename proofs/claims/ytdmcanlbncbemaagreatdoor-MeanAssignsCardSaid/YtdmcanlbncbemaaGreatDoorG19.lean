/-
 A part of the proof that pliantlaw16.MeanAssigns returns true and leaves its arguments alone. Conditions: those of the card in the last text.
-/
import Derived.Test.YtdmcanlbncbemaaGreatDoorG13
set_option linter.unusedVariables false
set_option maxRecDepth 100000
set_option maxHeartbeats 8000000
noncomputable section
namespace Go.Proofs.MN
open Go Go.Ev Go.Proofs Go.Ev.SM
variable [tf]
theorem Wp:Nat.beq (Bc (zf (pB afv) YN) 1 0) 1=true:=by kernel_rfl
theorem Wt:Nat.beq (Bc (zf (pB afw) YN) 1 0) 1=true:=by kernel_rfl
theorem PV:Nat.beq (Bc (zf (pB VU) YN) 1 0) 1=true:=by kernel_rfl
theorem V7:Nat.beq (Bc (zf (pB afi) YN) 1 0) 1=true:=by kernel_rfl
theorem Wc:Nat.beq (Bc (zf (pB afp) YN) 1 0) 1=true:=by kernel_rfl
end Go.Proofs.MN
end
