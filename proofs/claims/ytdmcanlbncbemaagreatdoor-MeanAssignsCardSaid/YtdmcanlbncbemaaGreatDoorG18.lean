/-
 A part of the proof that pliantlaw16.MeanAssigns returns true and leaves its arguments alone. Conditions: those of the card in the last text.
-/
import Derived.Test.YtdmcanlbncbemaaGreatDoorG13
set_option linter.unusedVariables false
set_option maxRecDepth 100000
set_option maxHeartbeats 8000000
noncomputable section
namespace Go.Proofs.MN
open Go Go.Ev Go.Proofs Go.Ev.SM
variable [tf]
theorem XU:Nat.beq (Bc (afP sp0 Rq) 1 0) 1=true:=by kernel_rfl
theorem RI:Nat.beq (Bc (zf (pB acv) r60) 1 0) 1=true:=by kernel_rfl
theorem Xa:Nat.beq (Bc (zf (pB afR) r60) 1 0) 1=true:=by kernel_rfl
theorem XZ:Nat.beq (Bc (zf (pB toC) YN) 1 0) 1=true:=by kernel_rfl
theorem Rs:Nat.beq (Bc (zf (pB λx=>toC (Hi x)) YN) 1 0) 1=true:=by kernel_rfl
end Go.Proofs.MN
end
