/-
 A part of the proof that pliantlaw16.MeanAssigns returns true and leaves its arguments alone. Conditions: those of the card in the last text.
-/
import Derived.KernelRfl
import Derived.Test.YtdmcanlbncbemaaGreatDoorProg
import Derived.Test.YtdmcanlbncbemaaGreatDoorG07
import Derived.Test.YtdmcanlbncbemaaGreatDoorG10
set_option linter.unusedVariables false
set_option maxRecDepth 100000
set_option maxHeartbeats 8000000
noncomputable section
namespace Go.Proofs.MN
open Go Go.Ev Go.Proofs
theorem iy {α:Type} {f g:Nat->α} {n:Nat} (h:(List.range n).map f=(List.range n).map g) {i:Nat} (hi:i<n):f i=g i:=by
 have h2:((List.range n).map f)[i]?=((List.range n).map g)[i]?:=by rw[h]
 simpa [hi] using h2
theorem Jq:(List.range NF).map (λi=>Tryz.prog.funcs[i]?)=(List.range NF).map (λi=>Jr.get i):=by kernel_rfl
theorem aci:(List.range NT).map (λi=>Tryz.prog.info? i)=(List.range NT).map (λi=>tyT.get i):=by kernel_rfl
theorem XT:(List.range NT).map (λi=>Tryz.prog.underlying i)=(List.range NT).map (λi=>afZ.get i):=by kernel_rfl
def QB (v:Value):List Value->Nat->Bool
 | [],n=>Nat.beq n 0
 |x::l,n=>Bc (Nat.beq n 0) false (Bc (tM x v) (QB v l (Nat.pred n)) false)
theorem DT {v:Value}:∀ {l:List Value} {n:Nat},QB v l n=true->l=List.replicate n v:=by
 intro l
 induction l with
 |nil=>intro n h;have:=(beq_iff _ _).1 h;subst this;rfl
 |cons x l ih =>
  intro n h
  unfold QB at h
  cases h0:Nat.beq n 0 with
  |true=>rw[h0,aj]at h;cases h
  |false =>
   rw[h0,au]at h
   cases hs:tM x v with
   |false=>rw[hs,au]at h;cases h
   |true =>
    rw[hs,aj]at h
    have e:=AE hs
    subst e
    cases n with
    |zero=>cases h0
    |succ n=>rw[List.replicate_succ];exact congrArg _ (ih (n:=n) h)
noncomputable def wU:List Value:=((Tryz.t199.zero).getD (.bool true)).cells.toList
theorem QU:QB (.int .u8 0) wU 65536=true:=by kernel_rfl
theorem BM:wU=List.replicate 65536 (.int .u8 0):=DT QU
theorem ZY:Tryz.prog.info? 199=some Tryz.t199:=by kernel_rfl
theorem Z0:Tryz.prog.info? 197=some Tryz.t197:=by kernel_rfl
theorem ZZ:Tryz.prog.info? 198=some Tryz.t198:=by kernel_rfl
theorem D_:QB (.int .u8 0) (((Tryz.t197.zero).getD (.bool true)).cells.toList) 65536=true:=by kernel_rfl
theorem D9:QB (.int .u8 0) (((Tryz.t198.zero).getD (.bool true)).cells.toList) 65536=true:=by kernel_rfl
theorem G5:((Tryz.t197.zero).getD (.bool true)).cells.toList=List.replicate 65536 (.int .u8 0):=DT D_
theorem G4:((Tryz.t198.zero).getD (.bool true)).cells.toList=List.replicate 65536 (.int .u8 0):=DT D9
theorem XH:Tryz.t199.zero=some ((Tryz.t199.zero).getD (.bool true)):=rfl
end Go.Proofs.MN
end
