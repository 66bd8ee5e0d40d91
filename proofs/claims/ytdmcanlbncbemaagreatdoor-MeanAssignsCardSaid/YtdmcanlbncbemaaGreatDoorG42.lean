/-
 A part of the proof that pliantlaw16.MeanAssigns returns true and leaves its arguments alone. Conditions: those of the card in the last text.
-/
import Derived.Test.YtdmcanlbncbemaaGreatDoorG11
import Derived.Test.YtdmcanlbncbemaaGreatDoorG35
import Derived.Test.YtdmcanlbncbemaaGreatDoorG36
import Derived.Test.YtdmcanlbncbemaaGreatDoorG37
import Derived.Test.YtdmcanlbncbemaaGreatDoorG38
import Derived.Test.YtdmcanlbncbemaaGreatDoorG39
import Derived.Test.YtdmcanlbncbemaaGreatDoorG40
import Derived.Test.YtdmcanlbncbemaaGreatDoorG41
set_option linter.unusedVariables false
set_option maxRecDepth 100000
set_option maxHeartbeats 8000000
noncomputable section
namespace Go.Proofs.YtdmcanlbncbemaaGreatDoor.meanAssigns
open Go
open Go.Proofs.MN (Jr NF Jq iy)
theorem flatMap_congr' {α β:Type} {f g:α->List β}:∀ {l:List α},(∀ x∈l,f x=g x)->l.flatMap f=l.flatMap g:=by
 intro l
 induction l with
 |nil=>intro _;rfl
 |cons a l ih=>intro h;rw[List.flatMap_cons,List.flatMap_cons,h a (by simp),ih λx hx=>h x (by simp[hx])]
theorem filterMap_congr' {α β:Type} {f g:α->Option β}:∀ {l:List α},(∀ x∈l,f x=g x)->l.filterMap f=l.filterMap g:=by
 intro l
 induction l with
 |nil=>intro _;rfl
 |cons a l ih=>intro h;rw[List.filterMap_cons,List.filterMap_cons,h a (by simp),ih λx hx=>h x (by simp[hx])]
theorem fn_get (f:Nat) (h:f<NF):Tryz.prog.funcs[f]?=Jr.get f:=iy Jq h
theorem cl_all:(CL6.all λg=>Nat.blt g NF)=true:=by kernel_rfl
theorem cl_lt (g:Nat) (h:g∈CL6):g<NF:=Eq.mp Nat.blt_eq (List.all_eq_true.1 cl_all g h)
noncomputable def gnF (g:Nat):List Nat:=((Jr.get g).bind (·.body)).elim [] Code.globalsNamed
theorem gn_all:CL6.flatMap gnF=[12,13,9,9,9,8,10,11,2,4,5,8,3,6,6,6,7,0,0,0,0,1]:=by kernel_rfl
theorem en_all : (CL6.filterMap fun g => (Jr.get g).bind fun fn => if fn.body.isNone then entryReads.lookup fn.name else none) = ["internal/bytealg.MaxLen"] := by kernel_rfl
theorem named6 : Tryz.prog.varsNamed 6 = ["unicode/utf8.first", "unicode/utf8.acceptRanges", "internal/bytealg.MaxLen", "pliant/picture.punched", "strconv.ErrSyntax", "strconv.ErrRange", "internal/strconv.uint64pow10", "math/bits.deBruijn32tab", "math/bits.deBruijn64tab", "pliant/core.shapes", "pliant/core.operands", "errors.errorType", "strings.asciiSpace", "unicode.White_Space"] := by
 unfold Program.varsNamed
 rw[closure6,flatMap_congr' (g:=gnF) (λx hx=>congrArg (λo:Option Func=>(o.bind (·.body)).elim [] Code.globalsNamed) (fn_get x (cl_lt x hx))),
  filterMap_congr' (g:=λg=>(Jr.get g).bind λfn=>if fn.body.isNone then entryReads.lookup fn.name else none) (λx hx=>congrArg (λo:Option Func=>o.bind λfn=>if fn.body.isNone then entryReads.lookup fn.name else none) (fn_get x (cl_lt x hx))),gn_all,en_all]
 kernel_rfl
end Go.Proofs.YtdmcanlbncbemaaGreatDoor.meanAssigns
end
noncomputable section
namespace Go.Proofs.YtdmcanlbncbemaaGreatDoor.meanAssigns
open Go.ChangeShapes Go.WideShapes Go.ChangeAt Go.RowKit Go.Deep
theorem f_named:(Rows.meanAssignsRow.named==Tryz.prog.varsNamed 6)=true:=by rw[named6];kernel_rfl
theorem closed:joinedFacts Tryz.prog 6 Tryz.f6 sB Rows.meanAssignsRow=true:=by
 unfold joinedFacts
 rw[Jx,f_mapsRowed,f_params,f_inPlace,f_unf,f_rec,f_named,f_maps,f_ifaces,f_loops,f_wide,f_results,f_ifacesOut,f_loopsOut,f_plainKeys,f_heard,f_mayEnter,f_veiled,f_fits]
 kernel_rfl
theorem said:Rows.MeanAssignsSaid :=
 OpenClaim.holds_of_cond 6 Tryz.f6 rfl rfl rfl rfl rfl rfl rfl ⟨rfl,rfl,rfl,rfl,rfl⟩ rfl rfl rfl rfl rfl (by kernel_rfl) Tryz.func6 closed
  (of_decide_eq_true (by kernel_rfl)) (by unfold Func.isWrapper;first|(rw[if_pos (by decide +kernel)];kernel_rfl)|(rw[if_neg (by decide +kernel)];exact⟨rfl,rfl⟩))
  (λos started H enc _ F=>by rw[OpenClaim.pre_eq_preRow];exact lifted os started H enc F)
end Go.Proofs.YtdmcanlbncbemaaGreatDoor.meanAssigns
end
