/-
 A part of the proof that pliantlaw16.MeanAssigns returns true and leaves its arguments alone. Conditions: those of the card in the last text.
-/
import Derived.LaidOnce
import Derived.Test.YtdmcanlbncbemaaGreatDoorRows
set_option linter.unusedVariables false
set_option maxRecDepth 100000
set_option maxHeartbeats 8000000
noncomputable section
namespace Go.Proofs.YtdmcanlbncbemaaGreatDoor.meanAssigns
noncomputable abbrev tied : List (String × DataW Unit) := [("unicode/utf8.acceptRanges", Rows.laid_unicode_utf8_acceptRanges), ("pliant/picture.punched", Rows.laid_pliant_picture_punched), ("strconv.ErrSyntax", Rows.laid_strconv_ErrSyntax), ("strconv.ErrRange", Rows.laid_strconv_ErrRange), ("internal/strconv.uint64pow10", Rows.laid_internal_strconv_uint64pow10), ("math/bits.deBruijn32tab", Rows.laid_math_bits_deBruijn32tab), ("math/bits.deBruijn64tab", Rows.laid_math_bits_deBruijn64tab), ("pliant/core.shapes", Rows.laid_pliant_core_shapes), ("pliant/core.operands", Rows.laid_pliant_core_operands), ("errors.errorType", Rows.laid_errors_errorType), ("strings.asciiSpace", Rows.laid_strings_asciiSpace), ("unicode.White_Space", Rows.laid_unicode_White_Space)]
abbrev tiedKinds:List LaidKind:=[.data,.data,.sentinel,.sentinel,.data,.data,.data,.data,.data,.handle,.data,.listed]
theorem worded_list (w:String):Tryz.prog.worded w=Tryz.prog.funcs.toList.any λfn=>fn.body.isNone&&fn.name==w:=by unfold Program.worded;rw[Array.any_toList]
theorem tie_w:Tryz.prog.worded (varsWordLater true)=true:=by rw[worded_list];kernel_rfl
theorem tie_w':Tryz.prog.worded (varsWordLater !true)=false:=by rw[worded_list];kernel_rfl
theorem tie_root:Tryz.prog.worded rootWordLater=true:=by rw[worded_list];kernel_rfl
theorem tie_k:tied.map (λx=>Tryz.prog.kindOfLater x.1)=tiedKinds.map some:=by kernel_rfl
def spots {α:Type} (p:α->Bool):List α->Nat->List Nat
 | [],_=>[]
 |a::r,k=>bif p a then k::spots p r (k+1)else spots p r (k+1)
theorem spots_range {α:Type} (p:α->Bool) (a:Array α):∀ (l:List α) (k:Nat),(∀ i,l[i]?=a[k+i]?) ->
 (List.range' k l.length).filter (λi=>(a[i]?).any p)=spots p l k
 | [],k,_=>rfl
 |x::r,k,h=>by
  have h0:a[k]?=some x:=by have:=h 0;simpa using this.symm
  have ht:=spots_range p a r (k+1) (λi=>by have:=h (i+1);rw[List.getElem?_cons_succ]at this;rw[this];congr 1;omega)
  rw[List.length_cons,List.range'_succ,List.filter_cons,h0,ht]
  simp only[spots,Option.any_some]
  by_cases hp:p x=true
  ·rw[if_pos hp,hp];rfl
  ·rw[if_neg hp,Bool.eq_false_iff.2 hp];rfl
theorem funcs_spots (nm:String):(List.range Tryz.prog.funcs.size).filter (λi=>(Tryz.prog.funcs[i]?).any (·.name==nm))=spots (λfn:Func=>fn.name==nm) Tryz.prog.funcs.toList 0:=by
 rw[List.range_eq_range',<-Array.length_toList]
 exact spots_range (λfn:Func=>fn.name==nm) Tryz.prog.funcs Tryz.prog.funcs.toList 0 (λi=>by simp)
theorem named_of {nm:String} {n:Nat} (h:spots (λfn:Func=>fn.name==nm) Tryz.prog.funcs.toList 0=[n]):Tryz.prog.funcNamed nm=some n:=by
 unfold Program.funcNamed
 rw[funcs_spots,h]
theorem named_vars : Tryz.prog.funcNamed "gosem.cut.vars" = some 627 := named_of (by kernel_rfl)
theorem named_elem : Tryz.prog.funcNamed "(internal/reflectlite.rtype).Elem" = some 596 := named_of (by kernel_rfl)
theorem tie_g : (Tryz.prog.funcNamed "gosem.cut.vars").isSome = true := by rw [named_vars]; rfl
theorem vars_id:varsId Tryz.prog=627:=by unfold varsId;rw[named_vars];rfl
end Go.Proofs.YtdmcanlbncbemaaGreatDoor.meanAssigns
end
