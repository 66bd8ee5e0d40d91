/-
 A part of the proof that pliantlaw16.MeanAssigns returns true and leaves its arguments alone. Conditions: those of the card in the last text.
-/
import Derived.SevenTiedAt
import GoSem.ClaimSeven
import Derived.Test.YtdmcanlbncbemaaGreatDoorG35
import Derived.Test.YtdmcanlbncbemaaGreatDoorG43
import Derived.Test.YtdmcanlbncbemaaGreatDoorG44
import Derived.Test.YtdmcanlbncbemaaGreatDoorG45
import Derived.Test.YtdmcanlbncbemaaGreatDoorG46
set_option linter.unusedVariables false
set_option maxRecDepth 100000
set_option maxHeartbeats 8000000
noncomputable section
namespace Go.Proofs.YtdmcanlbncbemaaGreatDoor.meanAssigns
theorem tie_both (os:Os) (tape:Tape):(DataW.laidRun Tryz.prog (varsWorld Tryz.prog 400 627 os tape).memory 8 ((tied.filter λx=>x.2.handleName?.isNone).map (·.1))).map (λx=>decide x.2.Nodup&&laidRowsB Tryz.prog (varsWorld Tryz.prog 400 627 os tape).memory x.2)=some true:=by
 have h1:=tie_once os tape
 have h2:=tie_rows os tape
 generalize hx:DataW.laidRun Tryz.prog (varsWorld Tryz.prog 400 627 os tape).memory 8 ((tied.filter λx=>x.2.handleName?.isNone).map (·.1))=o at h1 h2 ⊢
 cases o with
 |none=>cases h1
 |some x =>
  simp only[Option.map_some,Option.some.injEq]at h1 h2 ⊢
  rw[h2,decide_eq_true (nodupBits_sound h1).1]
  rfl
theorem tie:Tryz.prog.laidByTextLater tied tiedKinds true :=
 Program.laidByTextLater_by_run_h 400 8 tie_w tie_w' tie_root tie_k tie_g tie_n (λos tape=>by rw[vars_id];exact tie_done os tape) (λos tape=>by rw[vars_id];exact tie_vals os tape)
  (λos tape=>by rw[vars_id];exact tie_both os tape) (λos tape=>by rw[vars_id];exact tie_handle os tape)
theorem pin_first : Tryz.pinned.checked.prog.pinnedFits "unicode/utf8.first" = true := by
 show Tryz.prog.pinnedFits "unicode/utf8.first" = true
 unfold Program.pinnedFits
 rw[named_vars]
 kernel_rfl
theorem no_own : Tryz.pinned.checked.prog.headLifts.contains "ownunsafe" = false := by kernel_rfl
theorem fits:Tryz.pinned.checked.prog.listedFits Rows.meanAssignsRow.laid=true:=by
 unfold Program.listedFits
 rw[no_own]
 kernel_rfl
theorem row_tie:Rows.meanAssignsRow.laidByTextAt .later Tryz.pinned [.pinned,.data,.data,.sentinel,.sentinel,.data,.data,.data,.data,.data,.handle,.data,.listed] true :=
 OpenClaim.laidByTextAt_pinned rfl rfl tie rfl rfl rfl rfl (λy hy _e=>by
  simp only[Rows.meanAssignsRow,List.zip_cons_cons,List.zip_nil_right,List.mem_cons,List.mem_nil_iff,or_false]at hy
  rcases hy with rfl|rfl|rfl|rfl|rfl|rfl|rfl|rfl|rfl|rfl|rfl|rfl|rfl
  ·exact⟨pin_first,by kernel_rfl⟩
  ·cases _e
  ·cases _e
  ·cases _e
  ·cases _e
  ·cases _e
  ·cases _e
  ·cases _e
  ·cases _e
  ·cases _e
  ·cases _e
  ·cases _e
  ·cases _e) fits
theorem named_law : Tryz.prog.funcNamed "pliant/pliantlaw16.MeanAssigns" = some 6 := named_of (by kernel_rfl)
theorem plain (f : FuncId) (fn : Func) (hf : Tryz.pinned.checked.prog.funcNamed "pliant/pliantlaw16.MeanAssigns" = some f) (hfn : Tryz.pinned.checked.prog.funcs[f]? = some fn) :
 true=Tryz.pinned.checked.prog.looks []/\∀ (j:Nat) t,fn.params[j]?=some t->Tryz.pinned.checked.prog.wantsStandIn t=false:=by
 obtain rfl:f=6:=Option.some.inj (named_law.symm.trans hf) |>.symm
 obtain rfl:fn=Tryz.f6:=(Option.some.inj (Tryz.func6.symm.trans hfn)).symm
 refine⟨by kernel_rfl,λj t ht=>?_⟩
 rw[params6]at ht
 have hm:t=74\/t=3:=by simpa using Array.mem_of_getElem? ht
 rcases hm with rfl|rfl
 ·exact(show Tryz.prog.wantsStandIn 74=false by kernel_rfl)
 ·exact(show Tryz.prog.wantsStandIn 3=false by kernel_rfl)
theorem row_wf:Rows.meanAssignsRow.wfByText (OpenSpec.ofChange Rows.meanAssignsSpec)=true:=by kernel_rfl
theorem row_main : Tryz.pinned.checked.prog.mainIs = some (true, "3eb8d8e3155be01841347b725250b2cc254e197a124519fccfef76261502dc68".toList) := by kernel_rfl
theorem no_goes:Tryz.prog.funcs.toList.any Func.goes=false:=by kernel_rfl
theorem goes_none {P:Program} (h:P.funcs.toList.any Func.goes=false) (f:FuncId):P.goes f=false:=by
 have ha:P.funcs.any Func.goes=false:=by rw[<-Array.any_toList];exact h
 unfold Program.goes
 rw[ha,Bool.and_false,Bool.or_false,List.any_eq_false]
 rw[List.any_eq_false]at h
 intro g _
 cases hg:P.funcs[g]? with
 |none=>exact Bool.false_ne_true
 |some fn =>
  have hm:fn∈P.funcs.toList:=by
   rw[Array.getElem?_eq_some_iff]at hg
   obtain⟨hi,rfl⟩:=hg
   exact Array.getElem_mem_toList hi
  exact h fn hm
theorem goesBy_none {P:Program} (h:P.funcs.toList.any Func.goes=false) (c:OpenClaim) (hs:c.start=.entering):false=c.goesBy P:=by
 unfold OpenClaim.goesBy Program.goesAt Program.goesFrom
 rw[hs]
 cases P.funcNamed c.func with
 |none=>rfl
 |some f=>simp only[Option.any_some,goes_none h f,Bool.or_false]
theorem row_goes:false=Rows.meanAssignsRow.goesBy Tryz.pinned.checked.prog:=goesBy_none no_goes Rows.meanAssignsRow rfl
end Go.Proofs.YtdmcanlbncbemaaGreatDoor.meanAssigns
end
