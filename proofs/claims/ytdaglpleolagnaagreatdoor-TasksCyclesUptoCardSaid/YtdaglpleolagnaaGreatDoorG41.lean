/-
  A part of the proof that pliantlaw25.TasksCycles returns true and leaves its argument alone. Conditions: those of the card in the last text.
-/
import Derived.SevenTiedAt
import GoSem.ClaimSeven
import Derived.Test.YtdaglpleolagnaaGreatDoorG33
import Derived.Test.YtdaglpleolagnaaGreatDoorG34
import Derived.Test.YtdaglpleolagnaaGreatDoorG35
import Derived.Test.YtdaglpleolagnaaGreatDoorG36
import Derived.Test.YtdaglpleolagnaaGreatDoorG37
import Derived.Test.YtdaglpleolagnaaGreatDoorG38
import Derived.Test.YtdaglpleolagnaaGreatDoorG39
import Derived.Test.YtdaglpleolagnaaGreatDoorG40
set_option linter.unusedSimpArgs false
set_option linter.unusedVariables false

noncomputable section
namespace Go.Proofs.YtdaglpleolagnaaGreatDoor.tasksCycles
theorem tie_both (os : Os) (tape : Tape) : (DataW.laidRun Tryz.prog (varsWorld Tryz.prog 400 828 os tape).memory 8 ((tied.filter fun x => x.2.handleName?.isNone).map (·.1))).map (fun x => decide x.2.Nodup && laidRowsB Tryz.prog (varsWorld Tryz.prog 400 828 os tape).memory x.2) = some true := by
  have h1 := tie_once os tape
  have h2 := tie_rows os tape
  generalize hx : DataW.laidRun Tryz.prog (varsWorld Tryz.prog 400 828 os tape).memory 8 ((tied.filter fun x => x.2.handleName?.isNone).map (·.1)) = o at h1 h2 ⊢
  cases o with
  | none => cases h1
  | some x =>
    simp only [Option.map_some, Option.some.injEq] at h1 h2 ⊢
    rw [h2, decide_eq_true (nodupBits_sound h1).1]
    rfl
theorem tie : Tryz.prog.laidByTextLater tied tiedKinds true :=
  Program.laidByTextLater_by_run_h 400 8 tie_w tie_w' tie_root tie_k tie_g tie_n (fun os tape => by rw [vars_id]; exact tie_done os tape) (fun os tape => by rw [vars_id]; exact tie_vals os tape)
    (fun os tape => by rw [vars_id]; exact tie_both os tape) (fun os tape => by rw [vars_id]; exact tie_handle os tape)
theorem pin_first : Tryz.pinned.checked.prog.pinnedFits "unicode/utf8.first" = true := by
  show Tryz.prog.pinnedFits "unicode/utf8.first" = true
  unfold Program.pinnedFits
  rw [named_vars]
  kernel_rfl
theorem no_own : Tryz.pinned.checked.prog.headLifts.contains "ownunsafe" = false := by kernel_rfl
theorem fits : Tryz.pinned.checked.prog.listedFits Rows.tasksCyclesUptoRow.laid = true := by
  unfold Program.listedFits
  rw [no_own]
  kernel_rfl
theorem row_tie : Rows.tasksCyclesUptoRow.laidByTextAt .later Tryz.pinned [.pinned, .data, .data, .sentinel, .sentinel, .data, .data, .data, .data, .data, .handle] true :=
  OpenClaim.laidByTextAt_pinned rfl rfl tie rfl rfl rfl rfl (fun y hy _e => by
    simp only [Rows.tasksCyclesUptoRow, List.zip_cons_cons, List.zip_nil_right, List.mem_cons, List.mem_nil_iff, or_false] at hy
    rcases hy with rfl | rfl | rfl | rfl | rfl | rfl | rfl | rfl | rfl | rfl | rfl
    · exact ⟨pin_first, by kernel_rfl⟩
    · cases _e
    · cases _e
    · cases _e
    · cases _e
    · cases _e
    · cases _e
    · cases _e
    · cases _e
    · cases _e
    · cases _e) fits
end Go.Proofs.YtdaglpleolagnaaGreatDoor.tasksCycles
end

noncomputable section
namespace Go.Proofs.YtdaglpleolagnaaGreatDoor.tasksCycles
theorem named_law : Tryz.prog.funcNamed "pliant/pliantlaw25.TasksCycles" = some 3 := named_of (by kernel_rfl)
theorem plain (f : FuncId) (fn : Func) (hf : Tryz.pinned.checked.prog.funcNamed "pliant/pliantlaw25.TasksCycles" = some f) (hfn : Tryz.pinned.checked.prog.funcs[f]? = some fn) :
    true = Tryz.pinned.checked.prog.looks [] ∧ ∀ (j : Nat) t, fn.params[j]? = some t → Tryz.pinned.checked.prog.wantsStandIn t = false := by
  obtain rfl : f = 3 := Option.some.inj (named_law.symm.trans hf) |>.symm
  obtain rfl : fn = Tryz.f3 := (Option.some.inj (Tryz.func3.symm.trans hfn)).symm
  refine ⟨by kernel_rfl, fun j t ht => ?_⟩
  rw [Tryz.params3] at ht
  obtain rfl : t = 22 := by simpa using Array.mem_of_getElem? ht
  exact (show Tryz.prog.wantsStandIn 22 = false by kernel_rfl)
theorem row_wf : Rows.tasksCyclesUptoRow.wfByText (Rows.OpenSpec.upto Rows.tasksCyclesSpec) = true := by kernel_rfl
theorem row_main : Tryz.pinned.checked.prog.mainIs = some (true, "0bef746cf4c2eb782383f25a04dd15e394ca55f48c35960bc69f0c67f573de75".toList) := by kernel_rfl
end Go.Proofs.YtdaglpleolagnaaGreatDoor.tasksCycles
end

noncomputable section
namespace Go.Proofs.YtdaglpleolagnaaGreatDoor.tasksCycles
theorem no_goes : Tryz.prog.funcs.toList.any Func.goes = false := by kernel_rfl
/-- A program no function of which starts another goroutine. -/
theorem goes_none {P : Program} (h : P.funcs.toList.any Func.goes = false) (f : FuncId) : P.goes f = false := by
  have ha : P.funcs.any Func.goes = false := by rw [← Array.any_toList]; exact h
  unfold Program.goes
  rw [ha, Bool.and_false, Bool.or_false, List.any_eq_false]
  rw [List.any_eq_false] at h
  intro g _
  cases hg : P.funcs[g]? with
  | none => exact Bool.false_ne_true
  | some fn =>
    have hm : fn ∈ P.funcs.toList := by
      rw [Array.getElem?_eq_some_iff] at hg
      obtain ⟨hi, rfl⟩ := hg
      exact Array.getElem_mem_toList hi
    exact h fn hm
theorem goesBy_none {P : Program} (h : P.funcs.toList.any Func.goes = false) (c : OpenClaim) (hs : c.start = .entering) : false = c.goesBy P := by
  unfold OpenClaim.goesBy Program.goesAt Program.goesFrom
  rw [hs]
  cases P.funcNamed c.func with
  | none => rfl
  | some f => simp only [Option.any_some, goes_none h f, Bool.or_false]
theorem row_goes : false = Rows.tasksCyclesUptoRow.goesBy Tryz.pinned.checked.prog := goesBy_none no_goes Rows.tasksCyclesUptoRow rfl
end Go.Proofs.YtdaglpleolagnaaGreatDoor.tasksCycles
end
