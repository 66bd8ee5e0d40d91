/-
  A part of the proof that pliantlaw25.TasksCycles returns true and leaves its argument alone. Conditions: those of the card in the last text.
-/
import Derived.Test.YtdaglpleolagnaaGreatDoorG24
import Derived.Test.YtdaglpleolagnaaGreatDoorG25
set_option linter.unusedSimpArgs false
set_option linter.unusedVariables false

noncomputable section
namespace Go.Proofs.YtdaglpleolagnaaGreatDoor
open Go Go.Ev
/-! ### The row's closed facts, joined -/
theorem book22 : Tryz.prog.book 22 = [22, 69, 3] := book_of (k := 2) (by rw [types_size]; decide) (by kernel_rfl) (by kernel_rfl)
theorem book4 : Tryz.prog.book 4 = [4] := book_of (k := 0) (by rw [types_size]; decide) (by kernel_rfl) (by kernel_rfl)
theorem book421 : Tryz.prog.book 421 = [421, 420, 418] := book_of (k := 2) (by rw [types_size]; decide) (by kernel_rfl) (by kernel_rfl)
theorem book501 : Tryz.prog.book 501 = [501, 500, 418] := book_of (k := 2) (by rw [types_size]; decide) (by kernel_rfl) (by kernel_rfl)
theorem book218 : Tryz.prog.book 218 = [218] := book_of (k := 0) (by rw [types_size]; decide) (by kernel_rfl) (by kernel_rfl)
theorem book565 : Tryz.prog.book 565 = [565, 208] := book_of (k := 1) (by rw [types_size]; decide) (by kernel_rfl) (by kernel_rfl)
theorem book598 : Tryz.prog.book 598 = [598, 5] := book_of (k := 1) (by rw [types_size]; decide) (by kernel_rfl) (by kernel_rfl)
theorem book601 : Tryz.prog.book 601 = [601, 600, 5] := book_of (k := 2) (by rw [types_size]; decide) (by kernel_rfl) (by kernel_rfl)
theorem book675 : Tryz.prog.book 675 = [675, 5] := book_of (k := 1) (by rw [types_size]; decide) (by kernel_rfl) (by kernel_rfl)
theorem book676 : Tryz.prog.book 676 = [676, 5] := book_of (k := 1) (by rw [types_size]; decide) (by kernel_rfl) (by kernel_rfl)
theorem book696 : Tryz.prog.book 696 = [696] := book_of (k := 0) (by rw [types_size]; decide) (by kernel_rfl) (by kernel_rfl)
theorem book722 : Tryz.prog.book 722 = [722, 5] := book_of (k := 1) (by rw [types_size]; decide) (by kernel_rfl) (by kernel_rfl)
theorem book69 : Tryz.prog.book 69 = [69, 3] := book_of (k := 1) (by rw [types_size]; decide) (by kernel_rfl) (by kernel_rfl)
theorem book3 : Tryz.prog.book 3 = [3] := book_of (k := 0) (by rw [types_size]; decide) (by kernel_rfl) (by kernel_rfl)
theorem read22 : Tryz.prog.readableRec 22 = true := by unfold Program.readableRec; rw [book22]; kernel_rfl
theorem read4 : Tryz.prog.readableRec 4 = true := by unfold Program.readableRec; rw [book4]; kernel_rfl
theorem maps22 : Tryz.prog.mapsRec 22 = false := by unfold Program.mapsRec; rw [book22]; kernel_rfl
theorem ifaces22 : Tryz.prog.ifacesRec 22 = false := by unfold Program.ifacesRec; rw [book22]; kernel_rfl
theorem ifaces4 : Tryz.prog.ifacesRec 4 = false := by unfold Program.ifacesRec; rw [book4]; kernel_rfl
theorem parts22 : Tryz.prog.partsOf 22 = [69] := by kernel_rfl
theorem parts69 : Tryz.prog.partsOf 69 = [3] := by kernel_rfl
theorem parts3 : Tryz.prog.partsOf 3 = [] := by kernel_rfl
theorem parts4 : Tryz.prog.partsOf 4 = [] := by kernel_rfl
theorem loops22 : Tryz.prog.loopsFrom 22 = false := by
  unfold Program.loopsFrom
  rw [book22]
  simp only [List.any_cons, List.any_nil, parts22, parts69, parts3, book69, book3, Bool.or_false]
  rfl
theorem loops4 : Tryz.prog.loopsFrom 4 = false := by
  unfold Program.loopsFrom
  rw [book4]
  simp only [List.any_cons, List.any_nil, parts4, Bool.or_false]
theorem wide22 : Tryz.prog.wideKeysFrom 22 = false := by unfold Program.wideKeysFrom; rw [book22]; kernel_rfl
theorem wide4 : Tryz.prog.wideKeysFrom 4 = false := by unfold Program.wideKeysFrom; rw [book4]; kernel_rfl
theorem veil22 : Tryz.prog.veiledRec 22 = false := by unfold Program.veiledRec; rw [book22]; kernel_rfl
theorem veil4 : Tryz.prog.veiledRec 4 = false := by unfold Program.veiledRec; rw [book4]; kernel_rfl
theorem veil421 : Tryz.prog.veiledRec 421 = false := by unfold Program.veiledRec; rw [book421]; kernel_rfl
theorem veil501 : Tryz.prog.veiledRec 501 = false := by unfold Program.veiledRec; rw [book501]; kernel_rfl
theorem veil218 : Tryz.prog.veiledRec 218 = false := by unfold Program.veiledRec; rw [book218]; kernel_rfl
theorem veil565 : Tryz.prog.veiledRec 565 = false := by unfold Program.veiledRec; rw [book565]; kernel_rfl
theorem veil598 : Tryz.prog.veiledRec 598 = false := by unfold Program.veiledRec; rw [book598]; kernel_rfl
theorem veil601 : Tryz.prog.veiledRec 601 = false := by unfold Program.veiledRec; rw [book601]; kernel_rfl
theorem veil675 : Tryz.prog.veiledRec 675 = false := by unfold Program.veiledRec; rw [book675]; kernel_rfl
theorem veil676 : Tryz.prog.veiledRec 676 = false := by unfold Program.veiledRec; rw [book676]; kernel_rfl
theorem veil696 : Tryz.prog.veiledRec 696 = false := by unfold Program.veiledRec; rw [book696]; kernel_rfl
theorem veil722 : Tryz.prog.veiledRec 722 = false := by unfold Program.veiledRec; rw [book722]; kernel_rfl
theorem own_of {t : TypeId} (h : Tryz.prog.veiledRec t = false) : Tryz.prog.veiledOwn t = true := by
  unfold Program.veiledOwn; rw [h]; rfl
theorem in3 : Tryz.f3.params.toList ++ (Rows.OpenSpec.upto Rows.tasksCyclesSpec).bare.plain.varTypes Tryz.prog = [22] := by kernel_rfl
theorem out3 : Tryz.f3.resultTypes.toList = [4] := by kernel_rfl
theorem f_params : (Tryz.f3.params.all (Tryz.prog.readableRec ·)) = true := by
  rw [← Array.all_toList, show Tryz.f3.params.toList = [22] from by kernel_rfl]
  simp only [List.all_cons, List.all_nil, read22, Bool.and_self]
theorem f_maps : (Rows.tasksCyclesUptoRow.maps == (Tryz.f3.params.toList ++ (Rows.OpenSpec.upto Rows.tasksCyclesSpec).bare.plain.varTypes Tryz.prog).any (Tryz.prog.mapsRec ·)) = true := by
  rw [in3]; simp only [List.any_cons, List.any_nil, maps22, Bool.or_self]; kernel_rfl
theorem f_ifaces : (Rows.tasksCyclesUptoRow.ifaces == (Tryz.f3.params.toList ++ (Rows.OpenSpec.upto Rows.tasksCyclesSpec).bare.plain.varTypes Tryz.prog).any (Tryz.prog.ifacesRec ·)) = true := by
  rw [in3]; simp only [List.any_cons, List.any_nil, ifaces22, Bool.or_self]; kernel_rfl
theorem f_loops : (Rows.tasksCyclesUptoRow.loops == (Tryz.f3.params.toList ++ (Rows.OpenSpec.upto Rows.tasksCyclesSpec).bare.plain.varTypes Tryz.prog).any (Tryz.prog.loopsFrom ·)) = true := by
  rw [in3]; simp only [List.any_cons, List.any_nil, loops22, Bool.or_self]; kernel_rfl
theorem f_wide : (Rows.tasksCyclesUptoRow.wideKeys == (Tryz.f3.params.toList ++ (Rows.OpenSpec.upto Rows.tasksCyclesSpec).bare.plain.varTypes Tryz.prog ++ Tryz.f3.resultTypes.toList).any (Tryz.prog.wideKeysFrom ·)) = true := by
  rw [in3, out3]; simp only [List.cons_append, List.nil_append, List.any_cons, List.any_nil, wide22, wide4, Bool.or_self]; kernel_rfl
theorem f_results : (Tryz.f3.resultTypes.all (fun t => Tryz.prog.readableRec t && decide (t < Tryz.prog.types.size))) = true := by
  rw [← Array.all_toList, out3, types_size]
  simp only [List.all_cons, List.all_nil, read4, Bool.and_true, Bool.true_and]; rfl
theorem f_ifacesOut : (Rows.tasksCyclesUptoRow.ifacesOut == Tryz.f3.resultTypes.toList.any (Tryz.prog.ifacesRec ·)) = true := by
  rw [out3]; simp only [List.any_cons, List.any_nil, ifaces4, Bool.or_self]; kernel_rfl
theorem f_loopsOut : (Rows.tasksCyclesUptoRow.loopsOut == Tryz.f3.resultTypes.toList.any (Tryz.prog.loopsFrom ·)) = true := by
  rw [out3]; simp only [List.any_cons, List.any_nil, loops4, Bool.or_self]; kernel_rfl
theorem f_veiled : (Rows.tasksCyclesUptoRow.veiled == (Tryz.f3.params.toList ++ (Rows.OpenSpec.upto Rows.tasksCyclesSpec).bare.plain.varTypes Tryz.prog ++ Tryz.f3.resultTypes.toList).any (Tryz.prog.veiledRec ·)) = true := by
  rw [in3, out3]; simp only [List.cons_append, List.nil_append, List.any_cons, List.any_nil, veil22, veil4, Bool.or_self]; kernel_rfl
theorem f_fits : Rows.tasksCyclesUptoRow.veiledFits Tryz.prog Tryz.f3.params.toList (Tryz.f3.params.toList ++ (Rows.OpenSpec.upto Rows.tasksCyclesSpec).bare.plain.varTypes Tryz.prog ++ Tryz.f3.resultTypes.toList) = true := by
  unfold OpenClaim.veiledFits
  have e : (Tryz.f3.params.toList ++ (Rows.OpenSpec.upto Rows.tasksCyclesSpec).bare.plain.varTypes Tryz.prog ++ Tryz.f3.resultTypes.toList ++ Rows.tasksCyclesUptoRow.laid.filterMap fun x => (Tryz.prog.globalNamed x.1).bind fun g => (Tryz.prog.globals[g]?).map (·.type)) = [22, 4, 598, 601, 722, 218, 218, 565, 675, 676, 421, 501, 696] := by kernel_rfl
  rw [e]
  have h : ([22, 4, 598, 601, 722, 218, 218, 565, 675, 676, 421, 501, 696] : List TypeId).all (Tryz.prog.veiledOwn ·) = true := by
    simp only [List.all_cons, List.all_nil, own_of veil22, own_of veil4, own_of veil598, own_of veil601, own_of veil722, own_of veil218, own_of veil565, own_of veil675, own_of veil676, own_of veil421, own_of veil501, own_of veil696, Bool.and_self]
  rw [h, Bool.true_or, Bool.and_true]
  rfl
theorem closedUpto : joinedFacts Tryz.prog 3 Tryz.f3 (Rows.OpenSpec.upto Rows.tasksCyclesSpec).bare Rows.tasksCyclesUptoRow = true := by
  unfold joinedFacts
  rw [f_laid, f_mapsRowed, f_params, f_inPlace, f_unf, f_rec, f_named, f_maps, f_ifaces, f_loops, f_wide, f_results, f_ifacesOut, f_loopsOut, f_plainKeys, f_heard, f_mayEnter, f_veiled, f_fits]
  kernel_rfl
end Go.Proofs.YtdaglpleolagnaaGreatDoor
end
