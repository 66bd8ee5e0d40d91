/-
  A part of the proof that pliantlaw15.RtsReads returns true and leaves its arguments alone. Conditions: those of the card in the last text.
-/
import Derived.Test.YtgdejggelcpokaaGreatDoorG22
set_option linter.unusedSimpArgs false
set_option linter.unusedVariables false
set_option linter.unusedSectionVars false

noncomputable section
namespace Go.Proofs.RS
open Go Go.Ev Go.Proofs Go.Ds
theorem fillL_six {t : T Value} {z0 z1 z2 z3 z4 z5 a b : Value} {o p : Operand} (h : cellsO (evalO t o) = some [a]) (h' : cellsO (evalO t p) = some [b]) : fillL t [z0, z1, z2, z3, z4, z5] [(2, 1, o), (5, 1, p)] = some [z0, z1, a, z3, z4, b] := by
  simp only [fillL, h, h']; rfl
theorem resL_agg6 {nt a : Nat} {t : T Value} {H : Hp} {b op : Nat} {L : List Value} (h : Row H b 74 op L) (hl : L.length = 6) (ha : t.get a = .pointer (some ⟨b, 0, none⟩)) (h1 : a < nt) :
    resL Tb0 nt t H [.cell a 74] = some ([.agg ⟨L⟩], Nat.lor (bit b) 0) := by
  have e1 : isAggT Tb0 74 = some true := by rfl
  have e2 : szOf Tb0 74 = some 6 := by rfl
  have e3 : rdN H b 0 6 = some L := by rw [rdN_row (k := 6) (o := 0) h (by omega), List.drop_zero, List.take_of_length_le (by omega)]
  unfold resL
  rw [(blt_iff _ _).2 h1, Bc_t, ha]
  simp only [asPtr, e1, e2, e3]
  rfl
def OutR (N : Nat) (H : Hp) (v : Value) (d : DS) : Prop := ∃ tv bD c op dv, v = .agg ⟨[tv, .slice (some ⟨bD, 0, none⟩) 2 c, vS [], vN 0, vN 0, vN 0]⟩ ∧ N ≤ bD ∧ Row H bD 64 op [.slice none 0 0, dv] ∧ DsR (envN 102) H dv d
abbrev z6 : List Value := [.slice none 0 0, .slice none 0 0, .string ⟨#[]⟩, .int .i64 0, .int .i64 0, .int .i64 0]
abbrev row6 (tv Dv : Value) : List Value := [tv, Dv, vS [], vN 0, vN 0, vN 0]
section
variable {sp : Nat → List Value → Hp → Option (Value × Hp × Nat × Nat)} {e : Env}
set_option maxRecDepth 10000 in
set_option maxHeartbeats 4000000 in
theorem ouc_ok (S : SpK sp) {H : Hp} {d : DS} {at_ : Str} (hf : H.isFn = true) (hn : 102 ≤ H.nx) (hx : Fix H) (hs : Sto H d at_) (he : e.n0 ≤ 13) (hld : d.length ≤ 1000) : EC Tb0 sp e 26 [sP] H fun v H' => Kept H H' ∧ OutR H.nx H' v d := by
  refine EC.intro (fn := Tryz.f26) (c := ouc_body) (S.no 26 (by decide) _ _) (by rfl) ouc_some ouc_comp (by show 1 ≤ 86; decide) ?_
  have g0 : (enterT Tryz.f26 [sP]).get 0 = sP := by rw [enterT_get (by show 1 ≤ 86; decide) (by show 0 < 86; decide)]; rfl
  revert g0
  generalize enterT Tryz.f26 [sP] = t0
  intro g0
  show WK Tb0 sp e ⟨7, 86, none, false⟩ ouc_k t0 [] H _
  unfold ouc_k
  obtain ⟨dv, hrow, hds⟩ := hs
  have hde : DsR e H dv d := hds.behind (by omega) fun _ _ _ => rfl
  have hrow1 : Row (H.push (blkL z6 74 0)) H.nx 74 0 z6 := row_push (fn_room hf) _ _ _
  have hk1 : Kept H (H.push (blkL z6 74 0)) := ⟨by rw [isFn_push]; exact hf, by rw [nx_push]; omega, fun b hb => blk_push_old (fn_room hf) _ hb⟩
  have hnx1 : (H.push (blkL z6 74 0)).nx = H.nx + 1 := nx_push _ _
  have hal := alloc_ptr hf (blkL z6 74 0)
  revert hrow1 hk1 hal hnx1
  generalize H.push (blkL z6 74 0) = H1
  intro hrow1 hk1 hnx1 hal
  have n1 := hk1.nx
  have hx1 : Fix H1 := hx.keep fun b hb _ => hk1.old b (by omega)
  refine WK.seq (WK.reg_gg (fun t' H' => t'.get 0 = sP ∧ t'.get 2 = .pointer (some ⟨H.nx, 0, none⟩) ∧ H' = H1) ?_ ?_)
  · simp (config := { maxSteps := 1000000 }) only [ouc_r0, g0, hal, n1, WOR, WOG, WOC, WOGk, WOCk, wants_none', wants_some, wantsV_U, wantsV_tt, wantsV_tf, wantsV_ft, wantsV_ff, run, evalO_tmp, evalO_const, evalO_func, evalL, callV_func, Rv_eq, Ro_some, ok_zero, true_and, and_true, get_putT (d := 7), exLen_str, binV_geq, binV_leq, binV_lss, binV_gtr, exEq_int, exEq_str, exPick_t, exPick_f, Bool.not_true, Bool.not_false, Bc_t, Bc_f, Nat.reducePow, Nat.reduceLT, Nat.reduceEqDiff, Nat.reduceAdd, if_false, reduceIte, and_self, exFa_ptr, putT_none, Nat.zero_add, Nat.add_zero, Nat.le_refl, exUn_not]
  rintro t1 H1' ⟨g0, g2, rfl⟩
  refine WK.seq (WK.seq (WK.reg_rr (fun t' => t'.get 0 = sP ∧ t'.get 2 = .pointer (some ⟨H.nx, 0, none⟩) ∧ t'.get 10 = .bool false) ?_ ?_))
  · have b0 : exEq false (.one .p) sP (.pointer none) H1' = .val (.bool false) H1' 0 0 := rfl
    simp (config := { maxSteps := 1000000 }) only [ouc_r1, g0, g2, b0, WOR, WOG, WOC, WOGk, WOCk, wants_none', wants_some, wantsV_U, wantsV_tt, wantsV_tf, wantsV_ft, wantsV_ff, run, evalO_tmp, evalO_const, evalO_func, evalL, callV_func, Rv_eq, Ro_some, ok_zero, true_and, and_true, get_putT (d := 7), exLen_str, binV_geq, binV_leq, binV_lss, binV_gtr, exEq_int, exEq_str, exPick_t, exPick_f, Bool.not_true, Bool.not_false, Bc_t, Bc_f, Nat.reducePow, Nat.reduceLT, Nat.reduceEqDiff, Nat.reduceAdd, if_false, reduceIte, and_self, exFa_ptr, putT_none, Nat.zero_add, Nat.add_zero, Nat.le_refl, exUn_not]
  rintro t2 ⟨g0, g2, g10⟩
  refine WK.cond (v := false) (by rw [evalO_tmp, g10]; rfl) (WK.skip ?_)
  show WK Tb0 sp e ⟨7, 86, none, false⟩ _ t2 [] H1' _
  have q0 : ∀ H, exNil sP H = .val sP H 0 0 := fun _ => rfl
  have q1 : exLd1 (.pointer (some ⟨76, 15, none⟩)) H1' = .val (vN 0) H1' (bit 76) 0 := exLd1_rowG hx1.st rfl
  have q2 : e.ok (bit 76) 0 H1' := .read hx1.st.lt fun h => absurd h (by omega)
  have q3 : ∀ b, (bit 76).testBit b = true → b < H1'.nx := bit_lt hx1.st.lt
  refine WK.seq (WK.draw_c [.p, .p, .p, .q, .p, .p, .p, .q, .p, .q, .l] (fun t' H' => t'.get 0 = sP ∧ t'.get 2 = .pointer (some ⟨H.nx, 0, none⟩) ∧ t'.get 3 = .pointer (some ⟨H1'.nx, 0, none⟩) ∧ Kept H1' H' ∧ Row H' H1'.nx 74 0 (row6 (.slice none 0 0) (.slice none 0 0))) (by omega) rfl ?_ ?_)
  · simp (config := { maxSteps := 1000000 }) only [ouc_r3, g0, g2, q0, q2, zero_bit_iff, implies_true, WOR, WOG, WOC, WOGk, WOCk, wants_none', wants_some, wantsV_U, wantsV_tt, wantsV_tf, wantsV_ft, wantsV_ff, run, evalO_tmp, evalO_const, evalO_func, evalL, callV_func, Rv_eq, Ro_some, ok_zero, true_and, and_true, get_putT (d := 7), exLen_str, binV_geq, binV_leq, binV_lss, binV_gtr, exEq_int, exEq_str, exPick_t, exPick_f, Bool.not_true, Bool.not_false, Bc_t, Bc_f, Nat.reducePow, Nat.reduceLT, Nat.reduceEqDiff, Nat.reduceAdd, if_false, reduceIte, and_self, exFa_ptr, putT_none, Nat.zero_add, Nat.add_zero, Nat.le_refl, exUn_not]
    refine (bst_ok (e := e.sub H1'.nx H1'.nx) S hx1 (fun _ => ⟨by omega, fun h => absurd h (by omega)⟩) (Nat.le_refl _)).mono fun v H6 _ hv => ?_
    obtain ⟨rfl, rfl⟩ := hv
    obtain ⟨H7, H8, hc⟩ := newC e hk1.fn z6 (row6 (.slice none 0 0) (.slice none 0 0)) 74 rfl
    have c1 := hc.al
    have c2 : exSt 6 (.pointer (some ⟨H6.nx, 0, none⟩)) (.agg ⟨row6 (.slice none 0 0) (.slice none 0 0)⟩) H7 = .val U H8 0 (bit H6.nx) := hc.st
    have c3 := hc.n1
    have c4 := hc.n2
    have c5 : e.ok 0 (bit H6.nx) H8 := hc.wok (by omega)
    have c6 : ∀ b, (bit H6.nx).testBit b = true → H6.nx ≤ b := fun b hb => by rw [(bit_iff _ _).1 hb]; exact Nat.le_refl _
    have hfil : ∀ (t' : T Value), t'.get 15 = vS [] → t'.get 19 = vN 0 → fillL t' z6 [(2, 1, .tmp 15), (5, 1, .tmp 19)] = some (row6 (.slice none 0 0) (.slice none 0 0)) := fun t' h1 h2 => fillL_six (by rw [evalO_tmp, h1]; rfl) (by rw [evalO_tmp, h2]; rfl)
    simp (config := { maxSteps := 1000000 }) only [g0, g2, q0, q1, q2, zero_bit_iff, implies_true, WOR, WOG, WOC, WOGk, WOCk, wants_none', wants_some, wantsV_U, wantsV_tt, wantsV_tf, wantsV_ft, wantsV_ff, run, evalO_tmp, evalO_const, evalO_func, evalL, callV_func, Rv_eq, Ro_some, ok_zero, true_and, and_true, get_putT (d := 7), exLen_str, binV_geq, binV_leq, binV_lss, binV_gtr, exEq_int, exEq_str, exPick_t, exPick_f, Bool.not_true, Bool.not_false, Bc_t, Bc_f, Nat.reducePow, Nat.reduceLT, Nat.reduceEqDiff, Nat.reduceAdd, if_false, reduceIte, and_self, exFa_ptr, putT_none, Nat.zero_add, Nat.add_zero, Nat.le_refl, exUn_not]
    refine ⟨q3, ?_⟩
    rw [hfil _ (by simp (config := { maxSteps := 1000000 }) only [g0, WOR, WOG, WOC, WOGk, WOCk, wants_none', wants_some, wantsV_U, wantsV_tt, wantsV_tf, wantsV_ft, wantsV_ff, run, evalO_tmp, evalO_const, evalO_func, evalL, callV_func, Rv_eq, Ro_some, ok_zero, true_and, and_true, get_putT (d := 7), exLen_str, binV_geq, binV_leq, binV_lss, binV_gtr, exEq_int, exEq_str, exPick_t, exPick_f, Bool.not_true, Bool.not_false, Bc_t, Bc_f, Nat.reducePow, Nat.reduceLT, Nat.reduceEqDiff, Nat.reduceAdd, if_false, reduceIte, and_self, exFa_ptr, putT_none, Nat.zero_add, Nat.add_zero, Nat.le_refl, exUn_not]) (by simp (config := { maxSteps := 1000000 }) only [g0, WOR, WOG, WOC, WOGk, WOCk, wants_none', wants_some, wantsV_U, wantsV_tt, wantsV_tf, wantsV_ft, wantsV_ff, run, evalO_tmp, evalO_const, evalO_func, evalL, callV_func, Rv_eq, Ro_some, ok_zero, true_and, and_true, get_putT (d := 7), exLen_str, binV_geq, binV_leq, binV_lss, binV_gtr, exEq_int, exEq_str, exPick_t, exPick_f, Bool.not_true, Bool.not_false, Bc_t, Bc_f, Nat.reducePow, Nat.reduceLT, Nat.reduceEqDiff, Nat.reduceAdd, if_false, reduceIte, and_self, exFa_ptr, putT_none, Nat.zero_add, Nat.add_zero, Nat.le_refl, exUn_not])]
    simp (config := { maxSteps := 1000000 }) only [exFill_some, g0, g2, c1, c2, c3, c4, c5, zero_bit_iff, implies_true, WOR, WOG, WOC, WOGk, WOCk, wants_none', wants_some, wantsV_U, wantsV_tt, wantsV_tf, wantsV_ft, wantsV_ff, run, evalO_tmp, evalO_const, evalO_func, evalL, callV_func, Rv_eq, Ro_some, ok_zero, true_and, and_true, get_putT (d := 7), exLen_str, binV_geq, binV_leq, binV_lss, binV_gtr, exEq_int, exEq_str, exPick_t, exPick_f, Bool.not_true, Bool.not_false, Bc_t, Bc_f, Nat.reducePow, Nat.reduceLT, Nat.reduceEqDiff, Nat.reduceAdd, if_false, reduceIte, and_self, exFa_ptr, putT_none, Nat.zero_add, Nat.add_zero, Nat.le_refl, exUn_not]
    exact ⟨c6, hc.kept, hc.row⟩
  rintro t3 H3 ⟨g0, g2, g3, hk3, hrow3⟩
  have hk03 := hk1.trans hk3
  have hx3 : Fix H3 := hx.keep fun b hb _ => hk03.old b (by omega)
  have hb3 : H1'.nx < H3.nx := hrow3.lt
  have r1 : exLd1 (.pointer (some ⟨76, 19, none⟩)) H3 = .val (.bool false) H3 (bit 76) 0 := exLd1_rowG hx3.st rfl
  have r2 : e.ok (bit 76) 0 H3 := .read hx3.st.lt fun h => absurd h (by omega)
  refine WK.seq (WK.seq (WK.reg_rr (fun t' => t'.get 0 = sP ∧ t'.get 2 = .pointer (some ⟨H.nx, 0, none⟩) ∧ t'.get 3 = .pointer (some ⟨H1'.nx, 0, none⟩) ∧ t'.get 24 = .bool false) ?_ ?_))
  · simp (config := { maxSteps := 1000000 }) only [ouc_r4, g0, g2, g3, q0, r1, r2, WOR, WOG, WOC, WOGk, WOCk, wants_none', wants_some, wantsV_U, wantsV_tt, wantsV_tf, wantsV_ft, wantsV_ff, run, evalO_tmp, evalO_const, evalO_func, evalL, callV_func, Rv_eq, Ro_some, ok_zero, true_and, and_true, get_putT (d := 7), exLen_str, binV_geq, binV_leq, binV_lss, binV_gtr, exEq_int, exEq_str, exPick_t, exPick_f, Bool.not_true, Bool.not_false, Bc_t, Bc_f, Nat.reducePow, Nat.reduceLT, Nat.reduceEqDiff, Nat.reduceAdd, if_false, reduceIte, and_self, exFa_ptr, putT_none, Nat.zero_add, Nat.add_zero, Nat.le_refl, exUn_not]
  rintro t4 ⟨g0, g2, g3, g24⟩
  refine WK.cond (v := false) (by rw [evalO_tmp, g24]; rfl) (WK.skip ?_)
  show WK Tb0 sp e ⟨7, 86, none, false⟩ _ t4 [] H3 _
  have r3 : exLd1 (.pointer (some ⟨76, 3, none⟩)) H3 = .val (.slice (some ⟨62, 0, none⟩) 2 5) H3 (bit 76) 0 := exLd1_rowG hx3.st rfl
  have r4 : exLen 1 (.slice (some ⟨62, 0, none⟩) 2 5) H3 = .val (vN 2) H3 0 0 := rfl
  refine WK.seq (WK.seq (WK.reg_rr (fun t' => t'.get 0 = sP ∧ t'.get 2 = .pointer (some ⟨H.nx, 0, none⟩) ∧ t'.get 3 = .pointer (some ⟨H1'.nx, 0, none⟩) ∧ t'.get 40 = vN 2 ∧ t'.get 41 = vN 0) ?_ ?_))
  · simp (config := { maxSteps := 1000000 }) only [ouc_r6, g0, g2, g3, q0, r2, r3, r4, WOR, WOG, WOC, WOGk, WOCk, wants_none', wants_some, wantsV_U, wantsV_tt, wantsV_tf, wantsV_ft, wantsV_ff, run, evalO_tmp, evalO_const, evalO_func, evalL, callV_func, Rv_eq, Ro_some, ok_zero, true_and, and_true, get_putT (d := 7), exLen_str, binV_geq, binV_leq, binV_lss, binV_gtr, exEq_int, exEq_str, exPick_t, exPick_f, Bool.not_true, Bool.not_false, Bc_t, Bc_f, Nat.reducePow, Nat.reduceLT, Nat.reduceEqDiff, Nat.reduceAdd, if_false, reduceIte, and_self, exFa_ptr, putT_none, Nat.zero_add, Nat.add_zero, Nat.le_refl, exUn_not]
  rintro t5 ⟨g0, g2, g3, g40, g41⟩
  refine WK.block ?_
  refine WK.loop ?_
  try unfold ouc_l18
  refine WK.seq (WK.reg_rr (fun t' => t'.get 0 = sP ∧ t'.get 2 = .pointer (some ⟨H.nx, 0, none⟩) ∧ t'.get 3 = .pointer (some ⟨H1'.nx, 0, none⟩) ∧ t'.get 40 = vN 2 ∧ t'.get 41 = vN 0 ∧ t'.get 42 = .bool true) ?_ ?_)
  · have b0 : binV .lss (vN 0) (vN 2) = some (.bool true) := rfl
    simp (config := { maxSteps := 1000000 }) only [ouc_r7, g0, g2, g3, g40, g41, b0, WOR, WOG, WOC, WOGk, WOCk, wants_none', wants_some, wantsV_U, wantsV_tt, wantsV_tf, wantsV_ft, wantsV_ff, run, evalO_tmp, evalO_const, evalO_func, evalL, callV_func, Rv_eq, Ro_some, ok_zero, true_and, and_true, get_putT (d := 7), exLen_str, binV_geq, binV_leq, binV_lss, binV_gtr, exEq_int, exEq_str, exPick_t, exPick_f, Bool.not_true, Bool.not_false, Bc_t, Bc_f, Nat.reducePow, Nat.reduceLT, Nat.reduceEqDiff, Nat.reduceAdd, if_false, reduceIte, and_self, exFa_ptr, putT_none, Nat.zero_add, Nat.add_zero, Nat.le_refl, exUn_not]
  rintro t6 ⟨g0, g2, g3, g40, g41, g42⟩
  refine WK.seq (WK.cond (v := true) (by rw [evalO_tmp, g42]; rfl) (WK.skip ?_))
  refine WK.seq (WK.block (WK.seq (WK.reg_rr (fun t' => t'.get 0 = sP ∧ t'.get 2 = .pointer (some ⟨H.nx, 0, none⟩) ∧ t'.get 3 = .pointer (some ⟨H1'.nx, 0, none⟩) ∧ t'.get 40 = vN 2 ∧ t'.get 41 = vN 0 ∧ t'.get 4 = vN 0) ?_ ?_)))
  · simp (config := { maxSteps := 1000000 }) only [ouc_r8, g0, g2, g3, g40, g41, WOR, WOG, WOC, WOGk, WOCk, wants_none', wants_some, wantsV_U, wantsV_tt, wantsV_tf, wantsV_ft, wantsV_ff, run, evalO_tmp, evalO_const, evalO_func, evalL, callV_func, Rv_eq, Ro_some, ok_zero, true_and, and_true, get_putT (d := 7), exLen_str, binV_geq, binV_leq, binV_lss, binV_gtr, exEq_int, exEq_str, exPick_t, exPick_f, Bool.not_true, Bool.not_false, Bc_t, Bc_f, Nat.reducePow, Nat.reduceLT, Nat.reduceEqDiff, Nat.reduceAdd, if_false, reduceIte, and_self, exFa_ptr, putT_none, Nat.zero_add, Nat.add_zero, Nat.le_refl, exUn_not]
  rintro t7 ⟨g0, g2, g3, g40, g41, g4⟩
  refine WK.seq (WK.reg_rr (fun t' => t'.get 0 = sP ∧ t'.get 2 = .pointer (some ⟨H.nx, 0, none⟩) ∧ t'.get 3 = .pointer (some ⟨H1'.nx, 0, none⟩) ∧ t'.get 40 = vN 2 ∧ t'.get 41 = vN 0 ∧ t'.get 4 = vN 0 ∧ t'.get 5 = vS [] ∧ t'.get 6 = .slice none 0 0) ?_ ?_)
  · simp (config := { maxSteps := 1000000 }) only [ouc_r9, g0, g2, g3, g40, g41, g4, WOR, WOG, WOC, WOGk, WOCk, wants_none', wants_some, wantsV_U, wantsV_tt, wantsV_tf, wantsV_ft, wantsV_ff, run, evalO_tmp, evalO_const, evalO_func, evalL, callV_func, Rv_eq, Ro_some, ok_zero, true_and, and_true, get_putT (d := 7), exLen_str, binV_geq, binV_leq, binV_lss, binV_gtr, exEq_int, exEq_str, exPick_t, exPick_f, Bool.not_true, Bool.not_false, Bc_t, Bc_f, Nat.reducePow, Nat.reduceLT, Nat.reduceEqDiff, Nat.reduceAdd, if_false, reduceIte, and_self, exFa_ptr, putT_none, Nat.zero_add, Nat.add_zero, Nat.le_refl, exUn_not]
  rintro t8 ⟨g0, g2, g3, g40, g41, g4, g5, g6⟩
  have u1 : exLd1 (.pointer (some ⟨76, 10, none⟩)) H3 = .val (.slice (some ⟨93, 0, none⟩) 2 5) H3 (bit 76) 0 := exLd1_rowG hx3.st rfl
  have u2 : e.ok (bit 76) 0 H3 := .read hx3.st.lt fun h => absurd h (by omega)
  have u3 : exIaS 1 (.slice (some ⟨93, 0, none⟩) 2 5) (vN 0) H3 = .val (.pointer (some ⟨93, 0, none⟩)) H3 0 0 := rfl
  have u4 : exLd1 (.pointer (some ⟨93, 0, none⟩)) H3 = .val (.pointer (some ⟨80, 0, none⟩)) H3 (bit 93) 0 := exLd1_rowG hx3.sinks rfl
  have u5 : e.ok (bit 93) 0 H3 := .read hx3.sinks.lt fun h => absurd h (by omega)
  have u6 : exLd1 (.pointer (some ⟨76, 11, none⟩)) H3 = .val (.slice (some ⟨95, 0, none⟩) 2 5) H3 (bit 76) 0 := exLd1_rowG hx3.st rfl
  have u7 : exIaS 1 (.slice (some ⟨95, 0, none⟩) 2 5) (vN 0) H3 = .val (.pointer (some ⟨95, 0, none⟩)) H3 0 0 := rfl
  have u8 : exLd1 (.pointer (some ⟨95, 0, none⟩)) H3 = .val (.pointer none) H3 (bit 95) 0 := exLd1_rowG hx3.stores rfl
  have u9 : e.ok (bit 95) 0 H3 := .read hx3.stores.lt fun h => absurd h (by omega)
  have v1 : exEq true (.one .p) (.pointer (some ⟨80, 0, none⟩)) (.pointer none) H3 = .val (.bool true) H3 0 0 := rfl
  have v2 : exEq true (.one .p) (.pointer none) (.pointer none) H3 = .val (.bool false) H3 0 0 := rfl
  refine WK.seq (WK.seq (WK.reg_rr (fun t' => t'.get 0 = sP ∧ t'.get 2 = .pointer (some ⟨H.nx, 0, none⟩) ∧ t'.get 3 = .pointer (some ⟨H1'.nx, 0, none⟩) ∧ t'.get 40 = vN 2 ∧ t'.get 41 = vN 0 ∧ t'.get 4 = vN 0 ∧ t'.get 5 = vS [] ∧ t'.get 6 = .slice none 0 0 ∧ t'.get 7 = .pointer (some ⟨80, 0, none⟩)) ?_ ?_))
  · simp (config := { maxSteps := 1000000 }) only [ouc_r10, g0, g2, g3, g40, g41, g4, g5, g6, q0, u1, u2, u3, u4, u5, WOR, WOG, WOC, WOGk, WOCk, wants_none', wants_some, wantsV_U, wantsV_tt, wantsV_tf, wantsV_ft, wantsV_ff, run, evalO_tmp, evalO_const, evalO_func, evalL, callV_func, Rv_eq, Ro_some, ok_zero, true_and, and_true, get_putT (d := 7), exLen_str, binV_geq, binV_leq, binV_lss, binV_gtr, exEq_int, exEq_str, exPick_t, exPick_f, Bool.not_true, Bool.not_false, Bc_t, Bc_f, Nat.reducePow, Nat.reduceLT, Nat.reduceEqDiff, Nat.reduceAdd, if_false, reduceIte, and_self, exFa_ptr, putT_none, Nat.zero_add, Nat.add_zero, Nat.le_refl, exUn_not]
  rintro t9 ⟨g0, g2, g3, g40, g41, g4, g5, g6, g7⟩
  refine WK.seq (WK.reg_rr (fun t' => t'.get 0 = sP ∧ t'.get 2 = .pointer (some ⟨H.nx, 0, none⟩) ∧ t'.get 3 = .pointer (some ⟨H1'.nx, 0, none⟩) ∧ t'.get 40 = vN 2 ∧ t'.get 41 = vN 0 ∧ t'.get 4 = vN 0 ∧ t'.get 5 = vS [] ∧ t'.get 6 = .slice none 0 0 ∧ t'.get 7 = .pointer (some ⟨80, 0, none⟩) ∧ t'.get 52 = .bool true) ?_ ?_)
  · simp (config := { maxSteps := 1000000 }) only [ouc_r11, g0, g2, g3, g40, g41, g4, g5, g6, g7, v1, WOR, WOG, WOC, WOGk, WOCk, wants_none', wants_some, wantsV_U, wantsV_tt, wantsV_tf, wantsV_ft, wantsV_ff, run, evalO_tmp, evalO_const, evalO_func, evalL, callV_func, Rv_eq, Ro_some, ok_zero, true_and, and_true, get_putT (d := 7), exLen_str, binV_geq, binV_leq, binV_lss, binV_gtr, exEq_int, exEq_str, exPick_t, exPick_f, Bool.not_true, Bool.not_false, Bc_t, Bc_f, Nat.reducePow, Nat.reduceLT, Nat.reduceEqDiff, Nat.reduceAdd, if_false, reduceIte, and_self, exFa_ptr, putT_none, Nat.zero_add, Nat.add_zero, Nat.le_refl, exUn_not]
  rintro t10 ⟨g0, g2, g3, g40, g41, g4, g5, g6, g7, g52⟩
  have w1 : exNil (.pointer (some ⟨80, 0, none⟩)) H3 = .val (.pointer (some ⟨80, 0, none⟩)) H3 0 0 := rfl
  have w2 : exLd1 (.pointer (some ⟨80, 1, none⟩)) H3 = .val (.pointer (some ⟨79, 0, none⟩)) H3 (bit 80) 0 := exLd1_rowG hx3.sink rfl
  have w3 : e.ok (bit 80) 0 H3 := .read hx3.sink.lt fun h => absurd h (by omega)
  refine WK.cond (v := true) (by rw [evalO_tmp, g52]; rfl) ?_
  refine WK.reg_gg (fun t' H' => t'.get 0 = sP ∧ t'.get 2 = .pointer (some ⟨H.nx, 0, none⟩) ∧ t'.get 3 = .pointer (some ⟨H1'.nx, 0, none⟩) ∧ t'.get 40 = vN 2 ∧ t'.get 41 = vN 0 ∧ t'.get 4 = vN 0 ∧ t'.get 5 = vS [] ∧ t'.get 6 = .slice none 0 0 ∧ H' = H3) ?_ ?_
  · simp (config := { maxSteps := 1000000 }) only [ouc_r12, g0, g2, g3, g40, g41, g4, g5, g6, g7, w1, w2, w3, WOR, WOG, WOC, WOGk, WOCk, wants_none', wants_some, wantsV_U, wantsV_tt, wantsV_tf, wantsV_ft, wantsV_ff, run, evalO_tmp, evalO_const, evalO_func, evalL, callV_func, Rv_eq, Ro_some, ok_zero, true_and, and_true, get_putT (d := 7), exLen_str, binV_geq, binV_leq, binV_lss, binV_gtr, exEq_int, exEq_str, exPick_t, exPick_f, Bool.not_true, Bool.not_false, Bc_t, Bc_f, Nat.reducePow, Nat.reduceLT, Nat.reduceEqDiff, Nat.reduceAdd, if_false, reduceIte, and_self, exFa_ptr, putT_none, Nat.zero_add, Nat.add_zero, Nat.le_refl, exUn_not]
    refine (oxt_ok S hx3 (fun h => absurd h (by omega))).mono fun v H9 _ hv => ?_
    obtain ⟨rfl, rfl⟩ := hv
    simp (config := { maxSteps := 1000000 }) only [g0, g2, g3, g40, g41, g4, g5, g6, g7, WOR, WOG, WOC, WOGk, WOCk, wants_none', wants_some, wantsV_U, wantsV_tt, wantsV_tf, wantsV_ft, wantsV_ff, run, evalO_tmp, evalO_const, evalO_func, evalL, callV_func, Rv_eq, Ro_some, ok_zero, true_and, and_true, get_putT (d := 7), exLen_str, binV_geq, binV_leq, binV_lss, binV_gtr, exEq_int, exEq_str, exPick_t, exPick_f, Bool.not_true, Bool.not_false, Bc_t, Bc_f, Nat.reducePow, Nat.reduceLT, Nat.reduceEqDiff, Nat.reduceAdd, if_false, reduceIte, and_self, exFa_ptr, putT_none, Nat.zero_add, Nat.add_zero, Nat.le_refl, exUn_not]
  rintro t11 H11 ⟨g0, g2, g3, g40, g41, g4, g5, g6, rfl⟩
  show WK Tb0 sp e ⟨7, 86, none, false⟩ _ t11 [] _ _
  refine WK.seq (WK.seq (WK.reg_rr (fun t' => t'.get 0 = sP ∧ t'.get 2 = .pointer (some ⟨H.nx, 0, none⟩) ∧ t'.get 3 = .pointer (some ⟨H1'.nx, 0, none⟩) ∧ t'.get 40 = vN 2 ∧ t'.get 41 = vN 0 ∧ t'.get 5 = vS [] ∧ t'.get 6 = .slice none 0 0 ∧ t'.get 8 = .pointer none) ?_ ?_))
  · simp (config := { maxSteps := 1000000 }) only [ouc_r13, g0, g2, g3, g40, g41, g4, g5, g6, q0, u2, u6, u7, u8, u9, WOR, WOG, WOC, WOGk, WOCk, wants_none', wants_some, wantsV_U, wantsV_tt, wantsV_tf, wantsV_ft, wantsV_ff, run, evalO_tmp, evalO_const, evalO_func, evalL, callV_func, Rv_eq, Ro_some, ok_zero, true_and, and_true, get_putT (d := 7), exLen_str, binV_geq, binV_leq, binV_lss, binV_gtr, exEq_int, exEq_str, exPick_t, exPick_f, Bool.not_true, Bool.not_false, Bc_t, Bc_f, Nat.reducePow, Nat.reduceLT, Nat.reduceEqDiff, Nat.reduceAdd, if_false, reduceIte, and_self, exFa_ptr, putT_none, Nat.zero_add, Nat.add_zero, Nat.le_refl, exUn_not]
  rintro t12 ⟨g0, g2, g3, g40, g41, g5, g6, g8⟩
  refine WK.seq (WK.reg_rr (fun t' => t'.get 0 = sP ∧ t'.get 2 = .pointer (some ⟨H.nx, 0, none⟩) ∧ t'.get 3 = .pointer (some ⟨H1'.nx, 0, none⟩) ∧ t'.get 40 = vN 2 ∧ t'.get 41 = vN 0 ∧ t'.get 5 = vS [] ∧ t'.get 6 = .slice none 0 0 ∧ t'.get 8 = .pointer none ∧ t'.get 66 = .bool false) ?_ ?_)
  · simp (config := { maxSteps := 1000000 }) only [ouc_r14, g0, g2, g3, g40, g41, g5, g6, g8, v2, WOR, WOG, WOC, WOGk, WOCk, wants_none', wants_some, wantsV_U, wantsV_tt, wantsV_tf, wantsV_ft, wantsV_ff, run, evalO_tmp, evalO_const, evalO_func, evalL, callV_func, Rv_eq, Ro_some, ok_zero, true_and, and_true, get_putT (d := 7), exLen_str, binV_geq, binV_leq, binV_lss, binV_gtr, exEq_int, exEq_str, exPick_t, exPick_f, Bool.not_true, Bool.not_false, Bc_t, Bc_f, Nat.reducePow, Nat.reduceLT, Nat.reduceEqDiff, Nat.reduceAdd, if_false, reduceIte, and_self, exFa_ptr, putT_none, Nat.zero_add, Nat.add_zero, Nat.le_refl, exUn_not]
  rintro t13 ⟨g0, g2, g3, g40, g41, g5, g6, g8, g66⟩
  refine WK.cond (v := false) (by rw [evalO_tmp, g66]; rfl) (WK.skip ?_)
  show WK Tb0 sp e ⟨7, 86, none, false⟩ _ t13 [] _ _
  refine WK.mono (ocr16 (N := H1'.nx) (bt := none) (bd := none) hk03.fn (by omega) (Nat.le_refl _) hrow3 (OwnO.nil _ _ _) (OwnO.nil _ _ _) (by simp) (by simp) (by simp) rfl rfl (by decide) (by decide) g3 g5 g6) ?_
  rintro x t15 ds15 H15 - ⟨rfl, rfl, lo15, tv1, Dv1, bt1, bd1, f15, n15, row15, ot15, od15, m1, m2, m3, same15⟩
  have g0 := (lo15 0 (by omega)).trans g0
  have g2 := (lo15 2 (by omega)).trans g2
  have g3 := (lo15 3 (by omega)).trans g3
  have g40 := (lo15 40 (by omega)).trans g40
  have g41 := (lo15 41 (by omega)).trans g41
  show WK Tb0 sp e ⟨7, 86, none, false⟩ (.reg ouc_r17) t15 [] H15 _
  refine WK.reg_rr (fun t' => t'.get 0 = sP ∧ t'.get 2 = .pointer (some ⟨H.nx, 0, none⟩) ∧ t'.get 3 = .pointer (some ⟨H1'.nx, 0, none⟩) ∧ t'.get 40 = vN 2 ∧ t'.get 41 = vN 1) ?_ ?_
  · have hwr : wrapF .i64 ((0 : Int) + 1) = 1 := rfl
    simp (config := { maxSteps := 1000000 }) only [ouc_r17, g0, g2, g3, g40, g41, binV_add, hwr, WOR, WOG, WOC, WOGk, WOCk, wants_none', wants_some, wantsV_U, wantsV_tt, wantsV_tf, wantsV_ft, wantsV_ff, run, evalO_tmp, evalO_const, evalO_func, evalL, callV_func, Rv_eq, Ro_some, ok_zero, true_and, and_true, get_putT (d := 7), exLen_str, binV_geq, binV_leq, binV_lss, binV_gtr, exEq_int, exEq_str, exPick_t, exPick_f, Bool.not_true, Bool.not_false, Bc_t, Bc_f, Nat.reducePow, Nat.reduceLT, Nat.reduceEqDiff, Nat.reduceAdd, if_false, reduceIte, and_self, exFa_ptr, putT_none, Nat.zero_add, Nat.add_zero, Nat.le_refl, exUn_not]
  rintro t16 ⟨g0, g2, g3, g40, g41⟩
  show WK Tb0 sp e ⟨7, 86, none, false⟩ _ t16 [] H15 _
  have hold15 : ∀ c, c < H1'.nx → H15.blk c = H1'.blk c := fun c hc => (same15 c (by omega) (by omega) (by simp) (by simp)).trans (hk3.old c hc)
  have hk015 : Kept H H15 := ⟨f15, by omega, fun c hc => (hold15 c (by omega)).trans (hk1.old c hc)⟩
  have hx15 : Fix H15 := hx.keep fun b hb _ => hk015.old b (by omega)
  have hstoC : Row H15 89 120 0 [vN 3, dv, vS at_] := hrow.of_blk (hk015.old _ hrow.lt)
  refine WK.loop ?_
  try unfold ouc_l18
  refine WK.seq (WK.reg_rr (fun t' => t'.get 0 = sP ∧ t'.get 2 = .pointer (some ⟨H.nx, 0, none⟩) ∧ t'.get 3 = .pointer (some ⟨H1'.nx, 0, none⟩) ∧ t'.get 40 = vN 2 ∧ t'.get 41 = vN 1 ∧ t'.get 42 = .bool true) ?_ ?_)
  · have b0 : binV .lss (vN 1) (vN 2) = some (.bool true) := rfl
    simp (config := { maxSteps := 1000000 }) only [ouc_r7, g0, g2, g3, g40, g41, b0, WOR, WOG, WOC, WOGk, WOCk, wants_none', wants_some, wantsV_U, wantsV_tt, wantsV_tf, wantsV_ft, wantsV_ff, run, evalO_tmp, evalO_const, evalO_func, evalL, callV_func, Rv_eq, Ro_some, ok_zero, true_and, and_true, get_putT (d := 7), exLen_str, binV_geq, binV_leq, binV_lss, binV_gtr, exEq_int, exEq_str, exPick_t, exPick_f, Bool.not_true, Bool.not_false, Bc_t, Bc_f, Nat.reducePow, Nat.reduceLT, Nat.reduceEqDiff, Nat.reduceAdd, if_false, reduceIte, and_self, exFa_ptr, putT_none, Nat.zero_add, Nat.add_zero, Nat.le_refl, exUn_not]
  rintro t6 ⟨g0, g2, g3, g40, g41, g42⟩
  refine WK.seq (WK.cond (v := true) (by rw [evalO_tmp, g42]; rfl) (WK.skip ?_))
  refine WK.seq (WK.block (WK.seq (WK.reg_rr (fun t' => t'.get 0 = sP ∧ t'.get 2 = .pointer (some ⟨H.nx, 0, none⟩) ∧ t'.get 3 = .pointer (some ⟨H1'.nx, 0, none⟩) ∧ t'.get 40 = vN 2 ∧ t'.get 41 = vN 1 ∧ t'.get 4 = vN 1) ?_ ?_)))
  · simp (config := { maxSteps := 1000000 }) only [ouc_r8, g0, g2, g3, g40, g41, WOR, WOG, WOC, WOGk, WOCk, wants_none', wants_some, wantsV_U, wantsV_tt, wantsV_tf, wantsV_ft, wantsV_ff, run, evalO_tmp, evalO_const, evalO_func, evalL, callV_func, Rv_eq, Ro_some, ok_zero, true_and, and_true, get_putT (d := 7), exLen_str, binV_geq, binV_leq, binV_lss, binV_gtr, exEq_int, exEq_str, exPick_t, exPick_f, Bool.not_true, Bool.not_false, Bc_t, Bc_f, Nat.reducePow, Nat.reduceLT, Nat.reduceEqDiff, Nat.reduceAdd, if_false, reduceIte, and_self, exFa_ptr, putT_none, Nat.zero_add, Nat.add_zero, Nat.le_refl, exUn_not]
  rintro t7 ⟨g0, g2, g3, g40, g41, g4⟩
  refine WK.seq (WK.reg_rr (fun t' => t'.get 0 = sP ∧ t'.get 2 = .pointer (some ⟨H.nx, 0, none⟩) ∧ t'.get 3 = .pointer (some ⟨H1'.nx, 0, none⟩) ∧ t'.get 40 = vN 2 ∧ t'.get 41 = vN 1 ∧ t'.get 4 = vN 1 ∧ t'.get 5 = vS [] ∧ t'.get 6 = .slice none 0 0) ?_ ?_)
  · simp (config := { maxSteps := 1000000 }) only [ouc_r9, g0, g2, g3, g40, g41, g4, WOR, WOG, WOC, WOGk, WOCk, wants_none', wants_some, wantsV_U, wantsV_tt, wantsV_tf, wantsV_ft, wantsV_ff, run, evalO_tmp, evalO_const, evalO_func, evalL, callV_func, Rv_eq, Ro_some, ok_zero, true_and, and_true, get_putT (d := 7), exLen_str, binV_geq, binV_leq, binV_lss, binV_gtr, exEq_int, exEq_str, exPick_t, exPick_f, Bool.not_true, Bool.not_false, Bc_t, Bc_f, Nat.reducePow, Nat.reduceLT, Nat.reduceEqDiff, Nat.reduceAdd, if_false, reduceIte, and_self, exFa_ptr, putT_none, Nat.zero_add, Nat.add_zero, Nat.le_refl, exUn_not]
  rintro t8 ⟨g0, g2, g3, g40, g41, g4, g5, g6⟩
  have u1 : exLd1 (.pointer (some ⟨76, 10, none⟩)) H15 = .val (.slice (some ⟨93, 0, none⟩) 2 5) H15 (bit 76) 0 := exLd1_rowG hx15.st rfl
  have u2 : e.ok (bit 76) 0 H15 := .read hx15.st.lt fun h => absurd h (by omega)
  have u3 : exIaS 1 (.slice (some ⟨93, 0, none⟩) 2 5) (vN 1) H15 = .val (.pointer (some ⟨93, 1, none⟩)) H15 0 0 := rfl
  have u4 : exLd1 (.pointer (some ⟨93, 1, none⟩)) H15 = .val (.pointer none) H15 (bit 93) 0 := exLd1_rowG hx15.sinks rfl
  have u5 : e.ok (bit 93) 0 H15 := .read hx15.sinks.lt fun h => absurd h (by omega)
  have u6 : exLd1 (.pointer (some ⟨76, 11, none⟩)) H15 = .val (.slice (some ⟨95, 0, none⟩) 2 5) H15 (bit 76) 0 := exLd1_rowG hx15.st rfl
  have u7 : exIaS 1 (.slice (some ⟨95, 0, none⟩) 2 5) (vN 1) H15 = .val (.pointer (some ⟨95, 1, none⟩)) H15 0 0 := rfl
  have u8 : exLd1 (.pointer (some ⟨95, 1, none⟩)) H15 = .val (.pointer (some ⟨89, 0, none⟩)) H15 (bit 95) 0 := exLd1_rowG hx15.stores rfl
  have u9 : e.ok (bit 95) 0 H15 := .read hx15.stores.lt fun h => absurd h (by omega)
  have v1 : exEq true (.one .p) (.pointer none) (.pointer none) H15 = .val (.bool false) H15 0 0 := rfl
  have v2 : exEq true (.one .p) (.pointer (some ⟨89, 0, none⟩)) (.pointer none) H15 = .val (.bool true) H15 0 0 := rfl
  refine WK.seq (WK.seq (WK.reg_rr (fun t' => t'.get 0 = sP ∧ t'.get 2 = .pointer (some ⟨H.nx, 0, none⟩) ∧ t'.get 3 = .pointer (some ⟨H1'.nx, 0, none⟩) ∧ t'.get 40 = vN 2 ∧ t'.get 41 = vN 1 ∧ t'.get 4 = vN 1 ∧ t'.get 5 = vS [] ∧ t'.get 6 = .slice none 0 0 ∧ t'.get 7 = .pointer none) ?_ ?_))
  · simp (config := { maxSteps := 1000000 }) only [ouc_r10, g0, g2, g3, g40, g41, g4, g5, g6, q0, u1, u2, u3, u4, u5, WOR, WOG, WOC, WOGk, WOCk, wants_none', wants_some, wantsV_U, wantsV_tt, wantsV_tf, wantsV_ft, wantsV_ff, run, evalO_tmp, evalO_const, evalO_func, evalL, callV_func, Rv_eq, Ro_some, ok_zero, true_and, and_true, get_putT (d := 7), exLen_str, binV_geq, binV_leq, binV_lss, binV_gtr, exEq_int, exEq_str, exPick_t, exPick_f, Bool.not_true, Bool.not_false, Bc_t, Bc_f, Nat.reducePow, Nat.reduceLT, Nat.reduceEqDiff, Nat.reduceAdd, if_false, reduceIte, and_self, exFa_ptr, putT_none, Nat.zero_add, Nat.add_zero, Nat.le_refl, exUn_not]
  rintro t9 ⟨g0, g2, g3, g40, g41, g4, g5, g6, g7⟩
  refine WK.seq (WK.reg_rr (fun t' => t'.get 0 = sP ∧ t'.get 2 = .pointer (some ⟨H.nx, 0, none⟩) ∧ t'.get 3 = .pointer (some ⟨H1'.nx, 0, none⟩) ∧ t'.get 40 = vN 2 ∧ t'.get 41 = vN 1 ∧ t'.get 4 = vN 1 ∧ t'.get 5 = vS [] ∧ t'.get 6 = .slice none 0 0 ∧ t'.get 7 = .pointer none ∧ t'.get 52 = .bool false) ?_ ?_)
  · simp (config := { maxSteps := 1000000 }) only [ouc_r11, g0, g2, g3, g40, g41, g4, g5, g6, g7, v1, WOR, WOG, WOC, WOGk, WOCk, wants_none', wants_some, wantsV_U, wantsV_tt, wantsV_tf, wantsV_ft, wantsV_ff, run, evalO_tmp, evalO_const, evalO_func, evalL, callV_func, Rv_eq, Ro_some, ok_zero, true_and, and_true, get_putT (d := 7), exLen_str, binV_geq, binV_leq, binV_lss, binV_gtr, exEq_int, exEq_str, exPick_t, exPick_f, Bool.not_true, Bool.not_false, Bc_t, Bc_f, Nat.reducePow, Nat.reduceLT, Nat.reduceEqDiff, Nat.reduceAdd, if_false, reduceIte, and_self, exFa_ptr, putT_none, Nat.zero_add, Nat.add_zero, Nat.le_refl, exUn_not]
  rintro t10 ⟨g0, g2, g3, g40, g41, g4, g5, g6, g7, g52⟩
  refine WK.cond (v := false) (by rw [evalO_tmp, g52]; rfl) (WK.skip ?_)
  show WK Tb0 sp e ⟨7, 86, none, false⟩ _ t10 [] _ _
  refine WK.seq (WK.seq (WK.reg_rr (fun t' => t'.get 0 = sP ∧ t'.get 2 = .pointer (some ⟨H.nx, 0, none⟩) ∧ t'.get 3 = .pointer (some ⟨H1'.nx, 0, none⟩) ∧ t'.get 40 = vN 2 ∧ t'.get 41 = vN 1 ∧ t'.get 5 = vS [] ∧ t'.get 6 = .slice none 0 0 ∧ t'.get 8 = .pointer (some ⟨89, 0, none⟩)) ?_ ?_))
  · simp (config := { maxSteps := 1000000 }) only [ouc_r13, g0, g2, g3, g40, g41, g4, g5, g6, q0, u2, u6, u7, u8, u9, WOR, WOG, WOC, WOGk, WOCk, wants_none', wants_some, wantsV_U, wantsV_tt, wantsV_tf, wantsV_ft, wantsV_ff, run, evalO_tmp, evalO_const, evalO_func, evalL, callV_func, Rv_eq, Ro_some, ok_zero, true_and, and_true, get_putT (d := 7), exLen_str, binV_geq, binV_leq, binV_lss, binV_gtr, exEq_int, exEq_str, exPick_t, exPick_f, Bool.not_true, Bool.not_false, Bc_t, Bc_f, Nat.reducePow, Nat.reduceLT, Nat.reduceEqDiff, Nat.reduceAdd, if_false, reduceIte, and_self, exFa_ptr, putT_none, Nat.zero_add, Nat.add_zero, Nat.le_refl, exUn_not]
  rintro t12 ⟨g0, g2, g3, g40, g41, g5, g6, g8⟩
  refine WK.seq (WK.reg_rr (fun t' => t'.get 0 = sP ∧ t'.get 2 = .pointer (some ⟨H.nx, 0, none⟩) ∧ t'.get 3 = .pointer (some ⟨H1'.nx, 0, none⟩) ∧ t'.get 40 = vN 2 ∧ t'.get 41 = vN 1 ∧ t'.get 5 = vS [] ∧ t'.get 6 = .slice none 0 0 ∧ t'.get 8 = .pointer (some ⟨89, 0, none⟩) ∧ t'.get 66 = .bool true) ?_ ?_)
  · simp (config := { maxSteps := 1000000 }) only [ouc_r14, g0, g2, g3, g40, g41, g5, g6, g8, v2, WOR, WOG, WOC, WOGk, WOCk, wants_none', wants_some, wantsV_U, wantsV_tt, wantsV_tf, wantsV_ft, wantsV_ff, run, evalO_tmp, evalO_const, evalO_func, evalL, callV_func, Rv_eq, Ro_some, ok_zero, true_and, and_true, get_putT (d := 7), exLen_str, binV_geq, binV_leq, binV_lss, binV_gtr, exEq_int, exEq_str, exPick_t, exPick_f, Bool.not_true, Bool.not_false, Bc_t, Bc_f, Nat.reducePow, Nat.reduceLT, Nat.reduceEqDiff, Nat.reduceAdd, if_false, reduceIte, and_self, exFa_ptr, putT_none, Nat.zero_add, Nat.add_zero, Nat.le_refl, exUn_not]
  rintro t13 ⟨g0, g2, g3, g40, g41, g5, g6, g8, g66⟩
  have w1 : exNil (.pointer (some ⟨89, 0, none⟩)) H15 = .val (.pointer (some ⟨89, 0, none⟩)) H15 0 0 := rfl
  have w2 : exLd1 (.pointer (some ⟨89, 1, none⟩)) H15 = .val dv H15 (bit 89) 0 := exLd1_row hstoC rfl
  have w3 : e.ok (bit 89) 0 H15 := .read (Row.lt hstoC) fun h => absurd h (by omega)
  refine WK.cond (v := true) (by rw [evalO_tmp, g66]; rfl) ?_
  refine WK.reg_gg (fun t' H' => ∃ cv, t'.get 0 = sP ∧ t'.get 2 = .pointer (some ⟨H.nx, 0, none⟩) ∧ t'.get 3 = .pointer (some ⟨H1'.nx, 0, none⟩) ∧ t'.get 40 = vN 2 ∧ t'.get 41 = vN 1 ∧ t'.get 5 = vS [] ∧ t'.get 6 = cv ∧ Kept H15 H' ∧ ClnR 2 77 recQ H15.nx H' cv d) ?_ ?_
  · simp (config := { maxSteps := 1000000 }) only [ouc_r15, g0, g2, g3, g40, g41, g5, g6, g8, w1, w2, w3, WOR, WOG, WOC, WOGk, WOCk, wants_none', wants_some, wantsV_U, wantsV_tt, wantsV_tf, wantsV_ft, wantsV_ff, run, evalO_tmp, evalO_const, evalO_func, evalL, callV_func, Rv_eq, Ro_some, ok_zero, true_and, and_true, get_putT (d := 7), exLen_str, binV_geq, binV_leq, binV_lss, binV_gtr, exEq_int, exEq_str, exPick_t, exPick_f, Bool.not_true, Bool.not_false, Bc_t, Bc_f, Nat.reducePow, Nat.reduceLT, Nat.reduceEqDiff, Nat.reduceAdd, if_false, reduceIte, and_self, exFa_ptr, putT_none, Nat.zero_add, Nat.add_zero, Nat.le_refl, exUn_not]
    refine (clR_ok S hk015.fn (by omega) (hde.later hk015.old) (by omega)).mono fun v H9 _ hv => ?_
    obtain ⟨hk9, hc9⟩ := hv
    simp (config := { maxSteps := 1000000 }) only [g0, g2, g3, g40, g41, g5, WOR, WOG, WOC, WOGk, WOCk, wants_none', wants_some, wantsV_U, wantsV_tt, wantsV_tf, wantsV_ft, wantsV_ff, run, evalO_tmp, evalO_const, evalO_func, evalL, callV_func, Rv_eq, Ro_some, ok_zero, true_and, and_true, get_putT (d := 7), exLen_str, binV_geq, binV_leq, binV_lss, binV_gtr, exEq_int, exEq_str, exPick_t, exPick_f, Bool.not_true, Bool.not_false, Bc_t, Bc_f, Nat.reducePow, Nat.reduceLT, Nat.reduceEqDiff, Nat.reduceAdd, if_false, reduceIte, and_self, exFa_ptr, putT_none, Nat.zero_add, Nat.add_zero, Nat.le_refl, exUn_not]
    exact ⟨_, rfl, hk9, hc9⟩
  rintro t14 H14 ⟨cv, g0, g2, g3, g40, g41, g5, g6, hk14, hcl⟩
  show WK Tb0 sp e ⟨7, 86, none, false⟩ _ t14 [] _ _
  have row17 : Row H14 H1'.nx 74 0 (row6 tv1 Dv1) := Row.of_blk row15 (hk14.old _ row15.lt)
  have ocv : oneC cv = true := by rcases hcl with ⟨rfl, _⟩ | ⟨b, L, _, _, _, ⟨_, _, rfl⟩ | ⟨_, _, rfl⟩⟩ <;> rfl
  refine WK.mono (ocr16 (N := H1'.nx) (bt := some bt1) (bd := some bd1) hk14.fn (by omega) (Nat.le_refl _) row17 (.inr ⟨bt1, rfl, ot15.of_blk (hk14.old _ ot15.lt)⟩) (.inr ⟨bd1, rfl, od15.of_blk (hk14.old _ od15.lt)⟩) (by simp; omega) (by simp; omega) (fun c h1 h2 => by cases h1; cases h2; exact m3 rfl) rfl ocv (by decide) (by decide) g3 g5 g6) ?_
  rintro x t25 ds25 H25 - ⟨rfl, rfl, lo25, tv2, Dv2, bt2, bd2, f25, n25, row25, ot25, od25, p1, p2, p3, same25⟩
  have g0 := (lo25 0 (by omega)).trans g0
  have g2 := (lo25 2 (by omega)).trans g2
  have g3 := (lo25 3 (by omega)).trans g3
  have g40 := (lo25 40 (by omega)).trans g40
  have g41 := (lo25 41 (by omega)).trans g41
  show WK Tb0 sp e ⟨7, 86, none, false⟩ (.reg ouc_r17) t25 [] H25 _
  refine WK.reg_rr (fun t' => t'.get 0 = sP ∧ t'.get 2 = .pointer (some ⟨H.nx, 0, none⟩) ∧ t'.get 3 = .pointer (some ⟨H1'.nx, 0, none⟩) ∧ t'.get 40 = vN 2 ∧ t'.get 41 = vN 2) ?_ ?_
  · have hwr : wrapF .i64 ((1 : Int) + 1) = 2 := rfl
    simp (config := { maxSteps := 1000000 }) only [ouc_r17, g0, g2, g3, g40, g41, binV_add, hwr, WOR, WOG, WOC, WOGk, WOCk, wants_none', wants_some, wantsV_U, wantsV_tt, wantsV_tf, wantsV_ft, wantsV_ff, run, evalO_tmp, evalO_const, evalO_func, evalL, callV_func, Rv_eq, Ro_some, ok_zero, true_and, and_true, get_putT (d := 7), exLen_str, binV_geq, binV_leq, binV_lss, binV_gtr, exEq_int, exEq_str, exPick_t, exPick_f, Bool.not_true, Bool.not_false, Bc_t, Bc_f, Nat.reducePow, Nat.reduceLT, Nat.reduceEqDiff, Nat.reduceAdd, if_false, reduceIte, and_self, exFa_ptr, putT_none, Nat.zero_add, Nat.add_zero, Nat.le_refl, exUn_not]
  rintro t26 ⟨g0, g2, g3, g40, g41⟩
  show WK Tb0 sp e ⟨7, 86, none, false⟩ _ t26 [] H25 _
  have n14 := hk14.nx
  have hold25 : ∀ c, c < H1'.nx → H25.blk c = H1'.blk c := fun c hc => by
    rw [same25 c (by omega) (by omega) (fun h => by cases h; omega) (fun h => by cases h; omega), hk14.old c (by omega), hold15 c hc]
  have hds25 : DsR (envN H15.nx) H25 cv d := by
    have h1 : RowR (envN H15.nx) H14 2 recQ cv d := hcl.rowR (Nat.le_refl _) fun _ _ h => h
    exact RowR.behind h1 (Nat.le_refl _) (fun b hb1 hb2 => same25 b hb2 (by omega) (fun h => by have := ot15.lt; cases h; omega) (fun h => by have := od15.lt; cases h; omega)) fun _ _ h => h
  refine WK.loop ?_
  try unfold ouc_l18
  refine WK.seq (WK.reg_rr (fun t' => t'.get 0 = sP ∧ t'.get 2 = .pointer (some ⟨H.nx, 0, none⟩) ∧ t'.get 3 = .pointer (some ⟨H1'.nx, 0, none⟩) ∧ t'.get 40 = vN 2 ∧ t'.get 42 = .bool false) ?_ ?_)
  · have b0 : binV .lss (vN 2) (vN 2) = some (.bool false) := rfl
    simp (config := { maxSteps := 1000000 }) only [ouc_r7, g0, g2, g3, g40, g41, b0, WOR, WOG, WOC, WOGk, WOCk, wants_none', wants_some, wantsV_U, wantsV_tt, wantsV_tf, wantsV_ft, wantsV_ff, run, evalO_tmp, evalO_const, evalO_func, evalL, callV_func, Rv_eq, Ro_some, ok_zero, true_and, and_true, get_putT (d := 7), exLen_str, binV_geq, binV_leq, binV_lss, binV_gtr, exEq_int, exEq_str, exPick_t, exPick_f, Bool.not_true, Bool.not_false, Bc_t, Bc_f, Nat.reducePow, Nat.reduceLT, Nat.reduceEqDiff, Nat.reduceAdd, if_false, reduceIte, and_self, exFa_ptr, putT_none, Nat.zero_add, Nat.add_zero, Nat.le_refl, exUn_not]
  rintro t27 ⟨g0, g2, g3, g40, g42⟩
  refine WK.seq (WK.cond (v := false) (by rw [evalO_tmp, g42]; rfl) (WK.exit ?_))
  show WK Tb0 sp e ⟨7, 86, none, false⟩ _ t27 [] H25 _
  have y1 : exLdN 6 (.pointer (some ⟨H1'.nx, 0, none⟩)) H25 = .val (.agg ⟨row6 tv2 Dv2⟩) H25 (bit H1'.nx) 0 := exLdN_row (k := 6) (o := 0) row25 (Nat.le_refl _)
  have y2 : e.ok (bit H1'.nx) 0 H25 := .fresh row25.lt (by omega)
  have hrow2 : Row H25 H.nx 74 0 z6 := hrow1.of_blk (hold25 _ (by omega))
  obtain ⟨H28, s1, s2, s3, s4, s5⟩ := exSt_at (vs := row6 tv2 Dv2) (o := 0) f25 hrow2 (Nat.le_refl _)
  have s1' : exSt 6 (.pointer (some ⟨H.nx, 0, none⟩)) (.agg ⟨row6 tv2 Dv2⟩) H25 = .val U H28 0 (bit H.nx) := s1
  have s6 : e.ok 0 (bit H.nx) H28 := .write s2.lt fun h => absurd h (by omega)
  have s7 : H25.nx ≤ H28.nx := by omega
  refine WK.seq (WK.reg_gg (fun t' H' => t'.get 2 = .pointer (some ⟨H.nx, 0, none⟩) ∧ H' = H28) ?_ ?_)
  · simp (config := { maxSteps := 1000000 }) only [ouc_r19, g2, g3, y1, y2, s1', s6, s7, WOR, WOG, WOC, WOGk, WOCk, wants_none', wants_some, wantsV_U, wantsV_tt, wantsV_tf, wantsV_ft, wantsV_ff, run, evalO_tmp, evalO_const, evalO_func, evalL, callV_func, Rv_eq, Ro_some, ok_zero, true_and, and_true, get_putT (d := 7), exLen_str, binV_geq, binV_leq, binV_lss, binV_gtr, exEq_int, exEq_str, exPick_t, exPick_f, Bool.not_true, Bool.not_false, Bc_t, Bc_f, Nat.reducePow, Nat.reduceLT, Nat.reduceEqDiff, Nat.reduceAdd, if_false, reduceIte, and_self, exFa_ptr, putT_none, Nat.zero_add, Nat.add_zero, Nat.le_refl, exUn_not]
  rintro t29 H29 ⟨h2, rfl⟩
  have s2' : Row H29 H.nx 74 0 (row6 tv2 Dv2) := s2
  obtain ⟨op, c, hbd, hDv⟩ := od25.row
  refine WK.ret ⟨.inr rfl, rfl, [.agg ⟨row6 tv2 Dv2⟩], Nat.lor (bit H.nx) 0, ?_, ?_, ⟨s4, by omega, fun c hc => (s5 c (by omega)).trans ((hold25 c (by omega)).trans (hk1.old c hc))⟩, tv2, bd2, c, op, cv, ?_, by omega, hbd.of_blk (s5 _ (by omega)), ?_⟩
  · show resL Tb0 86 t29 _ [.cell 2 74] = _
    exact resL_agg6 s2' rfl h2 (by decide)
  · rw [lor_zero']; exact .fresh s2.lt (by omega)
  · rw [hDv]; rfl
  · exact hds25.behind (by show 102 ≤ H15.nx; omega) fun b h1 h2 => s5 b (by omega)
end
end Go.Proofs.RS
end

noncomputable section
namespace Go.Proofs.RS
open Go Go.Ev Go.Proofs Go.Ds
def ByR (e : Env) (H : Hp) (v : Value) (w : Str) : Prop := ∃ b op c, v = .slice (some ⟨b, 0, none⟩) w.length c ∧ RowG H b 5 op (bytesV w) ∧ (b < e.n0 → e.Rd b)
theorem bytesV_get {w : Str} {i : Nat} {x : UInt8} (h : w[i]? = some x) : (bytesV w)[i]? = some (vB x) := by
  unfold bytesV; rw [List.getElem?_map, h]; rfl
theorem idxF_all (p : UInt8 → Bool) : ∀ (l : Str) (k : Nat), (!decide (idxF p l k < 0)) = l.any p := fun l k => idxF_neg p l k
section
variable {sp : Nat → List Value → Hp → Option (Value × Hp × Nat × Nat)} {e : Env}
set_option maxRecDepth 10000 in
set_option maxHeartbeats 4000000 in
theorem law1_ok (S : SpK sp) {H : Hp} {c : UInt8} : EC Tb0 sp e 21 [vB c] H fun v H' => v = .bool (!plainB c) ∧ H' = H := by
  refine EC.intro (fn := Tryz.f21) (c := law1_body) (S.no 21 (by decide) _ _) (by rfl) law1_some law1_comp (by show 1 ≤ 9; decide) ?_
  have g0 : (enterT Tryz.f21 [vB c]).get 0 = vB c := by rw [enterT_get (by show 1 ≤ 9; decide) (by show 0 < 9; decide)]; rfl
  revert g0
  generalize enterT Tryz.f21 [vB c] = t0
  intro g0
  show WK Tb0 sp e ⟨4, 9, none, false⟩ law1_k t0 [] H _
  unfold law1_k
  have q1 : binV .lss (vB c) (.int .u8 32) = some (.bool (!decide (32 ≤ c.toNat))) := by rw [binV_lss8, ← decide_not]; congr 2; exact decide_eq_decide.2 (by omega)
  have q2 : binV .gtr (vB c) (.int .u8 126) = some (.bool (!decide (c.toNat ≤ 126))) := by rw [binV_gtr8, ← decide_not]; congr 2; exact decide_eq_decide.2 (by omega)
  refine WK.seq (WK.reg_rr (fun t' => t'.get 0 = vB c) ?_ ?_)
  · simp (config := { maxSteps := 1000000 }) only [law1_r0, g0, WOR, WOG, WOC, WOGk, WOCk, wants_none', wants_some, wantsV_U, wantsV_tt, wantsV_tf, wantsV_ft, wantsV_ff, run, evalO_tmp, evalO_const, evalO_func, evalL, callV_func, Rv_eq, Ro_some, ok_zero, true_and, and_true, get_putT (d := 4), exLen_str, binV_geq, binV_leq, binV_lss, binV_gtr, exEq_int, exEq_str, exPick_t, exPick_f, Bool.not_true, Bool.not_false, Bc_t, Bc_f, Nat.reducePow, Nat.reduceLT, Nat.reduceEqDiff, Nat.reduceAdd, if_false, reduceIte, and_self, exFa_ptr, putT_none, Nat.zero_add, Nat.add_zero, Nat.le_refl, exUn_not]
  intro t1 g0
  refine WK.seq (WK.reg_rr (fun t' => t'.get 2 = .bool (!plainB c)) ?_ ?_)
  · unfold plainB
    cases h1 : decide (32 ≤ c.toNat) with
    | false =>
      rw [h1] at q1
      simp (config := { maxSteps := 1000000 }) only [law1_r1, g0, q1, q2, WOR, WOG, WOC, WOGk, WOCk, wants_none', wants_some, wantsV_U, wantsV_tt, wantsV_tf, wantsV_ft, wantsV_ff, run, evalO_tmp, evalO_const, evalO_func, evalL, callV_func, Rv_eq, Ro_some, ok_zero, true_and, and_true, get_putT (d := 4), exLen_str, binV_geq, binV_leq, binV_lss, binV_gtr, exEq_int, exEq_str, exPick_t, exPick_f, Bool.not_true, Bool.not_false, Bc_t, Bc_f, Nat.reducePow, Nat.reduceLT, Nat.reduceEqDiff, Nat.reduceAdd, if_false, reduceIte, and_self, exFa_ptr, putT_none, Nat.zero_add, Nat.add_zero, Nat.le_refl, exUn_not]
      rfl
    | true =>
      rw [h1] at q1
      simp (config := { maxSteps := 1000000 }) only [law1_r1, g0, q1, q2, WOR, WOG, WOC, WOGk, WOCk, wants_none', wants_some, wantsV_U, wantsV_tt, wantsV_tf, wantsV_ft, wantsV_ff, run, evalO_tmp, evalO_const, evalO_func, evalL, callV_func, Rv_eq, Ro_some, ok_zero, true_and, and_true, get_putT (d := 4), exLen_str, binV_geq, binV_leq, binV_lss, binV_gtr, exEq_int, exEq_str, exPick_t, exPick_f, Bool.not_true, Bool.not_false, Bc_t, Bc_f, Nat.reducePow, Nat.reduceLT, Nat.reduceEqDiff, Nat.reduceAdd, if_false, reduceIte, and_self, exFa_ptr, putT_none, Nat.zero_add, Nat.add_zero, Nat.le_refl, exUn_not]
      rw [Bool.true_and]
  intro t2 h2
  refine WK.ret ⟨.inr rfl, rfl, [.bool (!plainB c)], 0, ?_, .zero _ _, rfl, rfl⟩
  show resL Tb0 9 t2 _ [.tmp 2] = _
  simp only [resL, h2]; rfl
set_option maxRecDepth 10000 in
set_option maxHeartbeats 4000000 in
theorem ixB_ok (S : SpK sp) {H : Hp} {sv : Value} {w : Str} (hb : ByR e H sv w) (hlen : w.length < 4611686018427387904) : EC Tb0 sp e 59 [sv, .func (.func 21) #[] #[]] H fun v H' => v = vN (idxF (fun c => !plainB c) w 0) ∧ H' = H := by
  refine EC.intro (fn := Tryz.f59) (c := ixB_body) (S.no 59 (by decide) _ _) (by rfl) ixB_some ixB_comp (by show 2 ≤ 19; decide) ?_
  have g0 : (enterT Tryz.f59 [sv, .func (.func 21) #[] #[]]).get 0 = sv := by rw [enterT_get (by show 2 ≤ 19; decide) (by show 0 < 19; decide)]; rfl
  have g1 : (enterT Tryz.f59 [sv, .func (.func 21) #[] #[]]).get 1 = .func (.func 21) #[] #[] := by rw [enterT_get (by show 2 ≤ 19; decide) (by show 1 < 19; decide)]; rfl
  revert g0 g1
  generalize enterT Tryz.f59 [sv, .func (.func 21) #[] #[]] = t0
  intro g0 g1
  show WK Tb0 sp e ⟨5, 19, none, false⟩ ixB_k t0 [] H _
  unfold ixB_k
  obtain ⟨b, op, c, rfl, hrow, hrd⟩ := hb
  have hok : e.ok (bit b) 0 H := .read hrow.lt hrd
  have k0 : exLen 1 (.slice (some ⟨b, 0, none⟩) w.length c) H = .val (vN w.length) H 0 0 := rfl
  refine WK.seq (WK.reg_rr (fun t' => t'.get 0 = .slice (some ⟨b, 0, none⟩) w.length c ∧ t'.get 1 = .func (.func 21) #[] #[]) ?_ ?_)
  · simp (config := { maxSteps := 1000000 }) only [ixB_r0, g0, g1, WOR, WOG, WOC, WOGk, WOCk, wants_none', wants_some, wantsV_U, wantsV_tt, wantsV_tf, wantsV_ft, wantsV_ff, run, evalO_tmp, evalO_const, evalO_func, evalL, callV_func, Rv_eq, Ro_some, ok_zero, true_and, and_true, get_putT (d := 5), exLen_str, binV_geq, binV_leq, binV_lss, binV_gtr, exEq_int, exEq_str, exPick_t, exPick_f, Bool.not_true, Bool.not_false, Bc_t, Bc_f, Nat.reducePow, Nat.reduceLT, Nat.reduceEqDiff, Nat.reduceAdd, if_false, reduceIte, and_self, exFa_ptr, putT_none, Nat.zero_add, Nat.add_zero, Nat.le_refl, exUn_not]
  rintro t1 ⟨g0, g1⟩
  refine WK.seq (WK.seq (WK.reg_rr (fun t' => t'.get 0 = .slice (some ⟨b, 0, none⟩) w.length c ∧ t'.get 1 = .func (.func 21) #[] #[] ∧ t'.get 7 = vN w.length ∧ t'.get 8 = vN (0 : Nat)) ?_ ?_))
  · simp (config := { maxSteps := 1000000 }) only [ixB_r1, g0, g1, k0, WOR, WOG, WOC, WOGk, WOCk, wants_none', wants_some, wantsV_U, wantsV_tt, wantsV_tf, wantsV_ft, wantsV_ff, run, evalO_tmp, evalO_const, evalO_func, evalL, callV_func, Rv_eq, Ro_some, ok_zero, true_and, and_true, get_putT (d := 5), exLen_str, binV_geq, binV_leq, binV_lss, binV_gtr, exEq_int, exEq_str, exPick_t, exPick_f, Bool.not_true, Bool.not_false, Bc_t, Bc_f, Nat.reducePow, Nat.reduceLT, Nat.reduceEqDiff, Nat.reduceAdd, if_false, reduceIte, and_self, exFa_ptr, putT_none, Nat.zero_add, Nat.add_zero, Nat.le_refl, exUn_not]
    rfl
  rintro t2 ⟨g0, g1, g7, g8⟩
  refine WK.block (WK.loop_ind (fun m t' ds' H' => ds' = [] ∧ H' = H ∧ ∃ i : Nat, m = w.length - i ∧ i ≤ w.length ∧ t'.get 0 = .slice (some ⟨b, 0, none⟩) w.length c ∧ t'.get 1 = .func (.func 21) #[] #[] ∧ t'.get 7 = vN w.length ∧ t'.get 8 = vN i ∧ idxF (fun c => !plainB c) w 0 = idxF (fun c => !plainB c) (w.drop i) i) ?_ w.length t2 [] H ⟨rfl, rfl, 0, by omega, by omega, g0, g1, g7, g8, rfl⟩)
  clear g0 g1 g7 g8
  rintro m t3 ds H3 ⟨rfl, rfl, i, rfl, hi, g0, g1, g7, g8, hI⟩
  unfold ixB_l7
  refine WK.seq (WK.reg_rr (fun t' => t'.get 9 = .bool (decide ((i : Int) < (w.length : Int))) ∧ Lo 9 t3 t') ?_ ?_)
  · simp (config := { maxSteps := 1000000 }) only [ixB_r2, g7, g8, WOR, WOG, WOC, WOGk, WOCk, wants_none', wants_some, wantsV_U, wantsV_tt, wantsV_tf, wantsV_ft, wantsV_ff, run, evalO_tmp, evalO_const, evalO_func, evalL, callV_func, Rv_eq, Ro_some, ok_zero, true_and, and_true, get_putT (d := 5), exLen_str, binV_geq, binV_leq, binV_lss, binV_gtr, exEq_int, exEq_str, exPick_t, exPick_f, Bool.not_true, Bool.not_false, Bc_t, Bc_f, Nat.reducePow, Nat.reduceLT, Nat.reduceEqDiff, Nat.reduceAdd, if_false, reduceIte, and_self, exFa_ptr, putT_none, Nat.zero_add, Nat.add_zero, Nat.le_refl, exUn_not]
    intro j hj
    simp (disch := omega) only [putT_lo (d := 5)]
  rintro t4 ⟨h9, hlo⟩
  have f0 := (hlo 0 (by omega)).trans g0
  have f1 := (hlo 1 (by omega)).trans g1
  have f7 := (hlo 7 (by omega)).trans g7
  have f8 := (hlo 8 (by omega)).trans g8
  by_cases hlt : i < w.length
  case neg =>
    refine WK.seq (WK.cond (v := false) (by rw [evalO_tmp, h9, decide_eq_false (by omega)]; rfl) (WK.exit ?_))
    show WK Tb0 sp e ⟨5, 19, none, false⟩ _ t4 [] H3 _
    have hI' : idxF (fun c => !plainB c) w 0 = -1 := by rw [hI, List.drop_eq_nil_of_le (by omega)]; rfl
    refine WK.seq (WK.reg_rr (fun t' => t'.get 4 = vN (-1)) ?_ ?_)
    · simp (config := { maxSteps := 1000000 }) only [ixB_r8, WOR, WOG, WOC, WOGk, WOCk, wants_none', wants_some, wantsV_U, wantsV_tt, wantsV_tf, wantsV_ft, wantsV_ff, run, evalO_tmp, evalO_const, evalO_func, evalL, callV_func, Rv_eq, Ro_some, ok_zero, true_and, and_true, get_putT (d := 5), exLen_str, binV_geq, binV_leq, binV_lss, binV_gtr, exEq_int, exEq_str, exPick_t, exPick_f, Bool.not_true, Bool.not_false, Bc_t, Bc_f, Nat.reducePow, Nat.reduceLT, Nat.reduceEqDiff, Nat.reduceAdd, if_false, reduceIte, and_self, exFa_ptr, putT_none, Nat.zero_add, Nat.add_zero, Nat.le_refl, exUn_not]
    intro t5 h4
    refine WK.ret ⟨.inr rfl, rfl, [vN (-1)], 0, ?_, .zero _ _, by rw [hI']; rfl, rfl⟩
    show resL Tb0 19 t5 _ [.tmp 4] = _
    simp only [resL, h4]; rfl
  refine WK.seq (WK.cond (v := true) (by rw [evalO_tmp, h9, decide_eq_true (by omega)]; rfl) (WK.skip ?_))
  obtain ⟨x, hx⟩ : ∃ x, w[i]? = some x := ⟨w[i], by simp [hlt]⟩
  have hd : w.drop i = x :: w.drop (i + 1) := by
    rw [List.drop_eq_getElem_cons hlt]
    congr 1
    rw [List.getElem?_eq_getElem hlt] at hx
    exact Option.some.inj hx
  have m1 : exIaS 1 (.slice (some ⟨b, 0, none⟩) w.length c) (vN i) H3 = .val (.pointer (some ⟨b, i, none⟩)) H3 0 0 := by
    rw [exIaS_int (by omega) (by omega)]; simp
  have m2 : exLd1 (.pointer (some ⟨b, i, none⟩)) H3 = .val (vB x) H3 (bit b) 0 := exLd1_rowG hrow (bytesV_get hx)
  refine WK.seq (WK.block (WK.seq (WK.reg_rr (fun t' => t'.get 5 = vN i ∧ t'.get 0 = .slice (some ⟨b, 0, none⟩) w.length c ∧ t'.get 1 = .func (.func 21) #[] #[] ∧ t'.get 7 = vN w.length ∧ t'.get 8 = vN i) ?_ ?_)))
  · simp (config := { maxSteps := 1000000 }) only [ixB_r3, f0, f1, f7, f8, WOR, WOG, WOC, WOGk, WOCk, wants_none', wants_some, wantsV_U, wantsV_tt, wantsV_tf, wantsV_ft, wantsV_ff, run, evalO_tmp, evalO_const, evalO_func, evalL, callV_func, Rv_eq, Ro_some, ok_zero, true_and, and_true, get_putT (d := 5), exLen_str, binV_geq, binV_leq, binV_lss, binV_gtr, exEq_int, exEq_str, exPick_t, exPick_f, Bool.not_true, Bool.not_false, Bc_t, Bc_f, Nat.reducePow, Nat.reduceLT, Nat.reduceEqDiff, Nat.reduceAdd, if_false, reduceIte, and_self, exFa_ptr, putT_none, Nat.zero_add, Nat.add_zero, Nat.le_refl, exUn_not]
  rintro t5 ⟨h5, e0, e1, f7, f8⟩
  refine WK.seq (WK.reg_gg (fun t' H' => t'.get 16 = .bool (!plainB x) ∧ t'.get 5 = vN i ∧ t'.get 0 = .slice (some ⟨b, 0, none⟩) w.length c ∧ t'.get 1 = .func (.func 21) #[] #[] ∧ t'.get 7 = vN w.length ∧ t'.get 8 = vN i ∧ H' = H3) ?_ ?_)
  · simp (config := { maxSteps := 1000000 }) only [ixB_r4, e0, e1, h5, f7, f8, m1, m2, hok, WOR, WOG, WOC, WOGk, WOCk, wants_none', wants_some, wantsV_U, wantsV_tt, wantsV_tf, wantsV_ft, wantsV_ff, run, evalO_tmp, evalO_const, evalO_func, evalL, callV_func, Rv_eq, Ro_some, ok_zero, true_and, and_true, get_putT (d := 5), exLen_str, binV_geq, binV_leq, binV_lss, binV_gtr, exEq_int, exEq_str, exPick_t, exPick_f, Bool.not_true, Bool.not_false, Bc_t, Bc_f, Nat.reducePow, Nat.reduceLT, Nat.reduceEqDiff, Nat.reduceAdd, if_false, reduceIte, and_self, exFa_ptr, putT_none, Nat.zero_add, Nat.add_zero, Nat.le_refl, exUn_not]
    refine (law1_ok S).mono fun v H4 _ hv => ?_
    obtain ⟨rfl, rfl⟩ := hv
    simp (config := { maxSteps := 1000000 }) only [e0, e1, h5, f7, f8, WOR, WOG, WOC, WOGk, WOCk, wants_none', wants_some, wantsV_U, wantsV_tt, wantsV_tf, wantsV_ft, wantsV_ff, run, evalO_tmp, evalO_const, evalO_func, evalL, callV_func, Rv_eq, Ro_some, ok_zero, true_and, and_true, get_putT (d := 5), exLen_str, binV_geq, binV_leq, binV_lss, binV_gtr, exEq_int, exEq_str, exPick_t, exPick_f, Bool.not_true, Bool.not_false, Bc_t, Bc_f, Nat.reducePow, Nat.reduceLT, Nat.reduceEqDiff, Nat.reduceAdd, if_false, reduceIte, and_self, exFa_ptr, putT_none, Nat.zero_add, Nat.add_zero, Nat.le_refl, exUn_not]
  rintro t6 H6 ⟨h16, c5, c0, c1, c7, c8, rfl⟩
  refine WK.cond (v := !plainB x) (by rw [evalO_tmp, h16]; rfl) ?_
  cases hp : plainB x with
  | false =>
    rw [Bool.not_false, if_pos rfl]
    have hI' : idxF (fun c => !plainB c) w 0 = (i : Int) := by rw [hI, hd]; simp only [idxF, hp, Bool.not_false, if_true]
    refine WK.seq (WK.reg_rr (fun t' => t'.get 4 = vN i) ?_ ?_)
    · simp (config := { maxSteps := 1000000 }) only [ixB_r5, c5, WOR, WOG, WOC, WOGk, WOCk, wants_none', wants_some, wantsV_U, wantsV_tt, wantsV_tf, wantsV_ft, wantsV_ff, run, evalO_tmp, evalO_const, evalO_func, evalL, callV_func, Rv_eq, Ro_some, ok_zero, true_and, and_true, get_putT (d := 5), exLen_str, binV_geq, binV_leq, binV_lss, binV_gtr, exEq_int, exEq_str, exPick_t, exPick_f, Bool.not_true, Bool.not_false, Bc_t, Bc_f, Nat.reducePow, Nat.reduceLT, Nat.reduceEqDiff, Nat.reduceAdd, if_false, reduceIte, and_self, exFa_ptr, putT_none, Nat.zero_add, Nat.add_zero, Nat.le_refl, exUn_not]
    intro t7 h4
    refine WK.ret ⟨.inr rfl, rfl, [vN i], 0, ?_, .zero _ _, by rw [hI']; rfl, rfl⟩
    show resL Tb0 19 t7 _ [.tmp 4] = _
    simp only [resL, h4]; rfl
  | true =>
    rw [Bool.not_true, if_neg (by decide)]
    have hI' : idxF (fun c => !plainB c) w 0 = idxF (fun c => !plainB c) (w.drop (i + 1)) (i + 1) := by rw [hI, hd]; simp only [idxF, hp, Bool.not_true]; rfl
    refine WK.skip ?_
    show WK Tb0 sp e ⟨5, 19, none, false⟩ (.reg ixB_r6) t6 [] H6 _
    have hwr : wrapF .i64 ((i : Int) + 1) = ((i + 1 : Nat) : Int) := by rw [wrapF_i64 (by omega) (by omega)]; omega
    refine WK.reg_rr (fun t' => t'.get 0 = .slice (some ⟨b, 0, none⟩) w.length c ∧ t'.get 1 = .func (.func 21) #[] #[] ∧ t'.get 7 = vN w.length ∧ t'.get 8 = vN (i + 1 : Nat)) ?_ ?_
    · simp (config := { maxSteps := 1000000 }) only [ixB_r6, c0, c1, c7, c8, binV_add, hwr, WOR, WOG, WOC, WOGk, WOCk, wants_none', wants_some, wantsV_U, wantsV_tt, wantsV_tf, wantsV_ft, wantsV_ff, run, evalO_tmp, evalO_const, evalO_func, evalL, callV_func, Rv_eq, Ro_some, ok_zero, true_and, and_true, get_putT (d := 5), exLen_str, binV_geq, binV_leq, binV_lss, binV_gtr, exEq_int, exEq_str, exPick_t, exPick_f, Bool.not_true, Bool.not_false, Bc_t, Bc_f, Nat.reducePow, Nat.reduceLT, Nat.reduceEqDiff, Nat.reduceAdd, if_false, reduceIte, and_self, exFa_ptr, putT_none, Nat.zero_add, Nat.add_zero, Nat.le_refl, exUn_not]
    rintro t7 ⟨d0, d1, d7, d8⟩
    exact ⟨w.length - (i + 1), by omega, rfl, rfl, i + 1, rfl, by omega, d0, d1, d7, d8, hI'⟩
set_option maxRecDepth 10000 in
set_option maxHeartbeats 4000000 in
theorem cfB_ok (S : SpK sp) {H : Hp} {sv : Value} {w : Str} (hb : ByR e H sv w) (hlen : w.length < 4611686018427387904) : EC Tb0 sp e 20 [sv, .func (.func 21) #[] #[]] H fun v H' => v = .bool (!w.all plainB) ∧ H' = H := by
  refine EC.intro (fn := Tryz.f20) (c := cfB_body) (S.no 20 (by decide) _ _) (by rfl) cfB_some cfB_comp (by show 2 ≤ 9; decide) ?_
  have g0 : (enterT Tryz.f20 [sv, .func (.func 21) #[] #[]]).get 0 = sv := by rw [enterT_get (by show 2 ≤ 9; decide) (by show 0 < 9; decide)]; rfl
  have g1 : (enterT Tryz.f20 [sv, .func (.func 21) #[] #[]]).get 1 = .func (.func 21) #[] #[] := by rw [enterT_get (by show 2 ≤ 9; decide) (by show 1 < 9; decide)]; rfl
  revert g0 g1
  generalize enterT Tryz.f20 [sv, .func (.func 21) #[] #[]] = t0
  intro g0 g1
  show WK Tb0 sp e ⟨4, 9, none, false⟩ cfB_k t0 [] H _
  unfold cfB_k
  have hz : (!decide (idxF (fun c => !plainB c) w 0 < 0)) = !w.all plainB := by
    rw [idxF_all, List.not_all_eq_any_not]
  refine WK.seq (WK.reg_rr (fun t' => t'.get 0 = sv ∧ t'.get 1 = .func (.func 21) #[] #[]) ?_ ?_)
  · simp (config := { maxSteps := 1000000 }) only [cfB_r0, g0, g1, WOR, WOG, WOC, WOGk, WOCk, wants_none', wants_some, wantsV_U, wantsV_tt, wantsV_tf, wantsV_ft, wantsV_ff, run, evalO_tmp, evalO_const, evalO_func, evalL, callV_func, Rv_eq, Ro_some, ok_zero, true_and, and_true, get_putT (d := 4), exLen_str, binV_geq, binV_leq, binV_lss, binV_gtr, exEq_int, exEq_str, exPick_t, exPick_f, Bool.not_true, Bool.not_false, Bc_t, Bc_f, Nat.reducePow, Nat.reduceLT, Nat.reduceEqDiff, Nat.reduceAdd, if_false, reduceIte, and_self, exFa_ptr, putT_none, Nat.zero_add, Nat.add_zero, Nat.le_refl, exUn_not]
  rintro t1 ⟨g0, g1⟩
  refine WK.seq (WK.reg_gg (fun t' H' => t'.get 4 = .bool (!w.all plainB) ∧ H' = H) ?_ ?_)
  · simp (config := { maxSteps := 1000000 }) only [cfB_r1, g0, g1, WOR, WOG, WOC, WOGk, WOCk, wants_none', wants_some, wantsV_U, wantsV_tt, wantsV_tf, wantsV_ft, wantsV_ff, run, evalO_tmp, evalO_const, evalO_func, evalL, callV_func, Rv_eq, Ro_some, ok_zero, true_and, and_true, get_putT (d := 4), exLen_str, binV_geq, binV_leq, binV_lss, binV_gtr, exEq_int, exEq_str, exPick_t, exPick_f, Bool.not_true, Bool.not_false, Bc_t, Bc_f, Nat.reducePow, Nat.reduceLT, Nat.reduceEqDiff, Nat.reduceAdd, if_false, reduceIte, and_self, exFa_ptr, putT_none, Nat.zero_add, Nat.add_zero, Nat.le_refl, exUn_not]
    refine (ixB_ok S hb hlen).mono fun v H4 _ hv => ?_
    obtain ⟨rfl, rfl⟩ := hv
    simp (config := { maxSteps := 1000000 }) only [hz, WOR, WOG, WOC, WOGk, WOCk, wants_none', wants_some, wantsV_U, wantsV_tt, wantsV_tf, wantsV_ft, wantsV_ff, run, evalO_tmp, evalO_const, evalO_func, evalL, callV_func, Rv_eq, Ro_some, ok_zero, true_and, and_true, get_putT (d := 4), exLen_str, binV_geq, binV_leq, binV_lss, binV_gtr, exEq_int, exEq_str, exPick_t, exPick_f, Bool.not_true, Bool.not_false, Bc_t, Bc_f, Nat.reducePow, Nat.reduceLT, Nat.reduceEqDiff, Nat.reduceAdd, if_false, reduceIte, and_self, exFa_ptr, putT_none, Nat.zero_add, Nat.add_zero, Nat.le_refl, exUn_not]
  rintro t2 H2 ⟨h4, rfl⟩
  refine WK.ret ⟨.inr rfl, rfl, [.bool (!w.all plainB)], 0, ?_, .zero _ _, rfl, rfl⟩
  show resL Tb0 9 t2 _ [.tmp 4] = _
  simp only [resL, h4]; rfl
end
end Go.Proofs.RS
end
