/-
  A part of the proof that pliantlaw15.RtsReads returns true and leaves its arguments alone. Conditions: those of the card in the last text.
-/
import Derived.Test.YtgdejggelcpokaaGreatDoorG16
set_option linter.unusedSimpArgs false
set_option linter.unusedVariables false
set_option linter.unusedSectionVars false

noncomputable section
namespace Go.Proofs.RS
open Go Go.Ev Go.Proofs Go.Ds
section
variable {sp : Nat → List Value → Hp → Option (Value × Hp × Nat × Nat)} {e : Env}
theorem exSt_at {H : Hp} {b ty op o : Nat} {L vs : List Value} (hf : H.isFn = true) (h : Row H b ty op L) (ho : o + vs.length ≤ L.length) :
    ∃ H', exSt vs.length (.pointer (some ⟨b, o, none⟩)) (.agg ⟨vs⟩) H = .val U H' 0 (bit b) ∧ Row H' b ty op (L.take o ++ (vs ++ L.drop (o + vs.length))) ∧ H'.nx = H.nx ∧ H'.isFn = true ∧ ∀ c, c ≠ b → H'.blk c = H.blk c := by
  have hlt := h.lt
  obtain ⟨t, h1, h2⟩ := h
  have hlen : (L.take o ++ (vs ++ L.drop (o + vs.length))).length = L.length := by
    rw [List.length_append, List.length_append, List.length_take, List.length_drop]; omega
  refine ⟨H.put b (.cells (wrL (dep L.length) vs o t) L.length ty op 0 0), ?_, ⟨wrL (dep L.length) vs o t, ?_, fun i v hv => ?_⟩, nx_put _ _ _, by rw [isFn_put]; exact hf, fun c hc => blk_put_ne (fn_wf hf) _ hlt hc⟩
  · have e1 : wrN H b o vs = some (H.put b (.cells (wrL (dep L.length) vs o t) L.length ty op 0 0)) := by
      unfold wrN; rw [h1]; simp only []
      rw [(ble_iff _ _).2 (by omega), thawed_zero]; rfl
    show (match some vs with | some vs => Bc (Nat.beq vs.length vs.length) (match wrN H b o vs with | some H' => R.val U H' 0 (bit b) | none => .fail) .fail | none => .fail) = _
    simp only [e1, (beq_iff _ _).2 rfl, Bc_t]
  · rw [blk_put _ (fn_wf hf) hlt, if_pos rfl, hlen]
  · have hd := lt_dep L.length
    have hi : i < L.length := by
      rcases Nat.lt_or_ge i L.length with h' | h'
      · exact h'
      · rw [List.getElem?_eq_none (by rw [hlen]; exact h')] at hv; cases hv
    have hto : (L.take o).length = o := by rw [List.length_take]; omega
    rw [wrL_get _ _ _ _ _ (by omega) (by omega)]
    by_cases hin : o ≤ i ∧ i < o + vs.length
    · rw [if_pos hin]
      rw [List.getElem?_append_right (by omega), hto, List.getElem?_append_left (by omega)] at hv
      simp [List.getD, hv]
    · rw [if_neg hin]
      refine h2 i v ?_
      by_cases hlo : i < o
      · rwa [List.getElem?_append_left (by omega), List.getElem?_take_of_lt hlo] at hv
      · rw [List.getElem?_append_right (by omega), hto, List.getElem?_append_right (by omega), List.getElem?_drop] at hv
        rw [← hv]; congr 1; omega
theorem set_recs {d : DS} {i : Nat} (r : Entry) (h : i < d.length) : (recsL d).take (i * 2) ++ ([vS r.1, vS r.2] ++ (recsL d).drop (i * 2 + [vS r.1, vS r.2].length)) = recsL (d.set i r) := by
  have e1 : i * 2 + [vS r.1, vS r.2].length = (i + 1) * 2 := by show i * 2 + 2 = _; omega
  rw [e1, recsL_take, recsL_drop, List.set_eq_take_append_cons_drop, if_pos h, recsL_append, recsL_cons]; rfl
set_option maxRecDepth 10000 in
set_option maxHeartbeats 4000000 in
theorem rew_ok (S : SpK sp) {H : Hp} {sv : Value} {d : DS} {r : Entry} (hf : H.isFn = true) (he : e.n0 ≤ H.nx) (hsl : DsR e H sv d) (hc : checkB d = true) (hrec : recB r = true) : EC Tb0 sp e 62 [sv, recV r] H fun v H' => ∃ v' z, v = .tuple #[v', vN z] ∧ Kept H H' ∧ ResR 4 H.nx H' v' z (rewriteI d r) := by
  refine EC.intro (fn := Tryz.f62) (c := rew_body) (S.no 62 (by decide) _ _) (by rfl) rew_some rew_comp (by show 2 ≤ 33; decide) ?_
  have g0 : (enterT Tryz.f62 [sv, recV r]).get 0 = sv := by rw [enterT_get (by show 2 ≤ 33; decide) (by show 0 < 33; decide)]; rfl
  have g1 : (enterT Tryz.f62 [sv, recV r]).get 1 = recV r := by rw [enterT_get (by show 2 ≤ 33; decide) (by show 1 < 33; decide)]; rfl
  revert g0 g1
  generalize enterT Tryz.f62 [sv, recV r] = t0
  intro g0 g1
  show WK Tb0 sp e ⟨6, 33, none, false⟩ rew_k t0 [] H _
  unfold rew_k
  have h64 := len64 hc
  have hlen : d.length < 4611686018427387904 := by omega
  obtain ⟨H1, hB⟩ := boxed e hf 77 [vS r.1, vS r.2]
  have hbox := hB.box
  have q4 : H.nx ≤ H1.nx := hB.kept.nx
  have hf1 := hB.kept.fn
  have he1 : e.n0 ≤ H1.nx := by omega
  have hsl1 : DsR e H1 sv d := hsl.later hB.kept.old
  have q6 : exLdN 2 (.pointer (some ⟨H.nx, 0, none⟩)) H1 = .val (recV r) H1 (bit H.nx) 0 := exLdN_row (k := 2) (o := 0) hB.row (Nat.le_refl _)
  have q5 : e.ok (bit H.nx) 0 H1 := .fresh hB.row.lt he
  refine WK.seq (WK.reg_gg (fun t' H' => t'.get 0 = sv ∧ t'.get 3 = .pointer (some ⟨H.nx, 0, none⟩) ∧ H' = H1) ?_ ?_)
  · simp (config := { maxSteps := 1000000 }) only [rew_r0, WOR, WOG, WOC, WOGk, WOCk, wants_none', wants_some, wantsV_U, wantsV_tt, wantsV_tf, wantsV_ft, wantsV_ff, run, evalO_tmp, evalO_const, evalO_func, evalL, callV_func, Rv_eq, Ro_some, ok_zero, true_and, and_true, get_putT (d := 6), exLen_str, binV_geq, binV_leq, binV_lss, binV_gtr, exEq_int, exEq_str, exPick_t, exPick_f, Bool.not_true, Bool.not_false, Bc_t, Bc_f, Nat.reducePow, Nat.reduceLT, Nat.reduceEqDiff, Nat.reduceAdd, if_false, reduceIte, and_self, exFa_ptr, putT_none, Nat.zero_add, Nat.add_zero, Nat.le_refl, exUn_not, g0, g1, hbox, q4]
  rintro t1 H1' ⟨g0, g3, rfl⟩
  refine WK.seq (WK.seq (WK.reg_gg (fun t' H' => t'.get 0 = sv ∧ t'.get 3 = .pointer (some ⟨H.nx, 0, none⟩) ∧ t'.get 6 = vN 0 ∧ Kept H1' H') ?_ ?_))
  · simp (config := { maxSteps := 1000000 }) only [rew_r1, WOR, WOG, WOC, WOGk, WOCk, wants_none', wants_some, wantsV_U, wantsV_tt, wantsV_tf, wantsV_ft, wantsV_ff, run, evalO_tmp, evalO_const, evalO_func, evalL, callV_func, Rv_eq, Ro_some, ok_zero, true_and, and_true, get_putT (d := 6), exLen_str, binV_geq, binV_leq, binV_lss, binV_gtr, exEq_int, exEq_str, exPick_t, exPick_f, Bool.not_true, Bool.not_false, Bc_t, Bc_f, Nat.reducePow, Nat.reduceLT, Nat.reduceEqDiff, Nat.reduceAdd, if_false, reduceIte, and_self, exFa_ptr, putT_none, Nat.zero_add, Nat.add_zero, Nat.le_refl, exUn_not, g0, g3, q6, q5]
    refine (isr_ok (S.no 116 (by decide)) (S.no 119 (by decide)) (S.no 157 (by decide)) hf1 he1 r).mono fun v H2 _ hv => ?_
    obtain ⟨rfl, hk2⟩ := hv
    rw [hrec]
    simp (config := { maxSteps := 1000000 }) only [g0, WOR, WOG, WOC, WOGk, WOCk, wants_none', wants_some, wantsV_U, wantsV_tt, wantsV_tf, wantsV_ft, wantsV_ff, run, evalO_tmp, evalO_const, evalO_func, evalL, callV_func, Rv_eq, Ro_some, ok_zero, true_and, and_true, get_putT (d := 6), exLen_str, binV_geq, binV_leq, binV_lss, binV_gtr, exEq_int, exEq_str, exPick_t, exPick_f, Bool.not_true, Bool.not_false, Bc_t, Bc_f, Nat.reducePow, Nat.reduceLT, Nat.reduceEqDiff, Nat.reduceAdd, if_false, reduceIte, and_self, exFa_ptr, putT_none, Nat.zero_add, Nat.add_zero, Nat.le_refl, exUn_not, g3]
    refine (ask_ok (is := true) (S.no 115 (by decide)) (S.no 83 (by decide)) (S.no 116 (by decide)) (S.no 119 (by decide)) (S.no 157 (by decide)) hk2.fn (by have := hk2.nx; omega) (hsl1.later hk2.old) hlen).mono fun v H3 _ hv => ?_
    obtain ⟨rfl, hk3⟩ := hv
    have ha : askV d true = 0 := by unfold askV; rw [hc]; rfl
    rw [ha]
    simp (config := { maxSteps := 1000000 }) only [g0, WOR, WOG, WOC, WOGk, WOCk, wants_none', wants_some, wantsV_U, wantsV_tt, wantsV_tf, wantsV_ft, wantsV_ff, run, evalO_tmp, evalO_const, evalO_func, evalL, callV_func, Rv_eq, Ro_some, ok_zero, true_and, and_true, get_putT (d := 6), exLen_str, binV_geq, binV_leq, binV_lss, binV_gtr, exEq_int, exEq_str, exPick_t, exPick_f, Bool.not_true, Bool.not_false, Bc_t, Bc_f, Nat.reducePow, Nat.reduceLT, Nat.reduceEqDiff, Nat.reduceAdd, if_false, reduceIte, and_self, exFa_ptr, putT_none, Nat.zero_add, Nat.add_zero, Nat.le_refl, exUn_not, g3]
    exact hk2.trans hk3
  rintro t2 H2 ⟨g0, g3, g6, hk2⟩
  refine WK.seq (WK.reg_rr (fun t' => t'.get 0 = sv ∧ t'.get 3 = .pointer (some ⟨H.nx, 0, none⟩) ∧ t'.get 15 = .bool false) ?_ ?_)
  · simp (config := { maxSteps := 1000000 }) only [rew_r2, WOR, WOG, WOC, WOGk, WOCk, wants_none', wants_some, wantsV_U, wantsV_tt, wantsV_tf, wantsV_ft, wantsV_ff, run, evalO_tmp, evalO_const, evalO_func, evalL, callV_func, Rv_eq, Ro_some, ok_zero, true_and, and_true, get_putT (d := 6), exLen_str, binV_geq, binV_leq, binV_lss, binV_gtr, exEq_int, exEq_str, exPick_t, exPick_f, Bool.not_true, Bool.not_false, Bc_t, Bc_f, Nat.reducePow, Nat.reduceLT, Nat.reduceEqDiff, Nat.reduceAdd, if_false, reduceIte, and_self, exFa_ptr, putT_none, Nat.zero_add, Nat.add_zero, Nat.le_refl, exUn_not, g0, g3, g6]
    all_goals first | rfl | trivial
  rintro t3 ⟨g0, g3, g14⟩
  refine WK.cond (v := false) (by rw [evalO_tmp, g14]; rfl) (WK.skip ?_)
  show WK Tb0 sp e ⟨6, 33, none, false⟩ _ t3 [] H2 _
  have r2 := hB.row.of_blk (hk2.old _ hB.row.lt)
  have p1 : exLd1 (.pointer (some ⟨H.nx, 0, none⟩)) H2 = .val (vS r.1) H2 (bit H.nx) 0 := exLd1_row r2 rfl
  have p2 : e.ok (bit H.nx) 0 H2 := .fresh r2.lt he
  have hk02 := hB.kept.trans hk2
  refine WK.seq (WK.reg_gg (fun t' H' => t'.get 0 = sv ∧ t'.get 3 = .pointer (some ⟨H.nx, 0, none⟩) ∧ t'.get 7 = vN (pos d r.1) ∧ t'.get 8 = .bool (isAt d r.1) ∧ Kept H2 H') ?_ ?_)
  · simp (config := { maxSteps := 1000000 }) only [rew_r4, WOR, WOG, WOC, WOGk, WOCk, wants_none', wants_some, wantsV_U, wantsV_tt, wantsV_tf, wantsV_ft, wantsV_ff, run, evalO_tmp, evalO_const, evalO_func, evalL, callV_func, Rv_eq, Ro_some, ok_zero, true_and, and_true, get_putT (d := 6), exLen_str, binV_geq, binV_leq, binV_lss, binV_gtr, exEq_int, exEq_str, exPick_t, exPick_f, Bool.not_true, Bool.not_false, Bc_t, Bc_f, Nat.reducePow, Nat.reduceLT, Nat.reduceEqDiff, Nat.reduceAdd, if_false, reduceIte, and_self, exFa_ptr, putT_none, Nat.zero_add, Nat.add_zero, Nat.le_refl, exUn_not, g0, g3, p1, p2]
    refine (at_ok (k := r.1) (S.no 117 (by decide)) (S.no 158 (by decide)) (S.no 159 (by decide)) hk2.fn (by have := hk02.nx; omega) (hsl.later hk02.old) hlen).mono fun v H3 _ hv => ?_
    obtain ⟨rfl, hk3⟩ := hv
    have hx0 := fun H => exExt_tup [vN (pos d r.1), .bool (isAt d r.1)] 0 _ rfl H
    have hx1 := fun H => exExt_tup [vN (pos d r.1), .bool (isAt d r.1)] 1 _ rfl H
    simp (config := { maxSteps := 1000000 }) only [hx0, WOR, WOG, WOC, WOGk, WOCk, wants_none', wants_some, wantsV_U, wantsV_tt, wantsV_tf, wantsV_ft, wantsV_ff, run, evalO_tmp, evalO_const, evalO_func, evalL, callV_func, Rv_eq, Ro_some, ok_zero, true_and, and_true, get_putT (d := 6), exLen_str, binV_geq, binV_leq, binV_lss, binV_gtr, exEq_int, exEq_str, exPick_t, exPick_f, Bool.not_true, Bool.not_false, Bc_t, Bc_f, Nat.reducePow, Nat.reduceLT, Nat.reduceEqDiff, Nat.reduceAdd, if_false, reduceIte, and_self, exFa_ptr, putT_none, Nat.zero_add, Nat.add_zero, Nat.le_refl, exUn_not, hx1, g0, g3]
    exact hk3
  rintro t4 H3 ⟨g0, g3, g7, g8, hk3⟩
  have hk03 := hk02.trans hk3
  have hf3 := hk03.fn
  have hsl3 : DsR e H3 sv d := hsl.later hk03.old
  have he3 : e.n0 ≤ H3.nx := by have := hk03.nx; omega
  have r3 := r2.of_blk (hk3.old _ r2.lt)
  have p3 : exLdN 2 (.pointer (some ⟨H.nx, 0, none⟩)) H3 = .val (recV r) H3 (bit H.nx) 0 := exLdN_row (k := 2) (o := 0) r3 (Nat.le_refl _)
  have p4 : e.ok (bit H.nx) 0 H3 := .fresh r3.lt he
  refine WK.seq (WK.seq (WK.reg_rr (fun t' => t'.get 0 = sv ∧ t'.get 3 = .pointer (some ⟨H.nx, 0, none⟩) ∧ t'.get 7 = vN (pos d r.1) ∧ t'.get 25 = .bool (!isAt d r.1)) ?_ ?_))
  · simp (config := { maxSteps := 1000000 }) only [rew_r5, WOR, WOG, WOC, WOGk, WOCk, wants_none', wants_some, wantsV_U, wantsV_tt, wantsV_tf, wantsV_ft, wantsV_ff, run, evalO_tmp, evalO_const, evalO_func, evalL, callV_func, Rv_eq, Ro_some, ok_zero, true_and, and_true, get_putT (d := 6), exLen_str, binV_geq, binV_leq, binV_lss, binV_gtr, exEq_int, exEq_str, exPick_t, exPick_f, Bool.not_true, Bool.not_false, Bc_t, Bc_f, Nat.reducePow, Nat.reduceLT, Nat.reduceEqDiff, Nat.reduceAdd, if_false, reduceIte, and_self, exFa_ptr, putT_none, Nat.zero_add, Nat.add_zero, Nat.le_refl, exUn_not, g0, g3, g7, g8]
  rintro t5 ⟨g0, g3, g7, g25⟩
  cases hat : isAt d r.1 with
  | false =>
    rw [hat] at g25
    refine WK.cond (v := true) (by rw [evalO_tmp, g25]; rfl) (WK.seq (WK.reg_rr (fun t' => t'.get 4 = .slice none 0 0 ∧ t'.get 5 = vN 4) ?_ ?_))
    · simp (config := { maxSteps := 1000000 }) only [rew_r6, WOR, WOG, WOC, WOGk, WOCk, wants_none', wants_some, wantsV_U, wantsV_tt, wantsV_tf, wantsV_ft, wantsV_ff, run, evalO_tmp, evalO_const, evalO_func, evalL, callV_func, Rv_eq, Ro_some, ok_zero, true_and, and_true, get_putT (d := 6), exLen_str, binV_geq, binV_leq, binV_lss, binV_gtr, exEq_int, exEq_str, exPick_t, exPick_f, Bool.not_true, Bool.not_false, Bc_t, Bc_f, Nat.reducePow, Nat.reduceLT, Nat.reduceEqDiff, Nat.reduceAdd, if_false, reduceIte, and_self, exFa_ptr, putT_none, Nat.zero_add, Nat.add_zero, Nat.le_refl, exUn_not]
      all_goals first | rfl | trivial
    rintro t6 ⟨h4, h5⟩
    refine WK.ret ⟨.inr rfl, rfl, [.slice none 0 0, vN 4], 0, ?_, .zero _ _, _, 4, rfl, hk03, by unfold rewriteI; rw [hat]; rfl⟩
    show resL Tb0 33 t6 _ [.tmp 4, .tmp 5] = _
    simp only [resL, h4, h5]; rfl
  | true =>
  rw [hat] at g25
  refine WK.cond (v := false) (by rw [evalO_tmp, g25]; rfl) (WK.skip ?_)
  show WK Tb0 sp e ⟨6, 33, none, false⟩ _ t5 [] H3 _
  have hpl := pos_lt hat
  have hw : rewriteI d r = some (d.set (pos d r.1) r) := by unfold rewriteI; rw [hat]; rfl
  refine WK.seq (WK.reg_gg (fun t' H' => t'.get 3 = .pointer (some ⟨H.nx, 0, none⟩) ∧ t'.get 7 = vN (pos d r.1) ∧ Kept H3 H' ∧ ∃ b, t'.get 9 = .slice (some ⟨b, 0, none⟩) d.length (2 * d.length + 1) ∧ H3.nx ≤ b ∧ Row H' b 77 3 (recsL d)) ?_ ?_)
  · simp (config := { maxSteps := 1000000 }) only [rew_r7, WOR, WOG, WOC, WOGk, WOCk, wants_none', wants_some, wantsV_U, wantsV_tt, wantsV_tf, wantsV_ft, wantsV_ff, run, evalO_tmp, evalO_const, evalO_func, evalL, callV_func, Rv_eq, Ro_some, ok_zero, true_and, and_true, get_putT (d := 6), exLen_str, binV_geq, binV_leq, binV_lss, binV_gtr, exEq_int, exEq_str, exPick_t, exPick_f, Bool.not_true, Bool.not_false, Bc_t, Bc_f, Nat.reducePow, Nat.reduceLT, Nat.reduceEqDiff, Nat.reduceAdd, if_false, reduceIte, and_self, exFa_ptr, putT_none, Nat.zero_add, Nat.add_zero, Nat.le_refl, exUn_not, g0, g3, g7]
    refine (clR_ok S hf3 he3 hsl3 (by omega)).mono fun v H4 _ hv => ?_
    obtain ⟨hk4, hcl⟩ := hv
    rcases hcl.own with ⟨_, rfl⟩ | ⟨b, op, c, ho, _, hop⟩
    · simp at hpl
    obtain ⟨rfl, rfl⟩ := hop (by omega)
    have hval := ho.val
    subst hval
    simp (config := { maxSteps := 1000000 }) only [g3, WOR, WOG, WOC, WOGk, WOCk, wants_none', wants_some, wantsV_U, wantsV_tt, wantsV_tf, wantsV_ft, wantsV_ff, run, evalO_tmp, evalO_const, evalO_func, evalL, callV_func, Rv_eq, Ro_some, ok_zero, true_and, and_true, get_putT (d := 6), exLen_str, binV_geq, binV_leq, binV_lss, binV_gtr, exEq_int, exEq_str, exPick_t, exPick_f, Bool.not_true, Bool.not_false, Bc_t, Bc_f, Nat.reducePow, Nat.reduceLT, Nat.reduceEqDiff, Nat.reduceAdd, if_false, reduceIte, and_self, exFa_ptr, putT_none, Nat.zero_add, Nat.add_zero, Nat.le_refl, exUn_not, g7]
    exact ⟨hk4, b, rfl, ho.ge, ho.row⟩
  rintro t6 H4 ⟨g3, g7, hk4, b, g9, hb, hrow⟩
  have r4 := r3.of_blk (hk4.old _ r3.lt)
  have p5 : exLdN 2 (.pointer (some ⟨H.nx, 0, none⟩)) H4 = .val (recV r) H4 (bit H.nx) 0 := exLdN_row (k := 2) (o := 0) r4 (Nat.le_refl _)
  have p6 : e.ok (bit H.nx) 0 H4 := .fresh r4.lt he
  have hia : exIaS 2 (.slice (some ⟨b, 0, none⟩) d.length (2 * d.length + 1)) (vN (pos d r.1)) H4 = .val (.pointer (some ⟨b, pos d r.1 * 2, none⟩)) H4 0 0 := by
    rw [exIaS_int (by omega) (by omega)]; simp
  obtain ⟨H5, a1, a2, a3, a4, a5⟩ := exSt_at (vs := [vS r.1, vS r.2]) (o := pos d r.1 * 2) hk4.fn hrow (by rw [recsL_len]; show _ + 2 ≤ _; omega)
  rw [set_recs r hpl] at a2
  have qw : e.ok 0 (bit b) H5 := .write a2.lt fun h => absurd h (by omega)
  have n5 : H4.nx ≤ H5.nx := by omega
  simp only [List.length_cons, List.length_nil] at a1
  refine WK.seq (WK.reg_gg (fun t' H' => t'.get 9 = .slice (some ⟨b, 0, none⟩) d.length (2 * d.length + 1) ∧ H' = H5) ?_ ?_)
  · simp (config := { maxSteps := 1000000 }) only [rew_r8, WOR, WOG, WOC, WOGk, WOCk, wants_none', wants_some, wantsV_U, wantsV_tt, wantsV_tf, wantsV_ft, wantsV_ff, run, evalO_tmp, evalO_const, evalO_func, evalL, callV_func, Rv_eq, Ro_some, ok_zero, true_and, and_true, get_putT (d := 6), exLen_str, binV_geq, binV_leq, binV_lss, binV_gtr, exEq_int, exEq_str, exPick_t, exPick_f, Bool.not_true, Bool.not_false, Bc_t, Bc_f, Nat.reducePow, Nat.reduceLT, Nat.reduceEqDiff, Nat.reduceAdd, if_false, reduceIte, and_self, exFa_ptr, putT_none, Nat.zero_add, Nat.add_zero, Nat.le_refl, exUn_not, g3, g7, g9, p5, p6, hia, a1, qw, n5]
  rintro t7 H5' ⟨g9, rfl⟩
  refine WK.seq (WK.reg_rr (fun t' => t'.get 4 = .slice (some ⟨b, 0, none⟩) d.length (2 * d.length + 1) ∧ t'.get 5 = vN 0) ?_ ?_)
  · simp (config := { maxSteps := 1000000 }) only [rew_r9, WOR, WOG, WOC, WOGk, WOCk, wants_none', wants_some, wantsV_U, wantsV_tt, wantsV_tf, wantsV_ft, wantsV_ff, run, evalO_tmp, evalO_const, evalO_func, evalL, callV_func, Rv_eq, Ro_some, ok_zero, true_and, and_true, get_putT (d := 6), exLen_str, binV_geq, binV_leq, binV_lss, binV_gtr, exEq_int, exEq_str, exPick_t, exPick_f, Bool.not_true, Bool.not_false, Bc_t, Bc_f, Nat.reducePow, Nat.reduceLT, Nat.reduceEqDiff, Nat.reduceAdd, if_false, reduceIte, and_self, exFa_ptr, putT_none, Nat.zero_add, Nat.add_zero, Nat.le_refl, exUn_not, g9]
    all_goals first | rfl | trivial
  rintro t8 ⟨h4, h5⟩
  have hds : DsR (envN H.nx) H5' (.slice (some ⟨b, 0, none⟩) d.length (2 * d.length + 1)) (d.set (pos d r.1) r) := by
    have := row_dsR (e := envN H.nx) (c := 2 * d.length + 1) a2 hb hk03.nx
    rwa [List.length_set] at this
  have hk5 : Kept H3 H5' := ⟨a4, by have := hk4.nx; omega, fun c hc => (a5 c (by omega)).trans (hk4.old c hc)⟩
  refine WK.ret ⟨.inr rfl, rfl, [.slice (some ⟨b, 0, none⟩) d.length (2 * d.length + 1), vN 0], 0, ?_, .zero _ _, _, 0, rfl, hk03.trans hk5, by rw [hw]; exact ⟨rfl, hds⟩⟩
  show resL Tb0 33 t8 _ [.tmp 4, .tmp 5] = _
  simp only [resL, h4, h5]; rfl
set_option maxRecDepth 10000 in
set_option maxHeartbeats 4000000 in
theorem del_ok (S : SpK sp) {H : Hp} {sv : Value} {d : DS} {k : Str} (hf : H.isFn = true) (he : e.n0 ≤ H.nx) (hsl : DsR e H sv d) (hc : checkB d = true) (hrec : keyB k = true) : EC Tb0 sp e 64 [sv, vS k] H fun v H' => ∃ v' z, v = .tuple #[v', vN z] ∧ Kept H H' ∧ ResR 4 H.nx H' v' z (deleteI d k) := by
  refine EC.intro (fn := Tryz.f64) (c := del_body) (S.no 64 (by decide) _ _) (by rfl) del_some del_comp (by show 2 ≤ 30; decide) ?_
  have g0 : (enterT Tryz.f64 [sv, vS k]).get 0 = sv := by rw [enterT_get (by show 2 ≤ 30; decide) (by show 0 < 30; decide)]; rfl
  have g1 : (enterT Tryz.f64 [sv, vS k]).get 1 = vS k := by rw [enterT_get (by show 2 ≤ 30; decide) (by show 1 < 30; decide)]; rfl
  revert g0 g1
  generalize enterT Tryz.f64 [sv, vS k] = t0
  intro g0 g1
  show WK Tb0 sp e ⟨5, 30, none, false⟩ del_k t0 [] H _
  unfold del_k
  have h64 := len64 hc
  have hlen : d.length < 4611686018427387904 := by omega
  refine WK.seq (WK.reg_rr (fun t' => t'.get 0 = sv ∧ t'.get 1 = vS k) ?_ ?_)
  · simp (config := { maxSteps := 1000000 }) only [del_r0, WOR, WOG, WOC, WOGk, WOCk, wants_none', wants_some, wantsV_U, wantsV_tt, wantsV_tf, wantsV_ft, wantsV_ff, run, evalO_tmp, evalO_const, evalO_func, evalL, callV_func, Rv_eq, Ro_some, ok_zero, true_and, and_true, get_putT (d := 5), exLen_str, binV_geq, binV_leq, binV_lss, binV_gtr, exEq_int, exEq_str, exPick_t, exPick_f, Bool.not_true, Bool.not_false, Bc_t, Bc_f, Nat.reducePow, Nat.reduceLT, Nat.reduceEqDiff, Nat.reduceAdd, if_false, reduceIte, and_self, exFa_ptr, putT_none, Nat.zero_add, Nat.add_zero, Nat.le_refl, exUn_not, g0, g1]
  rintro t1 ⟨g0, g1⟩
  refine WK.seq (WK.seq (WK.reg_gg (fun t' H' => t'.get 0 = sv ∧ t'.get 1 = vS k ∧ t'.get 6 = vN 0 ∧ Kept H H') ?_ ?_))
  · simp (config := { maxSteps := 1000000 }) only [del_r1, WOR, WOG, WOC, WOGk, WOCk, wants_none', wants_some, wantsV_U, wantsV_tt, wantsV_tf, wantsV_ft, wantsV_ff, run, evalO_tmp, evalO_const, evalO_func, evalL, callV_func, Rv_eq, Ro_some, ok_zero, true_and, and_true, get_putT (d := 5), exLen_str, binV_geq, binV_leq, binV_lss, binV_gtr, exEq_int, exEq_str, exPick_t, exPick_f, Bool.not_true, Bool.not_false, Bc_t, Bc_f, Nat.reducePow, Nat.reduceLT, Nat.reduceEqDiff, Nat.reduceAdd, if_false, reduceIte, and_self, exFa_ptr, putT_none, Nat.zero_add, Nat.add_zero, Nat.le_refl, exUn_not, g0, g1]
    refine (isk_ok (S.no 119 (by decide)) k).mono fun v H2 _ hv => ?_
    obtain ⟨rfl, rfl⟩ := hv
    rw [hrec]
    simp (config := { maxSteps := 1000000 }) only [g0, WOR, WOG, WOC, WOGk, WOCk, wants_none', wants_some, wantsV_U, wantsV_tt, wantsV_tf, wantsV_ft, wantsV_ff, run, evalO_tmp, evalO_const, evalO_func, evalL, callV_func, Rv_eq, Ro_some, ok_zero, true_and, and_true, get_putT (d := 5), exLen_str, binV_geq, binV_leq, binV_lss, binV_gtr, exEq_int, exEq_str, exPick_t, exPick_f, Bool.not_true, Bool.not_false, Bc_t, Bc_f, Nat.reducePow, Nat.reduceLT, Nat.reduceEqDiff, Nat.reduceAdd, if_false, reduceIte, and_self, exFa_ptr, putT_none, Nat.zero_add, Nat.add_zero, Nat.le_refl, exUn_not, g1]
    refine (ask_ok (is := true) (S.no 115 (by decide)) (S.no 83 (by decide)) (S.no 116 (by decide)) (S.no 119 (by decide)) (S.no 157 (by decide)) hf he hsl hlen).mono fun v H3 _ hv => ?_
    obtain ⟨rfl, hk3⟩ := hv
    have ha : askV d true = 0 := by unfold askV; rw [hc]; rfl
    rw [ha]
    simp (config := { maxSteps := 1000000 }) only [g0, WOR, WOG, WOC, WOGk, WOCk, wants_none', wants_some, wantsV_U, wantsV_tt, wantsV_tf, wantsV_ft, wantsV_ff, run, evalO_tmp, evalO_const, evalO_func, evalL, callV_func, Rv_eq, Ro_some, ok_zero, true_and, and_true, get_putT (d := 5), exLen_str, binV_geq, binV_leq, binV_lss, binV_gtr, exEq_int, exEq_str, exPick_t, exPick_f, Bool.not_true, Bool.not_false, Bc_t, Bc_f, Nat.reducePow, Nat.reduceLT, Nat.reduceEqDiff, Nat.reduceAdd, if_false, reduceIte, and_self, exFa_ptr, putT_none, Nat.zero_add, Nat.add_zero, Nat.le_refl, exUn_not, g1]
    exact hk3
  rintro t2 H2 ⟨g0, g1, g6, hk2⟩
  refine WK.seq (WK.reg_rr (fun t' => t'.get 0 = sv ∧ t'.get 1 = vS k ∧ t'.get 14 = .bool false) ?_ ?_)
  · simp (config := { maxSteps := 1000000 }) only [del_r2, WOR, WOG, WOC, WOGk, WOCk, wants_none', wants_some, wantsV_U, wantsV_tt, wantsV_tf, wantsV_ft, wantsV_ff, run, evalO_tmp, evalO_const, evalO_func, evalL, callV_func, Rv_eq, Ro_some, ok_zero, true_and, and_true, get_putT (d := 5), exLen_str, binV_geq, binV_leq, binV_lss, binV_gtr, exEq_int, exEq_str, exPick_t, exPick_f, Bool.not_true, Bool.not_false, Bc_t, Bc_f, Nat.reducePow, Nat.reduceLT, Nat.reduceEqDiff, Nat.reduceAdd, if_false, reduceIte, and_self, exFa_ptr, putT_none, Nat.zero_add, Nat.add_zero, Nat.le_refl, exUn_not, g0, g1, g6]
    all_goals first | rfl | trivial
  rintro t3 ⟨g0, g1, g14⟩
  refine WK.cond (v := false) (by rw [evalO_tmp, g14]; rfl) (WK.skip ?_)
  show WK Tb0 sp e ⟨5, 30, none, false⟩ _ t3 [] H2 _
  have hk02 := hk2
  refine WK.seq (WK.reg_gg (fun t' H' => t'.get 0 = sv ∧ t'.get 1 = vS k ∧ t'.get 7 = vN (pos d k) ∧ t'.get 8 = .bool (isAt d k) ∧ Kept H2 H') ?_ ?_)
  · simp (config := { maxSteps := 1000000 }) only [del_r4, WOR, WOG, WOC, WOGk, WOCk, wants_none', wants_some, wantsV_U, wantsV_tt, wantsV_tf, wantsV_ft, wantsV_ff, run, evalO_tmp, evalO_const, evalO_func, evalL, callV_func, Rv_eq, Ro_some, ok_zero, true_and, and_true, get_putT (d := 5), exLen_str, binV_geq, binV_leq, binV_lss, binV_gtr, exEq_int, exEq_str, exPick_t, exPick_f, Bool.not_true, Bool.not_false, Bc_t, Bc_f, Nat.reducePow, Nat.reduceLT, Nat.reduceEqDiff, Nat.reduceAdd, if_false, reduceIte, and_self, exFa_ptr, putT_none, Nat.zero_add, Nat.add_zero, Nat.le_refl, exUn_not, g0, g1]
    refine (at_ok (k := k) (S.no 117 (by decide)) (S.no 158 (by decide)) (S.no 159 (by decide)) hk2.fn (by have := hk02.nx; omega) (hsl.later hk02.old) hlen).mono fun v H3 _ hv => ?_
    obtain ⟨rfl, hk3⟩ := hv
    have hx0 := fun H => exExt_tup [vN (pos d k), .bool (isAt d k)] 0 _ rfl H
    have hx1 := fun H => exExt_tup [vN (pos d k), .bool (isAt d k)] 1 _ rfl H
    simp (config := { maxSteps := 1000000 }) only [hx0, WOR, WOG, WOC, WOGk, WOCk, wants_none', wants_some, wantsV_U, wantsV_tt, wantsV_tf, wantsV_ft, wantsV_ff, run, evalO_tmp, evalO_const, evalO_func, evalL, callV_func, Rv_eq, Ro_some, ok_zero, true_and, and_true, get_putT (d := 5), exLen_str, binV_geq, binV_leq, binV_lss, binV_gtr, exEq_int, exEq_str, exPick_t, exPick_f, Bool.not_true, Bool.not_false, Bc_t, Bc_f, Nat.reducePow, Nat.reduceLT, Nat.reduceEqDiff, Nat.reduceAdd, if_false, reduceIte, and_self, exFa_ptr, putT_none, Nat.zero_add, Nat.add_zero, Nat.le_refl, exUn_not, hx1, g0, g1]
    exact hk3
  rintro t4 H3 ⟨g0, g1, g7, g8, hk3⟩
  have hk03 := hk02.trans hk3
  have hf3 := hk03.fn
  have hsl3 : DsR e H3 sv d := hsl.later hk03.old
  have he3 : e.n0 ≤ H3.nx := by have := hk03.nx; omega
  refine WK.seq (WK.seq (WK.reg_rr (fun t' => t'.get 0 = sv ∧ t'.get 7 = vN (pos d k) ∧ t'.get 23 = .bool (!isAt d k)) ?_ ?_))
  · simp (config := { maxSteps := 1000000 }) only [del_r5, WOR, WOG, WOC, WOGk, WOCk, wants_none', wants_some, wantsV_U, wantsV_tt, wantsV_tf, wantsV_ft, wantsV_ff, run, evalO_tmp, evalO_const, evalO_func, evalL, callV_func, Rv_eq, Ro_some, ok_zero, true_and, and_true, get_putT (d := 5), exLen_str, binV_geq, binV_leq, binV_lss, binV_gtr, exEq_int, exEq_str, exPick_t, exPick_f, Bool.not_true, Bool.not_false, Bc_t, Bc_f, Nat.reducePow, Nat.reduceLT, Nat.reduceEqDiff, Nat.reduceAdd, if_false, reduceIte, and_self, exFa_ptr, putT_none, Nat.zero_add, Nat.add_zero, Nat.le_refl, exUn_not, g0, g7, g8]
  rintro t5 ⟨g0, g7, g25⟩
  cases hat : isAt d k with
  | false =>
    rw [hat] at g25
    refine WK.cond (v := true) (by rw [evalO_tmp, g25]; rfl) (WK.seq (WK.reg_rr (fun t' => t'.get 4 = .slice none 0 0 ∧ t'.get 5 = vN 4) ?_ ?_))
    · simp (config := { maxSteps := 1000000 }) only [del_r6, WOR, WOG, WOC, WOGk, WOCk, wants_none', wants_some, wantsV_U, wantsV_tt, wantsV_tf, wantsV_ft, wantsV_ff, run, evalO_tmp, evalO_const, evalO_func, evalL, callV_func, Rv_eq, Ro_some, ok_zero, true_and, and_true, get_putT (d := 5), exLen_str, binV_geq, binV_leq, binV_lss, binV_gtr, exEq_int, exEq_str, exPick_t, exPick_f, Bool.not_true, Bool.not_false, Bc_t, Bc_f, Nat.reducePow, Nat.reduceLT, Nat.reduceEqDiff, Nat.reduceAdd, if_false, reduceIte, and_self, exFa_ptr, putT_none, Nat.zero_add, Nat.add_zero, Nat.le_refl, exUn_not]
      all_goals first | rfl | trivial
    rintro t6 ⟨h4, h5⟩
    refine WK.ret ⟨.inr rfl, rfl, [.slice none 0 0, vN 4], 0, ?_, .zero _ _, _, 4, rfl, hk03, by unfold deleteI; rw [hat]; rfl⟩
    show resL Tb0 30 t6 _ [.tmp 4, .tmp 5] = _
    simp only [resL, h4, h5]; rfl
  | true =>
  rw [hat] at g25
  refine WK.cond (v := false) (by rw [evalO_tmp, g25]; rfl) (WK.skip ?_)
  show WK Tb0 sp e ⟨5, 30, none, false⟩ _ t5 [] H3 _
  have hpl := pos_lt hat
  have hw : deleteI d k = some (d.eraseIdx (pos d k)) := by unfold deleteI; rw [hat]; rfl
  have hwr : wrapF .i64 ((pos d k : Int) + 1) = ((pos d k + 1 : Nat) : Int) := by rw [wrapF_i64 (by omega) (by omega)]; omega
  refine WK.seq (WK.reg_gg (fun t' H' => t'.get 5 = vN 0 ∧ ∃ v', t'.get 4 = v' ∧ Kept H3 H' ∧ DsR (envN H.nx) H' v' (d.eraseIdx (pos d k))) ?_ ?_)
  · simp (config := { maxSteps := 1000000 }) only [del_r7, WOR, WOG, WOC, WOGk, WOCk, wants_none', wants_some, wantsV_U, wantsV_tt, wantsV_tf, wantsV_ft, wantsV_ff, run, evalO_tmp, evalO_const, evalO_func, evalL, callV_func, Rv_eq, Ro_some, ok_zero, true_and, and_true, get_putT (d := 5), exLen_str, binV_geq, binV_leq, binV_lss, binV_gtr, exEq_int, exEq_str, exPick_t, exPick_f, Bool.not_true, Bool.not_false, Bc_t, Bc_f, Nat.reducePow, Nat.reduceLT, Nat.reduceEqDiff, Nat.reduceAdd, if_false, reduceIte, and_self, exFa_ptr, putT_none, Nat.zero_add, Nat.add_zero, Nat.le_refl, exUn_not, g0, g7]
    refine (clR_ok S hf3 he3 hsl3 (by omega)).mono fun v H4 _ hv => ?_
    obtain ⟨hk4, hcl⟩ := hv
    simp (config := { maxSteps := 1000000 }) only [g7, WOR, WOG, WOC, WOGk, WOCk, wants_none', wants_some, wantsV_U, wantsV_tt, wantsV_tf, wantsV_ft, wantsV_ff, run, evalO_tmp, evalO_const, evalO_func, evalL, callV_func, Rv_eq, Ro_some, ok_zero, true_and, and_true, get_putT (d := 5), exLen_str, binV_geq, binV_leq, binV_lss, binV_gtr, exEq_int, exEq_str, exPick_t, exPick_f, Bool.not_true, Bool.not_false, Bc_t, Bc_f, Nat.reducePow, Nat.reduceLT, Nat.reduceEqDiff, Nat.reduceAdd, if_false, reduceIte, and_self, exFa_ptr, putT_none, Nat.zero_add, Nat.add_zero, Nat.le_refl, exUn_not, binV_add, hwr]
    refine (del_ec (N := H3.nx) S hk4.fn hk4.nx hcl hpl (by omega) (fun b hb hN _ => absurd hb (by omega))).mono fun v' H5 _ hA => ?_
    simp (config := { maxSteps := 1000000 }) only [g7, WOR, WOG, WOC, WOGk, WOCk, wants_none', wants_some, wantsV_U, wantsV_tt, wantsV_tf, wantsV_ft, wantsV_ff, run, evalO_tmp, evalO_const, evalO_func, evalL, callV_func, Rv_eq, Ro_some, ok_zero, true_and, and_true, get_putT (d := 5), exLen_str, binV_geq, binV_leq, binV_lss, binV_gtr, exEq_int, exEq_str, exPick_t, exPick_f, Bool.not_true, Bool.not_false, Bc_t, Bc_f, Nat.reducePow, Nat.reduceLT, Nat.reduceEqDiff, Nat.reduceAdd, if_false, reduceIte, and_self, exFa_ptr, putT_none, Nat.zero_add, Nat.add_zero, Nat.le_refl, exUn_not]
    exact ⟨_, rfl, hA.kept hk4 (Nat.le_refl _), hA.dsR (by show H.nx ≤ H3.nx; exact hk03.nx)⟩
  rintro t6 H6 ⟨h5, v', h4, hk6, hds⟩
  refine WK.ret ⟨.inr rfl, rfl, [v', vN 0], 0, ?_, .zero _ _, v', 0, rfl, hk03.trans hk6, by rw [hw]; exact ⟨rfl, hds⟩⟩
  show resL Tb0 30 t6 _ [.tmp 4, .tmp 5] = _
  simp only [resL, h4, h5]; rfl
end
end Go.Proofs.RS
end
