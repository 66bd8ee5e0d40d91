/-
  A part of the proof that pliantlaw15.RtsReads returns true and leaves its arguments alone. Conditions: those of the card in the last text.
-/
import Derived.Test.YtgdejggelcpokaaGreatDoorG15
set_option linter.unusedSimpArgs false
set_option linter.unusedVariables false
set_option linter.unusedSectionVars false

noncomputable section
namespace Go.Proofs.RS
open Go Go.Ev Go.Proofs Go.Ds
theorem zeros_get (t : T Value) : ∀ (k i : Nat), zeros t k i = true → ∀ j, i ≤ j → j < i + k → t.get j = .int .u8 0 := by
  intro k
  induction k with
  | zero => intro i _ j h1 h2; omega
  | succ k ih =>
    intro i h j h1 h2
    unfold zeros at h
    cases hs : sameU8 (t.get i) (.int .u8 0) with
    | false => rw [hs, Bc_f] at h; cases h
    | true =>
      rw [hs, Bc_t] at h
      by_cases e : j = i
      · rw [e]; exact sameU8_eq hs
      · exact ih (i + 1) h j (by omega) (by omega)
section
variable {sp : Nat → List Value → Hp → Option (Value × Hp × Nat × Nat)} {e : Env}
set_option maxRecDepth 10000 in
set_option maxHeartbeats 4000000 in
theorem zero_ok (hs : ∀ args H, sp 153 args H = none) {H : Hp} {b o n c k ty op lo hi : Nat} {t : T Value} (hb : H.blk b = .cells t k ty op lo hi) (hle : o + n ≤ k) (hn : n < 4294967296) (hz : ∀ j, o ≤ j → j < o + n → t.get j = .int .u8 0) (hr : b < e.n0 → e.Rd b) : EC Tb0 sp e 153 [.slice (some ⟨b, o, none⟩) n c] H fun v H' => v = .bool true ∧ H' = H := by
  refine EC.intro (fn := Tryz.f153) (c := zero_body) (hs _ _) (by rfl) zero_some zero_comp (by show 1 ≤ 14; decide) ?_
  have g0 : (enterT Tryz.f153 [.slice (some ⟨b, o, none⟩) n c]).get 0 = .slice (some ⟨b, o, none⟩) n c := by rw [enterT_get (by show 1 ≤ 14; decide) (by show 0 < 14; decide)]; rfl
  revert g0
  generalize enterT Tryz.f153 [.slice (some ⟨b, o, none⟩) n c] = t0
  intro g0
  show WK Tb0 sp e ⟨4, 14, none, false⟩ zero_k t0 [] H _
  unfold zero_k
  have hlt : b < H.nx := ((alive_iff H b).2 (by rw [hb]; simp)).1
  have hok : e.ok (bit b) 0 H := .read hlt hr
  have k0 : exLen 1 (.slice (some ⟨b, o, none⟩) n c) H = .val (vN n) H 0 0 := rfl
  refine WK.seq (WK.reg_rr (fun t' => t'.get 0 = .slice (some ⟨b, o, none⟩) n c) ?_ ?_)
  · simp (config := { maxSteps := 1000000 }) only [zero_r0, g0, WOR, WOG, WOC, WOGk, WOCk, wants_none', wants_some, wantsV_U, wantsV_tt, wantsV_tf, wantsV_ft, wantsV_ff, run, evalO_tmp, evalO_const, evalO_func, evalL, callV_func, Rv_eq, Ro_some, ok_zero, true_and, and_true, get_putT (d := 4), exLen_str, binV_geq, binV_leq, binV_lss, binV_gtr, exEq_int, exEq_str, exPick_t, exPick_f, Bool.not_true, Bool.not_false, Bc_t, Bc_f, Nat.reducePow, Nat.reduceLT, Nat.reduceEqDiff, Nat.reduceAdd, if_false, reduceIte, and_self, exFa_ptr, putT_none, Nat.zero_add, Nat.add_zero, Nat.le_refl, exUn_not]
  intro t1 g0
  refine WK.seq (WK.seq (WK.reg_rr (fun t' => t'.get 5 = .slice (some ⟨b, o, none⟩) n c ∧ t'.get 6 = vN n ∧ t'.get 7 = vN (0 : Nat)) ?_ ?_))
  · simp (config := { maxSteps := 1000000 }) only [zero_r1, g0, k0, WOR, WOG, WOC, WOGk, WOCk, wants_none', wants_some, wantsV_U, wantsV_tt, wantsV_tf, wantsV_ft, wantsV_ff, run, evalO_tmp, evalO_const, evalO_func, evalL, callV_func, Rv_eq, Ro_some, ok_zero, true_and, and_true, get_putT (d := 4), exLen_str, binV_geq, binV_leq, binV_lss, binV_gtr, exEq_int, exEq_str, exPick_t, exPick_f, Bool.not_true, Bool.not_false, Bc_t, Bc_f, Nat.reducePow, Nat.reduceLT, Nat.reduceEqDiff, Nat.reduceAdd, if_false, reduceIte, and_self, exFa_ptr, putT_none, Nat.zero_add, Nat.add_zero, Nat.le_refl, exUn_not]
    rfl
  rintro t2 ⟨g5, g6, g7⟩
  refine WK.block (WK.loop_ind (fun m t' ds' H' => ds' = [] ∧ H' = H ∧ ∃ i : Nat, m = n - i ∧ i ≤ n ∧ t'.get 5 = .slice (some ⟨b, o, none⟩) n c ∧ t'.get 6 = vN n ∧ t'.get 7 = vN i) ?_ n t2 [] H ⟨rfl, rfl, 0, by omega, by omega, g5, g6, g7⟩)
  clear g5 g6 g7
  rintro m t3 ds H3 ⟨rfl, rfl, i, rfl, hi, g5, g6, g7⟩
  unfold zero_l7
  refine WK.seq (WK.reg_rr (fun t' => t'.get 8 = .bool (decide ((i : Int) < (n : Int))) ∧ Lo 8 t3 t') ?_ ?_)
  · simp (config := { maxSteps := 1000000 }) only [zero_r2, g6, g7, WOR, WOG, WOC, WOGk, WOCk, wants_none', wants_some, wantsV_U, wantsV_tt, wantsV_tf, wantsV_ft, wantsV_ff, run, evalO_tmp, evalO_const, evalO_func, evalL, callV_func, Rv_eq, Ro_some, ok_zero, true_and, and_true, get_putT (d := 4), exLen_str, binV_geq, binV_leq, binV_lss, binV_gtr, exEq_int, exEq_str, exPick_t, exPick_f, Bool.not_true, Bool.not_false, Bc_t, Bc_f, Nat.reducePow, Nat.reduceLT, Nat.reduceEqDiff, Nat.reduceAdd, if_false, reduceIte, and_self, exFa_ptr, putT_none, Nat.zero_add, Nat.add_zero, Nat.le_refl, exUn_not]
    intro j hj
    simp (disch := omega) only [putT_lo (d := 4)]
  rintro t4 ⟨h8, hlo⟩
  have f5 := (hlo 5 (by omega)).trans g5
  have f6 := (hlo 6 (by omega)).trans g6
  have f7 := (hlo 7 (by omega)).trans g7
  by_cases hlt' : i < n
  case neg =>
    refine WK.seq (WK.cond (v := false) (by rw [evalO_tmp, h8, decide_eq_false (by omega)]; rfl) (WK.exit ?_))
    show WK Tb0 sp e ⟨4, 14, none, false⟩ _ t4 [] H3 _
    refine WK.seq (WK.reg_rr (fun t' => t'.get 2 = .bool true) ?_ ?_)
    · simp (config := { maxSteps := 1000000 }) only [zero_r8, WOR, WOG, WOC, WOGk, WOCk, wants_none', wants_some, wantsV_U, wantsV_tt, wantsV_tf, wantsV_ft, wantsV_ff, run, evalO_tmp, evalO_const, evalO_func, evalL, callV_func, Rv_eq, Ro_some, ok_zero, true_and, and_true, get_putT (d := 4), exLen_str, binV_geq, binV_leq, binV_lss, binV_gtr, exEq_int, exEq_str, exPick_t, exPick_f, Bool.not_true, Bool.not_false, Bc_t, Bc_f, Nat.reducePow, Nat.reduceLT, Nat.reduceEqDiff, Nat.reduceAdd, if_false, reduceIte, and_self, exFa_ptr, putT_none, Nat.zero_add, Nat.add_zero, Nat.le_refl, exUn_not]
    intro t5 h4
    refine WK.ret ⟨.inr rfl, rfl, [.bool true], 0, ?_, .zero _ _, rfl, rfl⟩
    show resL Tb0 14 t5 _ [.tmp 2] = _
    simp only [resL, h4]; rfl
  refine WK.seq (WK.cond (v := true) (by rw [evalO_tmp, h8, decide_eq_true (by omega)]; rfl) (WK.skip ?_))
  have m1 : exIaS 1 (.slice (some ⟨b, o, none⟩) n c) (vN i) H3 = .val (.pointer (some ⟨b, o + i, none⟩)) H3 0 0 := by
    rw [exIaS_int (by omega) (by omega)]; simp
  have m2 : exLd1 (.pointer (some ⟨b, o + i, none⟩)) H3 = .val (.int .u8 0) H3 (bit b) 0 := by
    show (match rd1 H3 b (o + i) with | some x => R.val x H3 (bit b) 0 | none => .fail) = _
    have : rd1 H3 b (o + i) = some (.int .u8 0) := by
      unfold rd1; rw [hb]; simp only []
      rw [(blt_iff _ _).2 (by omega), Bc_t, hz (o + i) (by omega) (by omega)]
    rw [this]
  have m3 : exEq true (.one .i) (.int .u8 0) (.int .u8 0) H3 = .val (.bool false) H3 0 0 := rfl
  refine WK.seq (WK.block (WK.seq (WK.reg_rr (fun t' => t'.get 4 = .int .u8 0 ∧ t'.get 5 = .slice (some ⟨b, o, none⟩) n c ∧ t'.get 6 = vN n ∧ t'.get 7 = vN i) ?_ ?_)))
  · simp (config := { maxSteps := 1000000 }) only [zero_r3, f5, f6, f7, m1, m2, hok, WOR, WOG, WOC, WOGk, WOCk, wants_none', wants_some, wantsV_U, wantsV_tt, wantsV_tf, wantsV_ft, wantsV_ff, run, evalO_tmp, evalO_const, evalO_func, evalL, callV_func, Rv_eq, Ro_some, ok_zero, true_and, and_true, get_putT (d := 4), exLen_str, binV_geq, binV_leq, binV_lss, binV_gtr, exEq_int, exEq_str, exPick_t, exPick_f, Bool.not_true, Bool.not_false, Bc_t, Bc_f, Nat.reducePow, Nat.reduceLT, Nat.reduceEqDiff, Nat.reduceAdd, if_false, reduceIte, and_self, exFa_ptr, putT_none, Nat.zero_add, Nat.add_zero, Nat.le_refl, exUn_not]
  rintro t5 ⟨h4, f5, f6, f7⟩
  refine WK.seq (WK.reg_rr (fun t' => t'.get 12 = .bool false ∧ t'.get 5 = .slice (some ⟨b, o, none⟩) n c ∧ t'.get 6 = vN n ∧ t'.get 7 = vN i) ?_ ?_)
  · simp (config := { maxSteps := 1000000 }) only [zero_r4, h4, f5, f6, f7, m3, WOR, WOG, WOC, WOGk, WOCk, wants_none', wants_some, wantsV_U, wantsV_tt, wantsV_tf, wantsV_ft, wantsV_ff, run, evalO_tmp, evalO_const, evalO_func, evalL, callV_func, Rv_eq, Ro_some, ok_zero, true_and, and_true, get_putT (d := 4), exLen_str, binV_geq, binV_leq, binV_lss, binV_gtr, exEq_int, exEq_str, exPick_t, exPick_f, Bool.not_true, Bool.not_false, Bc_t, Bc_f, Nat.reducePow, Nat.reduceLT, Nat.reduceEqDiff, Nat.reduceAdd, if_false, reduceIte, and_self, exFa_ptr, putT_none, Nat.zero_add, Nat.add_zero, Nat.le_refl, exUn_not]
  rintro t6 ⟨h12, f5, f6, f7⟩
  refine WK.cond (v := false) (by rw [evalO_tmp, h12]; rfl) (WK.skip ?_)
  show WK Tb0 sp e ⟨4, 14, none, false⟩ (.reg zero_r6) t6 [] H3 _
  have hwr : wrapF .i64 ((i : Int) + 1) = ((i + 1 : Nat) : Int) := by rw [wrapF_i64 (by omega) (by omega)]; omega
  refine WK.reg_rr (fun t' => t'.get 5 = .slice (some ⟨b, o, none⟩) n c ∧ t'.get 6 = vN n ∧ t'.get 7 = vN (i + 1 : Nat)) ?_ ?_
  · simp (config := { maxSteps := 1000000 }) only [zero_r6, f5, f6, f7, binV_add, hwr, WOR, WOG, WOC, WOGk, WOCk, wants_none', wants_some, wantsV_U, wantsV_tt, wantsV_tf, wantsV_ft, wantsV_ff, run, evalO_tmp, evalO_const, evalO_func, evalL, callV_func, Rv_eq, Ro_some, ok_zero, true_and, and_true, get_putT (d := 4), exLen_str, binV_geq, binV_leq, binV_lss, binV_gtr, exEq_int, exEq_str, exPick_t, exPick_f, Bool.not_true, Bool.not_false, Bc_t, Bc_f, Nat.reducePow, Nat.reduceLT, Nat.reduceEqDiff, Nat.reduceAdd, if_false, reduceIte, and_self, exFa_ptr, putT_none, Nat.zero_add, Nat.add_zero, Nat.le_refl, exUn_not]
  rintro t7 ⟨d5, d6, d7⟩
  exact ⟨n - (i + 1), by omega, rfl, rfl, i + 1, rfl, by omega, d5, d6, d7⟩
end
end Go.Proofs.RS
end
