/-
  A part of the proof that pliantlaw15.RtsReads returns true and leaves its arguments alone. Conditions: those of the card in the last text.
-/
import Derived.Test.YtgdejggelcpokaaGreatDoorG21
set_option linter.unusedSimpArgs false
set_option linter.unusedVariables false
set_option linter.unusedSectionVars false

noncomputable section
namespace Go.Proofs.RS
open Go Go.Ev Go.Proofs Go.Ds
theorem _root_.Go.Ev.OwnO.lt_of {N ty : Nat} {H : Hp} {bo : Option Nat} {v : Value} {L : List Value} (h : OwnO N ty H bo v L) {b : Nat} (hb : bo = some b) : b < H.nx := by subst hb; exact h.lt
section
variable {sp : Nat → List Value → Hp → Option (Value × Hp × Nat × Nat)} {e : Env}
set_option maxRecDepth 10000 in
set_option maxHeartbeats 4000000 in
theorem bst_ok (S : SpK sp) {H : Hp} (hx : Fix H) (hr : 76 < e.n0 → e.Rd 76) (he : e.n0 ≤ H.nx) : EC Tb0 sp e 67 [.pointer (some ⟨76, 13, none⟩)] H fun v H' => v = vS [] ∧ H' = H := by
  refine EC.intro (fn := Tryz.f67) (c := bst_body) (S.no 67 (by decide) _ _) (by rfl) bst_some bst_comp (by show 1 ≤ 14; decide) ?_
  have g0 : (enterT Tryz.f67 [.pointer (some ⟨76, 13, none⟩)]).get 0 = .pointer (some ⟨76, 13, none⟩) := by rw [enterT_get (by show 1 ≤ 14; decide) (by show 0 < 14; decide)]; rfl
  revert g0
  generalize enterT Tryz.f67 [.pointer (some ⟨76, 13, none⟩)] = t0
  intro g0
  show WK Tb0 sp e ⟨4, 14, none, false⟩ bst_k t0 [] H _
  unfold bst_k
  have q0 : exNil (.pointer (some ⟨76, 13, none⟩)) H = .val (.pointer (some ⟨76, 13, none⟩)) H 0 0 := rfl
  have q1 : exLd1 (.pointer (some ⟨76, 14, none⟩)) H = .val (.slice none 0 0) H (bit 76) 0 := exLd1_rowG hx.st rfl
  have q2 : e.ok (bit 76) 0 H := .read hx.st.lt hr
  have q3 : ∀ b, (bit 76).testBit b = true → b < H.nx := bit_lt hx.st.lt
  have q4 : exUsd (.slice none 0 0) H = .val (.pointer none) H 0 0 := rfl
  have q5 : exLen 1 (.slice none 0 0) H = .val (vN 0) H 0 0 := rfl
  have q6 : exUstr 5 (.pointer none) (vN 0) H = .val (vS []) H 0 0 := rfl
  refine WK.seq (WK.reg_rr (fun t' => t'.get 0 = .pointer (some ⟨76, 13, none⟩)) ?_ ?_)
  · simp (config := { maxSteps := 1000000 }) only [bst_r0, g0, WOR, WOG, WOC, WOGk, WOCk, wants_none', wants_some, wantsV_U, wantsV_tt, wantsV_tf, wantsV_ft, wantsV_ff, run, evalO_tmp, evalO_const, evalO_func, evalL, callV_func, Rv_eq, Ro_some, ok_zero, true_and, and_true, get_putT (d := 4), exLen_str, binV_geq, binV_leq, binV_lss, binV_gtr, exEq_int, exEq_str, exPick_t, exPick_f, Bool.not_true, Bool.not_false, Bc_t, Bc_f, Nat.reducePow, Nat.reduceLT, Nat.reduceEqDiff, Nat.reduceAdd, if_false, reduceIte, and_self, exFa_ptr, putT_none, Nat.zero_add, Nat.add_zero, Nat.le_refl, exUn_not]
  intro t1 g0
  refine WK.seq (WK.draw_c [.p, .p, .p, .q, .p, .p, .p, .p, .q, .p, .p, .p] (fun t' H' => t'.get 2 = vS [] ∧ H' = H) he rfl ?_ ?_)
  · simp (config := { maxSteps := 1000000 }) only [bst_r1, g0, q0, q1, q2, q4, q5, q6, WOR, WOG, WOC, WOGk, WOCk, wants_none', wants_some, wantsV_U, wantsV_tt, wantsV_tf, wantsV_ft, wantsV_ff, run, evalO_tmp, evalO_const, evalO_func, evalL, callV_func, Rv_eq, Ro_some, ok_zero, true_and, and_true, get_putT (d := 4), exLen_str, binV_geq, binV_leq, binV_lss, binV_gtr, exEq_int, exEq_str, exPick_t, exPick_f, Bool.not_true, Bool.not_false, Bc_t, Bc_f, Nat.reducePow, Nat.reduceLT, Nat.reduceEqDiff, Nat.reduceAdd, if_false, reduceIte, and_self, exFa_ptr, putT_none, Nat.zero_add, Nat.add_zero, Nat.le_refl, exUn_not]
    exact q3
  rintro t2 H2 ⟨h2, rfl⟩
  refine WK.ret ⟨.inr rfl, rfl, [vS []], 0, ?_, .zero _ _, rfl, rfl⟩
  show resL Tb0 14 t2 _ [.tmp 2] = _
  simp only [resL, h2]; rfl
set_option maxRecDepth 10000 in
set_option maxHeartbeats 4000000 in
theorem oxt_ok (S : SpK sp) {H : Hp} (hx : Fix H) (hr : 79 < e.n0 → e.Rd 79) : EC Tb0 sp e 68 [.pointer (some ⟨79, 0, none⟩)] H fun v H' => v = vS [] ∧ H' = H := by
  refine EC.intro (fn := Tryz.f68) (c := oxt_body) (S.no 68 (by decide) _ _) (by rfl) oxt_some oxt_comp (by show 1 ≤ 10; decide) ?_
  have g0 : (enterT Tryz.f68 [.pointer (some ⟨79, 0, none⟩)]).get 0 = .pointer (some ⟨79, 0, none⟩) := by rw [enterT_get (by show 1 ≤ 10; decide) (by show 0 < 10; decide)]; rfl
  revert g0
  generalize enterT Tryz.f68 [.pointer (some ⟨79, 0, none⟩)] = t0
  intro g0
  show WK Tb0 sp e ⟨4, 10, none, false⟩ oxt_k t0 [] H _
  unfold oxt_k
  have q0 : exNil (.pointer (some ⟨79, 0, none⟩)) H = .val (.pointer (some ⟨79, 0, none⟩)) H 0 0 := rfl
  have q1 : exLd1 (.pointer (some ⟨79, 0, none⟩)) H = .val (vS []) H (bit 79) 0 := exLd1_rowG hx.out rfl
  have q2 : e.ok (bit 79) 0 H := .read hx.out.lt hr
  have q3 : exEq false (.one .p) (.pointer (some ⟨79, 0, none⟩)) (.pointer none) H = .val (.bool false) H 0 0 := rfl
  refine WK.seq (WK.reg_rr (fun t' => t'.get 0 = .pointer (some ⟨79, 0, none⟩)) ?_ ?_)
  · simp (config := { maxSteps := 1000000 }) only [oxt_r0, g0, WOR, WOG, WOC, WOGk, WOCk, wants_none', wants_some, wantsV_U, wantsV_tt, wantsV_tf, wantsV_ft, wantsV_ff, run, evalO_tmp, evalO_const, evalO_func, evalL, callV_func, Rv_eq, Ro_some, ok_zero, true_and, and_true, get_putT (d := 4), exLen_str, binV_geq, binV_leq, binV_lss, binV_gtr, exEq_int, exEq_str, exPick_t, exPick_f, Bool.not_true, Bool.not_false, Bc_t, Bc_f, Nat.reducePow, Nat.reduceLT, Nat.reduceEqDiff, Nat.reduceAdd, if_false, reduceIte, and_self, exFa_ptr, putT_none, Nat.zero_add, Nat.add_zero, Nat.le_refl, exUn_not]
  intro t1 g0
  refine WK.seq (WK.seq (WK.reg_rr (fun t' => t'.get 0 = .pointer (some ⟨79, 0, none⟩) ∧ t'.get 4 = .bool false) ?_ ?_))
  · simp (config := { maxSteps := 1000000 }) only [oxt_r1, g0, q3, WOR, WOG, WOC, WOGk, WOCk, wants_none', wants_some, wantsV_U, wantsV_tt, wantsV_tf, wantsV_ft, wantsV_ff, run, evalO_tmp, evalO_const, evalO_func, evalL, callV_func, Rv_eq, Ro_some, ok_zero, true_and, and_true, get_putT (d := 4), exLen_str, binV_geq, binV_leq, binV_lss, binV_gtr, exEq_int, exEq_str, exPick_t, exPick_f, Bool.not_true, Bool.not_false, Bc_t, Bc_f, Nat.reducePow, Nat.reduceLT, Nat.reduceEqDiff, Nat.reduceAdd, if_false, reduceIte, and_self, exFa_ptr, putT_none, Nat.zero_add, Nat.add_zero, Nat.le_refl, exUn_not]
  rintro t2 ⟨g0, g4⟩
  refine WK.cond (v := false) (by rw [evalO_tmp, g4]; rfl) (WK.skip ?_)
  show WK Tb0 sp e ⟨4, 10, none, false⟩ _ t2 [] H _
  refine WK.seq (WK.reg_rr (fun t' => t'.get 2 = vS []) ?_ ?_)
  · simp (config := { maxSteps := 1000000 }) only [oxt_r3, g0, q0, q1, q2, WOR, WOG, WOC, WOGk, WOCk, wants_none', wants_some, wantsV_U, wantsV_tt, wantsV_tf, wantsV_ft, wantsV_ff, run, evalO_tmp, evalO_const, evalO_func, evalL, callV_func, Rv_eq, Ro_some, ok_zero, true_and, and_true, get_putT (d := 4), exLen_str, binV_geq, binV_leq, binV_lss, binV_gtr, exEq_int, exEq_str, exPick_t, exPick_f, Bool.not_true, Bool.not_false, Bc_t, Bc_f, Nat.reducePow, Nat.reduceLT, Nat.reduceEqDiff, Nat.reduceAdd, if_false, reduceIte, and_self, exFa_ptr, putT_none, Nat.zero_add, Nat.add_zero, Nat.le_refl, exUn_not]
  intro t3 h2
  refine WK.ret ⟨.inr rfl, rfl, [vS []], 0, ?_, .zero _ _, rfl, rfl⟩
  show resL Tb0 10 t3 _ [.tmp 2] = _
  simp only [resL, h2]; rfl
set_option maxRecDepth 10000 in
set_option maxHeartbeats 4000000 in
theorem ocr16 {N b3 : Nat} {H : Hp} {t : T Value} {tv Dv w1 w2 : Value} {Lt Ld : List Value} {bt bd : Option Nat} (hf : H.isFn = true) (he : e.n0 ≤ N) (hN : N ≤ b3) (hr : Row H b3 74 0 [tv, Dv, vS [], vN 0, vN 0, vN 0]) (ht : OwnO N 9 H bt tv Lt) (hd : OwnO N 64 H bd Dv Ld)
    (n1 : bt ≠ some b3) (n2 : bd ≠ some b3) (n3 : ∀ c, bt = some c → bd ≠ some c) (hw1 : oneC w1 = true) (hw2 : oneC w2 = true) (hlt : Lt.length < 1000) (hld : Ld.length < 1000) (g3 : t.get 3 = .pointer (some ⟨b3, 0, none⟩)) (g5 : t.get 5 = w1) (g6 : t.get 6 = w2) :
    WK Tb0 sp e ⟨7, 86, none, false⟩ (.draw #[0, 1, 0, 4, 15, 0, 32, 0, 128, 511, 127, 2047, 4095, 8191] ouc_r16) t [] H fun x t' ds' H' => x = .normal ∧ ds' = [] ∧ Lo 72 t t' ∧ ∃ tv' Dv' bt' bd', H'.isFn = true ∧ H.nx ≤ H'.nx ∧ Row H' b3 74 0 [tv', Dv', vS [], vN 0, vN 0, vN 0] ∧
      Own N 9 H' bt' tv' (Lt ++ [w1]) ∧ Own N 64 H' bd' Dv' (Ld ++ [w2]) ∧ H.nx ≤ bt' ∧ H.nx ≤ bd' ∧ bt' ≠ bd' ∧ ∀ c, c < H.nx → c ≠ b3 → bt ≠ some c → bd ≠ some c → H'.blk c = H.blk c := by
  have hb3 := hr.lt
  have hcw1 : cellsO w1 = some [w1] := by cases w1 <;> first | rfl | cases hw1
  have hcw2 : cellsO w2 = some [w2] := by cases w2 <;> first | rfl | cases hw2
  refine WK.draw ?_
  unfold ouc_r16
  refine WD.pure (v := .pointer (some ⟨b3, 0, none⟩)) rfl (by simp (config := { maxSteps := 1000000 }) only [g3, WOR, WOG, WOC, WOGk, WOCk, wants_none', wants_some, wantsV_U, wantsV_tt, wantsV_tf, wantsV_ft, wantsV_ff, run, evalO_tmp, evalO_const, evalO_func, evalL, callV_func, Rv_eq, Ro_some, ok_zero, true_and, and_true, get_putT (d := 7), exLen_str, binV_geq, binV_leq, binV_lss, binV_gtr, exEq_int, exEq_str, exPick_t, exPick_f, Bool.not_true, Bool.not_false, Bc_t, Bc_f, Nat.reducePow, Nat.reduceLT, Nat.reduceEqDiff, Nat.reduceAdd, if_false, reduceIte, and_self, exFa_ptr, putT_none, Nat.zero_add, Nat.add_zero, Nat.le_refl, exUn_not]) ?_
  have a1 : exLd1 (.pointer (some ⟨b3, 0, none⟩)) H = .val tv H (bit b3) 0 := exLd1_row hr rfl
  have a2 : e.ok (bit b3) 0 H := .fresh hb3 (by omega)
  refine WD.read (v := tv) b3 rfl (by simp (config := { maxSteps := 1000000 }) only [g3, a1, WOR, WOG, WOC, WOGk, WOCk, wants_none', wants_some, wantsV_U, wantsV_tt, wantsV_tf, wantsV_ft, wantsV_ff, run, evalO_tmp, evalO_const, evalO_func, evalL, callV_func, Rv_eq, Ro_some, ok_zero, true_and, and_true, get_putT (d := 7), exLen_str, binV_geq, binV_leq, binV_lss, binV_gtr, exEq_int, exEq_str, exPick_t, exPick_f, Bool.not_true, Bool.not_false, Bc_t, Bc_f, Nat.reducePow, Nat.reduceLT, Nat.reduceEqDiff, Nat.reduceAdd, if_false, reduceIte, and_self, exFa_ptr, putT_none, Nat.zero_add, Nat.add_zero, Nat.le_refl, exUn_not]) a2 .nil ?_
  refine WD.pure (v := w1) rfl (by simp (config := { maxSteps := 1000000 }) only [g5, WOR, WOG, WOC, WOGk, WOCk, wants_none', wants_some, wantsV_U, wantsV_tt, wantsV_tf, wantsV_ft, wantsV_ff, run, evalO_tmp, evalO_const, evalO_func, evalL, callV_func, Rv_eq, Ro_some, ok_zero, true_and, and_true, get_putT (d := 7), exLen_str, binV_geq, binV_leq, binV_lss, binV_gtr, exEq_int, exEq_str, exPick_t, exPick_f, Bool.not_true, Bool.not_false, Bc_t, Bc_f, Nat.reducePow, Nat.reduceLT, Nat.reduceEqDiff, Nat.reduceAdd, if_false, reduceIte, and_self, exFa_ptr, putT_none, Nat.zero_add, Nat.add_zero, Nat.le_refl, exUn_not]) ?_
  have hf1 : (H.push (blkL [w1] 9 0)).isFn = true := by rw [isFn_push]; exact hf
  have a3 := alloc_bsl hf [w1] 9 1
  have a4 : Row (H.push (blkL [w1] 9 0)) H.nx 9 0 [w1] := row_push (fn_room hf) _ _ _
  have a5 : ∀ c, c < H.nx → (H.push (blkL [w1] 9 0)).blk c = H.blk c := fun c hc => blk_push_old (fn_room hf) _ hc
  have a6 : (H.push (blkL [w1] 9 0)).nx = H.nx + 1 := nx_push _ _
  refine WD.val (v := .slice (some ⟨H.nx, 0, none⟩) 1 (2 * 1)) (H1 := H.push (blkL [w1] 9 0)) (r := 0) (w := 0) (fun _ => False) (fun c => c = H.nx) rfl ?_ (.zero _ _) (by omega) (fun b hb => by simp at hb) (fun b hb => by rcases hb with hb | hb <;> first | (simp at hb; done) | omega) (Chk.apart (fun b hb => hb.elim) (fun b hb hb2 => by omega) .nil) ?_
  · show exFill (fillL _ [.string ⟨#[]⟩] [(0, 1, .tmp 74)]) _ = _
    rw [fillL_one (w := w1) (by rw [evalO_tmp]; simp (config := { maxSteps := 1000000 }) only [hcw1, WOR, WOG, WOC, WOGk, WOCk, wants_none', wants_some, wantsV_U, wantsV_tt, wantsV_tf, wantsV_ft, wantsV_ff, run, evalO_tmp, evalO_const, evalO_func, evalL, callV_func, Rv_eq, Ro_some, ok_zero, true_and, and_true, get_putT (d := 7), exLen_str, binV_geq, binV_leq, binV_lss, binV_gtr, exEq_int, exEq_str, exPick_t, exPick_f, Bool.not_true, Bool.not_false, Bc_t, Bc_f, Nat.reducePow, Nat.reduceLT, Nat.reduceEqDiff, Nat.reduceAdd, if_false, reduceIte, and_self, exFa_ptr, putT_none, Nat.zero_add, Nat.add_zero, Nat.le_refl, exUn_not])]
    exact a3
  revert hf1 a4 a5 a6
  generalize H.push (blkL [w1] 9 0) = H1
  intro hf1 a4 a5 a6
  have ht1 : OwnO N 9 H1 bt tv Lt := ht.of_blk fun b _ hb => a5 b hb
  obtain ⟨tv', H2, r2, w2', b1, b2, b4, b5, b6, b7, b8, b9⟩ := appO (e := e) (by_ := 16) ht1 a4 he (by omega) hf1 (by decide) (by omega)
  refine WD.val (v := tv') (H1 := H2) (r := r2) (w := w2') (fun b => b = H.nx ∨ bt = some b) (fun b => bt = some b ∨ b = H.nx + 1) rfl (by simp (config := { maxSteps := 1000000 }) only [b1, WOR, WOG, WOC, WOGk, WOCk, wants_none', wants_some, wantsV_U, wantsV_tt, wantsV_tf, wantsV_ft, wantsV_ff, run, evalO_tmp, evalO_const, evalO_func, evalL, callV_func, Rv_eq, Ro_some, ok_zero, true_and, and_true, get_putT (d := 7), exLen_str, binV_geq, binV_leq, binV_lss, binV_gtr, exEq_int, exEq_str, exPick_t, exPick_f, Bool.not_true, Bool.not_false, Bc_t, Bc_f, Nat.reducePow, Nat.reduceLT, Nat.reduceEqDiff, Nat.reduceAdd, if_false, reduceIte, and_self, exFa_ptr, putT_none, Nat.zero_add, Nat.add_zero, Nat.le_refl, exUn_not]) b2 (by omega) b8 (fun b hb => by
    rcases hb with hb | hb
    · exact .inl (b9 b hb)
    · exact .inr (by omega)) (Chk.bit (by dsimp only; decide) (Chk.bit (by dsimp only; decide) .nil)) ?_
  have hr2 : Row H2 b3 74 0 [tv, Dv, vS [], vN 0, vN 0, vN 0] := (hr.of_blk (a5 _ hb3)).of_blk (b7 _ (by omega) n1)
  have a7 : exLd1 (.pointer (some ⟨b3, 1, none⟩)) H2 = .val Dv H2 (bit b3) 0 := exLd1_row hr2 rfl
  have a8 : e.ok (bit b3) 0 H2 := .fresh hr2.lt (by omega)
  refine WD.pure (v := .pointer (some ⟨b3, 1, none⟩)) rfl (by simp (config := { maxSteps := 1000000 }) only [g3, WOR, WOG, WOC, WOGk, WOCk, wants_none', wants_some, wantsV_U, wantsV_tt, wantsV_tf, wantsV_ft, wantsV_ff, run, evalO_tmp, evalO_const, evalO_func, evalL, callV_func, Rv_eq, Ro_some, ok_zero, true_and, and_true, get_putT (d := 7), exLen_str, binV_geq, binV_leq, binV_lss, binV_gtr, exEq_int, exEq_str, exPick_t, exPick_f, Bool.not_true, Bool.not_false, Bc_t, Bc_f, Nat.reducePow, Nat.reduceLT, Nat.reduceEqDiff, Nat.reduceAdd, if_false, reduceIte, and_self, exFa_ptr, putT_none, Nat.zero_add, Nat.add_zero, Nat.le_refl, exUn_not]) ?_
  refine WD.read (v := Dv) b3 rfl (by simp (config := { maxSteps := 1000000 }) only [a7, WOR, WOG, WOC, WOGk, WOCk, wants_none', wants_some, wantsV_U, wantsV_tt, wantsV_tf, wantsV_ft, wantsV_ff, run, evalO_tmp, evalO_const, evalO_func, evalL, callV_func, Rv_eq, Ro_some, ok_zero, true_and, and_true, get_putT (d := 7), exLen_str, binV_geq, binV_leq, binV_lss, binV_gtr, exEq_int, exEq_str, exPick_t, exPick_f, Bool.not_true, Bool.not_false, Bc_t, Bc_f, Nat.reducePow, Nat.reduceLT, Nat.reduceEqDiff, Nat.reduceAdd, if_false, reduceIte, and_self, exFa_ptr, putT_none, Nat.zero_add, Nat.add_zero, Nat.le_refl, exUn_not]) a8 (Chk.apart (fun b hb => ⟨fun h => by
      rcases hb with hb | hb
      · exact n1 (by rw [← h]; exact hb)
      · omega, id⟩) (fun b hb => hb.elim) (Chk.apart (fun b hb => ⟨fun h => by
        have : b = H.nx := hb
        omega, id⟩) (fun b hb => hb.elim) (Chk.apart (fun b hb => hb.elim) (fun b hb => hb.elim) .nil))) ?_
  refine WD.pure (v := w2) rfl (by simp (config := { maxSteps := 1000000 }) only [g6, WOR, WOG, WOC, WOGk, WOCk, wants_none', wants_some, wantsV_U, wantsV_tt, wantsV_tf, wantsV_ft, wantsV_ff, run, evalO_tmp, evalO_const, evalO_func, evalL, callV_func, Rv_eq, Ro_some, ok_zero, true_and, and_true, get_putT (d := 7), exLen_str, binV_geq, binV_leq, binV_lss, binV_gtr, exEq_int, exEq_str, exPick_t, exPick_f, Bool.not_true, Bool.not_false, Bc_t, Bc_f, Nat.reducePow, Nat.reduceLT, Nat.reduceEqDiff, Nat.reduceAdd, if_false, reduceIte, and_self, exFa_ptr, putT_none, Nat.zero_add, Nat.add_zero, Nat.le_refl, exUn_not]) ?_
  have hf3 : (H2.push (blkL [w2] 64 0)).isFn = true := by rw [isFn_push]; exact b6
  have c3 := alloc_bsl b6 [w2] 64 1
  have c4 : Row (H2.push (blkL [w2] 64 0)) H2.nx 64 0 [w2] := row_push (fn_room b6) _ _ _
  have c5 : ∀ c, c < H2.nx → (H2.push (blkL [w2] 64 0)).blk c = H2.blk c := fun c hc => blk_push_old (fn_room b6) _ hc
  have c6 : (H2.push (blkL [w2] 64 0)).nx = H2.nx + 1 := nx_push _ _
  refine WD.val (v := .slice (some ⟨H2.nx, 0, none⟩) 1 (2 * 1)) (H1 := H2.push (blkL [w2] 64 0)) (r := 0) (w := 0) (fun _ => False) (fun c => c = H2.nx) rfl ?_ (.zero _ _) (by omega) (fun b hb => by simp at hb) (fun b hb => by rcases hb with hb | hb <;> first | (simp at hb; done) | omega) (Chk.apart (fun b hb => hb.elim) (fun b hb hb2 => by
      have h1 : b = H2.nx := hb
      have h2 : b = b3 := hb2
      omega) (Chk.apart (fun b hb => ⟨id, fun h => by
        have h1 : b = H2.nx := h
        rcases hb with hb | hb
        · have := ht.lt_of hb; omega
        · omega⟩) (fun b hb hb2 => by
        have h1 : b = H2.nx := hb
        rcases hb2 with h2 | h2
        · omega
        · have := ht.lt_of h2; omega) (Chk.apart (fun b hb => ⟨id, fun h => by
        have h1 : b = H2.nx := h
        have h2 : b = H.nx := hb
        omega⟩) (fun b hb hb2 => hb2.elim) (Chk.apart (fun b hb => hb.elim) (fun b hb hb2 => by
        have h1 : b = H2.nx := hb
        have h2 : b = b3 := hb2
        omega) .nil)))) ?_
  · show exFill (fillL _ [.slice none 0 0] [(0, 1, .tmp 79)]) _ = _
    rw [fillL_one (w := w2) (by rw [evalO_tmp]; simp (config := { maxSteps := 1000000 }) only [hcw2, WOR, WOG, WOC, WOGk, WOCk, wants_none', wants_some, wantsV_U, wantsV_tt, wantsV_tf, wantsV_ft, wantsV_ff, run, evalO_tmp, evalO_const, evalO_func, evalL, callV_func, Rv_eq, Ro_some, ok_zero, true_and, and_true, get_putT (d := 7), exLen_str, binV_geq, binV_leq, binV_lss, binV_gtr, exEq_int, exEq_str, exPick_t, exPick_f, Bool.not_true, Bool.not_false, Bc_t, Bc_f, Nat.reducePow, Nat.reduceLT, Nat.reduceEqDiff, Nat.reduceAdd, if_false, reduceIte, and_self, exFa_ptr, putT_none, Nat.zero_add, Nat.add_zero, Nat.le_refl, exUn_not])]
    exact c3
  revert hf3 c4 c5 c6
  generalize H2.push (blkL [w2] 64 0) = H3
  intro hf3 c4 c5 c6
  have hd3 : OwnO N 64 H3 bd Dv Ld := hd.of_blk fun b hb hlt => by
    rw [c5 b (by omega), b7 b (by omega) (fun h => n3 b h hb), a5 b hlt]
  obtain ⟨Dv', H4, r4, w4', d1, d2, d4, d5, d6, d7, d8, d9⟩ := appO (e := e) (by_ := 24) hd3 c4 he (by omega) hf3 (by decide) (by omega)
  refine WD.val (v := Dv') (H1 := H4) (r := r4) (w := w4') (fun b => b = H2.nx ∨ bd = some b) (fun b => bd = some b ∨ b = H3.nx) rfl (by simp (config := { maxSteps := 1000000 }) only [d1, WOR, WOG, WOC, WOGk, WOCk, wants_none', wants_some, wantsV_U, wantsV_tt, wantsV_tf, wantsV_ft, wantsV_ff, run, evalO_tmp, evalO_const, evalO_func, evalL, callV_func, Rv_eq, Ro_some, ok_zero, true_and, and_true, get_putT (d := 7), exLen_str, binV_geq, binV_leq, binV_lss, binV_gtr, exEq_int, exEq_str, exPick_t, exPick_f, Bool.not_true, Bool.not_false, Bc_t, Bc_f, Nat.reducePow, Nat.reduceLT, Nat.reduceEqDiff, Nat.reduceAdd, if_false, reduceIte, and_self, exFa_ptr, putT_none, Nat.zero_add, Nat.add_zero, Nat.le_refl, exUn_not]) d2 (by omega) d8 (fun b hb => by
    rcases hb with hb | hb
    · exact .inl (d9 b hb)
    · exact .inr (by omega)) (Chk.bit (by dsimp only; decide) (Chk.bit (by dsimp only; decide) (Chk.bit (by dsimp only; decide) (Chk.bit (by dsimp only; decide) (Chk.bit (by dsimp only; decide) .nil))))) ?_
  have hr4 : Row H4 b3 74 0 [tv, Dv, vS [], vN 0, vN 0, vN 0] := (hr2.of_blk (c5 _ (by omega))).of_blk (d7 _ (by omega) n2)
  obtain ⟨H5, s1, s2, s3, s4, s5⟩ := exSt_at (vs := [tv']) (o := 0) d6 hr4 (by show 0 + 1 ≤ 6; decide)
  have ho1 : oneC tv' = true := by obtain ⟨_, _, _, hh⟩ := b5.row; rw [hh]; rfl
  have ho2 : oneC Dv' = true := by obtain ⟨_, _, _, hh⟩ := d5.row; rw [hh]; rfl
  have s1' : exSt 1 (.pointer (some ⟨b3, 0, none⟩)) tv' H4 = .val U H5 0 (bit b3) := by rw [exSt1_agg ho1]; exact s1
  have s6 : e.ok 0 (bit b3) H5 := .write s2.lt fun h => absurd h (by omega)
  refine WD.pure (v := .pointer (some ⟨b3, 0, none⟩)) rfl (by simp (config := { maxSteps := 1000000 }) only [g3, WOR, WOG, WOC, WOGk, WOCk, wants_none', wants_some, wantsV_U, wantsV_tt, wantsV_tf, wantsV_ft, wantsV_ff, run, evalO_tmp, evalO_const, evalO_func, evalL, callV_func, Rv_eq, Ro_some, ok_zero, true_and, and_true, get_putT (d := 7), exLen_str, binV_geq, binV_leq, binV_lss, binV_gtr, exEq_int, exEq_str, exPick_t, exPick_f, Bool.not_true, Bool.not_false, Bc_t, Bc_f, Nat.reducePow, Nat.reduceLT, Nat.reduceEqDiff, Nat.reduceAdd, if_false, reduceIte, and_self, exFa_ptr, putT_none, Nat.zero_add, Nat.add_zero, Nat.le_refl, exUn_not]) ?_
  refine WD.val (v := U) (H1 := H5) (r := 0) (w := bit b3) (fun _ => False) (fun b => b = b3) rfl (by simp (config := { maxSteps := 1000000 }) only [s1', WOR, WOG, WOC, WOGk, WOCk, wants_none', wants_some, wantsV_U, wantsV_tt, wantsV_tf, wantsV_ft, wantsV_ff, run, evalO_tmp, evalO_const, evalO_func, evalL, callV_func, Rv_eq, Ro_some, ok_zero, true_and, and_true, get_putT (d := 7), exLen_str, binV_geq, binV_leq, binV_lss, binV_gtr, exEq_int, exEq_str, exPick_t, exPick_f, Bool.not_true, Bool.not_false, Bc_t, Bc_f, Nat.reducePow, Nat.reduceLT, Nat.reduceEqDiff, Nat.reduceAdd, if_false, reduceIte, and_self, exFa_ptr, putT_none, Nat.zero_add, Nat.add_zero, Nat.le_refl, exUn_not]) s6 (by omega) (fun b hb => by simp at hb) (fun b hb => by
    rcases hb with hb | hb
    · exact (bit_iff _ _).1 hb
    · omega) (Chk.bit (by dsimp only; decide) (Chk.bit (by dsimp only; decide) (Chk.bit (by dsimp only; decide) (Chk.bit (by dsimp only; decide) (Chk.bit (by dsimp only; decide) (Chk.bit (by dsimp only; decide) .nil)))))) ?_
  obtain ⟨H6, u1, u2, u3, u4, u5⟩ := exSt_at (vs := [Dv']) (o := 1) s4 s2 (by show 1 + 1 ≤ 6; decide)
  have u1' : exSt 1 (.pointer (some ⟨b3, 1, none⟩)) Dv' H5 = .val U H6 0 (bit b3) := by rw [exSt1_agg ho2]; exact u1
  have u6 : e.ok 0 (bit b3) H6 := .write u2.lt fun h => absurd h (by omega)
  refine WD.pure (v := .pointer (some ⟨b3, 1, none⟩)) rfl (by simp (config := { maxSteps := 1000000 }) only [g3, WOR, WOG, WOC, WOGk, WOCk, wants_none', wants_some, wantsV_U, wantsV_tt, wantsV_tf, wantsV_ft, wantsV_ff, run, evalO_tmp, evalO_const, evalO_func, evalL, callV_func, Rv_eq, Ro_some, ok_zero, true_and, and_true, get_putT (d := 7), exLen_str, binV_geq, binV_leq, binV_lss, binV_gtr, exEq_int, exEq_str, exPick_t, exPick_f, Bool.not_true, Bool.not_false, Bc_t, Bc_f, Nat.reducePow, Nat.reduceLT, Nat.reduceEqDiff, Nat.reduceAdd, if_false, reduceIte, and_self, exFa_ptr, putT_none, Nat.zero_add, Nat.add_zero, Nat.le_refl, exUn_not]) ?_
  refine WD.val (v := U) (H1 := H6) (r := 0) (w := bit b3) (fun _ => False) (fun b => b = b3) rfl (by simp (config := { maxSteps := 1000000 }) only [u1', WOR, WOG, WOC, WOGk, WOCk, wants_none', wants_some, wantsV_U, wantsV_tt, wantsV_tf, wantsV_ft, wantsV_ff, run, evalO_tmp, evalO_const, evalO_func, evalL, callV_func, Rv_eq, Ro_some, ok_zero, true_and, and_true, get_putT (d := 7), exLen_str, binV_geq, binV_leq, binV_lss, binV_gtr, exEq_int, exEq_str, exPick_t, exPick_f, Bool.not_true, Bool.not_false, Bc_t, Bc_f, Nat.reducePow, Nat.reduceLT, Nat.reduceEqDiff, Nat.reduceAdd, if_false, reduceIte, and_self, exFa_ptr, putT_none, Nat.zero_add, Nat.add_zero, Nat.le_refl, exUn_not]) u6 (by omega) (fun b hb => by simp at hb) (fun b hb => by
    rcases hb with hb | hb
    · exact (bit_iff _ _).1 hb
    · omega) (Chk.bit (by dsimp only; decide) (Chk.bit (by dsimp only; decide) (Chk.bit (by dsimp only; decide) (Chk.bit (by dsimp only; decide) (Chk.bit (by dsimp only; decide) (Chk.bit (by dsimp only; decide) (Chk.bit (by dsimp only; decide) .nil))))))) ?_
  refine WD.nil ⟨rfl, rfl, fun j hj => ?_, tv', Dv', H1.nx, H3.nx, u4, by omega, u2, ?_, ?_, by omega, by omega, by omega, fun c hc h1 h2 h3 => ?_⟩
  · simp (disch := omega) only [putT_lo (d := 7), putT_none]
  · exact b5.of_blk (by rw [u5 _ (by omega), s5 _ (by omega), d7 _ (by omega) (fun h => by have := hd.lt_of h; omega), c5 _ (by omega)])
  · exact d5.of_blk (by rw [u5 _ (by omega), s5 _ (by omega)])
  · rw [u5 c h1, s5 c h1, d7 c (by omega) h3, c5 c (by omega), b7 c (by omega) h2, a5 c hc]
end
end Go.Proofs.RS
end
