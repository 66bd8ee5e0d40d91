/-
  A part of the proof that pliantlaw15.RtsReads returns true and leaves its arguments alone. Conditions: those of the card in the last text.
-/
import Derived.Test.YtgdejggelcpokaaGreatDoorG19
set_option linter.unusedSimpArgs false
set_option linter.unusedVariables false
set_option linter.unusedSectionVars false

noncomputable section
namespace Go.Proofs.RS
open Go Go.Ev Go.Proofs Go.Ds
theorem fillL_two {t : T Value} {z1 z2 a b : Value} {o p : Operand} (h : cellsO (evalO t o) = some [a]) (h' : cellsO (evalO t p) = some [b]) : fillL t [z1, z2] [(0, 1, o), (1, 1, p)] = some [a, b] := by
  simp only [fillL, h, h']; rfl
structure Sto (H : Hp) (d : DS) (at_ : Str) : Prop where
  row : ∃ dv, Row H 89 120 0 [vN 3, dv, vS at_] ∧ DsR (envN 102) H dv d
structure Upd (H H' : Hp) : Prop where
  fn : H'.isFn = true
  nx : H.nx ≤ H'.nx
  old : ∀ b, b < H.nx → b ≠ 89 → H'.blk b = H.blk b
theorem Upd.of_kept {H H' : Hp} (h : Kept H H') : Upd H H' := ⟨h.fn, h.nx, fun b hb _ => h.old b hb⟩
theorem Fix.upd {H H' : Hp} (h : Fix H) (hn : 102 ≤ H.nx) (u : Upd H H') : Fix H' := h.keep fun b hb hne => u.old b (by omega) hne
def ansV (z0 : Int) : Option DS → Value
  | none => .tuple #[vN 9, vN (if z0 = 4 then 51 else 52)]
  | some _ => .tuple #[vN 0, vN 0]
section
variable {sp : Nat → List Value → Hp → Option (Value × Hp × Nat × Nat)} {e : Env}
set_option maxRecDepth 10000 in
set_option maxHeartbeats 4000000 in
theorem kyd_ok (S : SpK sp) {H : Hp} {c : UInt8} {k : Nat} (hx : Fix H) (he : e.n0 ≤ 13) (hc : c ≠ 32) (hk : k < 1000) (hpl : plainB c = true) : EC Tb0 sp e 78 [sP, vN 1, vS (pad c k)] H fun v H' => v = .tuple #[.pointer (some ⟨89, 0, none⟩), vS [c], vN 0, vN 0] ∧ H' = H := by
  refine EC.intro (fn := Tryz.f78) (c := kyd_body) (S.no 78 (by decide) _ _) (by rfl) kyd_some kyd_comp (by show 3 ≤ 37; decide) ?_
  have g0 : (enterT Tryz.f78 [sP, vN 1, vS (pad c k)]).get 0 = sP := by rw [enterT_get (by show 3 ≤ 37; decide) (by show 0 < 37; decide)]; rfl
  have g1 : (enterT Tryz.f78 [sP, vN 1, vS (pad c k)]).get 1 = vN 1 := by rw [enterT_get (by show 3 ≤ 37; decide) (by show 1 < 37; decide)]; rfl
  have g2 : (enterT Tryz.f78 [sP, vN 1, vS (pad c k)]).get 2 = vS (pad c k) := by rw [enterT_get (by show 3 ≤ 37; decide) (by show 2 < 37; decide)]; rfl
  revert g0 g1 g2
  generalize enterT Tryz.f78 [sP, vN 1, vS (pad c k)] = t0
  intro g0 g1 g2
  show WK Tb0 sp e ⟨6, 37, none, false⟩ kyd_k t0 [] H _
  unfold kyd_k
  have q0 : exNil sP H = .val sP H 0 0 := rfl
  have q1 : exLd1 (.pointer (some ⟨76, 11, none⟩)) H = .val (.slice (some ⟨95, 0, none⟩) 2 5) H (bit 76) 0 := exLd1_rowG hx.st rfl
  have q2 : e.ok (bit 76) 0 H := .read hx.st.lt fun h => absurd h (by omega)
  have q3 : exEq false (.one .p) (.pointer (some ⟨89, 0, none⟩)) (.pointer none) H = .val (.bool false) H 0 0 := rfl
  have q4 : exEq false (.one .s) (vS [c]) (.string ⟨#[]⟩) H = .val (.bool false) H 0 0 := rfl
  have q5 : exLen 0 (vS [c]) H = .val (vN 1) H 0 0 := rfl
  have q6 : binV .gtr (vN 1) (.int .i64 16) = some (.bool false) := rfl
  refine WK.seq (WK.reg_rr (fun t' => t'.get 0 = sP ∧ t'.get 1 = vN 1 ∧ t'.get 2 = vS (pad c k)) ?_ ?_)
  · simp (config := { maxSteps := 1000000 }) only [kyd_r0, g0, g1, g2, WOR, WOG, WOC, WOGk, WOCk, wants_none', wants_some, wantsV_U, wantsV_tt, wantsV_tf, wantsV_ft, wantsV_ff, run, evalO_tmp, evalO_const, evalO_func, evalL, callV_func, Rv_eq, Ro_some, ok_zero, true_and, and_true, get_putT (d := 6), exLen_str, binV_geq, binV_leq, binV_lss, binV_gtr, exEq_int, exEq_str, exPick_t, exPick_f, Bool.not_true, Bool.not_false, Bc_t, Bc_f, Nat.reducePow, Nat.reduceLT, Nat.reduceEqDiff, Nat.reduceAdd, if_false, reduceIte, and_self, exFa_ptr, putT_none, Nat.zero_add, Nat.add_zero, Nat.le_refl, exUn_not]
  rintro t1 ⟨g0, g1, g2⟩
  refine WK.seq (WK.seq (WK.reg_gg (fun t' H' => t'.get 0 = sP ∧ t'.get 1 = vN 1 ∧ t'.get 2 = vS (pad c k) ∧ t'.get 12 = .bool false ∧ H' = H) ?_ ?_))
  · simp (config := { maxSteps := 1000000 }) only [kyd_r1, g0, g1, g2, WOR, WOG, WOC, WOGk, WOCk, wants_none', wants_some, wantsV_U, wantsV_tt, wantsV_tf, wantsV_ft, wantsV_ff, run, evalO_tmp, evalO_const, evalO_func, evalL, callV_func, Rv_eq, Ro_some, ok_zero, true_and, and_true, get_putT (d := 6), exLen_str, binV_geq, binV_leq, binV_lss, binV_gtr, exEq_int, exEq_str, exPick_t, exPick_f, Bool.not_true, Bool.not_false, Bc_t, Bc_f, Nat.reducePow, Nat.reduceLT, Nat.reduceEqDiff, Nat.reduceAdd, if_false, reduceIte, and_self, exFa_ptr, putT_none, Nat.zero_add, Nat.add_zero, Nat.le_refl, exUn_not]
    refine (ded_ok S hx (fun h => absurd h (by omega))).mono fun v H4 _ hv => ?_
    obtain ⟨rfl, rfl⟩ := hv
    simp (config := { maxSteps := 1000000 }) only [g0, g1, g2, WOR, WOG, WOC, WOGk, WOCk, wants_none', wants_some, wantsV_U, wantsV_tt, wantsV_tf, wantsV_ft, wantsV_ff, run, evalO_tmp, evalO_const, evalO_func, evalL, callV_func, Rv_eq, Ro_some, ok_zero, true_and, and_true, get_putT (d := 6), exLen_str, binV_geq, binV_leq, binV_lss, binV_gtr, exEq_int, exEq_str, exPick_t, exPick_f, Bool.not_true, Bool.not_false, Bc_t, Bc_f, Nat.reducePow, Nat.reduceLT, Nat.reduceEqDiff, Nat.reduceAdd, if_false, reduceIte, and_self, exFa_ptr, putT_none, Nat.zero_add, Nat.add_zero, Nat.le_refl, exUn_not]
  rintro t2 H2 ⟨g0, g1, g2, g12, rfl⟩
  refine WK.cond (v := false) (by rw [evalO_tmp, g12]; rfl) (WK.skip ?_)
  show WK Tb0 sp e ⟨6, 37, none, false⟩ _ t2 [] H2 _
  refine WK.seq (WK.reg_gg (fun t' H' => t'.get 2 = vS (pad c k) ∧ t'.get 10 = .pointer (some ⟨89, 0, none⟩) ∧ H' = H2) ?_ ?_)
  · simp (config := { maxSteps := 1000000 }) only [kyd_r3, g0, g1, g2, q0, q1, q2, WOR, WOG, WOC, WOGk, WOCk, wants_none', wants_some, wantsV_U, wantsV_tt, wantsV_tf, wantsV_ft, wantsV_ff, run, evalO_tmp, evalO_const, evalO_func, evalL, callV_func, Rv_eq, Ro_some, ok_zero, true_and, and_true, get_putT (d := 6), exLen_str, binV_geq, binV_leq, binV_lss, binV_gtr, exEq_int, exEq_str, exPick_t, exPick_f, Bool.not_true, Bool.not_false, Bc_t, Bc_f, Nat.reducePow, Nat.reduceLT, Nat.reduceEqDiff, Nat.reduceAdd, if_false, reduceIte, and_self, exFa_ptr, putT_none, Nat.zero_add, Nat.add_zero, Nat.le_refl, exUn_not]
    refine (off_ok S hx (fun h => absurd h (by omega))).mono fun v H4 _ hv => ?_
    obtain ⟨rfl, rfl⟩ := hv
    simp (config := { maxSteps := 1000000 }) only [g0, g1, g2, WOR, WOG, WOC, WOGk, WOCk, wants_none', wants_some, wantsV_U, wantsV_tt, wantsV_tf, wantsV_ft, wantsV_ff, run, evalO_tmp, evalO_const, evalO_func, evalL, callV_func, Rv_eq, Ro_some, ok_zero, true_and, and_true, get_putT (d := 6), exLen_str, binV_geq, binV_leq, binV_lss, binV_gtr, exEq_int, exEq_str, exPick_t, exPick_f, Bool.not_true, Bool.not_false, Bc_t, Bc_f, Nat.reducePow, Nat.reduceLT, Nat.reduceEqDiff, Nat.reduceAdd, if_false, reduceIte, and_self, exFa_ptr, putT_none, Nat.zero_add, Nat.add_zero, Nat.le_refl, exUn_not]
  rintro t3 H3 ⟨g2, g10, rfl⟩
  refine WK.seq (WK.seq (WK.reg_rr (fun t' => t'.get 2 = vS (pad c k) ∧ t'.get 10 = .pointer (some ⟨89, 0, none⟩) ∧ t'.get 20 = .bool false) ?_ ?_))
  · simp (config := { maxSteps := 1000000 }) only [kyd_r4, g2, g10, q3, WOR, WOG, WOC, WOGk, WOCk, wants_none', wants_some, wantsV_U, wantsV_tt, wantsV_tf, wantsV_ft, wantsV_ff, run, evalO_tmp, evalO_const, evalO_func, evalL, callV_func, Rv_eq, Ro_some, ok_zero, true_and, and_true, get_putT (d := 6), exLen_str, binV_geq, binV_leq, binV_lss, binV_gtr, exEq_int, exEq_str, exPick_t, exPick_f, Bool.not_true, Bool.not_false, Bc_t, Bc_f, Nat.reducePow, Nat.reduceLT, Nat.reduceEqDiff, Nat.reduceAdd, if_false, reduceIte, and_self, exFa_ptr, putT_none, Nat.zero_add, Nat.add_zero, Nat.le_refl, exUn_not]
  rintro t4 ⟨g2, g10, g20⟩
  refine WK.cond (v := false) (by rw [evalO_tmp, g20]; rfl) (WK.skip ?_)
  show WK Tb0 sp e ⟨6, 37, none, false⟩ _ t4 [] H3 _
  refine WK.seq (WK.reg_gg (fun t' H' => t'.get 2 = vS [c] ∧ t'.get 10 = .pointer (some ⟨89, 0, none⟩) ∧ H' = H3) ?_ ?_)
  · simp (config := { maxSteps := 1000000 }) only [kyd_r6, g2, g10, WOR, WOG, WOC, WOGk, WOCk, wants_none', wants_some, wantsV_U, wantsV_tt, wantsV_tf, wantsV_ft, wantsV_ff, run, evalO_tmp, evalO_const, evalO_func, evalL, callV_func, Rv_eq, Ro_some, ok_zero, true_and, and_true, get_putT (d := 6), exLen_str, binV_geq, binV_leq, binV_lss, binV_gtr, exEq_int, exEq_str, exPick_t, exPick_f, Bool.not_true, Bool.not_false, Bc_t, Bc_f, Nat.reducePow, Nat.reduceLT, Nat.reduceEqDiff, Nat.reduceAdd, if_false, reduceIte, and_self, exFa_ptr, putT_none, Nat.zero_add, Nat.add_zero, Nat.le_refl, exUn_not]
    refine (trr_ok S hc hk).mono fun v H4 _ hv => ?_
    obtain ⟨rfl, rfl⟩ := hv
    simp (config := { maxSteps := 1000000 }) only [g2, g10, WOR, WOG, WOC, WOGk, WOCk, wants_none', wants_some, wantsV_U, wantsV_tt, wantsV_tf, wantsV_ft, wantsV_ff, run, evalO_tmp, evalO_const, evalO_func, evalL, callV_func, Rv_eq, Ro_some, ok_zero, true_and, and_true, get_putT (d := 6), exLen_str, binV_geq, binV_leq, binV_lss, binV_gtr, exEq_int, exEq_str, exPick_t, exPick_f, Bool.not_true, Bool.not_false, Bc_t, Bc_f, Nat.reducePow, Nat.reduceLT, Nat.reduceEqDiff, Nat.reduceAdd, if_false, reduceIte, and_self, exFa_ptr, putT_none, Nat.zero_add, Nat.add_zero, Nat.le_refl, exUn_not]
  rintro t5 H5 ⟨g2, g10, rfl⟩
  refine WK.seq (WK.seq (WK.reg_gg (fun t' H' => t'.get 2 = vS [c] ∧ t'.get 10 = .pointer (some ⟨89, 0, none⟩) ∧ t'.get 34 = .bool false ∧ H' = H5) ?_ ?_))
  · simp (config := { maxSteps := 1000000 }) only [kyd_r7, g2, g10, q4, q5, q6, WOR, WOG, WOC, WOGk, WOCk, wants_none', wants_some, wantsV_U, wantsV_tt, wantsV_tf, wantsV_ft, wantsV_ff, run, evalO_tmp, evalO_const, evalO_func, evalL, callV_func, Rv_eq, Ro_some, ok_zero, true_and, and_true, get_putT (d := 6), exLen_str, binV_geq, binV_leq, binV_lss, binV_gtr, exEq_int, exEq_str, exPick_t, exPick_f, Bool.not_true, Bool.not_false, Bc_t, Bc_f, Nat.reducePow, Nat.reduceLT, Nat.reduceEqDiff, Nat.reduceAdd, if_false, reduceIte, and_self, exFa_ptr, putT_none, Nat.zero_add, Nat.add_zero, Nat.le_refl, exUn_not]
    refine (pln_ok S (s := [c]) (fun x hm => by rw [List.mem_singleton.1 hm]; exact hpl) (by show 1 < _; decide)).mono fun v H4 _ hv => ?_
    obtain ⟨rfl, rfl⟩ := hv
    simp (config := { maxSteps := 1000000 }) only [g2, g10, WOR, WOG, WOC, WOGk, WOCk, wants_none', wants_some, wantsV_U, wantsV_tt, wantsV_tf, wantsV_ft, wantsV_ff, run, evalO_tmp, evalO_const, evalO_func, evalL, callV_func, Rv_eq, Ro_some, ok_zero, true_and, and_true, get_putT (d := 6), exLen_str, binV_geq, binV_leq, binV_lss, binV_gtr, exEq_int, exEq_str, exPick_t, exPick_f, Bool.not_true, Bool.not_false, Bc_t, Bc_f, Nat.reducePow, Nat.reduceLT, Nat.reduceEqDiff, Nat.reduceAdd, if_false, reduceIte, and_self, exFa_ptr, putT_none, Nat.zero_add, Nat.add_zero, Nat.le_refl, exUn_not]
  rintro t6 H6 ⟨g2, g10, g34, rfl⟩
  refine WK.cond (v := false) (by rw [evalO_tmp, g34]; rfl) (WK.skip ?_)
  show WK Tb0 sp e ⟨6, 37, none, false⟩ _ t6 [] H6 _
  refine WK.seq (WK.reg_rr (fun t' => t'.get 6 = .pointer (some ⟨89, 0, none⟩) ∧ t'.get 7 = vS [c] ∧ t'.get 8 = vN 0 ∧ t'.get 9 = vN 0) ?_ ?_)
  · simp (config := { maxSteps := 1000000 }) only [kyd_r9, g2, g10, WOR, WOG, WOC, WOGk, WOCk, wants_none', wants_some, wantsV_U, wantsV_tt, wantsV_tf, wantsV_ft, wantsV_ff, run, evalO_tmp, evalO_const, evalO_func, evalL, callV_func, Rv_eq, Ro_some, ok_zero, true_and, and_true, get_putT (d := 6), exLen_str, binV_geq, binV_leq, binV_lss, binV_gtr, exEq_int, exEq_str, exPick_t, exPick_f, Bool.not_true, Bool.not_false, Bc_t, Bc_f, Nat.reducePow, Nat.reduceLT, Nat.reduceEqDiff, Nat.reduceAdd, if_false, reduceIte, and_self, exFa_ptr, putT_none, Nat.zero_add, Nat.add_zero, Nat.le_refl, exUn_not]
  rintro t7 ⟨h6, h7, h8, h9⟩
  refine WK.ret ⟨.inr rfl, rfl, [.pointer (some ⟨89, 0, none⟩), vS [c], vN 0, vN 0], 0, ?_, .zero _ _, rfl, rfl⟩
  show resL Tb0 37 t7 _ [.tmp 6, .tmp 7, .tmp 8, .tmp 9] = _
  simp only [resL, h6, h7, h8, h9]; rfl
set_option maxRecDepth 10000 in
set_option maxHeartbeats 4000000 in
theorem chg_ok (S : SpK sp) {H : Hp} {c : UInt8} {k : Nat} {data : Str} {fid : FuncId} {d : DS} {at_ : Str} {z0 : Int} {res : Option DS} (hf : H.isFn = true) (hn : 102 ≤ H.nx) (hx : Fix H) (hs : Sto H d at_) (he : e.n0 ≤ 13) (hc : c ≠ 32) (hk : k < 1000) (hpl : plainB c = true) (hpd : ∀ x ∈ data, plainB x = true) (hld : data.length ≤ 255) (hz0 : z0 = 4 ∨ z0 = 141)
    (hcall : ∀ dv, DsR e H dv d → EC Tb0 sp e fid [dv, recV ([c], data)] H fun v H' => ∃ v' z, v = .tuple #[v', vN z] ∧ Kept H H' ∧ ResR z0 H.nx H' v' z res) : EC Tb0 sp e 60 [sP, vN 1, vS (pad c k), vS data, .func (.func fid) #[] #[]] H fun v H' => v = ansV z0 res ∧ Upd H H' ∧ Sto H' (res.getD d) at_ := by
  refine EC.intro (fn := Tryz.f60) (c := chg_body) (S.no 60 (by decide) _ _) (by rfl) chg_some chg_comp (by show 5 ≤ 61; decide) ?_
  have g0 : (enterT Tryz.f60 [sP, vN 1, vS (pad c k), vS data, .func (.func fid) #[] #[]]).get 0 = sP := by rw [enterT_get (by show 5 ≤ 61; decide) (by show 0 < 61; decide)]; rfl
  have g1 : (enterT Tryz.f60 [sP, vN 1, vS (pad c k), vS data, .func (.func fid) #[] #[]]).get 1 = vN 1 := by rw [enterT_get (by show 5 ≤ 61; decide) (by show 1 < 61; decide)]; rfl
  have g2 : (enterT Tryz.f60 [sP, vN 1, vS (pad c k), vS data, .func (.func fid) #[] #[]]).get 2 = vS (pad c k) := by rw [enterT_get (by show 5 ≤ 61; decide) (by show 2 < 61; decide)]; rfl
  have g3 : (enterT Tryz.f60 [sP, vN 1, vS (pad c k), vS data, .func (.func fid) #[] #[]]).get 3 = vS data := by rw [enterT_get (by show 5 ≤ 61; decide) (by show 3 < 61; decide)]; rfl
  have g4 : (enterT Tryz.f60 [sP, vN 1, vS (pad c k), vS data, .func (.func fid) #[] #[]]).get 4 = .func (.func fid) #[] #[] := by rw [enterT_get (by show 5 ≤ 61; decide) (by show 4 < 61; decide)]; rfl
  revert g0 g1 g2 g3 g4
  generalize enterT Tryz.f60 [sP, vN 1, vS (pad c k), vS data, .func (.func fid) #[] #[]] = t0
  intro g0 g1 g2 g3 g4
  show WK Tb0 sp e ⟨6, 61, none, false⟩ chg_k t0 [] H _
  unfold chg_k
  obtain ⟨dv, hrow, hds⟩ := hs
  have hde : DsR e H dv d := hds.behind (by omega) fun _ _ _ => rfl
  have a0 := fun H => exExt_tup [.pointer (some ⟨89, 0, none⟩), vS [c], vN 0, vN 0] 0 _ rfl H
  have a1 := fun H => exExt_tup [.pointer (some ⟨89, 0, none⟩), vS [c], vN 0, vN 0] 1 _ rfl H
  have a2 := fun H => exExt_tup [.pointer (some ⟨89, 0, none⟩), vS [c], vN 0, vN 0] 2 _ rfl H
  have a3 := fun H => exExt_tup [.pointer (some ⟨89, 0, none⟩), vS [c], vN 0, vN 0] 3 _ rfl H
  refine WK.seq (WK.reg_rr (fun t' => t'.get 0 = sP ∧ t'.get 1 = vN 1 ∧ t'.get 2 = vS (pad c k) ∧ t'.get 3 = vS data ∧ t'.get 4 = .func (.func fid) #[] #[]) ?_ ?_)
  · simp (config := { maxSteps := 1000000 }) only [chg_r0, g0, g1, g2, g3, g4, WOR, WOG, WOC, WOGk, WOCk, wants_none', wants_some, wantsV_U, wantsV_tt, wantsV_tf, wantsV_ft, wantsV_ff, run, evalO_tmp, evalO_const, evalO_func, evalL, callV_func, Rv_eq, Ro_some, ok_zero, true_and, and_true, get_putT (d := 6), exLen_str, binV_geq, binV_leq, binV_lss, binV_gtr, exEq_int, exEq_str, exPick_t, exPick_f, Bool.not_true, Bool.not_false, Bc_t, Bc_f, Nat.reducePow, Nat.reduceLT, Nat.reduceEqDiff, Nat.reduceAdd, if_false, reduceIte, and_self, exFa_ptr, putT_none, Nat.zero_add, Nat.add_zero, Nat.le_refl, exUn_not]
  rintro t1 ⟨g0, g1, g2, g3, g4⟩
  refine WK.seq (WK.reg_gg (fun t' H' => t'.get 12 = .pointer (some ⟨89, 0, none⟩) ∧ t'.get 2 = vS [c] ∧ t'.get 13 = vN 0 ∧ t'.get 3 = vS data ∧ t'.get 4 = .func (.func fid) #[] #[] ∧ H' = H) ?_ ?_)
  · simp (config := { maxSteps := 1000000 }) only [chg_r1, g0, g1, g2, g3, g4, WOR, WOG, WOC, WOGk, WOCk, wants_none', wants_some, wantsV_U, wantsV_tt, wantsV_tf, wantsV_ft, wantsV_ff, run, evalO_tmp, evalO_const, evalO_func, evalL, callV_func, Rv_eq, Ro_some, ok_zero, true_and, and_true, get_putT (d := 6), exLen_str, binV_geq, binV_leq, binV_lss, binV_gtr, exEq_int, exEq_str, exPick_t, exPick_f, Bool.not_true, Bool.not_false, Bc_t, Bc_f, Nat.reducePow, Nat.reduceLT, Nat.reduceEqDiff, Nat.reduceAdd, if_false, reduceIte, and_self, exFa_ptr, putT_none, Nat.zero_add, Nat.add_zero, Nat.le_refl, exUn_not]
    refine (kyd_ok S hx he hc hk hpl).mono fun v H4 _ hv => ?_
    obtain ⟨rfl, rfl⟩ := hv
    simp (config := { maxSteps := 1000000 }) only [a0, a1, a2, a3, g0, g1, g2, g3, g4, WOR, WOG, WOC, WOGk, WOCk, wants_none', wants_some, wantsV_U, wantsV_tt, wantsV_tf, wantsV_ft, wantsV_ff, run, evalO_tmp, evalO_const, evalO_func, evalL, callV_func, Rv_eq, Ro_some, ok_zero, true_and, and_true, get_putT (d := 6), exLen_str, binV_geq, binV_leq, binV_lss, binV_gtr, exEq_int, exEq_str, exPick_t, exPick_f, Bool.not_true, Bool.not_false, Bc_t, Bc_f, Nat.reducePow, Nat.reduceLT, Nat.reduceEqDiff, Nat.reduceAdd, if_false, reduceIte, and_self, exFa_ptr, putT_none, Nat.zero_add, Nat.add_zero, Nat.le_refl, exUn_not]
  rintro t2 H2 ⟨g12, g2, g13, g3, g4, rfl⟩
  refine WK.seq (WK.seq (WK.reg_rr (fun t' => t'.get 12 = .pointer (some ⟨89, 0, none⟩) ∧ t'.get 2 = vS [c] ∧ t'.get 3 = vS data ∧ t'.get 4 = .func (.func fid) #[] #[] ∧ t'.get 27 = .bool false) ?_ ?_))
  · have b0 : exEq true (.one .i) (vN 0) (.int .i64 0) H2 = .val (.bool false) H2 0 0 := rfl
    simp (config := { maxSteps := 1000000 }) only [chg_r2, g12, g2, g3, g4, g13, b0, WOR, WOG, WOC, WOGk, WOCk, wants_none', wants_some, wantsV_U, wantsV_tt, wantsV_tf, wantsV_ft, wantsV_ff, run, evalO_tmp, evalO_const, evalO_func, evalL, callV_func, Rv_eq, Ro_some, ok_zero, true_and, and_true, get_putT (d := 6), exLen_str, binV_geq, binV_leq, binV_lss, binV_gtr, exEq_int, exEq_str, exPick_t, exPick_f, Bool.not_true, Bool.not_false, Bc_t, Bc_f, Nat.reducePow, Nat.reduceLT, Nat.reduceEqDiff, Nat.reduceAdd, if_false, reduceIte, and_self, exFa_ptr, putT_none, Nat.zero_add, Nat.add_zero, Nat.le_refl, exUn_not]
  rintro t3 ⟨g12, g2, g3, g4, g27⟩
  refine WK.cond (v := false) (by rw [evalO_tmp, g27]; rfl) (WK.skip ?_)
  show WK Tb0 sp e ⟨6, 61, none, false⟩ _ t3 [] H2 _
  refine WK.seq (WK.seq (WK.reg_gg (fun t' H' => t'.get 12 = .pointer (some ⟨89, 0, none⟩) ∧ t'.get 2 = vS [c] ∧ t'.get 3 = vS data ∧ t'.get 4 = .func (.func fid) #[] #[] ∧ t'.get 37 = .bool false ∧ H' = H2) ?_ ?_))
  · have b1 : binV .gtr (vN data.length) (.int .i64 255) = some (.bool false) := by rw [binV_gtr, decide_eq_false (by omega)]
    simp (config := { maxSteps := 1000000 }) only [chg_r4, g12, g2, g3, g4, b1, WOR, WOG, WOC, WOGk, WOCk, wants_none', wants_some, wantsV_U, wantsV_tt, wantsV_tf, wantsV_ft, wantsV_ff, run, evalO_tmp, evalO_const, evalO_func, evalL, callV_func, Rv_eq, Ro_some, ok_zero, true_and, and_true, get_putT (d := 6), exLen_str, binV_geq, binV_leq, binV_lss, binV_gtr, exEq_int, exEq_str, exPick_t, exPick_f, Bool.not_true, Bool.not_false, Bc_t, Bc_f, Nat.reducePow, Nat.reduceLT, Nat.reduceEqDiff, Nat.reduceAdd, if_false, reduceIte, and_self, exFa_ptr, putT_none, Nat.zero_add, Nat.add_zero, Nat.le_refl, exUn_not]
    refine (pln_ok S hpd (by omega)).mono fun v H4 _ hv => ?_
    obtain ⟨rfl, rfl⟩ := hv
    simp (config := { maxSteps := 1000000 }) only [g12, g2, g3, g4, WOR, WOG, WOC, WOGk, WOCk, wants_none', wants_some, wantsV_U, wantsV_tt, wantsV_tf, wantsV_ft, wantsV_ff, run, evalO_tmp, evalO_const, evalO_func, evalL, callV_func, Rv_eq, Ro_some, ok_zero, true_and, and_true, get_putT (d := 6), exLen_str, binV_geq, binV_leq, binV_lss, binV_gtr, exEq_int, exEq_str, exPick_t, exPick_f, Bool.not_true, Bool.not_false, Bc_t, Bc_f, Nat.reducePow, Nat.reduceLT, Nat.reduceEqDiff, Nat.reduceAdd, if_false, reduceIte, and_self, exFa_ptr, putT_none, Nat.zero_add, Nat.add_zero, Nat.le_refl, exUn_not]
  rintro t4 H4 ⟨g12, g2, g3, g4, g37, rfl⟩
  refine WK.cond (v := false) (by rw [evalO_tmp, g37]; rfl) (WK.skip ?_)
  show WK Tb0 sp e ⟨6, 61, none, false⟩ _ t4 [] H4 _
  have m0 : exNil (.pointer (some ⟨89, 0, none⟩)) H4 = .val (.pointer (some ⟨89, 0, none⟩)) H4 0 0 := rfl
  have m1 : exLd1 (.pointer (some ⟨89, 1, none⟩)) H4 = .val dv H4 (bit 89) 0 := exLd1_row hrow rfl
  have m2 : e.ok (bit 89) 0 H4 := .read hrow.lt fun h => absurd h (by omega)
  have hfil : ∀ (t' : T Value), t'.get 44 = vS [c] → t'.get 45 = vS data → fillL t' [.string ⟨#[]⟩, .string ⟨#[]⟩] [(0, 1, .tmp 44), (1, 1, .tmp 45)] = some [vS [c], vS data] := fun t' h1 h2 => fillL_two (by rw [evalO_tmp, h1]; rfl) (by rw [evalO_tmp, h2]; rfl)
  refine WK.seq (WK.reg_gg (fun t' H' => ∃ v' z, t'.get 12 = .pointer (some ⟨89, 0, none⟩) ∧ t'.get 15 = v' ∧ t'.get 16 = vN z ∧ Kept H4 H' ∧ ResR z0 H4.nx H' v' z res) ?_ ?_)
  · simp (config := { maxSteps := 1000000 }) only [chg_r6, g12, g2, g3, g4, m0, m1, m2, WOR, WOG, WOC, WOGk, WOCk, wants_none', wants_some, wantsV_U, wantsV_tt, wantsV_tf, wantsV_ft, wantsV_ff, run, evalO_tmp, evalO_const, evalO_func, evalL, callV_func, Rv_eq, Ro_some, ok_zero, true_and, and_true, get_putT (d := 6), exLen_str, binV_geq, binV_leq, binV_lss, binV_gtr, exEq_int, exEq_str, exPick_t, exPick_f, Bool.not_true, Bool.not_false, Bc_t, Bc_f, Nat.reducePow, Nat.reduceLT, Nat.reduceEqDiff, Nat.reduceAdd, if_false, reduceIte, and_self, exFa_ptr, putT_none, Nat.zero_add, Nat.add_zero, Nat.le_refl, exUn_not]
    rw [hfil _ (by simp (config := { maxSteps := 1000000 }) only [g2, WOR, WOG, WOC, WOGk, WOCk, wants_none', wants_some, wantsV_U, wantsV_tt, wantsV_tf, wantsV_ft, wantsV_ff, run, evalO_tmp, evalO_const, evalO_func, evalL, callV_func, Rv_eq, Ro_some, ok_zero, true_and, and_true, get_putT (d := 6), exLen_str, binV_geq, binV_leq, binV_lss, binV_gtr, exEq_int, exEq_str, exPick_t, exPick_f, Bool.not_true, Bool.not_false, Bc_t, Bc_f, Nat.reducePow, Nat.reduceLT, Nat.reduceEqDiff, Nat.reduceAdd, if_false, reduceIte, and_self, exFa_ptr, putT_none, Nat.zero_add, Nat.add_zero, Nat.le_refl, exUn_not]) (by simp (config := { maxSteps := 1000000 }) only [g3, WOR, WOG, WOC, WOGk, WOCk, wants_none', wants_some, wantsV_U, wantsV_tt, wantsV_tf, wantsV_ft, wantsV_ff, run, evalO_tmp, evalO_const, evalO_func, evalL, callV_func, Rv_eq, Ro_some, ok_zero, true_and, and_true, get_putT (d := 6), exLen_str, binV_geq, binV_leq, binV_lss, binV_gtr, exEq_int, exEq_str, exPick_t, exPick_f, Bool.not_true, Bool.not_false, Bc_t, Bc_f, Nat.reducePow, Nat.reduceLT, Nat.reduceEqDiff, Nat.reduceAdd, if_false, reduceIte, and_self, exFa_ptr, putT_none, Nat.zero_add, Nat.add_zero, Nat.le_refl, exUn_not])]
    simp (config := { maxSteps := 1000000 }) only [exFill_some, g12, g4, WOR, WOG, WOC, WOGk, WOCk, wants_none', wants_some, wantsV_U, wantsV_tt, wantsV_tf, wantsV_ft, wantsV_ff, run, evalO_tmp, evalO_const, evalO_func, evalL, callV_func, Rv_eq, Ro_some, ok_zero, true_and, and_true, get_putT (d := 6), exLen_str, binV_geq, binV_leq, binV_lss, binV_gtr, exEq_int, exEq_str, exPick_t, exPick_f, Bool.not_true, Bool.not_false, Bc_t, Bc_f, Nat.reducePow, Nat.reduceLT, Nat.reduceEqDiff, Nat.reduceAdd, if_false, reduceIte, and_self, exFa_ptr, putT_none, Nat.zero_add, Nat.add_zero, Nat.le_refl, exUn_not]
    refine (hcall dv hde).mono fun v H6 _ hv => ?_
    obtain ⟨v', z, rfl, hk6, hr6⟩ := hv
    have c0 := fun H => exExt_tup [v', vN z] 0 _ rfl H
    have c1 := fun H => exExt_tup [v', vN z] 1 _ rfl H
    simp (config := { maxSteps := 1000000 }) only [c0, c1, g12, WOR, WOG, WOC, WOGk, WOCk, wants_none', wants_some, wantsV_U, wantsV_tt, wantsV_tf, wantsV_ft, wantsV_ff, run, evalO_tmp, evalO_const, evalO_func, evalL, callV_func, Rv_eq, Ro_some, ok_zero, true_and, and_true, get_putT (d := 6), exLen_str, binV_geq, binV_leq, binV_lss, binV_gtr, exEq_int, exEq_str, exPick_t, exPick_f, Bool.not_true, Bool.not_false, Bc_t, Bc_f, Nat.reducePow, Nat.reduceLT, Nat.reduceEqDiff, Nat.reduceAdd, if_false, reduceIte, and_self, exFa_ptr, putT_none, Nat.zero_add, Nat.add_zero, Nat.le_refl, exUn_not]
    exact ⟨v', z, rfl, rfl, hk6, hr6⟩
  rintro t5 H5 ⟨v', z, g12, g15, g16, hk5, hr5⟩
  have hrow5 : Row H5 89 120 0 [vN 3, dv, vS at_] := hrow.of_blk (hk5.old _ (by omega))
  have hds5 : DsR (envN 102) H5 dv d := hds.later hk5.old
  refine WK.seq (WK.seq (WK.reg_rr (fun t' => t'.get 12 = .pointer (some ⟨89, 0, none⟩) ∧ t'.get 15 = v' ∧ t'.get 50 = vN z) ?_ ?_))
  · simp (config := { maxSteps := 1000000 }) only [chg_r7, g12, g15, g16, WOR, WOG, WOC, WOGk, WOCk, wants_none', wants_some, wantsV_U, wantsV_tt, wantsV_tf, wantsV_ft, wantsV_ff, run, evalO_tmp, evalO_const, evalO_func, evalL, callV_func, Rv_eq, Ro_some, ok_zero, true_and, and_true, get_putT (d := 6), exLen_str, binV_geq, binV_leq, binV_lss, binV_gtr, exEq_int, exEq_str, exPick_t, exPick_f, Bool.not_true, Bool.not_false, Bc_t, Bc_f, Nat.reducePow, Nat.reduceLT, Nat.reduceEqDiff, Nat.reduceAdd, if_false, reduceIte, and_self, exFa_ptr, putT_none, Nat.zero_add, Nat.add_zero, Nat.le_refl, exUn_not]
  rintro t6 ⟨g12, g15, g50⟩
  refine WK.block ?_
  refine WK.seq (WK.reg_rr (fun t' => t'.get 12 = .pointer (some ⟨89, 0, none⟩) ∧ t'.get 15 = v' ∧ t'.get 50 = vN z ∧ t'.get 51 = .bool (decide (z = 0))) ?_ ?_)
  · simp (config := { maxSteps := 1000000 }) only [chg_r8, g12, g15, g50, WOR, WOG, WOC, WOGk, WOCk, wants_none', wants_some, wantsV_U, wantsV_tt, wantsV_tf, wantsV_ft, wantsV_ff, run, evalO_tmp, evalO_const, evalO_func, evalL, callV_func, Rv_eq, Ro_some, ok_zero, true_and, and_true, get_putT (d := 6), exLen_str, binV_geq, binV_leq, binV_lss, binV_gtr, exEq_int, exEq_str, exPick_t, exPick_f, Bool.not_true, Bool.not_false, Bc_t, Bc_f, Nat.reducePow, Nat.reduceLT, Nat.reduceEqDiff, Nat.reduceAdd, if_false, reduceIte, and_self, exFa_ptr, putT_none, Nat.zero_add, Nat.add_zero, Nat.le_refl, exUn_not]
  rintro t7 ⟨g12, g15, g50, g51⟩
  cases res with
  | some l =>
    obtain ⟨rfl, hl⟩ := hr5
    refine WK.cond (v := true) (by rw [evalO_tmp, g51]; rfl) ?_
    have ho : oneC v' = true := by cases hl <;> rfl
    obtain ⟨H6, s1, s2, s3, s4, s5⟩ := exSt_at (vs := [v']) (o := 1) hk5.fn hrow5 (by show 1 + 1 ≤ 3; decide)
    have s1' : exSt 1 (.pointer (some ⟨89, 1, none⟩)) v' H5 = .val U H6 0 (bit 89) := by rw [exSt1_agg ho]; exact s1
    have s6 : e.ok 0 (bit 89) H6 := .write s2.lt fun h => absurd h (by omega)
    have s7 : H5.nx ≤ H6.nx := by omega
    have m3 : exNil (.pointer (some ⟨89, 0, none⟩)) H5 = .val (.pointer (some ⟨89, 0, none⟩)) H5 0 0 := rfl
    refine WK.seq (WK.reg_gg (fun t' H' => H' = H6) ?_ ?_)
    · simp (config := { maxSteps := 1000000 }) only [chg_r9, g12, g15, m3, s1', s6, s7, WOR, WOG, WOC, WOGk, WOCk, wants_none', wants_some, wantsV_U, wantsV_tt, wantsV_tf, wantsV_ft, wantsV_ff, run, evalO_tmp, evalO_const, evalO_func, evalL, callV_func, Rv_eq, Ro_some, ok_zero, true_and, and_true, get_putT (d := 6), exLen_str, binV_geq, binV_leq, binV_lss, binV_gtr, exEq_int, exEq_str, exPick_t, exPick_f, Bool.not_true, Bool.not_false, Bc_t, Bc_f, Nat.reducePow, Nat.reduceLT, Nat.reduceEqDiff, Nat.reduceAdd, if_false, reduceIte, and_self, exFa_ptr, putT_none, Nat.zero_add, Nat.add_zero, Nat.le_refl, exUn_not]
    rintro t8 H8 rfl
    refine WK.seq (WK.reg_rr (fun t' => t'.get 10 = vN 0 ∧ t'.get 11 = vN 0) ?_ ?_)
    · simp (config := { maxSteps := 1000000 }) only [chg_r10, WOR, WOG, WOC, WOGk, WOCk, wants_none', wants_some, wantsV_U, wantsV_tt, wantsV_tf, wantsV_ft, wantsV_ff, run, evalO_tmp, evalO_const, evalO_func, evalL, callV_func, Rv_eq, Ro_some, ok_zero, true_and, and_true, get_putT (d := 6), exLen_str, binV_geq, binV_leq, binV_lss, binV_gtr, exEq_int, exEq_str, exPick_t, exPick_f, Bool.not_true, Bool.not_false, Bc_t, Bc_f, Nat.reducePow, Nat.reduceLT, Nat.reduceEqDiff, Nat.reduceAdd, if_false, reduceIte, and_self, exFa_ptr, putT_none, Nat.zero_add, Nat.add_zero, Nat.le_refl, exUn_not]
    rintro t9 ⟨h10, h11⟩
    refine WK.ret ⟨.inr rfl, rfl, [vN 0, vN 0], 0, ?_, .zero _ _, rfl, ⟨s4, by have := hk5.nx; omega, fun b hb hne => (s5 b hne).trans (hk5.old b hb)⟩, v', s2, hl.behind (by show 102 ≤ H4.nx; omega) fun b hb1 hb2 => s5 b (by omega)⟩
    show resL Tb0 61 t9 _ [.tmp 10, .tmp 11] = _
    simp only [resL, h10, h11]; rfl
  | none =>
    have hz : z = z0 := hr5
    subst hz
    have hz1 : ¬ z = 0 := by omega
    refine WK.cond (v := false) (by rw [evalO_tmp, g51, decide_eq_false hz1]; rfl) ?_
    refine WK.seq (WK.reg_rr (fun t' => t'.get 50 = vN z ∧ t'.get 57 = .bool (decide (z = 4))) ?_ ?_)
    · simp (config := { maxSteps := 1000000 }) only [chg_r11, g50, WOR, WOG, WOC, WOGk, WOCk, wants_none', wants_some, wantsV_U, wantsV_tt, wantsV_tf, wantsV_ft, wantsV_ff, run, evalO_tmp, evalO_const, evalO_func, evalL, callV_func, Rv_eq, Ro_some, ok_zero, true_and, and_true, get_putT (d := 6), exLen_str, binV_geq, binV_leq, binV_lss, binV_gtr, exEq_int, exEq_str, exPick_t, exPick_f, Bool.not_true, Bool.not_false, Bc_t, Bc_f, Nat.reducePow, Nat.reduceLT, Nat.reduceEqDiff, Nat.reduceAdd, if_false, reduceIte, and_self, exFa_ptr, putT_none, Nat.zero_add, Nat.add_zero, Nat.le_refl, exUn_not]
    rintro t8 ⟨g50, g57⟩
    rcases hz0 with rfl | rfl
    · refine WK.cond (v := true) (by rw [evalO_tmp, g57]; rfl) ?_
      refine WK.seq (WK.reg_rr (fun t' => t'.get 10 = vN 9 ∧ t'.get 11 = vN 51) ?_ ?_)
      · simp (config := { maxSteps := 1000000 }) only [chg_r12, WOR, WOG, WOC, WOGk, WOCk, wants_none', wants_some, wantsV_U, wantsV_tt, wantsV_tf, wantsV_ft, wantsV_ff, run, evalO_tmp, evalO_const, evalO_func, evalL, callV_func, Rv_eq, Ro_some, ok_zero, true_and, and_true, get_putT (d := 6), exLen_str, binV_geq, binV_leq, binV_lss, binV_gtr, exEq_int, exEq_str, exPick_t, exPick_f, Bool.not_true, Bool.not_false, Bc_t, Bc_f, Nat.reducePow, Nat.reduceLT, Nat.reduceEqDiff, Nat.reduceAdd, if_false, reduceIte, and_self, exFa_ptr, putT_none, Nat.zero_add, Nat.add_zero, Nat.le_refl, exUn_not]
      rintro t9 ⟨h10, h11⟩
      refine WK.ret ⟨.inr rfl, rfl, [vN 9, vN 51], 0, ?_, .zero _ _, rfl, .of_kept hk5, dv, hrow5, hds5⟩
      show resL Tb0 61 t9 _ [.tmp 10, .tmp 11] = _
      simp only [resL, h10, h11]; rfl
    · refine WK.cond (v := false) (by rw [evalO_tmp, g57]; rfl) ?_
      refine WK.seq (WK.reg_rr (fun t' => t'.get 59 = .bool true) ?_ ?_)
      · have b9 : exEq false (.one .i) (vN 141) (.int .i64 141) H5 = .val (.bool true) H5 0 0 := rfl
        simp (config := { maxSteps := 1000000 }) only [chg_r13, g50, b9, WOR, WOG, WOC, WOGk, WOCk, wants_none', wants_some, wantsV_U, wantsV_tt, wantsV_tf, wantsV_ft, wantsV_ff, run, evalO_tmp, evalO_const, evalO_func, evalL, callV_func, Rv_eq, Ro_some, ok_zero, true_and, and_true, get_putT (d := 6), exLen_str, binV_geq, binV_leq, binV_lss, binV_gtr, exEq_int, exEq_str, exPick_t, exPick_f, Bool.not_true, Bool.not_false, Bc_t, Bc_f, Nat.reducePow, Nat.reduceLT, Nat.reduceEqDiff, Nat.reduceAdd, if_false, reduceIte, and_self, exFa_ptr, putT_none, Nat.zero_add, Nat.add_zero, Nat.le_refl, exUn_not]
      rintro t9 g59
      refine WK.cond (v := true) (by rw [evalO_tmp, g59]; rfl) ?_
      refine WK.seq (WK.reg_rr (fun t' => t'.get 10 = vN 9 ∧ t'.get 11 = vN 52) ?_ ?_)
      · simp (config := { maxSteps := 1000000 }) only [chg_r14, WOR, WOG, WOC, WOGk, WOCk, wants_none', wants_some, wantsV_U, wantsV_tt, wantsV_tf, wantsV_ft, wantsV_ff, run, evalO_tmp, evalO_const, evalO_func, evalL, callV_func, Rv_eq, Ro_some, ok_zero, true_and, and_true, get_putT (d := 6), exLen_str, binV_geq, binV_leq, binV_lss, binV_gtr, exEq_int, exEq_str, exPick_t, exPick_f, Bool.not_true, Bool.not_false, Bc_t, Bc_f, Nat.reducePow, Nat.reduceLT, Nat.reduceEqDiff, Nat.reduceAdd, if_false, reduceIte, and_self, exFa_ptr, putT_none, Nat.zero_add, Nat.add_zero, Nat.le_refl, exUn_not]
      rintro t10 ⟨h10, h11⟩
      refine WK.ret ⟨.inr rfl, rfl, [vN 9, vN 52], 0, ?_, .zero _ _, rfl, .of_kept hk5, dv, hrow5, hds5⟩
      show resL Tb0 61 t10 _ [.tmp 10, .tmp 11] = _
      simp only [resL, h10, h11]; rfl
end
end Go.Proofs.RS
end
