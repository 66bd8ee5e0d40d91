/-
  A part of the proof that pliantlaw15.RtsReads returns true and leaves its arguments alone. Conditions: those of the card in the last text.
-/
import Derived.Test.YtgdejggelcpokaaGreatDoorG20
set_option linter.unusedSimpArgs false
set_option linter.unusedVariables false
set_option linter.unusedSectionVars false

noncomputable section
namespace Go.Proofs.RS
open Go Go.Ev Go.Proofs Go.Ds
theorem rdN_row {H : Hp} {b ty op o k : Nat} {L : List Value} (h : Row H b ty op L) (hle : o + k ≤ L.length) : rdN H b o k = some ((L.drop o).take k) := by
  obtain ⟨t, h1, h2⟩ := h
  unfold rdN; rw [h1]; simp only []
  rw [(ble_iff _ _).2 hle, Bc_t, rdL_list h2 k o hle]
theorem resL_rec {nt a i : Nat} {t : T Value} {H : Hp} {b op : Nat} {r : Entry} {w : Value} (h : Row H b 77 op [vS r.1, vS r.2]) (ha : t.get a = .pointer (some ⟨b, 0, none⟩)) (hi : t.get i = w) (h1 : a < nt) (h2 : i < nt) :
    resL Tb0 nt t H [.cell a 77, .tmp i] = some ([recV r, w], Nat.lor (bit b) 0) := by
  have e1 : isAggT Tb0 77 = some true := by rfl
  have e2 : szOf Tb0 77 = some 2 := by rfl
  have e3 : rdN H b 0 2 = some [vS r.1, vS r.2] := rdN_row (k := 2) (o := 0) h (Nat.le_refl _)
  unfold resL
  rw [(blt_iff _ _).2 h1, Bc_t, ha]
  simp only [asPtr, e1, e2, e3]
  unfold resL
  rw [(blt_iff _ _).2 h2, Bc_t, hi]
  rfl
def nextI (d : DS) (k : Str) : Option Entry := d[pos d k + (if isAt d k then 1 else 0)]?
def nextV : Option Entry → Value
  | none => .tuple #[recV ([], []), vN 4]
  | some r => .tuple #[recV r, vN 0]
def ansA (_z0 : Int) : Option DS → Int | none => 9 | some _ => 0
def ansB (z0 : Int) : Option DS → Int | none => if z0 = 4 then 51 else 52 | some _ => 0
theorem ansV_eq (z0 : Int) (o : Option DS) : ansV z0 o = .tuple #[vN (ansA z0 o), vN (ansB z0 o)] := by cases o <;> rfl
section
variable {sp : Nat → List Value → Hp → Option (Value × Hp × Nat × Nat)} {e : Env}
set_option maxRecDepth 10000 in
set_option maxHeartbeats 4000000 in
theorem swr_ok (S : SpK sp) {H : Hp} {c : UInt8} {k : Nat} {data : Str} {d : DS} {at_ : Str} (hf : H.isFn = true) (hn : 102 ≤ H.nx) (hx : Fix H) (hs : Sto H d at_) (he : e.n0 ≤ 13) (hc : c ≠ 32) (hk : k < 1000) (hpl : plainB c = true) (hpd : ∀ x ∈ data, plainB x = true) (hld : data.length ≤ 255) (hch : checkB d = true) (hl : d.length < 64) : EC Tb0 sp e 22 [sP, vN 1, vS (pad c k), vS data] H fun v H' => v = ansV 141 (writeI d ([c], data)) ∧ Upd H H' ∧ Sto H' ((writeI d ([c], data)).getD d) at_ := by
  refine EC.intro (fn := Tryz.f22) (c := swr_body) (S.no 22 (by decide) _ _) (by rfl) swr_some swr_comp (by show 4 ≤ 17; decide) ?_
  have g0 : (enterT Tryz.f22 [sP, vN 1, vS (pad c k), vS data]).get 0 = sP := by rw [enterT_get (by show 4 ≤ 17; decide) (by show 0 < 17; decide)]; rfl
  have g1 : (enterT Tryz.f22 [sP, vN 1, vS (pad c k), vS data]).get 1 = vN 1 := by rw [enterT_get (by show 4 ≤ 17; decide) (by show 1 < 17; decide)]; rfl
  have g2 : (enterT Tryz.f22 [sP, vN 1, vS (pad c k), vS data]).get 2 = vS (pad c k) := by rw [enterT_get (by show 4 ≤ 17; decide) (by show 2 < 17; decide)]; rfl
  have g3 : (enterT Tryz.f22 [sP, vN 1, vS (pad c k), vS data]).get 3 = vS data := by rw [enterT_get (by show 4 ≤ 17; decide) (by show 3 < 17; decide)]; rfl
  revert g0 g1 g2 g3
  generalize enterT Tryz.f22 [sP, vN 1, vS (pad c k), vS data] = t0
  intro g0 g1 g2 g3
  show WK Tb0 sp e ⟨5, 17, none, false⟩ swr_k t0 [] H _
  unfold swr_k
  have hrec : recB ([c], data) = true := by
    unfold recB keyB dataB
    rw [Bool.and_eq_true, Bool.and_eq_true]
    exact ⟨⟨decide_eq_true (by show 1 ≤ 1; omega), decide_eq_true (by show 1 ≤ 16; omega)⟩, decide_eq_true hld⟩
  have hcall : ∀ dv, DsR e H dv d → EC Tb0 sp e 61 [dv, recV ([c], data)] H fun v H' => ∃ v' z, v = .tuple #[v', vN z] ∧ Kept H H' ∧ ResR 141 H.nx H' v' z (writeI d ([c], data)) := fun dv hd => by
    refine (wri_ok S hf (by omega) hd hch hrec).mono fun v H' _ hv => ?_
    obtain ⟨v', z, h1, h2, h3⟩ := hv
    refine ⟨v', z, h1, h2, ?_⟩
    revert h3
    unfold writeI
    cases hat : isAt d [c] with
    | true => simp only [if_true]; exact id
    | false => simp only [if_neg (show ¬ d.length = 64 by omega)]; exact id
  refine WK.seq (WK.reg_rr (fun t' => t'.get 0 = sP ∧ t'.get 1 = vN 1 ∧ t'.get 2 = vS (pad c k) ∧ t'.get 3 = vS data) ?_ ?_)
  · simp (config := { maxSteps := 1000000 }) only [swr_r0, g0, g1, g2, g3, WOR, WOG, WOC, WOGk, WOCk, wants_none', wants_some, wantsV_U, wantsV_tt, wantsV_tf, wantsV_ft, wantsV_ff, run, evalO_tmp, evalO_const, evalO_func, evalL, callV_func, Rv_eq, Ro_some, ok_zero, true_and, and_true, get_putT (d := 5), exLen_str, binV_geq, binV_leq, binV_lss, binV_gtr, exEq_int, exEq_str, exPick_t, exPick_f, Bool.not_true, Bool.not_false, Bc_t, Bc_f, Nat.reducePow, Nat.reduceLT, Nat.reduceEqDiff, Nat.reduceAdd, if_false, reduceIte, and_self, exFa_ptr, putT_none, Nat.zero_add, Nat.add_zero, Nat.le_refl, exUn_not]
  rintro t1 ⟨g0, g1, g2, g3⟩
  refine WK.seq (WK.reg_gg (fun t' H' => t'.get 8 = vN (ansA 141 (writeI d ([c], data))) ∧ t'.get 9 = vN (ansB 141 (writeI d ([c], data))) ∧ Upd H H' ∧ Sto H' ((writeI d ([c], data)).getD d) at_) ?_ ?_)
  · simp (config := { maxSteps := 1000000 }) only [swr_r1, g0, g1, g2, g3, WOR, WOG, WOC, WOGk, WOCk, wants_none', wants_some, wantsV_U, wantsV_tt, wantsV_tf, wantsV_ft, wantsV_ff, run, evalO_tmp, evalO_const, evalO_func, evalL, callV_func, Rv_eq, Ro_some, ok_zero, true_and, and_true, get_putT (d := 5), exLen_str, binV_geq, binV_leq, binV_lss, binV_gtr, exEq_int, exEq_str, exPick_t, exPick_f, Bool.not_true, Bool.not_false, Bc_t, Bc_f, Nat.reducePow, Nat.reduceLT, Nat.reduceEqDiff, Nat.reduceAdd, if_false, reduceIte, and_self, exFa_ptr, putT_none, Nat.zero_add, Nat.add_zero, Nat.le_refl, exUn_not]
    refine (chg_ok S hf hn hx hs he hc hk hpl hpd hld (by decide) hcall).mono fun v H4 _ hv => ?_
    obtain ⟨rfl, hu, hst⟩ := hv
    rw [ansV_eq]
    have a0 := fun H => exExt_tup [vN (ansA 141 (writeI d ([c], data))), vN (ansB 141 (writeI d ([c], data)))] 0 _ rfl H
    have a1 := fun H => exExt_tup [vN (ansA 141 (writeI d ([c], data))), vN (ansB 141 (writeI d ([c], data)))] 1 _ rfl H
    simp (config := { maxSteps := 1000000 }) only [a0, a1, g0, WOR, WOG, WOC, WOGk, WOCk, wants_none', wants_some, wantsV_U, wantsV_tt, wantsV_tf, wantsV_ft, wantsV_ff, run, evalO_tmp, evalO_const, evalO_func, evalL, callV_func, Rv_eq, Ro_some, ok_zero, true_and, and_true, get_putT (d := 5), exLen_str, binV_geq, binV_leq, binV_lss, binV_gtr, exEq_int, exEq_str, exPick_t, exPick_f, Bool.not_true, Bool.not_false, Bc_t, Bc_f, Nat.reducePow, Nat.reduceLT, Nat.reduceEqDiff, Nat.reduceAdd, if_false, reduceIte, and_self, exFa_ptr, putT_none, Nat.zero_add, Nat.add_zero, Nat.le_refl, exUn_not]
    exact ⟨hu, hst⟩
  rintro t2 H2 ⟨h8, h9, hu, hst⟩
  refine WK.ret ⟨.inr rfl, rfl, [vN (ansA 141 (writeI d ([c], data))), vN (ansB 141 (writeI d ([c], data)))], 0, ?_, .zero _ _, (ansV_eq _ _).symm, hu, hst⟩
  show resL Tb0 17 t2 _ [.tmp 8, .tmp 9] = _
  simp only [resL, h8, h9]; rfl
set_option maxRecDepth 10000 in
set_option maxHeartbeats 4000000 in
theorem srw_ok (S : SpK sp) {H : Hp} {c : UInt8} {k : Nat} {data : Str} {d : DS} {at_ : Str} (hf : H.isFn = true) (hn : 102 ≤ H.nx) (hx : Fix H) (hs : Sto H d at_) (he : e.n0 ≤ 13) (hc : c ≠ 32) (hk : k < 1000) (hpl : plainB c = true) (hpd : ∀ x ∈ data, plainB x = true) (hld : data.length ≤ 255) (hch : checkB d = true) (hl : d.length < 64) : EC Tb0 sp e 23 [sP, vN 1, vS (pad c k), vS data] H fun v H' => v = ansV 4 (rewriteI d ([c], data)) ∧ Upd H H' ∧ Sto H' ((rewriteI d ([c], data)).getD d) at_ := by
  refine EC.intro (fn := Tryz.f23) (c := srw_body) (S.no 23 (by decide) _ _) (by rfl) srw_some srw_comp (by show 4 ≤ 17; decide) ?_
  have g0 : (enterT Tryz.f23 [sP, vN 1, vS (pad c k), vS data]).get 0 = sP := by rw [enterT_get (by show 4 ≤ 17; decide) (by show 0 < 17; decide)]; rfl
  have g1 : (enterT Tryz.f23 [sP, vN 1, vS (pad c k), vS data]).get 1 = vN 1 := by rw [enterT_get (by show 4 ≤ 17; decide) (by show 1 < 17; decide)]; rfl
  have g2 : (enterT Tryz.f23 [sP, vN 1, vS (pad c k), vS data]).get 2 = vS (pad c k) := by rw [enterT_get (by show 4 ≤ 17; decide) (by show 2 < 17; decide)]; rfl
  have g3 : (enterT Tryz.f23 [sP, vN 1, vS (pad c k), vS data]).get 3 = vS data := by rw [enterT_get (by show 4 ≤ 17; decide) (by show 3 < 17; decide)]; rfl
  revert g0 g1 g2 g3
  generalize enterT Tryz.f23 [sP, vN 1, vS (pad c k), vS data] = t0
  intro g0 g1 g2 g3
  show WK Tb0 sp e ⟨5, 17, none, false⟩ srw_k t0 [] H _
  unfold srw_k
  have hrec : recB ([c], data) = true := by
    unfold recB keyB dataB
    rw [Bool.and_eq_true, Bool.and_eq_true]
    exact ⟨⟨decide_eq_true (by show 1 ≤ 1; omega), decide_eq_true (by show 1 ≤ 16; omega)⟩, decide_eq_true hld⟩
  have hcall : ∀ dv, DsR e H dv d → EC Tb0 sp e 62 [dv, recV ([c], data)] H fun v H' => ∃ v' z, v = .tuple #[v', vN z] ∧ Kept H H' ∧ ResR 4 H.nx H' v' z (rewriteI d ([c], data)) := fun dv hd => by
    exact rew_ok S hf (by omega) hd hch hrec
  refine WK.seq (WK.reg_rr (fun t' => t'.get 0 = sP ∧ t'.get 1 = vN 1 ∧ t'.get 2 = vS (pad c k) ∧ t'.get 3 = vS data) ?_ ?_)
  · simp (config := { maxSteps := 1000000 }) only [srw_r0, g0, g1, g2, g3, WOR, WOG, WOC, WOGk, WOCk, wants_none', wants_some, wantsV_U, wantsV_tt, wantsV_tf, wantsV_ft, wantsV_ff, run, evalO_tmp, evalO_const, evalO_func, evalL, callV_func, Rv_eq, Ro_some, ok_zero, true_and, and_true, get_putT (d := 5), exLen_str, binV_geq, binV_leq, binV_lss, binV_gtr, exEq_int, exEq_str, exPick_t, exPick_f, Bool.not_true, Bool.not_false, Bc_t, Bc_f, Nat.reducePow, Nat.reduceLT, Nat.reduceEqDiff, Nat.reduceAdd, if_false, reduceIte, and_self, exFa_ptr, putT_none, Nat.zero_add, Nat.add_zero, Nat.le_refl, exUn_not]
  rintro t1 ⟨g0, g1, g2, g3⟩
  refine WK.seq (WK.reg_gg (fun t' H' => t'.get 8 = vN (ansA 4 (rewriteI d ([c], data))) ∧ t'.get 9 = vN (ansB 4 (rewriteI d ([c], data))) ∧ Upd H H' ∧ Sto H' ((rewriteI d ([c], data)).getD d) at_) ?_ ?_)
  · simp (config := { maxSteps := 1000000 }) only [srw_r1, g0, g1, g2, g3, WOR, WOG, WOC, WOGk, WOCk, wants_none', wants_some, wantsV_U, wantsV_tt, wantsV_tf, wantsV_ft, wantsV_ff, run, evalO_tmp, evalO_const, evalO_func, evalL, callV_func, Rv_eq, Ro_some, ok_zero, true_and, and_true, get_putT (d := 5), exLen_str, binV_geq, binV_leq, binV_lss, binV_gtr, exEq_int, exEq_str, exPick_t, exPick_f, Bool.not_true, Bool.not_false, Bc_t, Bc_f, Nat.reducePow, Nat.reduceLT, Nat.reduceEqDiff, Nat.reduceAdd, if_false, reduceIte, and_self, exFa_ptr, putT_none, Nat.zero_add, Nat.add_zero, Nat.le_refl, exUn_not]
    refine (chg_ok S hf hn hx hs he hc hk hpl hpd hld (by decide) hcall).mono fun v H4 _ hv => ?_
    obtain ⟨rfl, hu, hst⟩ := hv
    rw [ansV_eq]
    have a0 := fun H => exExt_tup [vN (ansA 4 (rewriteI d ([c], data))), vN (ansB 4 (rewriteI d ([c], data)))] 0 _ rfl H
    have a1 := fun H => exExt_tup [vN (ansA 4 (rewriteI d ([c], data))), vN (ansB 4 (rewriteI d ([c], data)))] 1 _ rfl H
    simp (config := { maxSteps := 1000000 }) only [a0, a1, g0, WOR, WOG, WOC, WOGk, WOCk, wants_none', wants_some, wantsV_U, wantsV_tt, wantsV_tf, wantsV_ft, wantsV_ff, run, evalO_tmp, evalO_const, evalO_func, evalL, callV_func, Rv_eq, Ro_some, ok_zero, true_and, and_true, get_putT (d := 5), exLen_str, binV_geq, binV_leq, binV_lss, binV_gtr, exEq_int, exEq_str, exPick_t, exPick_f, Bool.not_true, Bool.not_false, Bc_t, Bc_f, Nat.reducePow, Nat.reduceLT, Nat.reduceEqDiff, Nat.reduceAdd, if_false, reduceIte, and_self, exFa_ptr, putT_none, Nat.zero_add, Nat.add_zero, Nat.le_refl, exUn_not]
    exact ⟨hu, hst⟩
  rintro t2 H2 ⟨h8, h9, hu, hst⟩
  refine WK.ret ⟨.inr rfl, rfl, [vN (ansA 4 (rewriteI d ([c], data))), vN (ansB 4 (rewriteI d ([c], data)))], 0, ?_, .zero _ _, (ansV_eq _ _).symm, hu, hst⟩
  show resL Tb0 17 t2 _ [.tmp 8, .tmp 9] = _
  simp only [resL, h8, h9]; rfl
set_option maxRecDepth 10000 in
set_option maxHeartbeats 4000000 in
theorem sdl1_ok (S : SpK sp) {H : Hp} {key data : Str} {dv : Value} {d : DS} (hf : H.isFn = true) (he : e.n0 ≤ H.nx) (hd : DsR e H dv d) (hch : checkB d = true) (hkey : keyB key = true) : EC Tb0 sp e 63 [dv, recV (key, data)] H fun v H' => ∃ v' z, v = .tuple #[v', vN z] ∧ Kept H H' ∧ ResR 4 H.nx H' v' z (deleteI d key) := by
  refine EC.intro (fn := Tryz.f63) (c := sdl1_body) (S.no 63 (by decide) _ _) (by rfl) sdl1_some sdl1_comp (by show 2 ≤ 12; decide) ?_
  have g0 : (enterT Tryz.f63 [dv, recV (key, data)]).get 0 = dv := by rw [enterT_get (by show 2 ≤ 12; decide) (by show 0 < 12; decide)]; rfl
  have g1 : (enterT Tryz.f63 [dv, recV (key, data)]).get 1 = recV (key, data) := by rw [enterT_get (by show 2 ≤ 12; decide) (by show 1 < 12; decide)]; rfl
  revert g0 g1
  generalize enterT Tryz.f63 [dv, recV (key, data)] = t0
  intro g0 g1
  show WK Tb0 sp e ⟨4, 12, none, false⟩ sdl1_k t0 [] H _
  unfold sdl1_k
  obtain ⟨H1, hB⟩ := boxed e hf 77 [vS key, vS data]
  have hbox := hB.box
  have q0 : exLd1 (.pointer (some ⟨H.nx, 0, none⟩)) H1 = .val (vS key) H1 (bit H.nx) 0 := exLd1_row hB.row rfl
  have q1 : e.ok (bit H.nx) 0 H1 := .fresh hB.row.lt he
  have q2 : H.nx ≤ H1.nx := hB.kept.nx
  refine WK.seq (WK.reg_gg (fun t' H' => t'.get 0 = dv ∧ t'.get 3 = .pointer (some ⟨H.nx, 0, none⟩) ∧ H' = H1) ?_ ?_)
  · simp (config := { maxSteps := 1000000 }) only [sdl1_r0, g0, g1, hbox, q2, WOR, WOG, WOC, WOGk, WOCk, wants_none', wants_some, wantsV_U, wantsV_tt, wantsV_tf, wantsV_ft, wantsV_ff, run, evalO_tmp, evalO_const, evalO_func, evalL, callV_func, Rv_eq, Ro_some, ok_zero, true_and, and_true, get_putT (d := 4), exLen_str, binV_geq, binV_leq, binV_lss, binV_gtr, exEq_int, exEq_str, exPick_t, exPick_f, Bool.not_true, Bool.not_false, Bc_t, Bc_f, Nat.reducePow, Nat.reduceLT, Nat.reduceEqDiff, Nat.reduceAdd, if_false, reduceIte, and_self, exFa_ptr, putT_none, Nat.zero_add, Nat.add_zero, Nat.le_refl, exUn_not]
  rintro t1 H1' ⟨g0, g3, rfl⟩
  refine WK.seq (WK.reg_gg (fun t' H' => ∃ v' z, t'.get 4 = v' ∧ t'.get 5 = vN z ∧ Kept H H' ∧ ResR 4 H.nx H' v' z (deleteI d key)) ?_ ?_)
  · simp (config := { maxSteps := 1000000 }) only [sdl1_r1, g0, g3, q0, q1, WOR, WOG, WOC, WOGk, WOCk, wants_none', wants_some, wantsV_U, wantsV_tt, wantsV_tf, wantsV_ft, wantsV_ff, run, evalO_tmp, evalO_const, evalO_func, evalL, callV_func, Rv_eq, Ro_some, ok_zero, true_and, and_true, get_putT (d := 4), exLen_str, binV_geq, binV_leq, binV_lss, binV_gtr, exEq_int, exEq_str, exPick_t, exPick_f, Bool.not_true, Bool.not_false, Bc_t, Bc_f, Nat.reducePow, Nat.reduceLT, Nat.reduceEqDiff, Nat.reduceAdd, if_false, reduceIte, and_self, exFa_ptr, putT_none, Nat.zero_add, Nat.add_zero, Nat.le_refl, exUn_not]
    refine (del_ok S hB.kept.fn (by omega) (hd.later hB.kept.old) hch hkey).mono fun v H4 _ hv => ?_
    obtain ⟨v', z, rfl, hk4, hr⟩ := hv
    have a0 := fun H => exExt_tup [v', vN z] 0 _ rfl H
    have a1 := fun H => exExt_tup [v', vN z] 1 _ rfl H
    simp (config := { maxSteps := 1000000 }) only [a0, a1, g0, WOR, WOG, WOC, WOGk, WOCk, wants_none', wants_some, wantsV_U, wantsV_tt, wantsV_tf, wantsV_ft, wantsV_ff, run, evalO_tmp, evalO_const, evalO_func, evalL, callV_func, Rv_eq, Ro_some, ok_zero, true_and, and_true, get_putT (d := 4), exLen_str, binV_geq, binV_leq, binV_lss, binV_gtr, exEq_int, exEq_str, exPick_t, exPick_f, Bool.not_true, Bool.not_false, Bc_t, Bc_f, Nat.reducePow, Nat.reduceLT, Nat.reduceEqDiff, Nat.reduceAdd, if_false, reduceIte, and_self, exFa_ptr, putT_none, Nat.zero_add, Nat.add_zero, Nat.le_refl, exUn_not]
    refine ⟨v', z, rfl, rfl, hB.kept.trans hk4, ?_⟩
    cases ho : deleteI d key with
    | none => rw [ho] at hr; exact hr
    | some l => rw [ho] at hr; exact ⟨hr.1, RowR.env hr.2 (fun _ _ h => h) fun b _ h1 h2 => (h1 (Nat.lt_of_lt_of_le h2 q2)).elim⟩
  rintro t2 H2 ⟨v', z, h4, h5, hk, hr⟩
  refine WK.ret ⟨.inr rfl, rfl, [v', vN z], 0, ?_, .zero _ _, v', z, rfl, hk, hr⟩
  show resL Tb0 12 t2 _ [.tmp 4, .tmp 5] = _
  simp only [resL, h4, h5]; rfl
set_option maxRecDepth 10000 in
set_option maxHeartbeats 4000000 in
theorem sdl_ok (S : SpK sp) {H : Hp} {c : UInt8} {d : DS} {at_ : Str} (hf : H.isFn = true) (hn : 102 ≤ H.nx) (hx : Fix H) (hs : Sto H d at_) (he : e.n0 ≤ 13) (hc : c ≠ 32) (hpl : plainB c = true) (hch : checkB d = true) : EC Tb0 sp e 24 [sP, vN 1, vS [c]] H fun v H' => v = ansV 4 (deleteI d [c]) ∧ Upd H H' ∧ Sto H' ((deleteI d [c]).getD d) at_ := by
  refine EC.intro (fn := Tryz.f24) (c := sdl_body) (S.no 24 (by decide) _ _) (by rfl) sdl_some sdl_comp (by show 3 ≤ 14; decide) ?_
  have g0 : (enterT Tryz.f24 [sP, vN 1, vS [c]]).get 0 = sP := by rw [enterT_get (by show 3 ≤ 14; decide) (by show 0 < 14; decide)]; rfl
  have g1 : (enterT Tryz.f24 [sP, vN 1, vS [c]]).get 1 = vN 1 := by rw [enterT_get (by show 3 ≤ 14; decide) (by show 1 < 14; decide)]; rfl
  have g2 : (enterT Tryz.f24 [sP, vN 1, vS [c]]).get 2 = vS [c] := by rw [enterT_get (by show 3 ≤ 14; decide) (by show 2 < 14; decide)]; rfl
  revert g0 g1 g2
  generalize enterT Tryz.f24 [sP, vN 1, vS [c]] = t0
  intro g0 g1 g2
  show WK Tb0 sp e ⟨4, 14, none, false⟩ sdl_k t0 [] H _
  unfold sdl_k
  have hcall : ∀ dv, DsR e H dv d → EC Tb0 sp e 63 [dv, recV ([c], [])] H fun v H' => ∃ v' z, v = .tuple #[v', vN z] ∧ Kept H H' ∧ ResR 4 H.nx H' v' z (deleteI d [c]) := fun dv hd => sdl1_ok S hf (by omega) hd hch rfl
  refine WK.seq (WK.reg_rr (fun t' => t'.get 0 = sP ∧ t'.get 1 = vN 1 ∧ t'.get 2 = vS [c]) ?_ ?_)
  · simp (config := { maxSteps := 1000000 }) only [sdl_r0, g0, g1, g2, WOR, WOG, WOC, WOGk, WOCk, wants_none', wants_some, wantsV_U, wantsV_tt, wantsV_tf, wantsV_ft, wantsV_ff, run, evalO_tmp, evalO_const, evalO_func, evalL, callV_func, Rv_eq, Ro_some, ok_zero, true_and, and_true, get_putT (d := 4), exLen_str, binV_geq, binV_leq, binV_lss, binV_gtr, exEq_int, exEq_str, exPick_t, exPick_f, Bool.not_true, Bool.not_false, Bc_t, Bc_f, Nat.reducePow, Nat.reduceLT, Nat.reduceEqDiff, Nat.reduceAdd, if_false, reduceIte, and_self, exFa_ptr, putT_none, Nat.zero_add, Nat.add_zero, Nat.le_refl, exUn_not]
  rintro t1 ⟨g0, g1, g2⟩
  refine WK.seq (WK.reg_gg (fun t' H' => t'.get 6 = vN (ansA 4 (deleteI d [c])) ∧ t'.get 7 = vN (ansB 4 (deleteI d [c])) ∧ Upd H H' ∧ Sto H' ((deleteI d [c]).getD d) at_) ?_ ?_)
  · simp (config := { maxSteps := 1000000 }) only [sdl_r1, g0, g1, g2, WOR, WOG, WOC, WOGk, WOCk, wants_none', wants_some, wantsV_U, wantsV_tt, wantsV_tf, wantsV_ft, wantsV_ff, run, evalO_tmp, evalO_const, evalO_func, evalL, callV_func, Rv_eq, Ro_some, ok_zero, true_and, and_true, get_putT (d := 4), exLen_str, binV_geq, binV_leq, binV_lss, binV_gtr, exEq_int, exEq_str, exPick_t, exPick_f, Bool.not_true, Bool.not_false, Bc_t, Bc_f, Nat.reducePow, Nat.reduceLT, Nat.reduceEqDiff, Nat.reduceAdd, if_false, reduceIte, and_self, exFa_ptr, putT_none, Nat.zero_add, Nat.add_zero, Nat.le_refl, exUn_not]
    refine (chg_ok (k := 0) (data := []) S hf hn hx hs he hc (by decide) hpl (fun x hx => by cases hx) (by decide) (by decide) hcall).mono fun v H4 _ hv => ?_
    obtain ⟨rfl, hu, hst⟩ := hv
    rw [ansV_eq]
    have a0 := fun H => exExt_tup [vN (ansA 4 (deleteI d [c])), vN (ansB 4 (deleteI d [c]))] 0 _ rfl H
    have a1 := fun H => exExt_tup [vN (ansA 4 (deleteI d [c])), vN (ansB 4 (deleteI d [c]))] 1 _ rfl H
    simp (config := { maxSteps := 1000000 }) only [a0, a1, g0, WOR, WOG, WOC, WOGk, WOCk, wants_none', wants_some, wantsV_U, wantsV_tt, wantsV_tf, wantsV_ft, wantsV_ff, run, evalO_tmp, evalO_const, evalO_func, evalL, callV_func, Rv_eq, Ro_some, ok_zero, true_and, and_true, get_putT (d := 4), exLen_str, binV_geq, binV_leq, binV_lss, binV_gtr, exEq_int, exEq_str, exPick_t, exPick_f, Bool.not_true, Bool.not_false, Bc_t, Bc_f, Nat.reducePow, Nat.reduceLT, Nat.reduceEqDiff, Nat.reduceAdd, if_false, reduceIte, and_self, exFa_ptr, putT_none, Nat.zero_add, Nat.add_zero, Nat.le_refl, exUn_not]
    exact ⟨hu, hst⟩
  rintro t2 H2 ⟨h6, h7, hu, hst⟩
  refine WK.ret ⟨.inr rfl, rfl, [vN (ansA 4 (deleteI d [c])), vN (ansB 4 (deleteI d [c]))], 0, ?_, .zero _ _, (ansV_eq _ _).symm, hu, hst⟩
  show resL Tb0 14 t2 _ [.tmp 6, .tmp 7] = _
  simp only [resL, h6, h7]; rfl
set_option maxRecDepth 10000 in
set_option maxHeartbeats 4000000 in
theorem nex_ok (S : SpK sp) {H : Hp} {sv : Value} {d : DS} {k : Str} (hf : H.isFn = true) (he : e.n0 ≤ H.nx) (hsl : DsR e H sv d) (hch : checkB d = true) (hk : k.length ≤ 16) : EC Tb0 sp e 66 [sv, vS k] H fun v H' => v = nextV (nextI d k) ∧ Kept H H' := by
  refine EC.intro (fn := Tryz.f66) (c := nex_body) (S.no 66 (by decide) _ _) (by rfl) nex_some nex_comp (by show 2 ≤ 36; decide) ?_
  have g0 : (enterT Tryz.f66 [sv, vS k]).get 0 = sv := by rw [enterT_get (by show 2 ≤ 36; decide) (by show 0 < 36; decide)]; rfl
  have g1 : (enterT Tryz.f66 [sv, vS k]).get 1 = vS k := by rw [enterT_get (by show 2 ≤ 36; decide) (by show 1 < 36; decide)]; rfl
  revert g0 g1
  generalize enterT Tryz.f66 [sv, vS k] = t0
  intro g0 g1
  show WK Tb0 sp e ⟨6, 36, none, false⟩ nex_k t0 [] H _
  unfold nex_k
  have h64 := len64 hch
  have hrow1 : Row (H.push (blkL [.string ⟨#[]⟩, .string ⟨#[]⟩] 77 0)) H.nx 77 0 [vS [], vS []] := row_push (fn_room hf) _ _ _
  have hk1 : Kept H (H.push (blkL [.string ⟨#[]⟩, .string ⟨#[]⟩] 77 0)) := ⟨by rw [isFn_push]; exact hf, by rw [nx_push]; omega, fun b hb => blk_push_old (fn_room hf) _ hb⟩
  have hal := alloc_ptr hf (blkL [.string ⟨#[]⟩, .string ⟨#[]⟩] 77 0)
  revert hrow1 hk1 hal
  generalize H.push (blkL [.string ⟨#[]⟩, .string ⟨#[]⟩] 77 0) = H1
  intro hrow1 hk1 hal
  have n1 := hk1.nx
  refine WK.seq (WK.reg_gg (fun t' H' => t'.get 0 = sv ∧ t'.get 1 = vS k ∧ t'.get 4 = .pointer (some ⟨H.nx, 0, none⟩) ∧ H' = H1) ?_ ?_)
  · simp (config := { maxSteps := 1000000 }) only [nex_r0, g0, g1, hal, n1, WOR, WOG, WOC, WOGk, WOCk, wants_none', wants_some, wantsV_U, wantsV_tt, wantsV_tf, wantsV_ft, wantsV_ff, run, evalO_tmp, evalO_const, evalO_func, evalL, callV_func, Rv_eq, Ro_some, ok_zero, true_and, and_true, get_putT (d := 6), exLen_str, binV_geq, binV_leq, binV_lss, binV_gtr, exEq_int, exEq_str, exPick_t, exPick_f, Bool.not_true, Bool.not_false, Bc_t, Bc_f, Nat.reducePow, Nat.reduceLT, Nat.reduceEqDiff, Nat.reduceAdd, if_false, reduceIte, and_self, exFa_ptr, putT_none, Nat.zero_add, Nat.add_zero, Nat.le_refl, exUn_not]
  rintro t1 H1' ⟨g0, g1, g4, rfl⟩
  have b1 : binV .leq (vN k.length) (.int .i64 16) = some (.bool true) := by rw [binV_leq, decide_eq_false (by omega)]; rfl
  have hask : askV d true = 0 := by unfold askV; rw [hch]; rfl
  refine WK.seq (WK.seq (WK.reg_gg (fun t' H' => t'.get 0 = sv ∧ t'.get 1 = vS k ∧ t'.get 4 = .pointer (some ⟨H.nx, 0, none⟩) ∧ t'.get 6 = vN 0 ∧ Kept H1' H') ?_ ?_))
  · simp (config := { maxSteps := 1000000 }) only [nex_r1, g0, g1, g4, b1, WOR, WOG, WOC, WOGk, WOCk, wants_none', wants_some, wantsV_U, wantsV_tt, wantsV_tf, wantsV_ft, wantsV_ff, run, evalO_tmp, evalO_const, evalO_func, evalL, callV_func, Rv_eq, Ro_some, ok_zero, true_and, and_true, get_putT (d := 6), exLen_str, binV_geq, binV_leq, binV_lss, binV_gtr, exEq_int, exEq_str, exPick_t, exPick_f, Bool.not_true, Bool.not_false, Bc_t, Bc_f, Nat.reducePow, Nat.reduceLT, Nat.reduceEqDiff, Nat.reduceAdd, if_false, reduceIte, and_self, exFa_ptr, putT_none, Nat.zero_add, Nat.add_zero, Nat.le_refl, exUn_not]
    refine (ask_ok (is := true) (S.no 115 (by decide)) (S.no 83 (by decide)) (S.no 116 (by decide)) (S.no 119 (by decide)) (S.no 157 (by decide)) hk1.fn (by omega) (hsl.later hk1.old) (by omega)).mono fun v H4 _ hv => ?_
    obtain ⟨rfl, hk4⟩ := hv
    rw [hask]
    simp (config := { maxSteps := 1000000 }) only [g0, g1, g4, WOR, WOG, WOC, WOGk, WOCk, wants_none', wants_some, wantsV_U, wantsV_tt, wantsV_tf, wantsV_ft, wantsV_ff, run, evalO_tmp, evalO_const, evalO_func, evalL, callV_func, Rv_eq, Ro_some, ok_zero, true_and, and_true, get_putT (d := 6), exLen_str, binV_geq, binV_leq, binV_lss, binV_gtr, exEq_int, exEq_str, exPick_t, exPick_f, Bool.not_true, Bool.not_false, Bc_t, Bc_f, Nat.reducePow, Nat.reduceLT, Nat.reduceEqDiff, Nat.reduceAdd, if_false, reduceIte, and_self, exFa_ptr, putT_none, Nat.zero_add, Nat.add_zero, Nat.le_refl, exUn_not]
    exact hk4
  rintro t2 H2 ⟨g0, g1, g4, g6, hk2⟩
  have hk02 := hk1.trans hk2
  refine WK.seq (WK.reg_rr (fun t' => t'.get 0 = sv ∧ t'.get 1 = vS k ∧ t'.get 4 = .pointer (some ⟨H.nx, 0, none⟩) ∧ t'.get 15 = .bool false) ?_ ?_)
  · have b0 : exEq true (.one .i) (vN 0) (.int .i64 0) H2 = .val (.bool false) H2 0 0 := rfl
    simp (config := { maxSteps := 1000000 }) only [nex_r2, g0, g1, g4, g6, b0, WOR, WOG, WOC, WOGk, WOCk, wants_none', wants_some, wantsV_U, wantsV_tt, wantsV_tf, wantsV_ft, wantsV_ff, run, evalO_tmp, evalO_const, evalO_func, evalL, callV_func, Rv_eq, Ro_some, ok_zero, true_and, and_true, get_putT (d := 6), exLen_str, binV_geq, binV_leq, binV_lss, binV_gtr, exEq_int, exEq_str, exPick_t, exPick_f, Bool.not_true, Bool.not_false, Bc_t, Bc_f, Nat.reducePow, Nat.reduceLT, Nat.reduceEqDiff, Nat.reduceAdd, if_false, reduceIte, and_self, exFa_ptr, putT_none, Nat.zero_add, Nat.add_zero, Nat.le_refl, exUn_not]
  rintro t3 ⟨g0, g1, g4, g15⟩
  refine WK.cond (v := false) (by rw [evalO_tmp, g15]; rfl) (WK.skip ?_)
  show WK Tb0 sp e ⟨6, 36, none, false⟩ _ t3 [] H2 _
  refine WK.seq (WK.reg_gg (fun t' H' => t'.get 0 = sv ∧ t'.get 4 = .pointer (some ⟨H.nx, 0, none⟩) ∧ t'.get 7 = vN (pos d k) ∧ t'.get 8 = .bool (isAt d k) ∧ Kept H2 H') ?_ ?_)
  · simp (config := { maxSteps := 1000000 }) only [nex_r4, g0, g1, g4, WOR, WOG, WOC, WOGk, WOCk, wants_none', wants_some, wantsV_U, wantsV_tt, wantsV_tf, wantsV_ft, wantsV_ff, run, evalO_tmp, evalO_const, evalO_func, evalL, callV_func, Rv_eq, Ro_some, ok_zero, true_and, and_true, get_putT (d := 6), exLen_str, binV_geq, binV_leq, binV_lss, binV_gtr, exEq_int, exEq_str, exPick_t, exPick_f, Bool.not_true, Bool.not_false, Bc_t, Bc_f, Nat.reducePow, Nat.reduceLT, Nat.reduceEqDiff, Nat.reduceAdd, if_false, reduceIte, and_self, exFa_ptr, putT_none, Nat.zero_add, Nat.add_zero, Nat.le_refl, exUn_not]
    refine (at_ok (k := k) (S.no 117 (by decide)) (S.no 158 (by decide)) (S.no 159 (by decide)) hk2.fn (by have := hk02.nx; omega) (hsl.later hk02.old) (by omega)).mono fun v H3 _ hv => ?_
    obtain ⟨rfl, hk3⟩ := hv
    have hx0 := fun H => exExt_tup [vN (pos d k), .bool (isAt d k)] 0 _ rfl H
    have hx1 := fun H => exExt_tup [vN (pos d k), .bool (isAt d k)] 1 _ rfl H
    simp (config := { maxSteps := 1000000 }) only [hx0, hx1, g0, g4, WOR, WOG, WOC, WOGk, WOCk, wants_none', wants_some, wantsV_U, wantsV_tt, wantsV_tf, wantsV_ft, wantsV_ff, run, evalO_tmp, evalO_const, evalO_func, evalL, callV_func, Rv_eq, Ro_some, ok_zero, true_and, and_true, get_putT (d := 6), exLen_str, binV_geq, binV_leq, binV_lss, binV_gtr, exEq_int, exEq_str, exPick_t, exPick_f, Bool.not_true, Bool.not_false, Bc_t, Bc_f, Nat.reducePow, Nat.reduceLT, Nat.reduceEqDiff, Nat.reduceAdd, if_false, reduceIte, and_self, exFa_ptr, putT_none, Nat.zero_add, Nat.add_zero, Nat.le_refl, exUn_not]
    exact hk3
  rintro t4 H3 ⟨g0, g4, g7, g8, hk3⟩
  have hk03 := hk02.trans hk3
  have hpos := pos_le k d
  have hrow3 : Row H3 H.nx 77 0 [vS [], vS []] := (hrow1.of_blk (hk2.old _ hrow1.lt)).of_blk (hk3.old _ (Nat.lt_of_lt_of_le hrow1.lt hk2.nx))
  refine WK.seq (WK.mono (K := fun x t5 ds5 H5 => x = .normal ∧ ds5 = [] ∧ H5 = H3 ∧ t5.get 0 = sv ∧ t5.get 4 = .pointer (some ⟨H.nx, 0, none⟩) ∧ t5.get 7 = vN ((pos d k + (if isAt d k then 1 else 0) : Nat) : Int)) ?_ ?_)
  · refine WK.seq (WK.reg_rr (fun t' => t'.get 0 = sv ∧ t'.get 4 = .pointer (some ⟨H.nx, 0, none⟩) ∧ t'.get 7 = vN (pos d k) ∧ t'.get 24 = .bool (isAt d k)) ?_ ?_)
    · simp (config := { maxSteps := 1000000 }) only [nex_r5, g0, g4, g7, g8, WOR, WOG, WOC, WOGk, WOCk, wants_none', wants_some, wantsV_U, wantsV_tt, wantsV_tf, wantsV_ft, wantsV_ff, run, evalO_tmp, evalO_const, evalO_func, evalL, callV_func, Rv_eq, Ro_some, ok_zero, true_and, and_true, get_putT (d := 6), exLen_str, binV_geq, binV_leq, binV_lss, binV_gtr, exEq_int, exEq_str, exPick_t, exPick_f, Bool.not_true, Bool.not_false, Bc_t, Bc_f, Nat.reducePow, Nat.reduceLT, Nat.reduceEqDiff, Nat.reduceAdd, if_false, reduceIte, and_self, exFa_ptr, putT_none, Nat.zero_add, Nat.add_zero, Nat.le_refl, exUn_not]
    rintro t5 ⟨g0, g4, g7, g24⟩
    cases hat : isAt d k with
    | true =>
      rw [hat] at g24
      refine WK.cond (v := true) (by rw [evalO_tmp, g24]; rfl) ?_
      have hwr : wrapF .i64 ((pos d k : Int) + 1) = ((pos d k + (if true = true then 1 else 0) : Nat) : Int) := by rw [wrapF_i64 (by omega) (by omega), if_pos rfl]; omega
      refine WK.reg_rr (fun t' => t'.get 0 = sv ∧ t'.get 4 = .pointer (some ⟨H.nx, 0, none⟩) ∧ t'.get 7 = vN ((pos d k + (if true = true then 1 else 0) : Nat) : Int)) ?_ ?_
      · simp (config := { maxSteps := 1000000 }) only [nex_r6, g0, g4, g7, binV_add, hwr, WOR, WOG, WOC, WOGk, WOCk, wants_none', wants_some, wantsV_U, wantsV_tt, wantsV_tf, wantsV_ft, wantsV_ff, run, evalO_tmp, evalO_const, evalO_func, evalL, callV_func, Rv_eq, Ro_some, ok_zero, true_and, and_true, get_putT (d := 6), exLen_str, binV_geq, binV_leq, binV_lss, binV_gtr, exEq_int, exEq_str, exPick_t, exPick_f, Bool.not_true, Bool.not_false, Bc_t, Bc_f, Nat.reducePow, Nat.reduceLT, Nat.reduceEqDiff, Nat.reduceAdd, if_false, reduceIte, and_self, exFa_ptr, putT_none, Nat.zero_add, Nat.add_zero, Nat.le_refl, exUn_not]
      rintro t6 ⟨g0, g4, g7⟩
      exact ⟨rfl, rfl, rfl, g0, g4, g7⟩
    | false =>
      rw [hat] at g24
      refine WK.cond (v := false) (by rw [evalO_tmp, g24]; rfl) (WK.skip ⟨rfl, rfl, rfl, g0, g4, ?_⟩)
      rw [g7, if_neg (by decide)]; rfl
  rintro x t5 ds5 H5 - ⟨rfl, rfl, rfl, g0, g4, g7⟩
  show WK Tb0 sp e ⟨6, 36, none, false⟩ _ t5 [] H5 _
  have hsl5 : DsR e H5 sv d := hsl.later hk03.old
  have k0 := hsl5.len
  obtain ⟨i, hi⟩ : ∃ i, i = pos d k + (if isAt d k then 1 else 0) := ⟨_, rfl⟩
  have hnx : nextI d k = d[i]? := by rw [hi]; rfl
  rw [← hi] at g7
  have hile : i ≤ d.length := by
    cases hat : isAt d k with
    | false => rw [hi, hat, if_neg (by decide)]; omega
    | true => have := pos_lt hat; rw [hi, hat, if_pos rfl]; omega
  refine WK.seq (WK.seq (WK.reg_rr (fun t' => t'.get 0 = sv ∧ t'.get 4 = .pointer (some ⟨H.nx, 0, none⟩) ∧ t'.get 7 = vN i ∧ t'.get 30 = .bool (decide (i = d.length))) ?_ ?_))
  · have z : decide ((i : Int) = (d.length : Int)) = decide (i = d.length) := decide_eq_decide.2 (by omega)
    simp (config := { maxSteps := 1000000 }) only [nex_r7, g0, g4, g7, k0, z, WOR, WOG, WOC, WOGk, WOCk, wants_none', wants_some, wantsV_U, wantsV_tt, wantsV_tf, wantsV_ft, wantsV_ff, run, evalO_tmp, evalO_const, evalO_func, evalL, callV_func, Rv_eq, Ro_some, ok_zero, true_and, and_true, get_putT (d := 6), exLen_str, binV_geq, binV_leq, binV_lss, binV_gtr, exEq_int, exEq_str, exPick_t, exPick_f, Bool.not_true, Bool.not_false, Bc_t, Bc_f, Nat.reducePow, Nat.reduceLT, Nat.reduceEqDiff, Nat.reduceAdd, if_false, reduceIte, and_self, exFa_ptr, putT_none, Nat.zero_add, Nat.add_zero, Nat.le_refl, exUn_not]
  rintro t6 ⟨g0, g4, g7, g30⟩
  have he5 : e.n0 ≤ H.nx := he
  by_cases hl : i = d.length
  · refine WK.cond (v := true) (by rw [evalO_tmp, g30, decide_eq_true hl]; rfl) ?_
    obtain ⟨H6, s1, s2, s3, s4, s5⟩ := exSt_at (vs := [vS [], vS []]) (o := 0) hk03.fn hrow3 (Nat.le_refl _)
    have s6 : e.ok 0 (bit H.nx) H6 := .write s2.lt fun h => absurd h (by omega)
    have s7 : H5.nx ≤ H6.nx := by omega
    have s8 : exSt 2 (.pointer (some ⟨H.nx, 0, none⟩)) (.agg ⟨[.string ⟨#[]⟩, .string ⟨#[]⟩]⟩) H5 = .val U H6 0 (bit H.nx) := s1
    have hfill : ∀ (t : T Value) (kk : List Value → R), exFill (fillL t [.string ⟨#[]⟩, .string ⟨#[]⟩] []) kk = kk [.string ⟨#[]⟩, .string ⟨#[]⟩] := fun _ _ => rfl
    refine WK.seq (WK.reg_gg (fun t' H' => t'.get 4 = .pointer (some ⟨H.nx, 0, none⟩) ∧ t'.get 5 = vN 4 ∧ H' = H6) ?_ ?_)
    · simp (config := { maxSteps := 1000000 }) only [nex_r8, g0, g4, g7, hfill, s8, s6, s7, WOR, WOG, WOC, WOGk, WOCk, wants_none', wants_some, wantsV_U, wantsV_tt, wantsV_tf, wantsV_ft, wantsV_ff, run, evalO_tmp, evalO_const, evalO_func, evalL, callV_func, Rv_eq, Ro_some, ok_zero, true_and, and_true, get_putT (d := 6), exLen_str, binV_geq, binV_leq, binV_lss, binV_gtr, exEq_int, exEq_str, exPick_t, exPick_f, Bool.not_true, Bool.not_false, Bc_t, Bc_f, Nat.reducePow, Nat.reduceLT, Nat.reduceEqDiff, Nat.reduceAdd, if_false, reduceIte, and_self, exFa_ptr, putT_none, Nat.zero_add, Nat.add_zero, Nat.le_refl, exUn_not]
    rintro t7 H7 ⟨h4, h5, rfl⟩
    have hnone : nextI d k = none := by rw [hnx, hl, List.getElem?_eq_none (Nat.le_refl _)]
    have s2' : Row H7 H.nx 77 0 [vS (([], []) : Entry).1, vS (([], []) : Entry).2] := s2
    refine WK.ret ⟨.inr rfl, rfl, [recV ([], []), vN 4], Nat.lor (bit H.nx) 0, ?_, ?_, by rw [hnone]; rfl, ⟨s4, by have := hk03.nx; omega, fun b hb => (s5 b (by omega)).trans (hk03.old b hb)⟩⟩
    · show resL Tb0 36 t7 _ [.cell 4 77, .tmp 5] = _
      exact resL_rec s2' h4 h5 (by decide) (by decide)
    · rw [lor_zero']; exact .fresh s2.lt he5
  · have hlt : i < d.length := by omega
    refine WK.cond (v := false) (by rw [evalO_tmp, g30, decide_eq_false hl]; rfl) (WK.skip ?_)
    show WK Tb0 sp e ⟨6, 36, none, false⟩ _ t6 [] H5 _
    obtain ⟨r, hr⟩ : ∃ r, d[i]? = some r := ⟨d[i], by simp [hlt]⟩
    obtain ⟨b, o, vs, hel, rfl⟩ := hsl5.el hr
    have m1 := hel.addr
    have m2 := hel.ld
    have m3 := hel.ok
    obtain ⟨H6, s1, s2, s3, s4, s5⟩ := exSt_at (vs := [vS r.1, vS r.2]) (o := 0) hk03.fn hrow3 (Nat.le_refl _)
    have s6 : e.ok 0 (bit H.nx) H6 := .write s2.lt fun h => absurd h (by omega)
    have s7 : H5.nx ≤ H6.nx := by omega
    have s8 : exSt 2 (.pointer (some ⟨H.nx, 0, none⟩)) (.agg ⟨[vS r.1, vS r.2]⟩) H5 = .val U H6 0 (bit H.nx) := s1
    refine WK.seq (WK.reg_gg (fun t' H' => t'.get 4 = .pointer (some ⟨H.nx, 0, none⟩) ∧ t'.get 5 = vN 0 ∧ H' = H6) ?_ ?_)
    · simp (config := { maxSteps := 1000000 }) only [nex_r9, g0, g4, g7, m1, m2, m3, s8, s6, s7, WOR, WOG, WOC, WOGk, WOCk, wants_none', wants_some, wantsV_U, wantsV_tt, wantsV_tf, wantsV_ft, wantsV_ff, run, evalO_tmp, evalO_const, evalO_func, evalL, callV_func, Rv_eq, Ro_some, ok_zero, true_and, and_true, get_putT (d := 6), exLen_str, binV_geq, binV_leq, binV_lss, binV_gtr, exEq_int, exEq_str, exPick_t, exPick_f, Bool.not_true, Bool.not_false, Bc_t, Bc_f, Nat.reducePow, Nat.reduceLT, Nat.reduceEqDiff, Nat.reduceAdd, if_false, reduceIte, and_self, exFa_ptr, putT_none, Nat.zero_add, Nat.add_zero, Nat.le_refl, exUn_not]
    rintro t7 H7 ⟨h4, h5, rfl⟩
    refine WK.ret ⟨.inr rfl, rfl, [recV r, vN 0], Nat.lor (bit H.nx) 0, ?_, ?_, by rw [hnx, hr]; rfl, ⟨s4, by have := hk03.nx; omega, fun b hb => (s5 b (by omega)).trans (hk03.old b hb)⟩⟩
    · show resL Tb0 36 t7 _ [.cell 4 77, .tmp 5] = _
      exact resL_rec s2 h4 h5 (by decide) (by decide)
    · rw [lor_zero']; exact .fresh s2.lt he5
end
end Go.Proofs.RS
end

noncomputable section
namespace Go.Proofs.RS
open Go Go.Ev Go.Proofs Go.Ds
theorem nextV_eq (o : Option Entry) : nextV o = .tuple #[recV (o.getD ([], [])), vN (if o.isSome then 0 else 4)] := by cases o <;> rfl
def nextA : Option Entry → Value
  | none => .tuple #[vS [], vN 8, vN 70]
  | some r => .tuple #[vS r.2, vN 0, vN 0]
section
variable {sp : Nat → List Value → Hp → Option (Value × Hp × Nat × Nat)} {e : Env}
set_option maxRecDepth 10000 in
set_option maxHeartbeats 4000000 in
theorem snx_ok (S : SpK sp) {H : Hp} {d : DS} {at_ : Str} (hf : H.isFn = true) (hn : 102 ≤ H.nx) (hx : Fix H) (hs : Sto H d at_) (he : e.n0 ≤ 13) (hch : checkB d = true) (hat : at_.length ≤ 16) : EC Tb0 sp e 25 [sP, vN 1] H fun v H' => v = nextA (nextI d at_) ∧ Upd H H' ∧ Sto H' d (((nextI d at_).map (·.1)).getD at_) := by
  refine EC.intro (fn := Tryz.f25) (c := snx_body) (S.no 25 (by decide) _ _) (by rfl) snx_some snx_comp (by show 2 ≤ 41; decide) ?_
  have g0 : (enterT Tryz.f25 [sP, vN 1]).get 0 = sP := by rw [enterT_get (by show 2 ≤ 41; decide) (by show 0 < 41; decide)]; rfl
  have g1 : (enterT Tryz.f25 [sP, vN 1]).get 1 = vN 1 := by rw [enterT_get (by show 2 ≤ 41; decide) (by show 1 < 41; decide)]; rfl
  revert g0 g1
  generalize enterT Tryz.f25 [sP, vN 1] = t0
  intro g0 g1
  show WK Tb0 sp e ⟨6, 41, none, false⟩ snx_k t0 [] H _
  unfold snx_k
  obtain ⟨dv, hrow, hds⟩ := hs
  have hde : DsR e H dv d := hds.behind (by omega) fun _ _ _ => rfl
  have q0 : exNil sP H = .val sP H 0 0 := rfl
  have q1 : exLd1 (.pointer (some ⟨76, 11, none⟩)) H = .val (.slice (some ⟨95, 0, none⟩) 2 5) H (bit 76) 0 := exLd1_rowG hx.st rfl
  have q2 : e.ok (bit 76) 0 H := .read hx.st.lt fun h => absurd h (by omega)
  have q3 : exEq false (.one .p) (.pointer (some ⟨89, 0, none⟩)) (.pointer none) H = .val (.bool false) H 0 0 := rfl
  refine WK.seq (WK.reg_rr (fun t' => t'.get 0 = sP ∧ t'.get 1 = vN 1) ?_ ?_)
  · simp (config := { maxSteps := 1000000 }) only [snx_r0, g0, g1, WOR, WOG, WOC, WOGk, WOCk, wants_none', wants_some, wantsV_U, wantsV_tt, wantsV_tf, wantsV_ft, wantsV_ff, run, evalO_tmp, evalO_const, evalO_func, evalL, callV_func, Rv_eq, Ro_some, ok_zero, true_and, and_true, get_putT (d := 6), exLen_str, binV_geq, binV_leq, binV_lss, binV_gtr, exEq_int, exEq_str, exPick_t, exPick_f, Bool.not_true, Bool.not_false, Bc_t, Bc_f, Nat.reducePow, Nat.reduceLT, Nat.reduceEqDiff, Nat.reduceAdd, if_false, reduceIte, and_self, exFa_ptr, putT_none, Nat.zero_add, Nat.add_zero, Nat.le_refl, exUn_not]
  rintro t1 ⟨g0, g1⟩
  refine WK.seq (WK.seq (WK.reg_gg (fun t' H' => t'.get 0 = sP ∧ t'.get 1 = vN 1 ∧ t'.get 11 = .bool false ∧ H' = H) ?_ ?_))
  · simp (config := { maxSteps := 1000000 }) only [snx_r1, g0, g1, WOR, WOG, WOC, WOGk, WOCk, wants_none', wants_some, wantsV_U, wantsV_tt, wantsV_tf, wantsV_ft, wantsV_ff, run, evalO_tmp, evalO_const, evalO_func, evalL, callV_func, Rv_eq, Ro_some, ok_zero, true_and, and_true, get_putT (d := 6), exLen_str, binV_geq, binV_leq, binV_lss, binV_gtr, exEq_int, exEq_str, exPick_t, exPick_f, Bool.not_true, Bool.not_false, Bc_t, Bc_f, Nat.reducePow, Nat.reduceLT, Nat.reduceEqDiff, Nat.reduceAdd, if_false, reduceIte, and_self, exFa_ptr, putT_none, Nat.zero_add, Nat.add_zero, Nat.le_refl, exUn_not]
    refine (ded_ok S hx (fun h => absurd h (by omega))).mono fun v H4 _ hv => ?_
    obtain ⟨rfl, rfl⟩ := hv
    simp (config := { maxSteps := 1000000 }) only [g0, g1, WOR, WOG, WOC, WOGk, WOCk, wants_none', wants_some, wantsV_U, wantsV_tt, wantsV_tf, wantsV_ft, wantsV_ff, run, evalO_tmp, evalO_const, evalO_func, evalL, callV_func, Rv_eq, Ro_some, ok_zero, true_and, and_true, get_putT (d := 6), exLen_str, binV_geq, binV_leq, binV_lss, binV_gtr, exEq_int, exEq_str, exPick_t, exPick_f, Bool.not_true, Bool.not_false, Bc_t, Bc_f, Nat.reducePow, Nat.reduceLT, Nat.reduceEqDiff, Nat.reduceAdd, if_false, reduceIte, and_self, exFa_ptr, putT_none, Nat.zero_add, Nat.add_zero, Nat.le_refl, exUn_not]
  rintro t2 H2 ⟨g0, g1, g11, rfl⟩
  refine WK.cond (v := false) (by rw [evalO_tmp, g11]; rfl) (WK.skip ?_)
  show WK Tb0 sp e ⟨6, 41, none, false⟩ _ t2 [] H2 _
  refine WK.seq (WK.reg_gg (fun t' H' => t'.get 7 = .pointer (some ⟨89, 0, none⟩) ∧ H' = H2) ?_ ?_)
  · simp (config := { maxSteps := 1000000 }) only [snx_r3, g0, g1, q0, q1, q2, WOR, WOG, WOC, WOGk, WOCk, wants_none', wants_some, wantsV_U, wantsV_tt, wantsV_tf, wantsV_ft, wantsV_ff, run, evalO_tmp, evalO_const, evalO_func, evalL, callV_func, Rv_eq, Ro_some, ok_zero, true_and, and_true, get_putT (d := 6), exLen_str, binV_geq, binV_leq, binV_lss, binV_gtr, exEq_int, exEq_str, exPick_t, exPick_f, Bool.not_true, Bool.not_false, Bc_t, Bc_f, Nat.reducePow, Nat.reduceLT, Nat.reduceEqDiff, Nat.reduceAdd, if_false, reduceIte, and_self, exFa_ptr, putT_none, Nat.zero_add, Nat.add_zero, Nat.le_refl, exUn_not]
    refine (off_ok S hx (fun h => absurd h (by omega))).mono fun v H4 _ hv => ?_
    obtain ⟨rfl, rfl⟩ := hv
    simp (config := { maxSteps := 1000000 }) only [g0, g1, WOR, WOG, WOC, WOGk, WOCk, wants_none', wants_some, wantsV_U, wantsV_tt, wantsV_tf, wantsV_ft, wantsV_ff, run, evalO_tmp, evalO_const, evalO_func, evalL, callV_func, Rv_eq, Ro_some, ok_zero, true_and, and_true, get_putT (d := 6), exLen_str, binV_geq, binV_leq, binV_lss, binV_gtr, exEq_int, exEq_str, exPick_t, exPick_f, Bool.not_true, Bool.not_false, Bc_t, Bc_f, Nat.reducePow, Nat.reduceLT, Nat.reduceEqDiff, Nat.reduceAdd, if_false, reduceIte, and_self, exFa_ptr, putT_none, Nat.zero_add, Nat.add_zero, Nat.le_refl, exUn_not]
  rintro t3 H3 ⟨g7, rfl⟩
  refine WK.seq (WK.seq (WK.reg_rr (fun t' => t'.get 7 = .pointer (some ⟨89, 0, none⟩) ∧ t'.get 19 = .bool false) ?_ ?_))
  · simp (config := { maxSteps := 1000000 }) only [snx_r4, g7, q3, WOR, WOG, WOC, WOGk, WOCk, wants_none', wants_some, wantsV_U, wantsV_tt, wantsV_tf, wantsV_ft, wantsV_ff, run, evalO_tmp, evalO_const, evalO_func, evalL, callV_func, Rv_eq, Ro_some, ok_zero, true_and, and_true, get_putT (d := 6), exLen_str, binV_geq, binV_leq, binV_lss, binV_gtr, exEq_int, exEq_str, exPick_t, exPick_f, Bool.not_true, Bool.not_false, Bc_t, Bc_f, Nat.reducePow, Nat.reduceLT, Nat.reduceEqDiff, Nat.reduceAdd, if_false, reduceIte, and_self, exFa_ptr, putT_none, Nat.zero_add, Nat.add_zero, Nat.le_refl, exUn_not]
  rintro t4 ⟨g7, g19⟩
  refine WK.cond (v := false) (by rw [evalO_tmp, g19]; rfl) (WK.skip ?_)
  show WK Tb0 sp e ⟨6, 41, none, false⟩ _ t4 [] H3 _
  have m0 : exNil (.pointer (some ⟨89, 0, none⟩)) H3 = .val (.pointer (some ⟨89, 0, none⟩)) H3 0 0 := rfl
  have m1 : exLd1 (.pointer (some ⟨89, 1, none⟩)) H3 = .val dv H3 (bit 89) 0 := exLd1_row hrow rfl
  have m2 : exLd1 (.pointer (some ⟨89, 2, none⟩)) H3 = .val (vS at_) H3 (bit 89) 0 := exLd1_row hrow rfl
  have m3 : e.ok (bit 89) 0 H3 := .read hrow.lt fun h => absurd h (by omega)
  have m4 : ∀ b, (bit 89).testBit b = true → b < H3.nx := bit_lt hrow.lt
  refine WK.seq (WK.draw_c [.p, .p, .p, .q, .p, .p, .p, .q, .q, .p, .p, .p, .q, .l, .p] (fun t' H' => ∃ b, t'.get 7 = .pointer (some ⟨89, 0, none⟩) ∧ t'.get 8 = .pointer (some ⟨b, 0, none⟩) ∧ H3.nx ≤ b ∧ t'.get 9 = vN (if (nextI d at_).isSome then 0 else 4) ∧ Kept H3 H' ∧ Row H' b 77 0 [vS ((nextI d at_).getD ([], [])).1, vS ((nextI d at_).getD ([], [])).2]) (by omega) rfl ?_ ?_)
  · simp (config := { maxSteps := 1000000 }) only [snx_r6, g7, m0, m1, m2, m3, zero_bit_iff, implies_true, WOR, WOG, WOC, WOGk, WOCk, wants_none', wants_some, wantsV_U, wantsV_tt, wantsV_tf, wantsV_ft, wantsV_ff, run, evalO_tmp, evalO_const, evalO_func, evalL, callV_func, Rv_eq, Ro_some, ok_zero, true_and, and_true, get_putT (d := 6), exLen_str, binV_geq, binV_leq, binV_lss, binV_gtr, exEq_int, exEq_str, exPick_t, exPick_f, Bool.not_true, Bool.not_false, Bc_t, Bc_f, Nat.reducePow, Nat.reduceLT, Nat.reduceEqDiff, Nat.reduceAdd, if_false, reduceIte, and_self, exFa_ptr, putT_none, Nat.zero_add, Nat.add_zero, Nat.le_refl, exUn_not]
    refine ⟨m4, m4, ?_⟩
    refine (nex_ok S hf (Nat.le_refl _) hde.sub hch hat).mono fun v H6 _ hv => ?_
    obtain ⟨rfl, hk6⟩ := hv
    rw [nextV_eq]
    have a0 := fun H => exExt_tup [recV ((nextI d at_).getD ([], [])), vN (if (nextI d at_).isSome then 0 else 4)] 0 _ rfl H
    have a1 := fun H => exExt_tup [recV ((nextI d at_).getD ([], [])), vN (if (nextI d at_).isSome then 0 else 4)] 1 _ rfl H
    obtain ⟨H7, H8, hc⟩ := newC e hk6.fn [.string ⟨#[]⟩, .string ⟨#[]⟩] [vS ((nextI d at_).getD ([], [])).1, vS ((nextI d at_).getD ([], [])).2] 77 rfl
    have c1 := hc.al
    have c2 : exSt 2 (.pointer (some ⟨H6.nx, 0, none⟩)) (recV ((nextI d at_).getD ([], []))) H7 = .val U H8 0 (bit H6.nx) := hc.st
    have c3 := hc.n1
    have c4 := hc.n2
    have n6 := hk6.nx
    have c5 : e.ok 0 (bit H6.nx) H8 := hc.wok (by omega)
    have c6 : ∀ b, (bit H6.nx).testBit b = true → H3.nx ≤ b := fun b hb => by rw [(bit_iff _ _).1 hb]; exact n6
    simp (config := { maxSteps := 1000000 }) only [a0, a1, g7, c1, c2, c3, c4, c5, zero_bit_iff, implies_true, WOR, WOG, WOC, WOGk, WOCk, wants_none', wants_some, wantsV_U, wantsV_tt, wantsV_tf, wantsV_ft, wantsV_ff, run, evalO_tmp, evalO_const, evalO_func, evalL, callV_func, Rv_eq, Ro_some, ok_zero, true_and, and_true, get_putT (d := 6), exLen_str, binV_geq, binV_leq, binV_lss, binV_gtr, exEq_int, exEq_str, exPick_t, exPick_f, Bool.not_true, Bool.not_false, Bc_t, Bc_f, Nat.reducePow, Nat.reduceLT, Nat.reduceEqDiff, Nat.reduceAdd, if_false, reduceIte, and_self, exFa_ptr, putT_none, Nat.zero_add, Nat.add_zero, Nat.le_refl, exUn_not]
    exact ⟨c6, _, rfl, n6, hk6.trans hc.kept, hc.row⟩
  rintro t5 H5 ⟨b, g7, g8, hb, g9, hk5, hr5⟩
  have hrow5 : Row H5 89 120 0 [vN 3, dv, vS at_] := hrow.of_blk (hk5.old _ hrow.lt)
  have hds5 : DsR (envN 102) H5 dv d := hds.later hk5.old
  cases hnx : nextI d at_ with
  | none =>
    rw [hnx] at g9
    refine WK.seq (WK.seq (WK.reg_rr (fun t' => t'.get 33 = .bool true) ?_ ?_))
    · have b4 : exEq true (.one .i) (vN (if (none : Option Entry).isSome then 0 else 4)) (.int .i64 0) H5 = .val (.bool true) H5 0 0 := rfl
      simp (config := { maxSteps := 1000000 }) only [snx_r7, g9, b4, WOR, WOG, WOC, WOGk, WOCk, wants_none', wants_some, wantsV_U, wantsV_tt, wantsV_tf, wantsV_ft, wantsV_ff, run, evalO_tmp, evalO_const, evalO_func, evalL, callV_func, Rv_eq, Ro_some, ok_zero, true_and, and_true, get_putT (d := 6), exLen_str, binV_geq, binV_leq, binV_lss, binV_gtr, exEq_int, exEq_str, exPick_t, exPick_f, Bool.not_true, Bool.not_false, Bc_t, Bc_f, Nat.reducePow, Nat.reduceLT, Nat.reduceEqDiff, Nat.reduceAdd, if_false, reduceIte, and_self, exFa_ptr, putT_none, Nat.zero_add, Nat.add_zero, Nat.le_refl, exUn_not]
    intro t6 g33
    refine WK.cond (v := true) (by rw [evalO_tmp, g33]; rfl) ?_
    refine WK.seq (WK.reg_rr (fun t' => t'.get 4 = vS [] ∧ t'.get 5 = vN 8 ∧ t'.get 6 = vN 70) ?_ ?_)
    · simp (config := { maxSteps := 1000000 }) only [snx_r8, WOR, WOG, WOC, WOGk, WOCk, wants_none', wants_some, wantsV_U, wantsV_tt, wantsV_tf, wantsV_ft, wantsV_ff, run, evalO_tmp, evalO_const, evalO_func, evalL, callV_func, Rv_eq, Ro_some, ok_zero, true_and, and_true, get_putT (d := 6), exLen_str, binV_geq, binV_leq, binV_lss, binV_gtr, exEq_int, exEq_str, exPick_t, exPick_f, Bool.not_true, Bool.not_false, Bc_t, Bc_f, Nat.reducePow, Nat.reduceLT, Nat.reduceEqDiff, Nat.reduceAdd, if_false, reduceIte, and_self, exFa_ptr, putT_none, Nat.zero_add, Nat.add_zero, Nat.le_refl, exUn_not]
    rintro t7 ⟨h4, h5, h6⟩
    refine WK.ret ⟨.inr rfl, rfl, [vS [], vN 8, vN 70], 0, ?_, .zero _ _, rfl, .of_kept hk5, dv, hrow5, hds5⟩
    show resL Tb0 41 t7 _ [.tmp 4, .tmp 5, .tmp 6] = _
    simp only [resL, h4, h5, h6]; rfl
  | some r =>
    rw [hnx] at g9 hr5
    refine WK.seq (WK.seq (WK.reg_rr (fun t' => t'.get 33 = .bool false ∧ t'.get 7 = .pointer (some ⟨89, 0, none⟩) ∧ t'.get 8 = .pointer (some ⟨b, 0, none⟩)) ?_ ?_))
    · have b4 : exEq true (.one .i) (vN (if (some r : Option Entry).isSome then 0 else 4)) (.int .i64 0) H5 = .val (.bool false) H5 0 0 := rfl
      simp (config := { maxSteps := 1000000 }) only [snx_r7, g9, g7, g8, b4, WOR, WOG, WOC, WOGk, WOCk, wants_none', wants_some, wantsV_U, wantsV_tt, wantsV_tf, wantsV_ft, wantsV_ff, run, evalO_tmp, evalO_const, evalO_func, evalL, callV_func, Rv_eq, Ro_some, ok_zero, true_and, and_true, get_putT (d := 6), exLen_str, binV_geq, binV_leq, binV_lss, binV_gtr, exEq_int, exEq_str, exPick_t, exPick_f, Bool.not_true, Bool.not_false, Bc_t, Bc_f, Nat.reducePow, Nat.reduceLT, Nat.reduceEqDiff, Nat.reduceAdd, if_false, reduceIte, and_self, exFa_ptr, putT_none, Nat.zero_add, Nat.add_zero, Nat.le_refl, exUn_not]
    rintro t6 ⟨g33, g7, g8⟩
    refine WK.cond (v := false) (by rw [evalO_tmp, g33]; rfl) (WK.skip ?_)
    show WK Tb0 sp e ⟨6, 41, none, false⟩ _ t6 [] H5 _
    have hbn : 89 < b := by omega
    obtain ⟨H6, s1, s2, s3, s4, s5⟩ := exSt_at (vs := [vS r.1]) (o := 2) hk5.fn hrow5 (by show 2 + 1 ≤ 3; decide)
    have s1' : exSt 1 (.pointer (some ⟨89, 2, none⟩)) (vS r.1) H5 = .val U H6 0 (bit 89) := s1
    have s6 : e.ok 0 (bit 89) H6 := .write s2.lt fun h => absurd h (by omega)
    have s7 : H5.nx ≤ H6.nx := by omega
    have m5 : exNil (.pointer (some ⟨89, 0, none⟩)) H5 = .val (.pointer (some ⟨89, 0, none⟩)) H5 0 0 := rfl
    have m6 : exLd1 (.pointer (some ⟨b, 0, none⟩)) H5 = .val (vS r.1) H5 (bit b) 0 := exLd1_row hr5 rfl
    have m7 : e.ok (bit b) 0 H5 := .fresh hr5.lt (by omega)
    have hr6 : Row H6 b 77 0 [vS r.1, vS r.2] := Row.of_blk hr5 (s5 b (by omega))
    have m8 : exLd1 (.pointer (some ⟨b, 1, none⟩)) H6 = .val (vS r.2) H6 (bit b) 0 := exLd1_row hr6 rfl
    have m9 : e.ok (bit b) 0 H6 := .fresh hr6.lt (by omega)
    refine WK.seq (WK.reg_gg (fun t' H' => t'.get 8 = .pointer (some ⟨b, 0, none⟩) ∧ H' = H6) ?_ ?_)
    · simp (config := { maxSteps := 1000000 }) only [snx_r9, g7, g8, m5, m6, m7, s1', s6, s7, WOR, WOG, WOC, WOGk, WOCk, wants_none', wants_some, wantsV_U, wantsV_tt, wantsV_tf, wantsV_ft, wantsV_ff, run, evalO_tmp, evalO_const, evalO_func, evalL, callV_func, Rv_eq, Ro_some, ok_zero, true_and, and_true, get_putT (d := 6), exLen_str, binV_geq, binV_leq, binV_lss, binV_gtr, exEq_int, exEq_str, exPick_t, exPick_f, Bool.not_true, Bool.not_false, Bc_t, Bc_f, Nat.reducePow, Nat.reduceLT, Nat.reduceEqDiff, Nat.reduceAdd, if_false, reduceIte, and_self, exFa_ptr, putT_none, Nat.zero_add, Nat.add_zero, Nat.le_refl, exUn_not]
    rintro t7 H7 ⟨g8, rfl⟩
    refine WK.seq (WK.reg_rr (fun t' => t'.get 4 = vS r.2 ∧ t'.get 5 = vN 0 ∧ t'.get 6 = vN 0) ?_ ?_)
    · simp (config := { maxSteps := 1000000 }) only [snx_r10, g8, m8, m9, WOR, WOG, WOC, WOGk, WOCk, wants_none', wants_some, wantsV_U, wantsV_tt, wantsV_tf, wantsV_ft, wantsV_ff, run, evalO_tmp, evalO_const, evalO_func, evalL, callV_func, Rv_eq, Ro_some, ok_zero, true_and, and_true, get_putT (d := 6), exLen_str, binV_geq, binV_leq, binV_lss, binV_gtr, exEq_int, exEq_str, exPick_t, exPick_f, Bool.not_true, Bool.not_false, Bc_t, Bc_f, Nat.reducePow, Nat.reduceLT, Nat.reduceEqDiff, Nat.reduceAdd, if_false, reduceIte, and_self, exFa_ptr, putT_none, Nat.zero_add, Nat.add_zero, Nat.le_refl, exUn_not]
    rintro t8 ⟨h4, h5, h6⟩
    refine WK.ret ⟨.inr rfl, rfl, [vS r.2, vN 0, vN 0], 0, ?_, .zero _ _, rfl, ⟨s4, by have := hk5.nx; omega, fun c hc hne => (s5 c hne).trans (hk5.old c hc)⟩, dv, s2, ?_⟩
    · show resL Tb0 41 t8 _ [.tmp 4, .tmp 5, .tmp 6] = _
      simp only [resL, h4, h5, h6]; rfl
    · exact hds5.behind (Nat.le_refl 102) fun c h1 _ => s5 c (by omega)
end
end Go.Proofs.RS
end
