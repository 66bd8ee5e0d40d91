/-
  A part of the proof that pliantlaw15.RtsReads returns true and leaves its arguments alone. Conditions: those of the card in the last text.
-/
import Derived.Test.YtgdejggelcpokaaGreatDoorG25
import Derived.Test.YtgdejggelcpokaaGreatDoorG26
import Derived.Test.YtgdejggelcpokaaGreatDoorG33
import Derived.Test.YtgdejggelcpokaaGreatDoorG34
set_option linter.unusedSimpArgs false
set_option linter.unusedVariables false
set_option linter.unusedSectionVars false

noncomputable section
namespace Go.Proofs.RS
open Go Go.Ev Go.Proofs
theorem rdB_row {H : Hp} {b ty op : Nat} {L : List Value} (h : rdB (H.blk b) = some (L, ty, op, 0, 0)) : Row H b ty op L := by
  unfold rdB at h
  split at h
  · rename_i t n ty' op' lo hi hb
    simp only [Option.some.injEq, Prod.mk.injEq] at h
    obtain ⟨rfl, rfl, rfl, rfl, rfl⟩ := h
    refine ⟨t, by rw [hb, rdL_len], fun i v hv => ?_⟩
    have hi : i < (rdL t n 0).length := by
      rcases Nat.lt_or_ge i (rdL t n 0).length with h' | h'
      · exact h'
      · rw [List.getElem?_eq_none h'] at hv; cases hv
    rw [rdL_len] at hi
    rw [rdL_get t n 0 i hi, Nat.zero_add] at hv
    exact Option.some.inj hv
  · cases h
theorem wOk_ok {n0 : Nat} {x : TR} (h : wOk n0 x = true) {v : Value} {H : Hp} {r w : Nat} (e : x = .k (.ret v H r w)) : (envS n0).ok r w H := by
  subst e
  simp only [wOk, Bool.and_eq_true] at h
  obtain ⟨⟨h1, h2⟩, h3⟩ := h
  have h1' : Nat.land w (2 ^ n0 - 1) = 0 := (beq_iff _ _).1 h1
  have h2' : r < 2 ^ H.nx := (blt_iff _ _).1 h2
  have h3' : w < 2 ^ H.nx := (blt_iff _ _).1 h3
  refine ⟨fun _ _ _ => trivial, fun b hb hw => ?_, fun b hb => ?_⟩
  · have h4 : (w &&& (2 ^ n0 - 1)).testBit b = (0 : Nat).testBit b := by
      show (Nat.land w (2 ^ n0 - 1)).testBit b = _
      rw [h1']
    rw [Nat.testBit_and, Nat.testBit_two_pow_sub_one, hw] at h4
    simp at h4
    have hb' : b < n0 := hb
    omega
  · rcases Nat.lt_or_ge b H.nx with h | h
    · exact h
    · have hlt : ∀ z, z < 2 ^ H.nx → z.testBit b = false := fun z hz => Nat.testBit_lt_two_pow (Nat.lt_of_lt_of_le hz (Nat.pow_le_pow_right (by decide) h))
      rcases hb with hb | hb
      · rw [hlt r h2'] at hb; cases hb
      · rw [hlt w h3'] at hb; cases hb
theorem EC.of_run {tb : Tb} {sp : Nat → List Value → Hp → Option (Value × Hp × Nat × Nat)} {N n0 : Nat} {f : FuncId} {args : List Value} {H : Hp} {v : Value} {H' : Hp} {r w : Nat} {K : Value → Hp → Prop} (h : ev tb sp N (.call f args) H = .k (.ret v H' r w)) (hok : wOk n0 (ev tb sp N (.call f args) H) = true) (hn : H.nx ≤ H'.nx) (hK : K v H') : EC tb sp (envS n0) f args H K :=
  ⟨N, v, H', r, w, h, wOk_ok hok h, hn, hK⟩
theorem EC.of_sp {tb : Tb} {sp : Nat → List Value → Hp → Option (Value × Hp × Nat × Nat)} {e : Env} {f : FuncId} {args : List Value} {H : Hp} {v : Value} {H' : Hp} {r w : Nat} {K : Value → Hp → Prop} (h : sp f args H = some (v, H', r, w)) (hok : e.ok r w H') (hn : H.nx ≤ H'.nx) (hK : K v H') : EC tb sp e f args H K :=
  ⟨1, v, H', r, w, by show evTask tb sp (ev tb sp 0) (.call f args) H = _; simp only [evTask, h], hok, hn, hK⟩
structure Start (H7 hA hB hC hD hE H8 hM : Hp) (r7 w7 r8 w8 : Nat) : Prop where
  run7 : ev Tb0 spL 1000 (.call 7 []) H0 = .k (.ret (.tuple #[pV, inV]) H7 r7 w7)
  ok7 : wOk 13 (ev Tb0 spL 1000 (.call 7 []) H0) = true
  nx7 : H7.nx = 23
  alA : alloc1 (blkL [.slice none 0 0, .int .i64 (0), .slice none 0 0, .slice none 0 0, .slice none 0 0, .slice none 0 0] 29 0) H7 ptrTo 0 0 = .val (.pointer (some ⟨23, 0, none⟩)) hA 0 0
  alB : alloc1 (blkL [.slice none 0 0, .slice none 0 0, .int .i64 (0)] 32 0) hA ptrTo 0 0 = .val (.pointer (some ⟨24, 0, none⟩)) hB 0 0
  stC : exSt 6 (.pointer (some ⟨23, 0, none⟩)) pV hB = .val U hC 0 (bit 23)
  stD : exSt 3 (.pointer (some ⟨24, 0, none⟩)) inV hC = .val U hD 0 (bit 24)
  ldD : exLd1 (.pointer (some ⟨24, 1, none⟩)) hD = .val (.slice (some ⟨22, 0, none⟩) 2 4) hD (bit 24) 0
  stE : exSt 1 (.pointer (some ⟨22, 1, none⟩)) (.slice none 0 0) hD = .val U hE 0 (bit 22)
  ldE : exLdN 6 (.pointer (some ⟨23, 0, none⟩)) hE = .val pV hE (bit 23) 0
  ldF : exLdN 3 (.pointer (some ⟨24, 0, none⟩)) hE = .val inV hE (bit 24) 0
  nxs : hA.nx = 24 ∧ hB.nx = 25 ∧ hC.nx = 25 ∧ hD.nx = 25 ∧ hE.nx = 25
  run8 : ev Tb0 spL 100000 (.call 8 [pV, inV]) hE = .k (.ret (.tuple #[.pointer (some ⟨76, 0, none⟩), .int .i64 0]) H8 r8 w8)
  mM : hM = H8.push (.obj (.map #[] 0))
  look : (wOk 13 (ev Tb0 spL 100000 (.call 8 [pV, inV]) hE), H8.nx, hM.isFn, (List.range 13).map hM.blk, [76, 93, 95, 80, 79, 89].map fun b => rdB (hM.blk b)) = (true, 101, true, (List.range 13).map H0.blk, [some (stL, 104, 0, 0, 0), some ([.pointer (some ⟨80, 0, none⟩), .pointer none], 108, 2, 0, 0), some ([.pointer none, .pointer (some ⟨89, 0, none⟩)], 109, 2, 0, 0),
    some ([vN 2, .pointer (some ⟨79, 0, none⟩)], 117, 0, 0, 0), some ([vS [], vN 0], 176, 0, 0, 0), some ([vN 3, .slice none 0 0, vS []], 120, 0, 0, 0)])
set_option maxRecDepth 100000 in
theorem start  : Start (trH (T7)) (hA) (hB) (hC) (hD) (hE) (trH (T8)) (hM) (trR (T7)) (trW (T7)) (trR (T8)) (trW (T8)) :=
  @Start.mk (trH (T7)) (hA) (hB) (hC) (hD) (hE) (trH (T8)) (hM) (trR (T7)) (trW (T7)) (trR (T8)) (trW (T8))
    run7 ok7 nx7 alA alB stC stD ldD stE ldE ldF nxs run8 mM8 look8
theorem start_some  : ∃ H7 hA hB hC hD hE H8 hM r7 w7 r8 w8, Start H7 hA hB hC hD hE H8 hM r7 w7 r8 w8 := ⟨_, _, _, _, _, _, _, _, _, _, _, _, start⟩
theorem Start.lh {H7 hA hB hC hD hE H8 hM : Hp} {r7 w7 r8 w8 : Nat} (s : Start H7 hA hB hC hD hE H8 hM r7 w7 r8 w8) : LH H0 hM [] [] 0 [] ∧ wOk 13 (ev Tb0 spL 100000 (.call 8 [pV, inV]) hE) = true ∧ H8.nx = 101 ∧ H8.isFn = true := by
  have hl := s.look
  simp only [Prod.mk.injEq, List.map_cons, List.map_nil, List.cons.injEq, and_true] at hl
  obtain ⟨k1, k2, k3, k4, h1, h2, h3, h4, h5, h6⟩ := hl
  have hf8 : H8.isFn = true := by have := k3; rw [s.mM, isFn_push] at this; exact this
  refine ⟨⟨k3, by rw [s.mM, nx_push, k2]; exact Nat.le_refl _, fun b hb => map_range_eq k4 hb, ⟨(rdB_row h1).rowG, (rdB_row h2).rowG, (rdB_row h3).rowG, (rdB_row h4).rowG, (rdB_row h5).rowG⟩, ⟨.slice none 0 0, rdB_row h6, .nil 0⟩, ?_, .nil, Nat.zero_le _⟩, k1, k2, hf8⟩
  rw [s.mM, blk_push _ (fn_room hf8), k2, if_pos rfl]; rfl
end Go.Proofs.RS
end

noncomputable section
namespace Go.Proofs.RS
open Go Go.Ev Go.Proofs Go.Ds
section
variable {sp : Nat → List Value → Hp → Option (Value × Hp × Nat × Nat)} {Hs H : Hp} {d : DS} {L : ML} {clk n i : Nat} {last : Str} {lv kv : Value}
set_option maxRecDepth 10000 in
set_option maxHeartbeats 4000000 in
theorem seg3b (S : SpK sp) {t : T Value} (hg : RG t lv kv n i last) (hh : LH Hs H d L clk last) {w : Str} (hl : d.length < 64) (g22 : t.get 22 = vS w) (hw : WminOn last (fun k => ∃ v b, (k, v, b) ∈ L) w) :
    WK Tb0 sp (envS 13) ⟨9, 269, none, false⟩ (.seq (.reg law_r44)
        (.seq (.reg law_r45)
        (.cond (.tmp 210) (.seq (.reg law_r46)
         (.cond (.tmp 216) (.seq (.reg law_r47)
          .ret)
          .skip))
         (.seq (.reg law_r48)
         (.cond (.tmp 225) (.seq (.reg law_r49)
          .ret)
          (.reg law_r50)))))) t [] H fun x t' ds' H' => x = .normal ∧ ds' = [] ∧ ∃ last', RG t' lv kv n i last' ∧ LH Hs H' d L clk last' := by
  obtain ⟨g0, g1, g7, g9, g10, g64, g65, g66⟩ := hg
  have hch := hh.good.check (by omega)
  refine WK.seq (WK.reg_gg (fun t' H' => t'.get 0 = lv ∧ t'.get 1 = kv ∧ t'.get 7 = sP ∧ t'.get 9 = mV 101 ∧ t'.get 10 = vS last ∧ t'.get 64 = lv ∧ t'.get 65 = vN n ∧ t'.get 66 = vN i ∧ t'.get 22 = vS w ∧ t'.get 24 = (match nextI d last with | none => vS [] | some r => vS r.2) ∧ t'.get 25 = vN (if (nextI d last).isSome then 0 else 8) ∧ t'.get 26 = vN (if (nextI d last).isSome then 0 else 70) ∧ Upd H H' ∧ Sto H' d (((nextI d last).map (·.1)).getD last)) ?_ ?_)
  · simp (config := { maxSteps := 1000000 }) only [law_r44, g0, g1, g7, g9, g10, g64, g65, g66, g22, WOR, WOG, WOC, WOGk, WOCk, wants_none', wants_some, wantsV_U, wantsV_tt, wantsV_tf, wantsV_ft, wantsV_ff, run, evalO_tmp, evalO_const, evalO_func, evalL, callV_func, Rv_eq, Ro_some, ok_zero, true_and, and_true, get_putT (d := 9), exLen_str, binV_geq, binV_leq, binV_lss, binV_gtr, exEq_int, exEq_str, exPick_t, exPick_f, Bool.not_true, Bool.not_false, Bc_t, Bc_f, Nat.reducePow, Nat.reduceLT, Nat.reduceEqDiff, Nat.reduceAdd, if_false, reduceIte, and_self, exFa_ptr, putT_none, Nat.zero_add, Nat.add_zero, Nat.le_refl, exUn_not]
    refine (snx_ok S hh.fn hh.nx hh.fix hh.sto (Nat.le_refl _) hch hh.last).mono fun v H4 _ hv => ?_
    obtain ⟨rfl, hu, hst⟩ := hv
    have e0 : nextA (nextI d last) = .tuple #[(match nextI d last with | none => vS [] | some r => vS r.2), vN (if (nextI d last).isSome then 0 else 8), vN (if (nextI d last).isSome then 0 else 70)] := by cases nextI d last <;> rfl
    rw [e0]
    have a0 := fun H => exExt_tup [(match nextI d last with | none => vS [] | some r => vS r.2), vN (if (nextI d last).isSome then 0 else 8), vN (if (nextI d last).isSome then 0 else 70)] 0 _ rfl H
    have a1 := fun H => exExt_tup [(match nextI d last with | none => vS [] | some r => vS r.2), vN (if (nextI d last).isSome then 0 else 8), vN (if (nextI d last).isSome then 0 else 70)] 1 _ rfl H
    have a2 := fun H => exExt_tup [(match nextI d last with | none => vS [] | some r => vS r.2), vN (if (nextI d last).isSome then 0 else 8), vN (if (nextI d last).isSome then 0 else 70)] 2 _ rfl H
    simp (config := { maxSteps := 1000000 }) only [a0, a1, a2, g0, g1, g7, g9, g10, g64, g65, g66, g22, WOR, WOG, WOC, WOGk, WOCk, wants_none', wants_some, wantsV_U, wantsV_tt, wantsV_tf, wantsV_ft, wantsV_ff, run, evalO_tmp, evalO_const, evalO_func, evalL, callV_func, Rv_eq, Ro_some, ok_zero, true_and, and_true, get_putT (d := 9), exLen_str, binV_geq, binV_leq, binV_lss, binV_gtr, exEq_int, exEq_str, exPick_t, exPick_f, Bool.not_true, Bool.not_false, Bc_t, Bc_f, Nat.reducePow, Nat.reduceLT, Nat.reduceEqDiff, Nat.reduceAdd, if_false, reduceIte, and_self, exFa_ptr, putT_none, Nat.zero_add, Nat.add_zero, Nat.le_refl, exUn_not]
    exact ⟨hu, hst⟩
  rintro t1 H1 ⟨g0, g1, g7, g9, g10, g64, g65, g66, g22, g24, g25, g26, hu, hst⟩
  obtain ⟨_, f1, n1, low1, fix1, sto1, map1⟩ := hh.upd hu hst
  refine WK.seq (WK.reg_rr (fun t' => t'.get 0 = lv ∧ t'.get 1 = kv ∧ t'.get 7 = sP ∧ t'.get 9 = mV 101 ∧ t'.get 10 = vS last ∧ t'.get 64 = lv ∧ t'.get 65 = vN n ∧ t'.get 66 = vN i ∧ t'.get 22 = vS w ∧ t'.get 24 = (match nextI d last with | none => vS [] | some r => vS r.2) ∧ t'.get 25 = vN (if (nextI d last).isSome then 0 else 8) ∧ t'.get 26 = vN (if (nextI d last).isSome then 0 else 70) ∧ t'.get 210 = .bool (eqBs w [])) ?_ ?_)
  · simp (config := { maxSteps := 1000000 }) only [law_r45, g0, g1, g7, g9, g10, g64, g65, g66, g22, g24, g25, g26, exEq_mt, WOR, WOG, WOC, WOGk, WOCk, wants_none', wants_some, wantsV_U, wantsV_tt, wantsV_tf, wantsV_ft, wantsV_ff, run, evalO_tmp, evalO_const, evalO_func, evalL, callV_func, Rv_eq, Ro_some, ok_zero, true_and, and_true, get_putT (d := 9), exLen_str, binV_geq, binV_leq, binV_lss, binV_gtr, exEq_int, exEq_str, exPick_t, exPick_f, Bool.not_true, Bool.not_false, Bc_t, Bc_f, Nat.reducePow, Nat.reduceLT, Nat.reduceEqDiff, Nat.reduceAdd, if_false, reduceIte, and_self, exFa_ptr, putT_none, Nat.zero_add, Nat.add_zero, Nat.le_refl, exUn_not]
  rintro t2 ⟨g0, g1, g7, g9, g10, g64, g65, g66, g22, g24, g25, g26, g210⟩
  rcases hh.good.next hw with ⟨rfl, hno⟩ | ⟨v, b, hne, hmL, hso⟩
  · rw [hno] at g24 g25 g26 sto1
    have g25 : t2.get 25 = vN 8 := g25
    have g26 : t2.get 26 = vN 70 := g26
    have b1 : exEq true (.one .i) (vN 8) (.int .i64 8) H1 = .val (.bool false) H1 0 0 := rfl
    have b2 : exEq true (.one .i) (vN 70) (.int .i64 70) H1 = .val (.bool false) H1 0 0 := rfl
    refine WK.cond (v := true) (by rw [evalO_tmp, g210, eqBs_self]; rfl) ?_
    refine WK.seq (WK.reg_rr (fun t' => t'.get 0 = lv ∧ t'.get 1 = kv ∧ t'.get 7 = sP ∧ t'.get 9 = mV 101 ∧ t'.get 10 = vS last ∧ t'.get 64 = lv ∧ t'.get 65 = vN n ∧ t'.get 66 = vN i ∧ t'.get 216 = .bool false) ?_ ?_)
    · simp (config := { maxSteps := 1000000 }) only [law_r46, g0, g1, g7, g9, g10, g64, g65, g66, g25, g26, b1, b2, WOR, WOG, WOC, WOGk, WOCk, wants_none', wants_some, wantsV_U, wantsV_tt, wantsV_tf, wantsV_ft, wantsV_ff, run, evalO_tmp, evalO_const, evalO_func, evalL, callV_func, Rv_eq, Ro_some, ok_zero, true_and, and_true, get_putT (d := 9), exLen_str, binV_geq, binV_leq, binV_lss, binV_gtr, exEq_int, exEq_str, exPick_t, exPick_f, Bool.not_true, Bool.not_false, Bc_t, Bc_f, Nat.reducePow, Nat.reduceLT, Nat.reduceEqDiff, Nat.reduceAdd, if_false, reduceIte, and_self, exFa_ptr, putT_none, Nat.zero_add, Nat.add_zero, Nat.le_refl, exUn_not]
    rintro t3 ⟨g0, g1, g7, g9, g10, g64, g65, g66, gc⟩
    exact WK.cond (v := false) (by rw [evalO_tmp, gc]; rfl) (WK.skip ⟨rfl, rfl, last, ⟨g0, g1, g7, g9, g10, g64, g65, g66⟩, ⟨f1, n1, low1, fix1, sto1, map1, hh.good, hh.last⟩⟩)
  · rw [hso] at g24 g25 g26 sto1
    have g24 : t2.get 24 = vS v := g24
    have g25 : t2.get 25 = vN 0 := g25
    have sto1 : Sto H1 d w := sto1
    obtain ⟨_, _, _, _, hdd, _, _, _, _, _, hfind, _, _⟩ := hh.good.parts hmL
    have b1 : exEq true (.one .i) (vN 0) (.int .i64 0) H1 = .val (.bool false) H1 0 0 := rfl
    have b2 := exLkp_yes map1 (hfind 0) (.string ⟨#[]⟩) false
    have b3 : (envS 13).ok (bit 101) 0 H1 := .read (by omega) fun _ => trivial
    have b4 : exEq true (.one .s) (vS v) (vS v) H1 = .val (.bool false) H1 0 0 := by rw [exEq_str, eqBs_self]; rfl
    refine WK.cond (v := false) (by rw [evalO_tmp, g210, eqBs_ne hne]; rfl) ?_
    refine WK.seq (WK.reg_rr (fun t' => t'.get 0 = lv ∧ t'.get 1 = kv ∧ t'.get 7 = sP ∧ t'.get 9 = mV 101 ∧ t'.get 10 = vS last ∧ t'.get 64 = lv ∧ t'.get 65 = vN n ∧ t'.get 66 = vN i ∧ t'.get 22 = vS w ∧ t'.get 225 = .bool false) ?_ ?_)
    · simp (config := { maxSteps := 1000000 }) only [law_r48, g0, g1, g7, g9, g10, g64, g65, g66, g22, g24, g25, b1, b2, b3, b4, WOR, WOG, WOC, WOGk, WOCk, wants_none', wants_some, wantsV_U, wantsV_tt, wantsV_tf, wantsV_ft, wantsV_ff, run, evalO_tmp, evalO_const, evalO_func, evalL, callV_func, Rv_eq, Ro_some, ok_zero, true_and, and_true, get_putT (d := 9), exLen_str, binV_geq, binV_leq, binV_lss, binV_gtr, exEq_int, exEq_str, exPick_t, exPick_f, Bool.not_true, Bool.not_false, Bc_t, Bc_f, Nat.reducePow, Nat.reduceLT, Nat.reduceEqDiff, Nat.reduceAdd, if_false, reduceIte, and_self, exFa_ptr, putT_none, Nat.zero_add, Nat.add_zero, Nat.le_refl, exUn_not]
    rintro t3 ⟨g0, g1, g7, g9, g10, g64, g65, g66, g22, gc⟩
    refine WK.cond (v := false) (by rw [evalO_tmp, gc]; rfl) ?_
    refine WK.reg_rr (fun t' => t'.get 0 = lv ∧ t'.get 1 = kv ∧ t'.get 7 = sP ∧ t'.get 9 = mV 101 ∧ t'.get 10 = vS w ∧ t'.get 64 = lv ∧ t'.get 65 = vN n ∧ t'.get 66 = vN i) ?_ ?_
    · simp (config := { maxSteps := 1000000 }) only [law_r50, g0, g1, g7, g9, g10, g64, g65, g66, g22, WOR, WOG, WOC, WOGk, WOCk, wants_none', wants_some, wantsV_U, wantsV_tt, wantsV_tf, wantsV_ft, wantsV_ff, run, evalO_tmp, evalO_const, evalO_func, evalL, callV_func, Rv_eq, Ro_some, ok_zero, true_and, and_true, get_putT (d := 9), exLen_str, binV_geq, binV_leq, binV_lss, binV_gtr, exEq_int, exEq_str, exPick_t, exPick_f, Bool.not_true, Bool.not_false, Bc_t, Bc_f, Nat.reducePow, Nat.reduceLT, Nat.reduceEqDiff, Nat.reduceAdd, if_false, reduceIte, and_self, exFa_ptr, putT_none, Nat.zero_add, Nat.add_zero, Nat.le_refl, exUn_not]
    rintro t4 ⟨g0, g1, g7, g9, g10, g64, g65, g66⟩
    refine ⟨rfl, rfl, w, ⟨g0, g1, g7, g9, g10, g64, g65, g66⟩, ⟨f1, n1, low1, fix1, sto1, map1, hh.good, ?_⟩⟩
    obtain ⟨⟨c, hc⟩, _⟩ := hh.good.ok _ ((hh.good.mem w v).1 ⟨b, hmL⟩)
    simp only at hc
    rw [hc]
    show 1 ≤ 16
    omega
set_option maxRecDepth 10000 in
set_option maxHeartbeats 4000000 in
theorem segO (S : SpK sp) {t : T Value} (hg : RG t lv kv n i last) (hh : LH Hs H d L clk last) (hl : d.length < 64) :
    WK Tb0 sp (envS 13) ⟨9, 269, none, false⟩ (.seq (.reg law_r51)
   (.seq (.seq (.draw #[0, 1, 3, 7, 15, 31, 63, 127, 255, 511, 31, 1055, 4095, 8191] law_r52)
   (.cond (.tmp 242) (.seq (.reg law_r53)
    .ret)
    .skip))
   (.seq (.reg law_r54)
   (.block 5 (.loop law_body.sr.sr.sr.sr.sr.sr.sr.sr.sr.sl.sr.bl.lp.sr.sr.sl.bl.sr.sr.sr.sr.sr.sr.sr.sr.bl.lp law_l61))))) t [] H fun x t' ds' H' => x = .normal ∧ ds' = [] ∧ RG t' lv kv n i last ∧ LH Hs H' d L clk last := by
  obtain ⟨g0, g1, g7, g9, g10, g64, g65, g66⟩ := hg
  refine WK.seq (WK.reg_gg (fun t' H' => t'.get 0 = lv ∧ t'.get 1 = kv ∧ t'.get 7 = sP ∧ t'.get 9 = mV 101 ∧ t'.get 10 = vS last ∧ t'.get 64 = lv ∧ t'.get 65 = vN n ∧ t'.get 66 = vN i ∧ ∃ b tv bD c op dv, t'.get 27 = .pointer (some ⟨b, 0, none⟩) ∧ Kept H H' ∧ 102 ≤ b ∧ 102 ≤ bD ∧ Row H' b 74 0 [tv, .slice (some ⟨bD, 0, none⟩) 2 c, vS [], vN 0, vN 0, vN 0] ∧ Row H' bD 64 op [.slice none 0 0, dv] ∧ DsR (envN 102) H' dv d) ?_ ?_)
  · simp (config := { maxSteps := 1000000 }) only [law_r51, g0, g1, g7, g9, g10, g64, g65, g66, WOR, WOG, WOC, WOGk, WOCk, wants_none', wants_some, wantsV_U, wantsV_tt, wantsV_tf, wantsV_ft, wantsV_ff, run, evalO_tmp, evalO_const, evalO_func, evalL, callV_func, Rv_eq, Ro_some, ok_zero, true_and, and_true, get_putT (d := 9), exLen_str, binV_geq, binV_leq, binV_lss, binV_gtr, exEq_int, exEq_str, exPick_t, exPick_f, Bool.not_true, Bool.not_false, Bc_t, Bc_f, Nat.reducePow, Nat.reduceLT, Nat.reduceEqDiff, Nat.reduceAdd, if_false, reduceIte, and_self, exFa_ptr, putT_none, Nat.zero_add, Nat.add_zero, Nat.le_refl, exUn_not]
    refine (ouc_ok S hh.fn hh.nx hh.fix hh.sto (Nat.le_refl _) (by omega)).mono fun v H4 _ hv => ?_
    obtain ⟨hk4, tv, bD, c, op, dv, rfl, hbD, hrD, hds⟩ := hv
    obtain ⟨H5, H6, hc⟩ := newC (envS 13) hk4.fn [.slice none 0 0, .slice none 0 0, .string ⟨#[]⟩, .int .i64 0, .int .i64 0, .int .i64 0] [tv, .slice (some ⟨bD, 0, none⟩) 2 c, vS [], vN 0, vN 0, vN 0] 74 rfl
    have c1 := hc.al
    have c2 : exSt 6 (.pointer (some ⟨H4.nx, 0, none⟩)) (.agg ⟨[tv, .slice (some ⟨bD, 0, none⟩) 2 c, vS [], vN 0, vN 0, vN 0]⟩) H5 = .val U H6 0 (bit H4.nx) := hc.st
    have c3 := hc.n1
    have c4 := hc.n2
    have n4 := hk4.nx
    have n0 := hh.nx
    have c5 : (envS 13).ok 0 (bit H4.nx) H6 := hc.wok (by show 13 ≤ _; omega)
    simp (config := { maxSteps := 1000000 }) only [g0, g1, g7, g9, g10, g64, g65, g66, c1, c2, c3, c4, c5, WOR, WOG, WOC, WOGk, WOCk, wants_none', wants_some, wantsV_U, wantsV_tt, wantsV_tf, wantsV_ft, wantsV_ff, run, evalO_tmp, evalO_const, evalO_func, evalL, callV_func, Rv_eq, Ro_some, ok_zero, true_and, and_true, get_putT (d := 9), exLen_str, binV_geq, binV_leq, binV_lss, binV_gtr, exEq_int, exEq_str, exPick_t, exPick_f, Bool.not_true, Bool.not_false, Bc_t, Bc_f, Nat.reducePow, Nat.reduceLT, Nat.reduceEqDiff, Nat.reduceAdd, if_false, reduceIte, and_self, exFa_ptr, putT_none, Nat.zero_add, Nat.add_zero, Nat.le_refl, exUn_not]
    exact ⟨_, tv, bD, c, op, dv, rfl, hk4.trans hc.kept, by omega, by omega, hc.row, hrD.of_blk (hc.kept.old _ hrD.lt), hds.later hc.kept.old⟩
  rintro t1 H1 ⟨g0, g1, g7, g9, g10, g64, g65, g66, b, tv, bD, c, op, dv, g27, hk1, hb, hbD, hrb, hrD, hds⟩
  have hh1 := hh.kept hk1
  have hde : DsR (envS 13) H1 dv d := hds.behind (by show 13 ≤ 102; omega) fun _ _ _ => rfl
  have u1 : exLd1 (.pointer (some ⟨b, 1, none⟩)) H1 = .val (.slice (some ⟨bD, 0, none⟩) 2 c) H1 (bit b) 0 := exLd1_row hrb rfl
  have u2 : (envS 13).ok (bit b) 0 H1 := .read hrb.lt fun _ => trivial
  have u3 : ∀ x, (bit b).testBit x = true → x < H1.nx := bit_lt hrb.lt
  have u4 : exLen 1 (.slice (some ⟨bD, 0, none⟩) 2 c) H1 = .val (vN 2) H1 0 0 := rfl
  have u5 : exEq true (.one .i) (vN 2) (.int .i64 2) H1 = .val (.bool false) H1 0 0 := rfl
  have u6 : exIaS 1 (.slice (some ⟨bD, 0, none⟩) 2 c) (.int .i64 1) H1 = .val (.pointer (some ⟨bD, 1, none⟩)) H1 0 0 := rfl
  have u7 : exLd1 (.pointer (some ⟨bD, 1, none⟩)) H1 = .val dv H1 (bit bD) 0 := exLd1_row hrD rfl
  have u8 : (envS 13).ok (bit bD) 0 H1 := .read hrD.lt fun _ => trivial
  have u9 : ∀ x, (bit bD).testBit x = true → x < H1.nx := bit_lt hrD.lt
  have v1 := hde.len
  have v2 := exLen_map hh1.map
  have v3 : (envS 13).ok (bit 101) 0 H1 := .read (by have := hh1.nx; omega) fun _ => trivial
  have v4 : ∀ x, (bit 101).testBit x = true → x < H1.nx := bit_lt (by have := hh1.nx; omega)
  have v5 : exEq true (.one .i) (vN d.length) (vN L.length) H1 = .val (.bool false) H1 0 0 := by rw [hh.good.len, exEq_int, decide_eq_true rfl]; rfl
  refine WK.seq (WK.seq (WK.draw_c [.p, .q, .p, .p, .p, .p, .q, .p, .q, .p, .p, .q, .p, .p] (fun t' H' => t'.get 0 = lv ∧ t'.get 1 = kv ∧ t'.get 7 = sP ∧ t'.get 9 = mV 101 ∧ t'.get 10 = vS last ∧ t'.get 64 = lv ∧ t'.get 65 = vN n ∧ t'.get 66 = vN i ∧ t'.get 27 = .pointer (some ⟨b, 0, none⟩) ∧ t'.get 242 = .bool false ∧ H' = H1) (by show 13 ≤ _; have := hh1.nx; omega) rfl ?_ ?_))
  · simp (config := { maxSteps := 1000000 }) only [law_r52, g0, g1, g7, g9, g10, g64, g65, g66, g27, u1, u2, u4, u5, u6, u7, u8, v1, v2, v3, v5, WOR, WOG, WOC, WOGk, WOCk, wants_none', wants_some, wantsV_U, wantsV_tt, wantsV_tf, wantsV_ft, wantsV_ff, run, evalO_tmp, evalO_const, evalO_func, evalL, callV_func, Rv_eq, Ro_some, ok_zero, true_and, and_true, get_putT (d := 9), exLen_str, binV_geq, binV_leq, binV_lss, binV_gtr, exEq_int, exEq_str, exPick_t, exPick_f, Bool.not_true, Bool.not_false, Bc_t, Bc_f, Nat.reducePow, Nat.reduceLT, Nat.reduceEqDiff, Nat.reduceAdd, if_false, reduceIte, and_self, exFa_ptr, putT_none, Nat.zero_add, Nat.add_zero, Nat.le_refl, exUn_not]
    exact ⟨u3, u3, u9, v4⟩
  rintro t2 H2 ⟨g0, g1, g7, g9, g10, g64, g65, g66, g27, gc, rfl⟩
  refine WK.cond (v := false) (by rw [evalO_tmp, gc]; rfl) (WK.skip ?_)
  show WK Tb0 sp (envS 13) ⟨9, 269, none, false⟩ _ t2 [] H2 _
  refine WK.seq (WK.reg_rr (fun t' => t'.get 0 = lv ∧ t'.get 1 = kv ∧ t'.get 7 = sP ∧ t'.get 9 = mV 101 ∧ t'.get 10 = vS last ∧ t'.get 64 = lv ∧ t'.get 65 = vN n ∧ t'.get 66 = vN i ∧ t'.get 246 = dv ∧ t'.get 247 = vN d.length ∧ t'.get 248 = vN (0 : Nat)) ?_ ?_)
  · simp (config := { maxSteps := 1000000 }) only [law_r54, g0, g1, g7, g9, g10, g64, g65, g66, g27, u1, u2, u6, u7, u8, v1, WOR, WOG, WOC, WOGk, WOCk, wants_none', wants_some, wantsV_U, wantsV_tt, wantsV_tf, wantsV_ft, wantsV_ff, run, evalO_tmp, evalO_const, evalO_func, evalL, callV_func, Rv_eq, Ro_some, ok_zero, true_and, and_true, get_putT (d := 9), exLen_str, binV_geq, binV_leq, binV_lss, binV_gtr, exEq_int, exEq_str, exPick_t, exPick_f, Bool.not_true, Bool.not_false, Bc_t, Bc_f, Nat.reducePow, Nat.reduceLT, Nat.reduceEqDiff, Nat.reduceAdd, if_false, reduceIte, and_self, exFa_ptr, putT_none, Nat.zero_add, Nat.add_zero, Nat.le_refl, exUn_not]
    rfl
  rintro t3 ⟨g0, g1, g7, g9, g10, g64, g65, g66, g246, g247, g248⟩
  refine WK.block (WK.loop_ind (fun m t' ds' H' => ds' = [] ∧ Kept H2 H' ∧ ∃ j : Nat, m = d.length - j ∧ j ≤ d.length ∧ t'.get 0 = lv ∧ t'.get 1 = kv ∧ t'.get 7 = sP ∧ t'.get 9 = mV 101 ∧ t'.get 10 = vS last ∧ t'.get 64 = lv ∧ t'.get 65 = vN n ∧ t'.get 66 = vN i ∧ t'.get 246 = dv ∧ t'.get 247 = vN d.length ∧ t'.get 248 = vN j) ?_ d.length t3 [] H2 ⟨rfl, .refl hk1.fn, 0, by omega, by omega, g0, g1, g7, g9, g10, g64, g65, g66, g246, g247, g248⟩)
  clear g0 g1 g7 g9 g10 g64 g65 g66 g246 g247 g248 gc g27
  rintro m t4 ds4 H4 ⟨rfl, hk4, j, rfl, hj, g0, g1, g7, g9, g10, g64, g65, g66, g246, g247, g248⟩
  unfold law_l61
  have hh4 := hh1.kept hk4
  refine WK.seq (WK.reg_rr (fun t' => t'.get 0 = lv ∧ t'.get 1 = kv ∧ t'.get 7 = sP ∧ t'.get 9 = mV 101 ∧ t'.get 10 = vS last ∧ t'.get 64 = lv ∧ t'.get 65 = vN n ∧ t'.get 66 = vN i ∧ t'.get 246 = dv ∧ t'.get 247 = vN d.length ∧ t'.get 248 = vN j ∧ t'.get 249 = .bool (decide ((j : Int) < (d.length : Int)))) ?_ ?_)
  · simp (config := { maxSteps := 1000000 }) only [law_r55, g0, g1, g7, g9, g10, g64, g65, g66, g246, g247, g248, WOR, WOG, WOC, WOGk, WOCk, wants_none', wants_some, wantsV_U, wantsV_tt, wantsV_tf, wantsV_ft, wantsV_ff, run, evalO_tmp, evalO_const, evalO_func, evalL, callV_func, Rv_eq, Ro_some, ok_zero, true_and, and_true, get_putT (d := 9), exLen_str, binV_geq, binV_leq, binV_lss, binV_gtr, exEq_int, exEq_str, exPick_t, exPick_f, Bool.not_true, Bool.not_false, Bc_t, Bc_f, Nat.reducePow, Nat.reduceLT, Nat.reduceEqDiff, Nat.reduceAdd, if_false, reduceIte, and_self, exFa_ptr, putT_none, Nat.zero_add, Nat.add_zero, Nat.le_refl, exUn_not]
  rintro t5 ⟨g0, g1, g7, g9, g10, g64, g65, g66, g246, g247, g248, g249⟩
  by_cases hlt : j < d.length
  case neg =>
    refine WK.seq (WK.cond (v := false) (by rw [evalO_tmp, g249, decide_eq_false (by omega)]; rfl) (WK.exit ?_))
    exact ⟨rfl, rfl, ⟨g0, g1, g7, g9, g10, g64, g65, g66⟩, hh4⟩
  refine WK.seq (WK.cond (v := true) (by rw [evalO_tmp, g249, decide_eq_true (by omega)]; rfl) (WK.skip ?_))
  obtain ⟨x, hx⟩ : ∃ x, d[j]? = some x := ⟨d[j], by simp [hlt]⟩
  obtain ⟨eb, eo, vs, hel, rfl⟩ := (hde.later hk4.old).el hx
  have m1 := hel.addr
  have m2 := hel.ld
  have m3 := hel.ok
  obtain ⟨H5, H6, hc⟩ := newC (envS 13) hk4.fn [.string ⟨#[]⟩, .string ⟨#[]⟩] [vS x.1, vS x.2] 77 rfl
  have c1 := hc.al
  have c2 : exSt 2 (.pointer (some ⟨H4.nx, 0, none⟩)) (.agg ⟨[vS x.1, vS x.2]⟩) H5 = .val U H6 0 (bit H4.nx) := hc.st
  have c3 := hc.n1
  have c4 := hc.n2
  have n4 := hh4.nx
  have c5 : (envS 13).ok 0 (bit H4.nx) H6 := hc.wok (by show 13 ≤ _; omega)
  refine WK.seq (WK.block (WK.seq (WK.reg_gg (fun t' H' => t'.get 0 = lv ∧ t'.get 1 = kv ∧ t'.get 7 = sP ∧ t'.get 9 = mV 101 ∧ t'.get 10 = vS last ∧ t'.get 64 = lv ∧ t'.get 65 = vN n ∧ t'.get 66 = vN i ∧ t'.get 246 = dv ∧ t'.get 247 = vN d.length ∧ t'.get 248 = vN j ∧ t'.get 29 = .pointer (some ⟨H4.nx, 0, none⟩) ∧ H' = H6) ?_ ?_)))
  · simp (config := { maxSteps := 1000000 }) only [law_r56, g0, g1, g7, g9, g10, g64, g65, g66, g246, g247, g248, m1, m2, m3, c1, c2, c3, c4, c5, WOR, WOG, WOC, WOGk, WOCk, wants_none', wants_some, wantsV_U, wantsV_tt, wantsV_tf, wantsV_ft, wantsV_ff, run, evalO_tmp, evalO_const, evalO_func, evalL, callV_func, Rv_eq, Ro_some, ok_zero, true_and, and_true, get_putT (d := 9), exLen_str, binV_geq, binV_leq, binV_lss, binV_gtr, exEq_int, exEq_str, exPick_t, exPick_f, Bool.not_true, Bool.not_false, Bc_t, Bc_f, Nat.reducePow, Nat.reduceLT, Nat.reduceEqDiff, Nat.reduceAdd, if_false, reduceIte, and_self, exFa_ptr, putT_none, Nat.zero_add, Nat.add_zero, Nat.le_refl, exUn_not]
  rintro t6 H6' ⟨g0, g1, g7, g9, g10, g64, g65, g66, g246, g247, g248, g29, rfl⟩
  have hk6 := hk4.trans hc.kept
  have hh6 := hh1.kept hk6
  obtain ⟨bb, hbb⟩ := (hh.good.mem x.1 x.2).2 (List.mem_of_getElem? hx)
  obtain ⟨_, _, _, _, _, _, _, _, _, _, hfind, _, _⟩ := hh.good.parts hbb
  have p1 : exLd1 (.pointer (some ⟨H4.nx, 0, none⟩)) H6' = .val (vS x.1) H6' (bit H4.nx) 0 := exLd1_row hc.row rfl
  have p2 : (envS 13).ok (bit H4.nx) 0 H6' := .read hc.row.lt fun _ => trivial
  have p3 := exLkp_yes hh6.map (hfind 0) (.string ⟨#[]⟩) true
  have p4 : (envS 13).ok (bit 101) 0 H6' := .read (by have := hh6.nx; omega) fun _ => trivial
  have a0 := fun H => exExt_tup [vS x.2, .bool true] 0 _ rfl H
  have a1 := fun H => exExt_tup [vS x.2, .bool true] 1 _ rfl H
  refine WK.seq (WK.reg_rr (fun t' => t'.get 0 = lv ∧ t'.get 1 = kv ∧ t'.get 7 = sP ∧ t'.get 9 = mV 101 ∧ t'.get 10 = vS last ∧ t'.get 64 = lv ∧ t'.get 65 = vN n ∧ t'.get 66 = vN i ∧ t'.get 246 = dv ∧ t'.get 247 = vN d.length ∧ t'.get 248 = vN j ∧ t'.get 29 = .pointer (some ⟨H4.nx, 0, none⟩) ∧ t'.get 30 = vS x.2 ∧ t'.get 31 = .bool true) ?_ ?_)
  · simp (config := { maxSteps := 1000000 }) only [law_r57, g0, g1, g7, g9, g10, g64, g65, g66, g246, g247, g248, g29, p1, p2, p3, p4, a0, a1, WOR, WOG, WOC, WOGk, WOCk, wants_none', wants_some, wantsV_U, wantsV_tt, wantsV_tf, wantsV_ft, wantsV_ff, run, evalO_tmp, evalO_const, evalO_func, evalL, callV_func, Rv_eq, Ro_some, ok_zero, true_and, and_true, get_putT (d := 9), exLen_str, binV_geq, binV_leq, binV_lss, binV_gtr, exEq_int, exEq_str, exPick_t, exPick_f, Bool.not_true, Bool.not_false, Bc_t, Bc_f, Nat.reducePow, Nat.reduceLT, Nat.reduceEqDiff, Nat.reduceAdd, if_false, reduceIte, and_self, exFa_ptr, putT_none, Nat.zero_add, Nat.add_zero, Nat.le_refl, exUn_not]
  rintro t7 ⟨g0, g1, g7, g9, g10, g64, g65, g66, g246, g247, g248, g29, g30, g31⟩
  have p5 : exLd1 (.pointer (some ⟨H4.nx, 1, none⟩)) H6' = .val (vS x.2) H6' (bit H4.nx) 0 := exLd1_row hc.row rfl
  have p6 : exEq true (.one .s) (vS x.2) (vS x.2) H6' = .val (.bool false) H6' 0 0 := by rw [exEq_str, eqBs_self]; rfl
  refine WK.seq (WK.reg_rr (fun t' => t'.get 0 = lv ∧ t'.get 1 = kv ∧ t'.get 7 = sP ∧ t'.get 9 = mV 101 ∧ t'.get 10 = vS last ∧ t'.get 64 = lv ∧ t'.get 65 = vN n ∧ t'.get 66 = vN i ∧ t'.get 246 = dv ∧ t'.get 247 = vN d.length ∧ t'.get 248 = vN j ∧ t'.get 266 = .bool false) ?_ ?_)
  · simp (config := { maxSteps := 1000000 }) only [law_r58, g0, g1, g7, g9, g10, g64, g65, g66, g246, g247, g248, g29, g30, g31, p2, p5, p6, WOR, WOG, WOC, WOGk, WOCk, wants_none', wants_some, wantsV_U, wantsV_tt, wantsV_tf, wantsV_ft, wantsV_ff, run, evalO_tmp, evalO_const, evalO_func, evalL, callV_func, Rv_eq, Ro_some, ok_zero, true_and, and_true, get_putT (d := 9), exLen_str, binV_geq, binV_leq, binV_lss, binV_gtr, exEq_int, exEq_str, exPick_t, exPick_f, Bool.not_true, Bool.not_false, Bc_t, Bc_f, Nat.reducePow, Nat.reduceLT, Nat.reduceEqDiff, Nat.reduceAdd, if_false, reduceIte, and_self, exFa_ptr, putT_none, Nat.zero_add, Nat.add_zero, Nat.le_refl, exUn_not]
  rintro t8 ⟨g0, g1, g7, g9, g10, g64, g65, g66, g246, g247, g248, gc⟩
  refine WK.cond (v := false) (by rw [evalO_tmp, gc]; rfl) (WK.skip ?_)
  show WK Tb0 sp (envS 13) ⟨9, 269, none, false⟩ (.reg law_r60) t8 [] H6' _
  have hwr : wrapF .i64 ((j : Int) + 1) = ((j + 1 : Nat) : Int) := by rw [wrapF_i64 (by omega) (by omega)]; omega
  refine WK.reg_rr (fun t' => t'.get 0 = lv ∧ t'.get 1 = kv ∧ t'.get 7 = sP ∧ t'.get 9 = mV 101 ∧ t'.get 10 = vS last ∧ t'.get 64 = lv ∧ t'.get 65 = vN n ∧ t'.get 66 = vN i ∧ t'.get 246 = dv ∧ t'.get 247 = vN d.length ∧ t'.get 248 = vN (j + 1 : Nat)) ?_ ?_
  · simp (config := { maxSteps := 1000000 }) only [law_r60, g0, g1, g7, g9, g10, g64, g65, g66, g246, g247, g248, binV_add, hwr, WOR, WOG, WOC, WOGk, WOCk, wants_none', wants_some, wantsV_U, wantsV_tt, wantsV_tf, wantsV_ft, wantsV_ff, run, evalO_tmp, evalO_const, evalO_func, evalL, callV_func, Rv_eq, Ro_some, ok_zero, true_and, and_true, get_putT (d := 9), exLen_str, binV_geq, binV_leq, binV_lss, binV_gtr, exEq_int, exEq_str, exPick_t, exPick_f, Bool.not_true, Bool.not_false, Bc_t, Bc_f, Nat.reducePow, Nat.reduceLT, Nat.reduceEqDiff, Nat.reduceAdd, if_false, reduceIte, and_self, exFa_ptr, putT_none, Nat.zero_add, Nat.add_zero, Nat.le_refl, exUn_not]
  rintro t9 ⟨g0, g1, g7, g9, g10, g64, g65, g66, g246, g247, g248⟩
  exact ⟨d.length - (j + 1), by omega, rfl, hk6, j + 1, rfl, by omega, g0, g1, g7, g9, g10, g64, g65, g66, g246, g247, g248⟩
end
end Go.Proofs.RS
end

noncomputable section
namespace Go.Proofs.RS
open Go Go.Ev Go.Proofs Go.Ds
def rgId : Code → Nat | .region i _ _ => i | _ => 0
def rgOps : Code → Array Oper | .region _ o _ => o | _ => #[]
def rgHd (c : Code) : Oper := (rgOps c).toList.headD default
def rgTl (c : Code) : List Oper := (rgOps c).toList.tail
noncomputable def mlC : Code := law_body.sr.sr.sr.sr.sr.sr.sr.sr.sr.sl.sr.bl.lp.sr.sr.sl.bl.sr.sr.sr.sr.sl.sr.bl.sr.cb.sr.cb.sr.cb.sr.ca.sr.sl.sr.bl.lp
noncomputable def mlA : Code := mlC.sl
noncomputable def mlB : Code := mlC.sr.sl
noncomputable def mlD : Code := mlC.sr.sr.bl.sl
noncomputable def mlE : Code := mlC.sr.sr.bl.sr
theorem mlC_eq : mlC = .seq mlA (.seq mlB (.block 4 (.seq mlD mlE))) := by kernel_rfl
theorem mlA_eq : mlA = .region (rgId mlA) (rgOps mlA) false := by kernel_rfl
theorem mlA_ops : (rgOps mlA).toList = rgHd mlA :: rgTl mlA := by kernel_rfl
theorem mlA_g : (rgHd mlA).guard = none := by kernel_rfl
theorem mlA_op : (rgHd mlA).op = .next (.tmp 185) false := by kernel_rfl
theorem mlA_dst : (rgHd mlA).dst = some 186 := by kernel_rfl
theorem mlA_tl : compOs Tb0 269 (rgOps mlA) (rgTl mlA) = [⟨(some 187), none, .ext (.tmp 186) 0⟩] := by kernel_rfl
theorem mlB_k : kcomp Tb0 269 mlB = .cond (.tmp 187) .skip (.exit 3) := by kernel_rfl
theorem mlD_eq : mlD = .region (rgId mlD) (rgOps mlD) false := by kernel_rfl
theorem mlD_ops : (rgOps mlD).toList = rgHd mlD :: rgTl mlD := by kernel_rfl
theorem mlD_g : (rgHd mlD).guard = none := by kernel_rfl
theorem mlD_op : (rgHd mlD).op = .entry (.tmp 185) := by kernel_rfl
theorem mlD_dst : (rgHd mlD).dst = some 188 := by kernel_rfl
theorem mlD_tl : compOs Tb0 269 (rgOps mlD) (rgTl mlD) = [⟨(some 189), none, .ext (.tmp 188) 0⟩, ⟨(some 23), none, .mv (.tmp 189)⟩] := by kernel_rfl
theorem mlE_k : kcomp Tb0 269 mlE = .seq (.reg law_r41) (.cond (.tmp 201) (.reg law_r42) .skip) := by kernel_rfl
def unseen (L : ML) (seen : Array Nat) : List (Str × Str × Nat) := L.filter fun x => !(seen.contains x.2.2)
theorem filter_lt {α : Type} {p q : α → Bool} : ∀ {L : List α} {x : α}, x ∈ L → p x = true → q x = false → (∀ y, q y = true → p y = true) → (L.filter q).length < (L.filter p).length
  | [], _, h, _, _, _ => by cases h
  | y :: L, x, h, hp, hq, hle => by
    have hle' : (L.filter q).length ≤ (L.filter p).length := by
      clear h
      induction L with
      | nil => exact Nat.le_refl _
      | cons z L ih =>
        rw [List.filter_cons, List.filter_cons]
        cases hz : q z with
        | true => rw [hle z hz]; simp only [if_true, List.length_cons]; omega
        | false => cases p z <;> simp <;> omega
    rw [List.filter_cons, List.filter_cons]
    rcases List.mem_cons.1 h with rfl | h
    · rw [hp, hq]; simp only [if_true, List.length_cons]; simp; omega
    · have ih := filter_lt h hp hq hle
      cases hz : q y with
      | true => rw [hle y hz]; simp only [if_true, List.length_cons]; omega
      | false => cases p y <;> simp <;> omega
theorem contains_push (s : Array Nat) (b c : Nat) : (s.push b).contains c = true ↔ s.contains c = true ∨ c = b := by
  simp [Array.contains_iff_mem]
theorem unseen_push {L : ML} {seen : Array Nat} {x : Str × Str × Nat} (hx : x ∈ L) (hs : seen.contains x.2.2 = false) : (unseen L (seen.push x.2.2)).length < (unseen L seen).length := by
  refine filter_lt hx (by rw [hs]; rfl) ?_ fun y hy => ?_
  · have := (contains_push seen x.2.2 x.2.2).2 (.inr rfl)
    rw [this]; rfl
  · cases h : seen.contains y.2.2 with
    | false => rfl
    | true =>
      have := (contains_push seen x.2.2 y.2.2).2 (.inl h)
      rw [this] at hy; cases hy
theorem WminOn_congr {last : Str} {P Q : Str → Prop} {w : Str} (h : WminOn last P w) (hpq : ∀ k, P k ↔ Q k) : WminOn last Q w := by
  have : P = Q := funext fun k => propext (hpq k)
  rwa [← this]
theorem born_inj {L : ML} (h : (L.map (·.2.2)).Nodup) {x y : Str × Str × Nat} (hx : x ∈ L) (hy : y ∈ L) (e : x.2.2 = y.2.2) : x = y := by
  induction L with
  | nil => cases hx
  | cons z L ih =>
    rw [List.map_cons, List.nodup_cons] at h
    rcases List.mem_cons.1 hx with hx1 | hx1
    · rcases List.mem_cons.1 hy with hy1 | hy1
      · rw [hx1, hy1]
      · exact (h.1 (List.mem_map.2 ⟨y, hy1, by rw [← e, hx1]⟩)).elim
    · rcases List.mem_cons.1 hy with hy1 | hy1
      · exact (h.1 (List.mem_map.2 ⟨x, hx1, by rw [e, hy1]⟩)).elim
      · exact ih h.2 hx1 hy1
theorem binV_gtrS (a b : Str) : binV .gtr (vS a) (vS b) = some (.bool (ltBs b a)) := rfl
theorem binV_lssS (a b : Str) : binV .lss (vS a) (vS b) = some (.bool (ltBs a b)) := rfl
section
variable {Hs H : Hp} {d : DS} {L : ML} {clk n i : Nat} {last : Str} {lv kv : Value}
variable {W0 : World} {β0 : Mp}
structure RM (t : T Value) (lv kv : Value) (n i : Nat) (last w : Str) (r : Nat) : Prop where
  rg : RG t lv kv n i last
  r22 : t.get 22 = vS w
  r185 : t.get 185 = .pointer (some ⟨r, 0, none⟩)
structure IM (Hb H : Hp) (t : T Value) (L : ML) (clk : Nat) (lv kv : Value) (n i : Nat) (last : Str) (w : Str) (seen : Array Nat) : Prop where
  rm : RM t lv kv n i last w Hb.nx
  kept : Kept Hb H
  lt : Hb.nx < H.nx
  it : ∃ last0, clk ≤ last0 ∧ H.blk Hb.nx = .obj (.mapIter (some 101) clk seen last0)
  w : WminOn last (fun k => ∃ v b, (k, v, b) ∈ L ∧ seen.contains b = true) w
set_option maxRecDepth 10000 in
set_option maxHeartbeats 4000000 in
theorem IM.step {Hb : Hp} {t : T Value} {ds : List Deferred} {w : Str} {seen : Array Nat} (hh : LH Hs Hb d L clk last) (hi : IM Hb H t L clk lv kv n i last w seen) :
    SC Tryz.prog Tb0 W0 β0 13 ⟨9, 269, none, false⟩ mlC t [] H fun x t' ds' H' => ds' = [] ∧ ((x = .exit 3 ∧ H' = H ∧ RM t' lv kv n i last w Hb.nx ∧ ∀ x ∈ L, seen.contains x.2.2 = true) ∨ (x = .normal ∧ ∃ x ∈ L, seen.contains x.2.2 = false ∧ ∃ w', IM Hb H' t' L clk lv kv n i last w' (seen.push x.2.2))) := by
  obtain ⟨⟨⟨g0, g1, g7, g9, g10, g64, g65, g66⟩, g22, g185⟩, hk, hlt, ⟨last0, hl0, hit⟩, hw⟩ := hi
  have hh1 := hh.kept hk
  have hnb : 102 ≤ Hb.nx := hh.nx
  rw [mlC_eq]
  refine SC.seq ?_
  have key : SC Tryz.prog Tb0 W0 β0 13 ⟨9, 269, none, false⟩ mlA t [] H fun x t' ds' H' => x = .normal ∧ ds' = [] ∧ RM t' lv kv n i last w Hb.nx ∧ ((t'.get 187 = .bool false ∧ H' = H ∧ ∀ x ∈ L, seen.contains x.2.2 = true) ∨ (∃ x ∈ L, seen.contains x.2.2 = false ∧ t'.get 187 = .bool true ∧ H' = H.put Hb.nx (.obj (.mapIter (some 101) clk (seen.push x.2.2) clk)))) := by
    rw [mlA_eq]
    refine SC.first tb_ok lp_ok spL_ok rfl (by decide) mlA_ops mlA_g (fun cc => by rw [mlA_op]; intro h; cases h) fun β W a s => ?_
    have hhold : ∀ e ∈ (esOf L).toList, e.born < clk := fun e he => by
      obtain ⟨k, v, b, hm, rfl⟩ := mem_esOf he
      exact hh.good.clk _ hm
    rw [show (compOs Tb0 (⟨9, 269, none, false⟩ : Cx).nt (rgOps mlA) (rgTl mlA)) = [⟨(some 187), none, .ext (.tmp 186) 0⟩] from mlA_tl]
    rcases next_step s (by decide) mlA_op mlA_dst (by decide) (by decide) hit hh1.map (by omega) g185 hhold hl0 with ⟨hall, v', hrun, s1⟩ | ⟨e, he, hse, v', W1, hrun, s1⟩
    · refine ⟨β, _, _, W, v', hrun, s1, (WO.of_wog (K := fun t' H' => RM t' lv kv n i last w Hb.nx ∧ t'.get 187 = .bool false ∧ H' = H) ?_).mono ?_⟩
      · have a0 := fun H => exExt_tup [.bool false] 0 _ rfl H
        have a0' : ∀ H, exExt (.tuple #[.bool false]) 0 H = .val (.bool false) H 0 0 := a0
        simp (config := { maxSteps := 1000000 }) only [g0, g1, g7, g9, g10, g64, g65, g66, g22, g185, a0', WOR, WOG, WOC, WOGk, WOCk, wants_none', wants_some, wantsV_U, wantsV_tt, wantsV_tf, wantsV_ft, wantsV_ff, run, evalO_tmp, evalO_const, evalO_func, evalL, callV_func, Rv_eq, Ro_some, ok_zero, true_and, and_true, get_putT (d := 9), exLen_str, binV_geq, binV_leq, binV_lss, binV_gtr, exEq_int, exEq_str, exPick_t, exPick_f, Bool.not_true, Bool.not_false, Bc_t, Bc_f, Nat.reducePow, Nat.reduceLT, Nat.reduceEqDiff, Nat.reduceAdd, if_false, reduceIte, and_self, exFa_ptr, putT_none, Nat.zero_add, Nat.add_zero, Nat.le_refl, exUn_not]
        refine ⟨⟨?_, ?_, ?_, ?_, ?_, ?_, ?_, ?_⟩, ?_, ?_⟩ <;> simp (config := { maxSteps := 1000000 }) only [g0, g1, g7, g9, g10, g64, g65, g66, g22, g185, a0', WOR, WOG, WOC, WOGk, WOCk, wants_none', wants_some, wantsV_U, wantsV_tt, wantsV_tf, wantsV_ft, wantsV_ff, run, evalO_tmp, evalO_const, evalO_func, evalL, callV_func, Rv_eq, Ro_some, ok_zero, true_and, and_true, get_putT (d := 9), exLen_str, binV_geq, binV_leq, binV_lss, binV_gtr, exEq_int, exEq_str, exPick_t, exPick_f, Bool.not_true, Bool.not_false, Bc_t, Bc_f, Nat.reducePow, Nat.reduceLT, Nat.reduceEqDiff, Nat.reduceAdd, if_false, reduceIte, and_self, exFa_ptr, putT_none, Nat.zero_add, Nat.add_zero, Nat.le_refl, exUn_not]
      · rintro t' ds' H' _ ⟨rfl, h1, h2, rfl⟩
        refine ⟨rfl, rfl, h1, .inl ⟨h2, rfl, fun x hx => ?_⟩⟩
        exact hall (toE x) (List.mem_map.2 ⟨x, hx, rfl⟩)
    · obtain ⟨k, v, b, hm, rfl⟩ := mem_esOf he
      refine ⟨β, _, _, W1, v', hrun, s1, (WO.of_wog (K := fun t' H' => RM t' lv kv n i last w Hb.nx ∧ t'.get 187 = .bool true ∧ H' = H.put Hb.nx (.obj (.mapIter (some 101) clk (seen.push b) clk))) ?_).mono ?_⟩
      · have a0 := fun H => exExt_tup [.bool true, vS k, vS v] 0 _ rfl H
        have a0' : ∀ H, exExt (.tuple #[.bool true, vS k, vS v]) 0 H = .val (.bool true) H 0 0 := a0
        simp (config := { maxSteps := 1000000 }) only [g0, g1, g7, g9, g10, g64, g65, g66, g22, g185, a0', WOR, WOG, WOC, WOGk, WOCk, wants_none', wants_some, wantsV_U, wantsV_tt, wantsV_tf, wantsV_ft, wantsV_ff, run, evalO_tmp, evalO_const, evalO_func, evalL, callV_func, Rv_eq, Ro_some, ok_zero, true_and, and_true, get_putT (d := 9), exLen_str, binV_geq, binV_leq, binV_lss, binV_gtr, exEq_int, exEq_str, exPick_t, exPick_f, Bool.not_true, Bool.not_false, Bc_t, Bc_f, Nat.reducePow, Nat.reduceLT, Nat.reduceEqDiff, Nat.reduceAdd, if_false, reduceIte, and_self, exFa_ptr, putT_none, Nat.zero_add, Nat.add_zero, Nat.le_refl, exUn_not]
        refine ⟨⟨?_, ?_, ?_, ?_, ?_, ?_, ?_, ?_⟩, ?_, ?_⟩ <;> simp (config := { maxSteps := 1000000 }) only [g0, g1, g7, g9, g10, g64, g65, g66, g22, g185, a0', WOR, WOG, WOC, WOGk, WOCk, wants_none', wants_some, wantsV_U, wantsV_tt, wantsV_tf, wantsV_ft, wantsV_ff, run, evalO_tmp, evalO_const, evalO_func, evalL, callV_func, Rv_eq, Ro_some, ok_zero, true_and, and_true, get_putT (d := 9), exLen_str, binV_geq, binV_leq, binV_lss, binV_gtr, exEq_int, exEq_str, exPick_t, exPick_f, Bool.not_true, Bool.not_false, Bc_t, Bc_f, Nat.reducePow, Nat.reduceLT, Nat.reduceEqDiff, Nat.reduceAdd, if_false, reduceIte, and_self, exFa_ptr, putT_none, Nat.zero_add, Nat.add_zero, Nat.le_refl, exUn_not]
      · rintro t' ds' H' _ ⟨rfl, h1, h2, rfl⟩
        exact ⟨rfl, rfl, h1, .inr ⟨(k, v, b), hm, hse, h2, rfl⟩⟩
  refine key.mono ?_
  rintro _ t1 ds1 H1 ⟨rfl, rfl, hrm, hc⟩
  refine SC.seq (SC.of_sk mlB_k ?_)
  rcases hc with ⟨h187, rfl, hall⟩ | ⟨x, hx, hse, h187, rfl⟩
  · refine SK.of_wk tb_ok lp_ok spL_ok rfl (by decide) (WK.cond (v := false) (by rw [evalO_tmp, h187]; rfl) (WK.exit ?_))
    exact ⟨rfl, .inl ⟨rfl, rfl, hrm, hall⟩⟩
  refine SK.of_wk tb_ok lp_ok spL_ok rfl (by decide) (WK.cond (v := true) (by rw [evalO_tmp, h187]; rfl) (WK.skip ?_))
  have hput := put_obj hh1.fn hlt (.obj (.mapIter (some 101) clk (seen.push x.2.2) clk))
  obtain ⟨p1, p2, p3, p4⟩ := hput
  have hk2 : Kept Hb (H.put Hb.nx (.obj (.mapIter (some 101) clk (seen.push x.2.2) clk))) := ⟨p1, by rw [p2]; exact hk.nx, fun b hb => (p4 b (by omega)).trans (hk.old b hb)⟩
  have hh2 := hh.kept hk2
  have hlt2 : Hb.nx < (H.put Hb.nx (.obj (.mapIter (some 101) clk (seen.push x.2.2) clk))).nx := by rw [p2]; exact hlt
  generalize H.put Hb.nx (.obj (.mapIter (some 101) clk (seen.push x.2.2) clk)) = H2 at p1 p2 p3 p4 hk2 hh2 hlt2
  refine SC.block (SC.seq ?_)
  have key2 : SC Tryz.prog Tb0 W0 β0 13 ⟨9, 269, none, false⟩ mlD t1 [] H2 fun z t' ds' H' => z = .normal ∧ ds' = [] ∧ RM t' lv kv n i last w Hb.nx ∧ t'.get 23 = vS x.1 ∧ H' = H2 := by
    obtain ⟨⟨g0, g1, g7, g9, g10, g64, g65, g66⟩, g22, g185⟩ := hrm
    rw [mlD_eq]
    refine SC.first tb_ok lp_ok spL_ok rfl (by decide) mlD_ops mlD_g (fun cc => by rw [mlD_op]; intro h; cases h) fun β W a s => ?_
    rw [show (compOs Tb0 (⟨9, 269, none, false⟩ : Cx).nt (rgOps mlD) (rgTl mlD)) = _ from mlD_tl]
    obtain ⟨v', hrun, s1⟩ := entry_step (e := toE x) s (by decide) mlD_op mlD_dst (by decide) (by decide) p3 hh2.map g185 (List.mem_map.2 ⟨x, hx, rfl⟩) (by rw [born_esOf]; exact hh.good.born)
    refine ⟨β, _, _, W, v', hrun, s1, (WO.of_wog (K := fun t' H' => RM t' lv kv n i last w Hb.nx ∧ t'.get 23 = vS x.1 ∧ H' = H2) ?_).mono ?_⟩
    · have a0' : ∀ H, exExt (.tuple #[(toE x).key, (toE x).val]) 0 H = .val (vS x.1) H 0 0 := fun H => exExt_tup [(toE x).key, (toE x).val] 0 _ rfl H
      simp (config := { maxSteps := 1000000 }) only [g0, g1, g7, g9, g10, g64, g65, g66, g22, g185, a0', WOR, WOG, WOC, WOGk, WOCk, wants_none', wants_some, wantsV_U, wantsV_tt, wantsV_tf, wantsV_ft, wantsV_ff, run, evalO_tmp, evalO_const, evalO_func, evalL, callV_func, Rv_eq, Ro_some, ok_zero, true_and, and_true, get_putT (d := 9), exLen_str, binV_geq, binV_leq, binV_lss, binV_gtr, exEq_int, exEq_str, exPick_t, exPick_f, Bool.not_true, Bool.not_false, Bc_t, Bc_f, Nat.reducePow, Nat.reduceLT, Nat.reduceEqDiff, Nat.reduceAdd, if_false, reduceIte, and_self, exFa_ptr, putT_none, Nat.zero_add, Nat.add_zero, Nat.le_refl, exUn_not]
      refine ⟨⟨?_, ?_, ?_, ?_, ?_, ?_, ?_, ?_⟩, ?_, ?_⟩ <;> simp (config := { maxSteps := 1000000 }) only [g0, g1, g7, g9, g10, g64, g65, g66, g22, g185, a0', WOR, WOG, WOC, WOGk, WOCk, wants_none', wants_some, wantsV_U, wantsV_tt, wantsV_tf, wantsV_ft, wantsV_ff, run, evalO_tmp, evalO_const, evalO_func, evalL, callV_func, Rv_eq, Ro_some, ok_zero, true_and, and_true, get_putT (d := 9), exLen_str, binV_geq, binV_leq, binV_lss, binV_gtr, exEq_int, exEq_str, exPick_t, exPick_f, Bool.not_true, Bool.not_false, Bc_t, Bc_f, Nat.reducePow, Nat.reduceLT, Nat.reduceEqDiff, Nat.reduceAdd, if_false, reduceIte, and_self, exFa_ptr, putT_none, Nat.zero_add, Nat.add_zero, Nat.le_refl, exUn_not]
    · rintro t' ds' H' _ ⟨rfl, h1, h2, rfl⟩
      exact ⟨rfl, rfl, h1, h2, rfl⟩
  refine key2.mono ?_
  rintro _ t2 ds2 H3 ⟨rfl, rfl, ⟨⟨g0, g1, g7, g9, g10, g64, g65, g66⟩, g22, g185⟩, g23, rfl⟩
  refine SC.of_sk mlE_k (SK.of_wk tb_ok lp_ok spL_ok rfl (by decide) ?_)
  have hstep := hw.step (k := x.1) (fun k ⟨v, b, hm, _⟩ => by
    obtain ⟨⟨c, hc⟩, _⟩ := hh.good.ok _ ((hh.good.mem k v).1 ⟨b, hm⟩)
    simp only at hc
    rw [hc]; simp)
  have hfin : ∀ w', w' = (if (ltBs last x.1 && (eqBs w [] || ltBs x.1 w)) = true then x.1 else w) → ∀ t', RM t' lv kv n i last w' Hb.nx → IM Hb H3 t' L clk lv kv n i last w' (seen.push x.2.2) := fun w' he t' hr => by
    refine ⟨hr, hk2, hlt2, ⟨clk, Nat.le_refl _, p3⟩, ?_⟩
    rw [he]
    refine WminOn_congr hstep fun k => ?_
    constructor
    · rintro (⟨v, b, h1, h2⟩ | rfl)
      · exact ⟨v, b, h1, (contains_push _ _ _).2 (.inl h2)⟩
      · exact ⟨x.2.1, x.2.2, hx, (contains_push _ _ _).2 (.inr rfl)⟩
    · rintro ⟨v, b, h1, h2⟩
      rcases (contains_push _ _ _).1 h2 with h2 | h2
      · exact .inl ⟨v, b, h1, h2⟩
      · have := born_inj hh.good.born h1 hx h2
        exact .inr (by rw [← this])
  refine WK.seq (WK.reg_rr (fun t' => t'.get 0 = lv ∧ t'.get 1 = kv ∧ t'.get 7 = sP ∧ t'.get 9 = mV 101 ∧ t'.get 10 = vS last ∧ t'.get 64 = lv ∧ t'.get 65 = vN n ∧ t'.get 66 = vN i ∧ t'.get 22 = vS w ∧ t'.get 185 = .pointer (some ⟨Hb.nx, 0, none⟩) ∧ t'.get 23 = vS x.1 ∧ t'.get 201 = .bool (ltBs last x.1 && (eqBs w [] || ltBs x.1 w))) ?_ ?_)
  · cases b1 : ltBs last x.1 <;> cases b2 : eqBs w [] <;>
    · try rw [Bool.true_and]
      try rw [Bool.false_and]
      try rw [Bool.true_or]
      try rw [Bool.false_or]
      simp (config := { maxSteps := 1000000 }) only [law_r41, g0, g1, g7, g9, g10, g64, g65, g66, g22, g185, g23, binV_gtrS, binV_lssS, exEq_mt, b1, b2, WOR, WOG, WOC, WOGk, WOCk, wants_none', wants_some, wantsV_U, wantsV_tt, wantsV_tf, wantsV_ft, wantsV_ff, run, evalO_tmp, evalO_const, evalO_func, evalL, callV_func, Rv_eq, Ro_some, ok_zero, true_and, and_true, get_putT (d := 9), exLen_str, binV_geq, binV_leq, binV_lss, binV_gtr, exEq_int, exEq_str, exPick_t, exPick_f, Bool.not_true, Bool.not_false, Bc_t, Bc_f, Nat.reducePow, Nat.reduceLT, Nat.reduceEqDiff, Nat.reduceAdd, if_false, reduceIte, and_self, exFa_ptr, putT_none, Nat.zero_add, Nat.add_zero, Nat.le_refl, exUn_not]
  clear g0 g1 g7 g9 g10 g64 g65 g66 g22 g185 g23
  rintro t3 ⟨g0, g1, g7, g9, g10, g64, g65, g66, g22, g185, g23, gc⟩
  cases hb : (ltBs last x.1 && (eqBs w [] || ltBs x.1 w)) with
  | false =>
    rw [hb] at gc
    refine WK.cond (v := false) (by rw [evalO_tmp, gc]; rfl) (WK.skip ?_)
    exact ⟨rfl, .inr ⟨rfl, x, hx, hse, w, hfin w (by rw [hb]; rfl) _ ⟨⟨g0, g1, g7, g9, g10, g64, g65, g66⟩, g22, g185⟩⟩⟩
  | true =>
    rw [hb] at gc
    refine WK.cond (v := true) (by rw [evalO_tmp, gc]; rfl) ?_
    refine WK.reg_rr (fun t' => t'.get 0 = lv ∧ t'.get 1 = kv ∧ t'.get 7 = sP ∧ t'.get 9 = mV 101 ∧ t'.get 10 = vS last ∧ t'.get 64 = lv ∧ t'.get 65 = vN n ∧ t'.get 66 = vN i ∧ t'.get 22 = vS x.1 ∧ t'.get 185 = .pointer (some ⟨Hb.nx, 0, none⟩)) ?_ ?_
    · simp (config := { maxSteps := 1000000 }) only [law_r42, g0, g1, g7, g9, g10, g64, g65, g66, g22, g185, g23, WOR, WOG, WOC, WOGk, WOCk, wants_none', wants_some, wantsV_U, wantsV_tt, wantsV_tf, wantsV_ft, wantsV_ff, run, evalO_tmp, evalO_const, evalO_func, evalL, callV_func, Rv_eq, Ro_some, ok_zero, true_and, and_true, get_putT (d := 9), exLen_str, binV_geq, binV_leq, binV_lss, binV_gtr, exEq_int, exEq_str, exPick_t, exPick_f, Bool.not_true, Bool.not_false, Bc_t, Bc_f, Nat.reducePow, Nat.reduceLT, Nat.reduceEqDiff, Nat.reduceAdd, if_false, reduceIte, and_self, exFa_ptr, putT_none, Nat.zero_add, Nat.add_zero, Nat.le_refl, exUn_not]
    clear g0 g1 g7 g9 g10 g64 g65 g66 g22 g185
    rintro t4 ⟨g0, g1, g7, g9, g10, g64, g65, g66, g22, g185⟩
    exact ⟨rfl, .inr ⟨rfl, x, hx, hse, x.1, hfin x.1 (by rw [hb]; rfl) _ ⟨⟨g0, g1, g7, g9, g10, g64, g65, g66⟩, g22, g185⟩⟩⟩
set_option maxRecDepth 10000 in
set_option maxHeartbeats 4000000 in
theorem seg3a {t : T Value} (hg : RG t lv kv n i last) (hh : LH Hs H d L clk last) (g22 : t.get 22 = vS []) :
    SK Tryz.prog Tb0 W0 β0 13 ⟨9, 269, none, false⟩ (.seq (.reg law_r38) (.block 3 (.loop mlC law_l43))) t [] H fun x t' ds' H' => x = .normal ∧ ds' = [] ∧ RG t' lv kv n i last ∧ LH Hs H' d L clk last ∧ ∃ w, t'.get 22 = vS w ∧ WminOn last (fun k => ∃ v b, (k, v, b) ∈ L) w := by
  obtain ⟨g0, g1, g7, g9, g10, g64, g65, g66⟩ := hg
  have hn := hh.nx
  have hal : exRngM (mV 101) H = .val (.pointer (some ⟨H.nx, 0, none⟩)) (H.push (.obj (.mapIter (some 101) clk #[] clk))) (bit 101) 0 := by
    show (match mapOf H 101 with | none => R.fail | some (_, c) => alloc1 (.obj (.mapIter (some 101) c #[] c)) H ptrTo (bit 101) 0) = _
    rw [mapOf_blk hh.map]
    exact alloc1_room (fn_room hh.fn) _ _ _ _
  have hk : Kept H (H.push (.obj (.mapIter (some 101) clk #[] clk))) := ⟨by rw [isFn_push]; exact hh.fn, by rw [nx_push]; omega, fun b hb => by rw [blk_push _ (fn_room hh.fn), if_neg (by omega)]⟩
  have c1 : (envS 13).ok (bit 101) 0 (H.push (.obj (.mapIter (some 101) clk #[] clk))) := .read (by rw [nx_push]; omega) fun _ => trivial
  have c2 : H.nx ≤ (H.push (.obj (.mapIter (some 101) clk #[] clk))).nx := hk.nx
  refine SK.seq (SK.of_wk tb_ok lp_ok spL_ok rfl (by decide) (WK.reg_gg (fun t' H' => RM t' lv kv n i last [] H.nx ∧ H' = H.push (.obj (.mapIter (some 101) clk #[] clk))) ?_ ?_))
  · simp (config := { maxSteps := 1000000 }) only [law_r38, g0, g1, g7, g9, g10, g64, g65, g66, g22, hal, c1, c2, WOR, WOG, WOC, WOGk, WOCk, wants_none', wants_some, wantsV_U, wantsV_tt, wantsV_tf, wantsV_ft, wantsV_ff, run, evalO_tmp, evalO_const, evalO_func, evalL, callV_func, Rv_eq, Ro_some, ok_zero, true_and, and_true, get_putT (d := 9), exLen_str, binV_geq, binV_leq, binV_lss, binV_gtr, exEq_int, exEq_str, exPick_t, exPick_f, Bool.not_true, Bool.not_false, Bc_t, Bc_f, Nat.reducePow, Nat.reduceLT, Nat.reduceEqDiff, Nat.reduceAdd, if_false, reduceIte, and_self, exFa_ptr, putT_none, Nat.zero_add, Nat.add_zero, Nat.le_refl, exUn_not]
    refine ⟨⟨?_, ?_, ?_, ?_, ?_, ?_, ?_, ?_⟩, ?_, ?_⟩ <;> simp (config := { maxSteps := 1000000 }) only [g0, g1, g7, g9, g10, g64, g65, g66, g22, WOR, WOG, WOC, WOGk, WOCk, wants_none', wants_some, wantsV_U, wantsV_tt, wantsV_tf, wantsV_ft, wantsV_ff, run, evalO_tmp, evalO_const, evalO_func, evalL, callV_func, Rv_eq, Ro_some, ok_zero, true_and, and_true, get_putT (d := 9), exLen_str, binV_geq, binV_leq, binV_lss, binV_gtr, exEq_int, exEq_str, exPick_t, exPick_f, Bool.not_true, Bool.not_false, Bc_t, Bc_f, Nat.reducePow, Nat.reduceLT, Nat.reduceEqDiff, Nat.reduceAdd, if_false, reduceIte, and_self, exFa_ptr, putT_none, Nat.zero_add, Nat.add_zero, Nat.le_refl, exUn_not]
  rintro t1 H1 ⟨hrm, rfl⟩
  refine SK.block (SK.of_sc fun c hc => ?_)
  obtain ⟨rfl, hb, hh'⟩ := kcomp_loop hc
  refine (SC.loop_ind (I := fun m t' ds' H' => ds' = [] ∧ ∃ w seen, m = (unseen L seen).length ∧ IM H H' t' L clk lv kv n i last w seen) ?_ (unseen L #[]).length t1 [] _ ⟨rfl, [], #[], rfl, hrm, hk, by rw [nx_push]; omega, ⟨clk, Nat.le_refl _, by rw [blk_push _ (fn_room hh.fn), if_pos rfl]⟩, .inl ⟨rfl, fun k ⟨v, b, _, h⟩ => by simp at h⟩⟩)
  rintro m t2 ds2 H2 ⟨rfl, w, seen, rfl, him⟩
  refine (him.step (ds := []) hh).mono ?_
  rintro x t3 ds3 H3 ⟨rfl, ⟨rfl, rfl, hrm, hall⟩ | ⟨rfl, x, hx, hse, w', hi⟩⟩
  · refine ⟨rfl, rfl, hrm.rg, hh.kept him.kept, w, hrm.r22, ?_⟩
    refine WminOn_congr him.w fun k => ?_
    constructor
    · rintro ⟨v, b, h, _⟩
      exact ⟨v, b, h⟩
    · rintro ⟨v, b, h⟩
      exact ⟨v, b, h, hall _ h⟩
  · exact ⟨_, unseen_push hx hse, rfl, w', _, rfl, hi⟩
end
end Go.Proofs.RS
end
