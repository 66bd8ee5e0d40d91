/-
  A part of the proof that pliantlaw15.RtsReads returns true and leaves its arguments alone. Conditions: those of the card in the last text.
-/
import Derived.Test.YtgdejggelcpokaaGreatDoorG24
import Derived.Test.YtgdejggelcpokaaGreatDoorG25
set_option linter.unusedSimpArgs false
set_option linter.unusedVariables false
set_option linter.unusedSectionVars false

noncomputable section
namespace Go.Proofs.RS
open Go Go.Ev Go.Proofs Go.Ds
structure LH (Hs H : Hp) (d : DS) (L : ML) (clk : Nat) (last : Str) : Prop where
  fn : H.isFn = true
  nx : 102 ≤ H.nx
  low : ∀ b, b < 13 → H.blk b = Hs.blk b
  fix : Fix H
  sto : Sto H d last
  map : H.blk 101 = .obj (.map (esOf L) clk)
  good : Go.Ds.Good d L clk
  last : last.length ≤ 16
theorem LH.upd {Hs H H' : Hp} {d d' : DS} {L : ML} {clk : Nat} {last last' : Str} (h : LH Hs H d L clk last) (u : Upd H H') (s : Sto H' d' last') : LH Hs H d L clk last ∧ H'.isFn = true ∧ 102 ≤ H'.nx ∧ (∀ b, b < 13 → H'.blk b = Hs.blk b) ∧ Fix H' ∧ Sto H' d' last' ∧ H'.blk 101 = .obj (.map (esOf L) clk) :=
  ⟨h, u.fn, Nat.le_trans h.nx u.nx, fun b hb => (u.old b (by have := h.nx; omega) (by omega)).trans (h.low b hb), h.fix.upd (by have := h.nx; omega) u, s, (u.old 101 (by have := h.nx; omega) (by decide)).trans h.map⟩
theorem Sto.keep {H H' : Hp} {d : DS} {at_ : Str} (h : Sto H d at_) (hk : ∀ b, b < H.nx → b ≠ 101 → H'.blk b = H.blk b) : Sto H' d at_ := by
  obtain ⟨dv, h1, h2⟩ := h
  exact ⟨dv, h1.of_blk (hk _ h1.lt (by decide)), h2.behind (Nat.le_refl 102) fun b hb hlt => hk b hlt (by omega)⟩
theorem LH.kept {Hs H H' : Hp} {d : DS} {L : ML} {clk : Nat} {last : Str} (h : LH Hs H d L clk last) (u : Kept H H') : LH Hs H' d L clk last := by
  obtain ⟨_, a1, a2, a3, a4, a5, a6⟩ := h.upd (.of_kept u) (h.sto.keep fun b hb _ => u.old b hb)
  exact ⟨a1, a2, a3, a4, a5, a6, h.good, h.last⟩
theorem LH.put {Hs H : Hp} {d d' : DS} {L L' : ML} {clk clk' : Nat} {last : Str} (hf : H.isFn = true) (hn : 102 ≤ H.nx) (low : ∀ b, b < 13 → H.blk b = Hs.blk b) (fix : Fix H) (sto : Sto H d' last) (g : Go.Ds.Good d' L' clk') (hl : last.length ≤ 16) : LH Hs (H.put 101 (.obj (.map (esOf L') clk'))) d' L' clk' last := by
  obtain ⟨p1, p2, p3, p4⟩ := put_obj hf (show 101 < H.nx by omega) (.obj (.map (esOf L') clk'))
  exact ⟨p1, by omega, fun b hb => (p4 b (by omega)).trans (low b hb), fix.keep fun b hb _ => p4 b (by omega), sto.keep fun b _ hb => p4 b hb, p3, g, hl⟩
structure RG (t : T Value) (lv kv : Value) (n i : Nat) (last : Str) : Prop where
  r0 : t.get 0 = lv
  r1 : t.get 1 = kv
  r7 : t.get 7 = sP
  r9 : t.get 9 = mV 101
  r10 : t.get 10 = vS last
  r64 : t.get 64 = lv
  r65 : t.get 65 = vN n
  r66 : t.get 66 = vN i
section
variable {sp : Nat → List Value → Hp → Option (Value × Hp × Nat × Nat)} {Hs H : Hp} {d : DS} {L : ML} {clk n i : Nat} {last : Str} {lv kv : Value}
set_option maxRecDepth 10000 in
set_option maxHeartbeats 4000000 in
theorem seg0 (S : SpK sp) {t : T Value} (hg : RG t lv kv n i last) (hh : LH Hs H d L clk last) {c : UInt8} {w : Str} (hc : 65 ≤ c.toNat ∧ c.toNat ≤ 90) (hw : ∀ x ∈ w, plainB x = true) (hwl : w.length ≤ 20) (hl : d.length < 64) (g13 : t.get 13 = vS [c]) (g12 : t.get 12 = vS w) (g15 : t.get 15 = .bool (isAt d [c])) :
    WK Tb0 sp (envS 13) ⟨9, 269, none, false⟩ (.seq (.seq (.reg law_r20)
     (.seq (.reg law_r21)
     (.cond (.tmp 132) (.seq (.reg law_r22)
      .ret)
      .skip)))
     (.seq (.reg law_r23)
     (.cond (.tmp 134) (.reg law_r24)
      .skip))) t [] H fun x t' ds' H' => x = .normal ∧ ds' = [] ∧ ∃ d' L' clk', RG t' lv kv n i last ∧ LH Hs H' d' L' clk' last ∧ d'.length ≤ d.length + 1 := by
  obtain ⟨g0, g1, g7, g9, g10, g64, g65, g66⟩ := hg
  have hc32 : c ≠ 32 := fun h => by rw [h] at hc; exact absurd hc.1 (by decide)
  have hpl : plainB c = true := by unfold plainB; rw [Bool.and_eq_true]; exact ⟨decide_eq_true (by omega), decide_eq_true (by omega)⟩
  have hch := hh.good.check (by omega)
  refine WK.seq (WK.seq (WK.reg_gg (fun t' H' => t'.get 0 = lv ∧ t'.get 1 = kv ∧ t'.get 7 = sP ∧ t'.get 9 = mV 101 ∧ t'.get 10 = vS last ∧ t'.get 64 = lv ∧ t'.get 65 = vN n ∧ t'.get 66 = vN i ∧ t'.get 13 = vS [c] ∧ t'.get 12 = vS w ∧ t'.get 15 = .bool (isAt d [c]) ∧ t'.get 16 = vN (ansA 141 (writeI d ([c], w))) ∧ t'.get 17 = vN (ansB 141 (writeI d ([c], w))) ∧ Upd H H' ∧ Sto H' ((writeI d ([c], w)).getD d) last) ?_ ?_))
  · simp (config := { maxSteps := 1000000 }) only [law_r20, g0, g1, g7, g9, g10, g64, g65, g66, g12, g13, g15, WOR, WOG, WOC, WOGk, WOCk, wants_none', wants_some, wantsV_U, wantsV_tt, wantsV_tf, wantsV_ft, wantsV_ff, run, evalO_tmp, evalO_const, evalO_func, evalL, callV_func, Rv_eq, Ro_some, ok_zero, true_and, and_true, get_putT (d := 9), exLen_str, binV_geq, binV_leq, binV_lss, binV_gtr, exEq_int, exEq_str, exPick_t, exPick_f, Bool.not_true, Bool.not_false, Bc_t, Bc_f, Nat.reducePow, Nat.reduceLT, Nat.reduceEqDiff, Nat.reduceAdd, if_false, reduceIte, and_self, exFa_ptr, putT_none, Nat.zero_add, Nat.add_zero, Nat.le_refl, exUn_not]
    refine (swr_ok (k := 0) S hh.fn hh.nx hh.fix hh.sto (Nat.le_refl _) hc32 (by decide) hpl hw (by omega) hch hl).mono fun v H4 _ hv => ?_
    obtain ⟨rfl, hu, hst⟩ := hv
    rw [ansV_eq]
    have a0 := fun H => exExt_tup [vN (ansA 141 (writeI d ([c], w))), vN (ansB 141 (writeI d ([c], w)))] 0 _ rfl H
    have a1 := fun H => exExt_tup [vN (ansA 141 (writeI d ([c], w))), vN (ansB 141 (writeI d ([c], w)))] 1 _ rfl H
    simp (config := { maxSteps := 1000000 }) only [a0, a1, g0, g1, g7, g9, g10, g64, g65, g66, g12, g13, g15, WOR, WOG, WOC, WOGk, WOCk, wants_none', wants_some, wantsV_U, wantsV_tt, wantsV_tf, wantsV_ft, wantsV_ff, run, evalO_tmp, evalO_const, evalO_func, evalL, callV_func, Rv_eq, Ro_some, ok_zero, true_and, and_true, get_putT (d := 9), exLen_str, binV_geq, binV_leq, binV_lss, binV_gtr, exEq_int, exEq_str, exPick_t, exPick_f, Bool.not_true, Bool.not_false, Bc_t, Bc_f, Nat.reducePow, Nat.reduceLT, Nat.reduceEqDiff, Nat.reduceAdd, if_false, reduceIte, and_self, exFa_ptr, putT_none, Nat.zero_add, Nat.add_zero, Nat.le_refl, exUn_not]
    exact ⟨hu, hst⟩
  rintro t1 H1 ⟨g0, g1, g7, g9, g10, g64, g65, g66, g13, g12, g15, gA, gB, hu, hst⟩
  obtain ⟨_, f1, n1, low1, fix1, sto1, map1⟩ := hh.upd hu hst
  cases hat : isAt d [c] with
  | true =>
    rw [hat] at g15
    obtain ⟨v0, b0, _, hvd, hvL⟩ : ∃ v b, isAt d [c] = true ∧ ([c], v) ∈ d ∧ ([c], v, b) ∈ L := by
      rcases hh.good.at [c] with ⟨h, _⟩ | h
      · rw [hat] at h; cases h
      · exact h
    have hres : writeI d ([c], w) = none := by unfold writeI; rw [hat]; rfl
    rw [hres] at gA gB sto1
    have gA : t1.get 16 = vN 9 := gA
    have gB : t1.get 17 = vN 52 := gB
    have b1 : exEq false (.one .i) (vN 9) (.int .i64 0) H1 = .val (.bool false) H1 0 0 := rfl
    have b2 : exEq false (.one .b) (.bool false) (.bool true) H1 = .val (.bool false) H1 0 0 := rfl
    have b3 : exEq true (.one .i) (vN 9) (.int .i64 9) H1 = .val (.bool false) H1 0 0 := rfl
    have b4 : exEq true (.one .i) (vN 52) (.int .i64 52) H1 = .val (.bool false) H1 0 0 := rfl
    refine WK.seq (WK.reg_rr (fun t' => t'.get 0 = lv ∧ t'.get 1 = kv ∧ t'.get 7 = sP ∧ t'.get 9 = mV 101 ∧ t'.get 10 = vS last ∧ t'.get 64 = lv ∧ t'.get 65 = vN n ∧ t'.get 66 = vN i ∧ t'.get 13 = vS [c] ∧ t'.get 12 = vS w ∧ t'.get 15 = .bool true ∧ t'.get 132 = .bool false) ?_ ?_)
    · simp (config := { maxSteps := 1000000 }) only [law_r21, g0, g1, g7, g9, g10, g64, g65, g66, g12, g13, g15, gA, gB, b1, b2, b3, b4, WOR, WOG, WOC, WOGk, WOCk, wants_none', wants_some, wantsV_U, wantsV_tt, wantsV_tf, wantsV_ft, wantsV_ff, run, evalO_tmp, evalO_const, evalO_func, evalL, callV_func, Rv_eq, Ro_some, ok_zero, true_and, and_true, get_putT (d := 9), exLen_str, binV_geq, binV_leq, binV_lss, binV_gtr, exEq_int, exEq_str, exPick_t, exPick_f, Bool.not_true, Bool.not_false, Bc_t, Bc_f, Nat.reducePow, Nat.reduceLT, Nat.reduceEqDiff, Nat.reduceAdd, if_false, reduceIte, and_self, exFa_ptr, putT_none, Nat.zero_add, Nat.add_zero, Nat.le_refl, exUn_not]
    rintro t2 ⟨g0, g1, g7, g9, g10, g64, g65, g66, g13, g12, g15, gc⟩
    refine WK.cond (v := false) (by rw [evalO_tmp, gc]; rfl) (WK.skip ?_)
    show WK Tb0 sp (envS 13) ⟨9, 269, none, false⟩ _ t2 [] H1 _
    refine WK.seq (WK.reg_rr (fun t' => t'.get 0 = lv ∧ t'.get 1 = kv ∧ t'.get 7 = sP ∧ t'.get 9 = mV 101 ∧ t'.get 10 = vS last ∧ t'.get 64 = lv ∧ t'.get 65 = vN n ∧ t'.get 66 = vN i ∧ t'.get 134 = .bool false) ?_ ?_)
    · simp (config := { maxSteps := 1000000 }) only [law_r23, g0, g1, g7, g9, g10, g64, g65, g66, g12, g13, g15, WOR, WOG, WOC, WOGk, WOCk, wants_none', wants_some, wantsV_U, wantsV_tt, wantsV_tf, wantsV_ft, wantsV_ff, run, evalO_tmp, evalO_const, evalO_func, evalL, callV_func, Rv_eq, Ro_some, ok_zero, true_and, and_true, get_putT (d := 9), exLen_str, binV_geq, binV_leq, binV_lss, binV_gtr, exEq_int, exEq_str, exPick_t, exPick_f, Bool.not_true, Bool.not_false, Bc_t, Bc_f, Nat.reducePow, Nat.reduceLT, Nat.reduceEqDiff, Nat.reduceAdd, if_false, reduceIte, and_self, exFa_ptr, putT_none, Nat.zero_add, Nat.add_zero, Nat.le_refl, exUn_not]
    rintro t3 ⟨g0, g1, g7, g9, g10, g64, g65, g66, gc⟩
    exact WK.cond (v := false) (by rw [evalO_tmp, gc]; rfl) (WK.skip ⟨rfl, rfl, d, L, clk, ⟨g0, g1, g7, g9, g10, g64, g65, g66⟩, ⟨f1, n1, low1, fix1, sto1, map1, hh.good, hh.last⟩, by omega⟩)
  | false =>
    rw [hat] at g15
    have hno : ∀ x ∈ L, x.1 ≠ [c] := by
      rcases hh.good.at [c] with ⟨_, h, _⟩ | ⟨v, b, h, _⟩
      · exact h
      · rw [hat] at h; cases h
    obtain ⟨d', hres, hgood, hlen⟩ := hh.good.write (v := w) (by omega) hat hl
    rw [hres] at gA gB sto1
    have gA : t1.get 16 = vN 0 := gA
    have gB : t1.get 17 = vN 0 := gB
    have b1 : exEq false (.one .i) (vN 0) (.int .i64 0) H1 = .val (.bool true) H1 0 0 := rfl
    have b2 : exEq false (.one .b) (.bool true) (.bool false) H1 = .val (.bool false) H1 0 0 := rfl
    refine WK.seq (WK.reg_rr (fun t' => t'.get 0 = lv ∧ t'.get 1 = kv ∧ t'.get 7 = sP ∧ t'.get 9 = mV 101 ∧ t'.get 10 = vS last ∧ t'.get 64 = lv ∧ t'.get 65 = vN n ∧ t'.get 66 = vN i ∧ t'.get 13 = vS [c] ∧ t'.get 12 = vS w ∧ t'.get 15 = .bool false ∧ t'.get 132 = .bool false) ?_ ?_)
    · simp (config := { maxSteps := 1000000 }) only [law_r21, g0, g1, g7, g9, g10, g64, g65, g66, g12, g13, g15, gA, gB, b1, b2, WOR, WOG, WOC, WOGk, WOCk, wants_none', wants_some, wantsV_U, wantsV_tt, wantsV_tf, wantsV_ft, wantsV_ff, run, evalO_tmp, evalO_const, evalO_func, evalL, callV_func, Rv_eq, Ro_some, ok_zero, true_and, and_true, get_putT (d := 9), exLen_str, binV_geq, binV_leq, binV_lss, binV_gtr, exEq_int, exEq_str, exPick_t, exPick_f, Bool.not_true, Bool.not_false, Bc_t, Bc_f, Nat.reducePow, Nat.reduceLT, Nat.reduceEqDiff, Nat.reduceAdd, if_false, reduceIte, and_self, exFa_ptr, putT_none, Nat.zero_add, Nat.add_zero, Nat.le_refl, exUn_not]
    rintro t2 ⟨g0, g1, g7, g9, g10, g64, g65, g66, g13, g12, g15, gc⟩
    refine WK.cond (v := false) (by rw [evalO_tmp, gc]; rfl) (WK.skip ?_)
    show WK Tb0 sp (envS 13) ⟨9, 269, none, false⟩ _ t2 [] H1 _
    refine WK.seq (WK.reg_rr (fun t' => t'.get 0 = lv ∧ t'.get 1 = kv ∧ t'.get 7 = sP ∧ t'.get 9 = mV 101 ∧ t'.get 10 = vS last ∧ t'.get 64 = lv ∧ t'.get 65 = vN n ∧ t'.get 66 = vN i ∧ t'.get 13 = vS [c] ∧ t'.get 12 = vS w ∧ t'.get 134 = .bool true) ?_ ?_)
    · simp (config := { maxSteps := 1000000 }) only [law_r23, g0, g1, g7, g9, g10, g64, g65, g66, g12, g13, g15, WOR, WOG, WOC, WOGk, WOCk, wants_none', wants_some, wantsV_U, wantsV_tt, wantsV_tf, wantsV_ft, wantsV_ff, run, evalO_tmp, evalO_const, evalO_func, evalL, callV_func, Rv_eq, Ro_some, ok_zero, true_and, and_true, get_putT (d := 9), exLen_str, binV_geq, binV_leq, binV_lss, binV_gtr, exEq_int, exEq_str, exPick_t, exPick_f, Bool.not_true, Bool.not_false, Bc_t, Bc_f, Nat.reducePow, Nat.reduceLT, Nat.reduceEqDiff, Nat.reduceAdd, if_false, reduceIte, and_self, exFa_ptr, putT_none, Nat.zero_add, Nat.add_zero, Nat.le_refl, exUn_not]
    rintro t3 ⟨g0, g1, g7, g9, g10, g64, g65, g66, g13, g12, gc⟩
    refine WK.cond (v := true) (by rw [evalO_tmp, gc]; rfl) ?_
    have m1 := exMup_no (v := w) map1 (findS_none (i := 0) hno)
    have m2 : (envS 13).ok 0 (bit 101) (H1.put 101 (.obj (.map (esOf (L ++ [([c], w, clk)])) (clk + 1)))) := .write (by rw [nx_put]; omega) fun h => absurd h (by decide)
    have m3 : H1.nx ≤ (H1.put 101 (.obj (.map (esOf (L ++ [([c], w, clk)])) (clk + 1)))).nx := by rw [nx_put]; exact Nat.le_refl _
    refine WK.reg_gg (fun t' H' => t'.get 0 = lv ∧ t'.get 1 = kv ∧ t'.get 7 = sP ∧ t'.get 9 = mV 101 ∧ t'.get 10 = vS last ∧ t'.get 64 = lv ∧ t'.get 65 = vN n ∧ t'.get 66 = vN i ∧ H' = H1.put 101 (.obj (.map (esOf (L ++ [([c], w, clk)])) (clk + 1)))) ?_ ?_
    · simp (config := { maxSteps := 1000000 }) only [law_r24, g0, g1, g7, g9, g10, g64, g65, g66, g12, g13, m1, m2, m3, WOR, WOG, WOC, WOGk, WOCk, wants_none', wants_some, wantsV_U, wantsV_tt, wantsV_tf, wantsV_ft, wantsV_ff, run, evalO_tmp, evalO_const, evalO_func, evalL, callV_func, Rv_eq, Ro_some, ok_zero, true_and, and_true, get_putT (d := 9), exLen_str, binV_geq, binV_leq, binV_lss, binV_gtr, exEq_int, exEq_str, exPick_t, exPick_f, Bool.not_true, Bool.not_false, Bc_t, Bc_f, Nat.reducePow, Nat.reduceLT, Nat.reduceEqDiff, Nat.reduceAdd, if_false, reduceIte, and_self, exFa_ptr, putT_none, Nat.zero_add, Nat.add_zero, Nat.le_refl, exUn_not]
    rintro t4 H4 ⟨g0, g1, g7, g9, g10, g64, g65, g66, rfl⟩
    exact ⟨rfl, rfl, d', _, _, ⟨g0, g1, g7, g9, g10, g64, g65, g66⟩, LH.put (d := d) (L := L) (clk := clk) f1 n1 low1 fix1 sto1 hgood hh.last, by omega⟩
set_option maxRecDepth 10000 in
set_option maxHeartbeats 4000000 in
theorem seg1 (S : SpK sp) {t : T Value} (hg : RG t lv kv n i last) (hh : LH Hs H d L clk last) {c : UInt8} {w : Str} (hc : 65 ≤ c.toNat ∧ c.toNat ≤ 90) (hw : ∀ x ∈ w, plainB x = true) (hwl : w.length ≤ 20) (hl : d.length < 64) (g13 : t.get 13 = vS [c]) (g12 : t.get 12 = vS w) (g15 : t.get 15 = .bool (isAt d [c])) :
    WK Tb0 sp (envS 13) ⟨9, 269, none, false⟩ (.seq (.seq (.reg law_r26)
      (.seq (.reg law_r27)
      (.cond (.tmp 163) (.seq (.reg law_r28)
       .ret)
       .skip)))
      (.seq (.reg law_r29)
      (.cond (.tmp 164) (.reg law_r30)
       .skip))) t [] H fun x t' ds' H' => x = .normal ∧ ds' = [] ∧ ∃ d' L' clk', RG t' lv kv n i last ∧ LH Hs H' d' L' clk' last ∧ d'.length ≤ d.length + 1 := by
  obtain ⟨g0, g1, g7, g9, g10, g64, g65, g66⟩ := hg
  have hc32 : c ≠ 32 := fun h => by rw [h] at hc; exact absurd hc.1 (by decide)
  have hpl : plainB c = true := by unfold plainB; rw [Bool.and_eq_true]; exact ⟨decide_eq_true (by omega), decide_eq_true (by omega)⟩
  have hch := hh.good.check (by omega)
  have hadd : binV .add (vS [c]) (.string ⟨#[32, 32]⟩) = some (vS (pad c 2)) := rfl
  refine WK.seq (WK.seq (WK.reg_gg (fun t' H' => t'.get 0 = lv ∧ t'.get 1 = kv ∧ t'.get 7 = sP ∧ t'.get 9 = mV 101 ∧ t'.get 10 = vS last ∧ t'.get 64 = lv ∧ t'.get 65 = vN n ∧ t'.get 66 = vN i ∧ t'.get 13 = vS [c] ∧ t'.get 12 = vS w ∧ t'.get 15 = .bool (isAt d [c]) ∧ t'.get 18 = vN (ansA 4 (rewriteI d ([c], w))) ∧ t'.get 19 = vN (ansB 4 (rewriteI d ([c], w))) ∧ Upd H H' ∧ Sto H' ((rewriteI d ([c], w)).getD d) last) ?_ ?_))
  · simp (config := { maxSteps := 1000000 }) only [law_r26, g0, g1, g7, g9, g10, g64, g65, g66, g12, g13, g15, hadd, WOR, WOG, WOC, WOGk, WOCk, wants_none', wants_some, wantsV_U, wantsV_tt, wantsV_tf, wantsV_ft, wantsV_ff, run, evalO_tmp, evalO_const, evalO_func, evalL, callV_func, Rv_eq, Ro_some, ok_zero, true_and, and_true, get_putT (d := 9), exLen_str, binV_geq, binV_leq, binV_lss, binV_gtr, exEq_int, exEq_str, exPick_t, exPick_f, Bool.not_true, Bool.not_false, Bc_t, Bc_f, Nat.reducePow, Nat.reduceLT, Nat.reduceEqDiff, Nat.reduceAdd, if_false, reduceIte, and_self, exFa_ptr, putT_none, Nat.zero_add, Nat.add_zero, Nat.le_refl, exUn_not]
    refine (srw_ok (k := 2) S hh.fn hh.nx hh.fix hh.sto (Nat.le_refl _) hc32 (by decide) hpl hw (by omega) hch hl).mono fun v H4 _ hv => ?_
    obtain ⟨rfl, hu, hst⟩ := hv
    rw [ansV_eq]
    have a0 := fun H => exExt_tup [vN (ansA 4 (rewriteI d ([c], w))), vN (ansB 4 (rewriteI d ([c], w)))] 0 _ rfl H
    have a1 := fun H => exExt_tup [vN (ansA 4 (rewriteI d ([c], w))), vN (ansB 4 (rewriteI d ([c], w)))] 1 _ rfl H
    simp (config := { maxSteps := 1000000 }) only [a0, a1, g0, g1, g7, g9, g10, g64, g65, g66, g12, g13, g15, WOR, WOG, WOC, WOGk, WOCk, wants_none', wants_some, wantsV_U, wantsV_tt, wantsV_tf, wantsV_ft, wantsV_ff, run, evalO_tmp, evalO_const, evalO_func, evalL, callV_func, Rv_eq, Ro_some, ok_zero, true_and, and_true, get_putT (d := 9), exLen_str, binV_geq, binV_leq, binV_lss, binV_gtr, exEq_int, exEq_str, exPick_t, exPick_f, Bool.not_true, Bool.not_false, Bc_t, Bc_f, Nat.reducePow, Nat.reduceLT, Nat.reduceEqDiff, Nat.reduceAdd, if_false, reduceIte, and_self, exFa_ptr, putT_none, Nat.zero_add, Nat.add_zero, Nat.le_refl, exUn_not]
    exact ⟨hu, hst⟩
  rintro t1 H1 ⟨g0, g1, g7, g9, g10, g64, g65, g66, g13, g12, g15, gA, gB, hu, hst⟩
  obtain ⟨_, f1, n1, low1, fix1, sto1, map1⟩ := hh.upd hu hst
  cases hat : isAt d [c] with
  | false =>
    rw [hat] at g15
    have hres : rewriteI d ([c], w) = none := by unfold rewriteI; rw [hat]; rfl
    rw [hres] at gA gB sto1
    have gA : t1.get 18 = vN 9 := gA
    have gB : t1.get 19 = vN 51 := gB
    have b1 : exEq false (.one .i) (vN 9) (.int .i64 0) H1 = .val (.bool false) H1 0 0 := rfl
    have b2 : exEq true (.one .b) (.bool false) (.bool false) H1 = .val (.bool false) H1 0 0 := rfl
    have b3 : exEq true (.one .i) (vN 9) (.int .i64 9) H1 = .val (.bool false) H1 0 0 := rfl
    have b4 : exEq true (.one .i) (vN 51) (.int .i64 51) H1 = .val (.bool false) H1 0 0 := rfl
    refine WK.seq (WK.reg_rr (fun t' => t'.get 0 = lv ∧ t'.get 1 = kv ∧ t'.get 7 = sP ∧ t'.get 9 = mV 101 ∧ t'.get 10 = vS last ∧ t'.get 64 = lv ∧ t'.get 65 = vN n ∧ t'.get 66 = vN i ∧ t'.get 13 = vS [c] ∧ t'.get 12 = vS w ∧ t'.get 15 = .bool false ∧ t'.get 163 = .bool false) ?_ ?_)
    · simp (config := { maxSteps := 1000000 }) only [law_r27, g0, g1, g7, g9, g10, g64, g65, g66, g12, g13, g15, gA, gB, b1, b2, b3, b4, WOR, WOG, WOC, WOGk, WOCk, wants_none', wants_some, wantsV_U, wantsV_tt, wantsV_tf, wantsV_ft, wantsV_ff, run, evalO_tmp, evalO_const, evalO_func, evalL, callV_func, Rv_eq, Ro_some, ok_zero, true_and, and_true, get_putT (d := 9), exLen_str, binV_geq, binV_leq, binV_lss, binV_gtr, exEq_int, exEq_str, exPick_t, exPick_f, Bool.not_true, Bool.not_false, Bc_t, Bc_f, Nat.reducePow, Nat.reduceLT, Nat.reduceEqDiff, Nat.reduceAdd, if_false, reduceIte, and_self, exFa_ptr, putT_none, Nat.zero_add, Nat.add_zero, Nat.le_refl, exUn_not]
    rintro t2 ⟨g0, g1, g7, g9, g10, g64, g65, g66, g13, g12, g15, gc⟩
    refine WK.cond (v := false) (by rw [evalO_tmp, gc]; rfl) (WK.skip ?_)
    show WK Tb0 sp (envS 13) ⟨9, 269, none, false⟩ _ t2 [] H1 _
    refine WK.seq (WK.reg_rr (fun t' => t'.get 0 = lv ∧ t'.get 1 = kv ∧ t'.get 7 = sP ∧ t'.get 9 = mV 101 ∧ t'.get 10 = vS last ∧ t'.get 64 = lv ∧ t'.get 65 = vN n ∧ t'.get 66 = vN i ∧ t'.get 164 = .bool false) ?_ ?_)
    · simp (config := { maxSteps := 1000000 }) only [law_r29, g0, g1, g7, g9, g10, g64, g65, g66, g12, g13, g15, WOR, WOG, WOC, WOGk, WOCk, wants_none', wants_some, wantsV_U, wantsV_tt, wantsV_tf, wantsV_ft, wantsV_ff, run, evalO_tmp, evalO_const, evalO_func, evalL, callV_func, Rv_eq, Ro_some, ok_zero, true_and, and_true, get_putT (d := 9), exLen_str, binV_geq, binV_leq, binV_lss, binV_gtr, exEq_int, exEq_str, exPick_t, exPick_f, Bool.not_true, Bool.not_false, Bc_t, Bc_f, Nat.reducePow, Nat.reduceLT, Nat.reduceEqDiff, Nat.reduceAdd, if_false, reduceIte, and_self, exFa_ptr, putT_none, Nat.zero_add, Nat.add_zero, Nat.le_refl, exUn_not]
    rintro t3 ⟨g0, g1, g7, g9, g10, g64, g65, g66, gc⟩
    exact WK.cond (v := false) (by rw [evalO_tmp, gc]; rfl) (WK.skip ⟨rfl, rfl, d, L, clk, ⟨g0, g1, g7, g9, g10, g64, g65, g66⟩, ⟨f1, n1, low1, fix1, sto1, map1, hh.good, hh.last⟩, by omega⟩)
  | true =>
    rw [hat] at g15
    obtain ⟨v0, b0, _, hvd, hvL⟩ : ∃ v b, isAt d [c] = true ∧ ([c], v) ∈ d ∧ ([c], v, b) ∈ L := by
      rcases hh.good.at [c] with ⟨h, _⟩ | h
      · rw [hat] at h; cases h
      · exact h
    obtain ⟨d', j, hres, hfind, hgood, hlen⟩ := hh.good.rewrite (v := w) hvL (by omega)
    rw [hres] at gA gB sto1
    have gA : t1.get 18 = vN 0 := gA
    have gB : t1.get 19 = vN 0 := gB
    have b1 : exEq false (.one .i) (vN 0) (.int .i64 0) H1 = .val (.bool true) H1 0 0 := rfl
    have b2 : exEq true (.one .b) (.bool true) (.bool true) H1 = .val (.bool false) H1 0 0 := rfl
    refine WK.seq (WK.reg_rr (fun t' => t'.get 0 = lv ∧ t'.get 1 = kv ∧ t'.get 7 = sP ∧ t'.get 9 = mV 101 ∧ t'.get 10 = vS last ∧ t'.get 64 = lv ∧ t'.get 65 = vN n ∧ t'.get 66 = vN i ∧ t'.get 13 = vS [c] ∧ t'.get 12 = vS w ∧ t'.get 15 = .bool true ∧ t'.get 163 = .bool false) ?_ ?_)
    · simp (config := { maxSteps := 1000000 }) only [law_r27, g0, g1, g7, g9, g10, g64, g65, g66, g12, g13, g15, gA, gB, b1, b2, WOR, WOG, WOC, WOGk, WOCk, wants_none', wants_some, wantsV_U, wantsV_tt, wantsV_tf, wantsV_ft, wantsV_ff, run, evalO_tmp, evalO_const, evalO_func, evalL, callV_func, Rv_eq, Ro_some, ok_zero, true_and, and_true, get_putT (d := 9), exLen_str, binV_geq, binV_leq, binV_lss, binV_gtr, exEq_int, exEq_str, exPick_t, exPick_f, Bool.not_true, Bool.not_false, Bc_t, Bc_f, Nat.reducePow, Nat.reduceLT, Nat.reduceEqDiff, Nat.reduceAdd, if_false, reduceIte, and_self, exFa_ptr, putT_none, Nat.zero_add, Nat.add_zero, Nat.le_refl, exUn_not]
    rintro t2 ⟨g0, g1, g7, g9, g10, g64, g65, g66, g13, g12, g15, gc⟩
    refine WK.cond (v := false) (by rw [evalO_tmp, gc]; rfl) (WK.skip ?_)
    show WK Tb0 sp (envS 13) ⟨9, 269, none, false⟩ _ t2 [] H1 _
    refine WK.seq (WK.reg_rr (fun t' => t'.get 0 = lv ∧ t'.get 1 = kv ∧ t'.get 7 = sP ∧ t'.get 9 = mV 101 ∧ t'.get 10 = vS last ∧ t'.get 64 = lv ∧ t'.get 65 = vN n ∧ t'.get 66 = vN i ∧ t'.get 13 = vS [c] ∧ t'.get 12 = vS w ∧ t'.get 164 = .bool true) ?_ ?_)
    · simp (config := { maxSteps := 1000000 }) only [law_r29, g0, g1, g7, g9, g10, g64, g65, g66, g12, g13, g15, WOR, WOG, WOC, WOGk, WOCk, wants_none', wants_some, wantsV_U, wantsV_tt, wantsV_tf, wantsV_ft, wantsV_ff, run, evalO_tmp, evalO_const, evalO_func, evalL, callV_func, Rv_eq, Ro_some, ok_zero, true_and, and_true, get_putT (d := 9), exLen_str, binV_geq, binV_leq, binV_lss, binV_gtr, exEq_int, exEq_str, exPick_t, exPick_f, Bool.not_true, Bool.not_false, Bc_t, Bc_f, Nat.reducePow, Nat.reduceLT, Nat.reduceEqDiff, Nat.reduceAdd, if_false, reduceIte, and_self, exFa_ptr, putT_none, Nat.zero_add, Nat.add_zero, Nat.le_refl, exUn_not]
    rintro t3 ⟨g0, g1, g7, g9, g10, g64, g65, g66, g13, g12, gc⟩
    refine WK.cond (v := true) (by rw [evalO_tmp, gc]; rfl) ?_
    have m1 := exMup_yes (v := w) map1 hfind
    have m2 : (envS 13).ok 0 (bit 101) (H1.put 101 (.obj (.map (esOf (L.modify j fun x => ([c], w, x.2.2))) clk))) := .write (by rw [nx_put]; omega) fun h => absurd h (by decide)
    have m3 : H1.nx ≤ (H1.put 101 (.obj (.map (esOf (L.modify j fun x => ([c], w, x.2.2))) clk))).nx := by rw [nx_put]; exact Nat.le_refl _
    refine WK.reg_gg (fun t' H' => t'.get 0 = lv ∧ t'.get 1 = kv ∧ t'.get 7 = sP ∧ t'.get 9 = mV 101 ∧ t'.get 10 = vS last ∧ t'.get 64 = lv ∧ t'.get 65 = vN n ∧ t'.get 66 = vN i ∧ H' = H1.put 101 (.obj (.map (esOf (L.modify j fun x => ([c], w, x.2.2))) clk))) ?_ ?_
    · simp (config := { maxSteps := 1000000 }) only [law_r30, g0, g1, g7, g9, g10, g64, g65, g66, g12, g13, m1, m2, m3, WOR, WOG, WOC, WOGk, WOCk, wants_none', wants_some, wantsV_U, wantsV_tt, wantsV_tf, wantsV_ft, wantsV_ff, run, evalO_tmp, evalO_const, evalO_func, evalL, callV_func, Rv_eq, Ro_some, ok_zero, true_and, and_true, get_putT (d := 9), exLen_str, binV_geq, binV_leq, binV_lss, binV_gtr, exEq_int, exEq_str, exPick_t, exPick_f, Bool.not_true, Bool.not_false, Bc_t, Bc_f, Nat.reducePow, Nat.reduceLT, Nat.reduceEqDiff, Nat.reduceAdd, if_false, reduceIte, and_self, exFa_ptr, putT_none, Nat.zero_add, Nat.add_zero, Nat.le_refl, exUn_not]
    rintro t4 H4 ⟨g0, g1, g7, g9, g10, g64, g65, g66, rfl⟩
    exact ⟨rfl, rfl, d', _, _, ⟨g0, g1, g7, g9, g10, g64, g65, g66⟩, LH.put (d := d) (L := L) (clk := clk) f1 n1 low1 fix1 sto1 hgood hh.last, by omega⟩
set_option maxRecDepth 10000 in
set_option maxHeartbeats 4000000 in
theorem seg2 (S : SpK sp) {t : T Value} (hg : RG t lv kv n i last) (hh : LH Hs H d L clk last) {c : UInt8} {w : Str} (hc : 65 ≤ c.toNat ∧ c.toNat ≤ 90) (hw : ∀ x ∈ w, plainB x = true) (hwl : w.length ≤ 20) (hl : d.length < 64) (g13 : t.get 13 = vS [c]) (g12 : t.get 12 = vS w) (g15 : t.get 15 = .bool (isAt d [c])) :
    WK Tb0 sp (envS 13) ⟨9, 269, none, false⟩ (.seq (.seq (.reg law_r32)
       (.seq (.reg law_r33)
       (.cond (.tmp 179) (.seq (.reg law_r34)
        .ret)
        .skip)))
       (.reg law_r35)) t [] H fun x t' ds' H' => x = .normal ∧ ds' = [] ∧ ∃ d' L' clk', RG t' lv kv n i last ∧ LH Hs H' d' L' clk' last ∧ d'.length ≤ d.length + 1 := by
  obtain ⟨g0, g1, g7, g9, g10, g64, g65, g66⟩ := hg
  have hc32 : c ≠ 32 := fun h => by rw [h] at hc; exact absurd hc.1 (by decide)
  have hpl : plainB c = true := by unfold plainB; rw [Bool.and_eq_true]; exact ⟨decide_eq_true (by omega), decide_eq_true (by omega)⟩
  have hch := hh.good.check (by omega)
  refine WK.seq (WK.seq (WK.reg_gg (fun t' H' => t'.get 0 = lv ∧ t'.get 1 = kv ∧ t'.get 7 = sP ∧ t'.get 9 = mV 101 ∧ t'.get 10 = vS last ∧ t'.get 64 = lv ∧ t'.get 65 = vN n ∧ t'.get 66 = vN i ∧ t'.get 13 = vS [c] ∧ t'.get 12 = vS w ∧ t'.get 15 = .bool (isAt d [c]) ∧ t'.get 20 = vN (ansA 4 (deleteI d [c])) ∧ t'.get 21 = vN (ansB 4 (deleteI d [c])) ∧ Upd H H' ∧ Sto H' ((deleteI d [c]).getD d) last) ?_ ?_))
  · simp (config := { maxSteps := 1000000 }) only [law_r32, g0, g1, g7, g9, g10, g64, g65, g66, g12, g13, g15, WOR, WOG, WOC, WOGk, WOCk, wants_none', wants_some, wantsV_U, wantsV_tt, wantsV_tf, wantsV_ft, wantsV_ff, run, evalO_tmp, evalO_const, evalO_func, evalL, callV_func, Rv_eq, Ro_some, ok_zero, true_and, and_true, get_putT (d := 9), exLen_str, binV_geq, binV_leq, binV_lss, binV_gtr, exEq_int, exEq_str, exPick_t, exPick_f, Bool.not_true, Bool.not_false, Bc_t, Bc_f, Nat.reducePow, Nat.reduceLT, Nat.reduceEqDiff, Nat.reduceAdd, if_false, reduceIte, and_self, exFa_ptr, putT_none, Nat.zero_add, Nat.add_zero, Nat.le_refl, exUn_not]
    refine (sdl_ok S hh.fn hh.nx hh.fix hh.sto (Nat.le_refl _) hc32 hpl hch).mono fun v H4 _ hv => ?_
    obtain ⟨rfl, hu, hst⟩ := hv
    rw [ansV_eq]
    have a0 := fun H => exExt_tup [vN (ansA 4 (deleteI d [c])), vN (ansB 4 (deleteI d [c]))] 0 _ rfl H
    have a1 := fun H => exExt_tup [vN (ansA 4 (deleteI d [c])), vN (ansB 4 (deleteI d [c]))] 1 _ rfl H
    simp (config := { maxSteps := 1000000 }) only [a0, a1, g0, g1, g7, g9, g10, g64, g65, g66, g12, g13, g15, WOR, WOG, WOC, WOGk, WOCk, wants_none', wants_some, wantsV_U, wantsV_tt, wantsV_tf, wantsV_ft, wantsV_ff, run, evalO_tmp, evalO_const, evalO_func, evalL, callV_func, Rv_eq, Ro_some, ok_zero, true_and, and_true, get_putT (d := 9), exLen_str, binV_geq, binV_leq, binV_lss, binV_gtr, exEq_int, exEq_str, exPick_t, exPick_f, Bool.not_true, Bool.not_false, Bc_t, Bc_f, Nat.reducePow, Nat.reduceLT, Nat.reduceEqDiff, Nat.reduceAdd, if_false, reduceIte, and_self, exFa_ptr, putT_none, Nat.zero_add, Nat.add_zero, Nat.le_refl, exUn_not]
    exact ⟨hu, hst⟩
  rintro t1 H1 ⟨g0, g1, g7, g9, g10, g64, g65, g66, g13, g12, g15, gA, gB, hu, hst⟩
  obtain ⟨_, f1, n1, low1, fix1, sto1, map1⟩ := hh.upd hu hst
  cases hat : isAt d [c] with
  | false =>
    rw [hat] at g15
    have hno : ∀ x ∈ L, x.1 ≠ [c] := by
      rcases hh.good.at [c] with ⟨_, h, _⟩ | ⟨v, b, h, _⟩
      · exact h
      · rw [hat] at h; cases h
    have hres : deleteI d [c] = none := by unfold deleteI; rw [hat]; rfl
    rw [hres] at gA gB sto1
    have gA : t1.get 20 = vN 9 := gA
    have b1 : exEq false (.one .i) (vN 9) (.int .i64 0) H1 = .val (.bool false) H1 0 0 := rfl
    have b2 : exEq true (.one .b) (.bool false) (.bool false) H1 = .val (.bool false) H1 0 0 := rfl
    refine WK.seq (WK.reg_rr (fun t' => t'.get 0 = lv ∧ t'.get 1 = kv ∧ t'.get 7 = sP ∧ t'.get 9 = mV 101 ∧ t'.get 10 = vS last ∧ t'.get 64 = lv ∧ t'.get 65 = vN n ∧ t'.get 66 = vN i ∧ t'.get 13 = vS [c] ∧ t'.get 12 = vS w ∧ t'.get 15 = .bool false ∧ t'.get 179 = .bool false) ?_ ?_)
    · simp (config := { maxSteps := 1000000 }) only [law_r33, g0, g1, g7, g9, g10, g64, g65, g66, g12, g13, g15, gA, gB, b1, b2, WOR, WOG, WOC, WOGk, WOCk, wants_none', wants_some, wantsV_U, wantsV_tt, wantsV_tf, wantsV_ft, wantsV_ff, run, evalO_tmp, evalO_const, evalO_func, evalL, callV_func, Rv_eq, Ro_some, ok_zero, true_and, and_true, get_putT (d := 9), exLen_str, binV_geq, binV_leq, binV_lss, binV_gtr, exEq_int, exEq_str, exPick_t, exPick_f, Bool.not_true, Bool.not_false, Bc_t, Bc_f, Nat.reducePow, Nat.reduceLT, Nat.reduceEqDiff, Nat.reduceAdd, if_false, reduceIte, and_self, exFa_ptr, putT_none, Nat.zero_add, Nat.add_zero, Nat.le_refl, exUn_not]
    rintro t2 ⟨g0, g1, g7, g9, g10, g64, g65, g66, g13, g12, g15, gc⟩
    refine WK.cond (v := false) (by rw [evalO_tmp, gc]; rfl) (WK.skip ?_)
    show WK Tb0 sp (envS 13) ⟨9, 269, none, false⟩ _ t2 [] H1 _
    have m1 := exDel_no map1 (findS_none (i := 0) hno)
    have m2 : (envS 13).ok 0 (bit 101) H1 := .write (by omega) fun h => absurd h (by decide)
    refine WK.reg_gg (fun t' H' => t'.get 0 = lv ∧ t'.get 1 = kv ∧ t'.get 7 = sP ∧ t'.get 9 = mV 101 ∧ t'.get 10 = vS last ∧ t'.get 64 = lv ∧ t'.get 65 = vN n ∧ t'.get 66 = vN i ∧ H' = H1) ?_ ?_
    · simp (config := { maxSteps := 1000000 }) only [law_r35, g0, g1, g7, g9, g10, g64, g65, g66, g12, g13, m1, m2, WOR, WOG, WOC, WOGk, WOCk, wants_none', wants_some, wantsV_U, wantsV_tt, wantsV_tf, wantsV_ft, wantsV_ff, run, evalO_tmp, evalO_const, evalO_func, evalL, callV_func, Rv_eq, Ro_some, ok_zero, true_and, and_true, get_putT (d := 9), exLen_str, binV_geq, binV_leq, binV_lss, binV_gtr, exEq_int, exEq_str, exPick_t, exPick_f, Bool.not_true, Bool.not_false, Bc_t, Bc_f, Nat.reducePow, Nat.reduceLT, Nat.reduceEqDiff, Nat.reduceAdd, if_false, reduceIte, and_self, exFa_ptr, putT_none, Nat.zero_add, Nat.add_zero, Nat.le_refl, exUn_not]
    rintro t4 H4 ⟨g0, g1, g7, g9, g10, g64, g65, g66, rfl⟩
    exact ⟨rfl, rfl, d, L, clk, ⟨g0, g1, g7, g9, g10, g64, g65, g66⟩, ⟨f1, n1, low1, fix1, sto1, map1, hh.good, hh.last⟩, by omega⟩
  | true =>
    rw [hat] at g15
    obtain ⟨v0, b0, _, hvd, hvL⟩ : ∃ v b, isAt d [c] = true ∧ ([c], v) ∈ d ∧ ([c], v, b) ∈ L := by
      rcases hh.good.at [c] with ⟨h, _⟩ | h
      · rw [hat] at h; cases h
      · exact h
    obtain ⟨d', j, hres, hfind, hgood, hlen⟩ := hh.good.delete hvL
    rw [hres] at gA gB sto1
    have gA : t1.get 20 = vN 0 := gA
    have b1 : exEq false (.one .i) (vN 0) (.int .i64 0) H1 = .val (.bool true) H1 0 0 := rfl
    have b2 : exEq true (.one .b) (.bool true) (.bool true) H1 = .val (.bool false) H1 0 0 := rfl
    refine WK.seq (WK.reg_rr (fun t' => t'.get 0 = lv ∧ t'.get 1 = kv ∧ t'.get 7 = sP ∧ t'.get 9 = mV 101 ∧ t'.get 10 = vS last ∧ t'.get 64 = lv ∧ t'.get 65 = vN n ∧ t'.get 66 = vN i ∧ t'.get 13 = vS [c] ∧ t'.get 12 = vS w ∧ t'.get 15 = .bool true ∧ t'.get 179 = .bool false) ?_ ?_)
    · simp (config := { maxSteps := 1000000 }) only [law_r33, g0, g1, g7, g9, g10, g64, g65, g66, g12, g13, g15, gA, gB, b1, b2, WOR, WOG, WOC, WOGk, WOCk, wants_none', wants_some, wantsV_U, wantsV_tt, wantsV_tf, wantsV_ft, wantsV_ff, run, evalO_tmp, evalO_const, evalO_func, evalL, callV_func, Rv_eq, Ro_some, ok_zero, true_and, and_true, get_putT (d := 9), exLen_str, binV_geq, binV_leq, binV_lss, binV_gtr, exEq_int, exEq_str, exPick_t, exPick_f, Bool.not_true, Bool.not_false, Bc_t, Bc_f, Nat.reducePow, Nat.reduceLT, Nat.reduceEqDiff, Nat.reduceAdd, if_false, reduceIte, and_self, exFa_ptr, putT_none, Nat.zero_add, Nat.add_zero, Nat.le_refl, exUn_not]
    rintro t2 ⟨g0, g1, g7, g9, g10, g64, g65, g66, g13, g12, g15, gc⟩
    refine WK.cond (v := false) (by rw [evalO_tmp, gc]; rfl) (WK.skip ?_)
    show WK Tb0 sp (envS 13) ⟨9, 269, none, false⟩ _ t2 [] H1 _
    have m1 := exDel_yes map1 hfind
    have m2 : (envS 13).ok 0 (bit 101) (H1.put 101 (.obj (.map (esOf (L.eraseIdx j)) clk))) := .write (by rw [nx_put]; omega) fun h => absurd h (by decide)
    have m3 : H1.nx ≤ (H1.put 101 (.obj (.map (esOf (L.eraseIdx j)) clk))).nx := by rw [nx_put]; exact Nat.le_refl _
    refine WK.reg_gg (fun t' H' => t'.get 0 = lv ∧ t'.get 1 = kv ∧ t'.get 7 = sP ∧ t'.get 9 = mV 101 ∧ t'.get 10 = vS last ∧ t'.get 64 = lv ∧ t'.get 65 = vN n ∧ t'.get 66 = vN i ∧ H' = H1.put 101 (.obj (.map (esOf (L.eraseIdx j)) clk))) ?_ ?_
    · simp (config := { maxSteps := 1000000 }) only [law_r35, g0, g1, g7, g9, g10, g64, g65, g66, g12, g13, m1, m2, m3, WOR, WOG, WOC, WOGk, WOCk, wants_none', wants_some, wantsV_U, wantsV_tt, wantsV_tf, wantsV_ft, wantsV_ff, run, evalO_tmp, evalO_const, evalO_func, evalL, callV_func, Rv_eq, Ro_some, ok_zero, true_and, and_true, get_putT (d := 9), exLen_str, binV_geq, binV_leq, binV_lss, binV_gtr, exEq_int, exEq_str, exPick_t, exPick_f, Bool.not_true, Bool.not_false, Bc_t, Bc_f, Nat.reducePow, Nat.reduceLT, Nat.reduceEqDiff, Nat.reduceAdd, if_false, reduceIte, and_self, exFa_ptr, putT_none, Nat.zero_add, Nat.add_zero, Nat.le_refl, exUn_not]
    rintro t4 H4 ⟨g0, g1, g7, g9, g10, g64, g65, g66, rfl⟩
    exact ⟨rfl, rfl, d', _, _, ⟨g0, g1, g7, g9, g10, g64, g65, g66⟩, LH.put (d := d) (L := L) (clk := clk) f1 n1 low1 fix1 sto1 hgood hh.last, by omega⟩
end
end Go.Proofs.RS
end
