/-
  A part of the proof that pliantlaw15.RtsReads returns true and leaves its arguments alone. Conditions: those of the card in the last text.
-/
import Derived.Test.YtgdejggelcpokaaGreatDoorG09
import Derived.Test.YtgdejggelcpokaaGreatDoorG12
import Derived.Test.YtgdejggelcpokaaGreatDoorG35
set_option linter.unusedSimpArgs false
set_option linter.unusedVariables false
set_option linter.unusedSectionVars false

noncomputable section
namespace Go.Proofs.RS
open Go Go.Ev Go.Proofs Go.Ds
def strQ (x : Str) (vs : List Value) : Prop := vs = [vS x]
def intQ (x : Int) (vs : List Value) : Prop := vs = [vN x]
structure ArgsA (Hs : Hp) (lv kv : Value) (l : List Str) (ks : List Int) : Prop where
  l : ∀ H : Hp, (∀ b, b < 13 → H.blk b = Hs.blk b) → RowR (envS 13) H 1 strQ lv l
  k : ∀ H : Hp, (∀ b, b < 13 → H.blk b = Hs.blk b) → RowR (envS 13) H 1 intQ kv ks
theorem one_ld {e0 : Env} {H : Hp} {v : Value} {i b o : Nat} {x : Value} (h : ElR e0 H 1 v i b o [x]) : exLd1 (.pointer (some ⟨b, o, none⟩)) H = .val x H (bit b) 0 := h.ld1 0 x rfl
def okW (c : UInt8) (w : Str) : Prop := 65 ≤ c.toNat ∧ c.toNat ≤ 90 ∧ (c :: w).length ≤ 20 ∧ ∀ x ∈ c :: w, plainB x = true
theorem toB_ok {H : Hp} (hf : H.isFn = true) (w : Str) : ∃ H' c, exToB 5 (vS w) H = .val (.slice (some ⟨H.nx, 0, none⟩) w.length c) H' 0 0 ∧ Kept H H' ∧ RowG H' H.nx 5 2 (bytesV w) ∧ H.nx < H'.nx := by
  obtain ⟨t, h1, h2⟩ := blkL_eq (bytesV w) 5 2
  refine ⟨H.push (frB true 0 0 (blkL (bytesV w) 5 2)), 2 * w.length + 1, ?_, ⟨by rw [isFn_push]; exact hf, by rw [nx_push]; omega, fun b hb => blk_push_old (fn_room hf) _ hb⟩, ?_, by rw [nx_push]; omega⟩
  · show alloc1 (frB true 0 0 (blkL (bytesV w) 5 2)) H (fun i => mkSlV (some (i, 0)) w.length w.length true) 0 0 = _
    rw [alloc1_room (fn_room hf)]
    rfl
  · rw [h1]
    exact ⟨t, _, _, by rw [blk_push _ (fn_room hf), if_pos rfl]; rfl, h2⟩
theorem binV_rem4 (a : Int) : binV .rem (vN a) (.int .i64 4) = some (vN (a.tmod 4)) := rfl
section
variable {sp : Nat → List Value → Hp → Option (Value × Hp × Nat × Nat)} {Hs H : Hp} {d : DS} {L : ML} {clk n i : Nat} {last : Str} {lv kv : Value}
set_option maxRecDepth 10000 in
set_option maxHeartbeats 4000000 in
theorem seg15 (S : SpK sp) {t : T Value} (hg : RG t lv kv n i last) (hn : 13 ≤ H.nx) (hf : H.isFn = true) {w : Str} (g11 : t.get 11 = vN i) (g12 : t.get 12 = vS w) :
    WK Tb0 sp (envS 13) ⟨9, 269, none, false⟩ (.seq (.reg law_r15)
   (.cond (.tmp 93) (.exit 1)
    .skip)) t [] H fun x t' ds' H' => ds' = [] ∧ RG t' lv kv n i last ∧ Kept H H' ∧ t'.get 11 = vN i ∧ t'.get 12 = vS w ∧ (x = .exit 1 ∨ (x = .normal ∧ ∃ c w', w = c :: w' ∧ okW c w')) := by
  obtain ⟨g0, g1, g7, g9, g10, g64, g65, g66⟩ := hg
  have key : ∃ bad : Bool, (bad = false → ∃ c w', w = c :: w' ∧ okW c w') ∧ WOG Tb0 sp (envS 13) 9 (fun t' H' => t'.get 0 = lv ∧ t'.get 1 = kv ∧ t'.get 7 = sP ∧ t'.get 9 = mV 101 ∧ t'.get 10 = vS last ∧ t'.get 64 = lv ∧ t'.get 65 = vN n ∧ t'.get 66 = vN i ∧ t'.get 11 = vN i ∧ t'.get 12 = vS w ∧ t'.get 93 = .bool bad ∧ Kept H H') law_r15 t H := by
    by_cases h1 : (20 : Int) < (w.length : Int)
    · refine ⟨true, (fun h => by cases h), ?_⟩
      have e1 := decide_eq_true h1
      simp (config := { maxSteps := 1000000 }) only [law_r15, g0, g1, g7, g9, g10, g64, g65, g66, g11, g12, e1, WOR, WOG, WOC, WOGk, WOCk, wants_none', wants_some, wantsV_U, wantsV_tt, wantsV_tf, wantsV_ft, wantsV_ff, run, evalO_tmp, evalO_const, evalO_func, evalL, callV_func, Rv_eq, Ro_some, ok_zero, true_and, and_true, get_putT (d := 9), exLen_str, binV_geq, binV_leq, binV_lss, binV_gtr, exEq_int, exEq_str, exPick_t, exPick_f, Bool.not_true, Bool.not_false, Bc_t, Bc_f, Nat.reducePow, Nat.reduceLT, Nat.reduceEqDiff, Nat.reduceAdd, if_false, reduceIte, and_self, exFa_ptr, putT_none, Nat.zero_add, Nat.add_zero, Nat.le_refl, exUn_not]
      exact .refl hf
    have e1 := decide_eq_false h1
    cases w with
    | nil =>
      refine ⟨true, (fun h => by cases h), ?_⟩
      have e2 : decide (((([] : Str).length : Nat) : Int) < 1) = true := rfl
      simp (config := { maxSteps := 1000000 }) only [law_r15, g0, g1, g7, g9, g10, g64, g65, g66, g11, g12, e1, e2, WOR, WOG, WOC, WOGk, WOCk, wants_none', wants_some, wantsV_U, wantsV_tt, wantsV_tf, wantsV_ft, wantsV_ff, run, evalO_tmp, evalO_const, evalO_func, evalL, callV_func, Rv_eq, Ro_some, ok_zero, true_and, and_true, get_putT (d := 9), exLen_str, binV_geq, binV_leq, binV_lss, binV_gtr, exEq_int, exEq_str, exPick_t, exPick_f, Bool.not_true, Bool.not_false, Bc_t, Bc_f, Nat.reducePow, Nat.reduceLT, Nat.reduceEqDiff, Nat.reduceAdd, if_false, reduceIte, and_self, exFa_ptr, putT_none, Nat.zero_add, Nat.add_zero, Nat.le_refl, exUn_not]
      exact .refl hf
    | cons c w' =>
    have e2 : decide ((((c :: w').length : Nat) : Int) < 1) = false := decide_eq_false (by rw [List.length_cons]; omega)
    have i0 := exIxS_at (l := c :: w') (i := 0) (x := c) rfl
    have i0' : ∀ H, exIxS (vS (c :: w')) (.int .i64 0) H = .val (vB c) H 0 0 := i0
    by_cases h3 : (c.toNat : Int) < 65
    · refine ⟨true, (fun h => by cases h), ?_⟩
      have e3 := decide_eq_true h3
      simp (config := { maxSteps := 1000000 }) only [law_r15, g0, g1, g7, g9, g10, g64, g65, g66, g11, g12, e1, e2, i0', binV_lss8, e3, WOR, WOG, WOC, WOGk, WOCk, wants_none', wants_some, wantsV_U, wantsV_tt, wantsV_tf, wantsV_ft, wantsV_ff, run, evalO_tmp, evalO_const, evalO_func, evalL, callV_func, Rv_eq, Ro_some, ok_zero, true_and, and_true, get_putT (d := 9), exLen_str, binV_geq, binV_leq, binV_lss, binV_gtr, exEq_int, exEq_str, exPick_t, exPick_f, Bool.not_true, Bool.not_false, Bc_t, Bc_f, Nat.reducePow, Nat.reduceLT, Nat.reduceEqDiff, Nat.reduceAdd, if_false, reduceIte, and_self, exFa_ptr, putT_none, Nat.zero_add, Nat.add_zero, Nat.le_refl, exUn_not]
      exact .refl hf
    have e3 := decide_eq_false h3
    by_cases h4 : (90 : Int) < (c.toNat : Int)
    · refine ⟨true, (fun h => by cases h), ?_⟩
      have e4 := decide_eq_true h4
      simp (config := { maxSteps := 1000000 }) only [law_r15, g0, g1, g7, g9, g10, g64, g65, g66, g11, g12, e1, e2, i0', binV_lss8, binV_gtr8, e3, e4, WOR, WOG, WOC, WOGk, WOCk, wants_none', wants_some, wantsV_U, wantsV_tt, wantsV_tf, wantsV_ft, wantsV_ff, run, evalO_tmp, evalO_const, evalO_func, evalL, callV_func, Rv_eq, Ro_some, ok_zero, true_and, and_true, get_putT (d := 9), exLen_str, binV_geq, binV_leq, binV_lss, binV_gtr, exEq_int, exEq_str, exPick_t, exPick_f, Bool.not_true, Bool.not_false, Bc_t, Bc_f, Nat.reducePow, Nat.reduceLT, Nat.reduceEqDiff, Nat.reduceAdd, if_false, reduceIte, and_self, exFa_ptr, putT_none, Nat.zero_add, Nat.add_zero, Nat.le_refl, exUn_not]
      exact .refl hf
    have e4 := decide_eq_false h4
    refine ⟨!(c :: w').all plainB, fun h => ⟨c, w', rfl, by omega, by omega, by omega, ?_⟩, ?_⟩
    · rw [Bool.not_eq_false'] at h
      exact fun x hx => List.all_eq_true.1 h x hx
    obtain ⟨H1, cp, b1, b2, b3, b4⟩ := toB_ok hf (c :: w')
    have b5 := b2.nx
    simp (config := { maxSteps := 1000000 }) only [law_r15, g0, g1, g7, g9, g10, g64, g65, g66, g11, g12, e1, e2, i0', binV_lss8, binV_gtr8, e3, e4, b1, b5, WOR, WOG, WOC, WOGk, WOCk, wants_none', wants_some, wantsV_U, wantsV_tt, wantsV_tf, wantsV_ft, wantsV_ff, run, evalO_tmp, evalO_const, evalO_func, evalL, callV_func, Rv_eq, Ro_some, ok_zero, true_and, and_true, get_putT (d := 9), exLen_str, binV_geq, binV_leq, binV_lss, binV_gtr, exEq_int, exEq_str, exPick_t, exPick_f, Bool.not_true, Bool.not_false, Bc_t, Bc_f, Nat.reducePow, Nat.reduceLT, Nat.reduceEqDiff, Nat.reduceAdd, if_false, reduceIte, and_self, exFa_ptr, putT_none, Nat.zero_add, Nat.add_zero, Nat.le_refl, exUn_not]
    refine (cfB_ok S ⟨H.nx, 2, cp, rfl, b3, fun _ => trivial⟩ (by omega)).mono fun v H4 _ hv => ?_
    obtain ⟨rfl, rfl⟩ := hv
    simp (config := { maxSteps := 1000000 }) only [law_r15, g0, g1, g7, g9, g10, g64, g65, g66, g11, g12, e1, e2, i0', binV_lss8, binV_gtr8, e3, e4, b1, b5, WOR, WOG, WOC, WOGk, WOCk, wants_none', wants_some, wantsV_U, wantsV_tt, wantsV_tf, wantsV_ft, wantsV_ff, run, evalO_tmp, evalO_const, evalO_func, evalL, callV_func, Rv_eq, Ro_some, ok_zero, true_and, and_true, get_putT (d := 9), exLen_str, binV_geq, binV_leq, binV_lss, binV_gtr, exEq_int, exEq_str, exPick_t, exPick_f, Bool.not_true, Bool.not_false, Bc_t, Bc_f, Nat.reducePow, Nat.reduceLT, Nat.reduceEqDiff, Nat.reduceAdd, if_false, reduceIte, and_self, exFa_ptr, putT_none, Nat.zero_add, Nat.add_zero, Nat.le_refl, exUn_not]
    exact b2
  obtain ⟨bad, hbad, hreg⟩ := key
  refine WK.seq (WK.reg_gg _ hreg ?_)
  rintro t1 H1 ⟨g0, g1, g7, g9, g10, g64, g65, g66, g11, g12, g93, hk⟩
  cases bad with
  | true => exact WK.cond (v := true) (by rw [evalO_tmp, g93]; rfl) (WK.exit ⟨rfl, ⟨g0, g1, g7, g9, g10, g64, g65, g66⟩, hk, g11, g12, .inl rfl⟩)
  | false => exact WK.cond (v := false) (by rw [evalO_tmp, g93]; rfl) (WK.skip ⟨rfl, ⟨g0, g1, g7, g9, g10, g64, g65, g66⟩, hk, g11, g12, .inr ⟨rfl, hbad rfl⟩⟩)
set_option maxRecDepth 10000 in
set_option maxHeartbeats 4000000 in
theorem seg18 {t : T Value} (hg : RG t lv kv n i last) (hh : LH Hs H d L clk last) {c : UInt8} {w : Str} {l : List Str} {ks : List Int} (ha : ArgsA Hs lv kv l ks) {k : Int} (hk : ks[i]? = some k) (g11 : t.get 11 = vN i) (g12 : t.get 12 = vS (c :: w)) {b : KC} {K : Ex → T Value → List Deferred → Hp → Prop}
    {W0 : World} {β0 : Mp} {Y : KC} {KY : Ex → T Value → List Deferred → Hp → Prop}
    (hK : ∀ t' (sel : Int), RG t' lv kv n i last → t'.get 12 = vS (c :: w) → t'.get 13 = vS [c] → t'.get 15 = .bool (isAt d [c]) → t'.get 108 = vN sel → SK Tryz.prog Tb0 W0 β0 13 ⟨9, 269, none, false⟩ b t' [] H fun x t1 ds1 H1 => match x with | .normal => SK Tryz.prog Tb0 W0 β0 13 ⟨9, 269, none, false⟩ Y t1 ds1 H1 KY | y => KY y t1 ds1 H1) :
    SK Tryz.prog Tb0 W0 β0 13 ⟨9, 269, none, false⟩ (.seq (.reg law_r16)
   (.seq (.reg law_r17)
   (.seq (.seq (.reg law_r18) b) Y))) t [] H KY := by
  obtain ⟨g0, g1, g7, g9, g10, g64, g65, g66⟩ := hg
  have s1 : ∀ H, exSlS (vS (c :: w)) none (some (.int .i64 1)) H = .val (vS [c]) H 0 0 := fun H => exSlS_to (l := c :: w) (i := 1) (by simp) H
  refine SK.seq (SK.of_wk tb_ok lp_ok spL_ok rfl (by decide) (WK.reg_rr (fun t' => t'.get 0 = lv ∧ t'.get 1 = kv ∧ t'.get 7 = sP ∧ t'.get 9 = mV 101 ∧ t'.get 10 = vS last ∧ t'.get 64 = lv ∧ t'.get 65 = vN n ∧ t'.get 66 = vN i ∧ t'.get 11 = vN i ∧ t'.get 12 = vS (c :: w) ∧ t'.get 13 = vS [c]) ?_ ?_))
  · simp (config := { maxSteps := 1000000 }) only [law_r16, g0, g1, g7, g9, g10, g64, g65, g66, g11, g12, s1, evalM, WOR, WOG, WOC, WOGk, WOCk, wants_none', wants_some, wantsV_U, wantsV_tt, wantsV_tf, wantsV_ft, wantsV_ff, run, evalO_tmp, evalO_const, evalO_func, evalL, callV_func, Rv_eq, Ro_some, ok_zero, true_and, and_true, get_putT (d := 9), exLen_str, binV_geq, binV_leq, binV_lss, binV_gtr, exEq_int, exEq_str, exPick_t, exPick_f, Bool.not_true, Bool.not_false, Bc_t, Bc_f, Nat.reducePow, Nat.reduceLT, Nat.reduceEqDiff, Nat.reduceAdd, if_false, reduceIte, and_self, exFa_ptr, putT_none, Nat.zero_add, Nat.add_zero, Nat.le_refl, exUn_not]
  clear g0 g1 g7 g9 g10 g64 g65 g66 g11 g12
  rintro t1 ⟨g0, g1, g7, g9, g10, g64, g65, g66, g11, g12, g13⟩
  have hlk : ∃ v, exLkp (.string ⟨#[]⟩) true (.one .s) (mV 101) (vS [c]) H = .val (.tuple #[v, .bool (isAt d [c])]) H (bit 101) 0 := by
    rcases hh.good.at [c] with ⟨e1, e2, _⟩ | ⟨v, b, e1, _, e3⟩
    · rw [e1]
      exact ⟨_, exLkp_no hh.map (findS_none e2) _ _⟩
    · rw [e1]
      obtain ⟨_, _, _, _, _, _, _, _, _, _, hfind, _, _⟩ := hh.good.parts e3
      exact ⟨_, exLkp_yes hh.map (hfind 0) _ _⟩
  obtain ⟨v, hlk⟩ := hlk
  have m3 : (envS 13).ok (bit 101) 0 H := .read (by have := hh.nx; omega) fun _ => trivial
  have a0 := fun H => exExt_tup [v, .bool (isAt d [c])] 0 _ rfl H
  have a1 := fun H => exExt_tup [v, .bool (isAt d [c])] 1 _ rfl H
  refine SK.seq (SK.of_wk tb_ok lp_ok spL_ok rfl (by decide) (WK.reg_rr (fun t' => t'.get 0 = lv ∧ t'.get 1 = kv ∧ t'.get 7 = sP ∧ t'.get 9 = mV 101 ∧ t'.get 10 = vS last ∧ t'.get 64 = lv ∧ t'.get 65 = vN n ∧ t'.get 66 = vN i ∧ t'.get 11 = vN i ∧ t'.get 12 = vS (c :: w) ∧ t'.get 13 = vS [c] ∧ t'.get 15 = .bool (isAt d [c])) ?_ ?_))
  · simp (config := { maxSteps := 1000000 }) only [law_r17, g0, g1, g7, g9, g10, g64, g65, g66, g11, g12, g13, hlk, m3, a0, a1, WOR, WOG, WOC, WOGk, WOCk, wants_none', wants_some, wantsV_U, wantsV_tt, wantsV_tf, wantsV_ft, wantsV_ff, run, evalO_tmp, evalO_const, evalO_func, evalL, callV_func, Rv_eq, Ro_some, ok_zero, true_and, and_true, get_putT (d := 9), exLen_str, binV_geq, binV_leq, binV_lss, binV_gtr, exEq_int, exEq_str, exPick_t, exPick_f, Bool.not_true, Bool.not_false, Bc_t, Bc_f, Nat.reducePow, Nat.reduceLT, Nat.reduceEqDiff, Nat.reduceAdd, if_false, reduceIte, and_self, exFa_ptr, putT_none, Nat.zero_add, Nat.add_zero, Nat.le_refl, exUn_not]
  clear g0 g1 g7 g9 g10 g64 g65 g66 g11 g12 g13
  rintro t2 ⟨g0, g1, g7, g9, g10, g64, g65, g66, g11, g12, g13, g15⟩
  obtain ⟨bb, oo, vs, hel, rfl⟩ := (ha.k H hh.low).el hk
  have m1 := hel.addr
  have m2 := one_ld hel
  have m4 := hel.ok
  refine SK.seq (SK.seq (SK.of_wk tb_ok lp_ok spL_ok rfl (by decide) (WK.reg_rr (fun t' => t'.get 0 = lv ∧ t'.get 1 = kv ∧ t'.get 7 = sP ∧ t'.get 9 = mV 101 ∧ t'.get 10 = vS last ∧ t'.get 64 = lv ∧ t'.get 65 = vN n ∧ t'.get 66 = vN i ∧ t'.get 12 = vS (c :: w) ∧ t'.get 13 = vS [c] ∧ t'.get 15 = .bool (isAt d [c]) ∧ t'.get 108 = vN ((wrapF .i64 (k.tmod 4 + 4)).tmod 4)) ?_ ?_)))
  · simp (config := { maxSteps := 1000000 }) only [law_r18, g0, g1, g7, g9, g10, g64, g65, g66, g11, g12, g13, g15, m1, m2, m4, binV_rem4, binV_add, WOR, WOG, WOC, WOGk, WOCk, wants_none', wants_some, wantsV_U, wantsV_tt, wantsV_tf, wantsV_ft, wantsV_ff, run, evalO_tmp, evalO_const, evalO_func, evalL, callV_func, Rv_eq, Ro_some, ok_zero, true_and, and_true, get_putT (d := 9), exLen_str, binV_geq, binV_leq, binV_lss, binV_gtr, exEq_int, exEq_str, exPick_t, exPick_f, Bool.not_true, Bool.not_false, Bc_t, Bc_f, Nat.reducePow, Nat.reduceLT, Nat.reduceEqDiff, Nat.reduceAdd, if_false, reduceIte, and_self, exFa_ptr, putT_none, Nat.zero_add, Nat.add_zero, Nat.le_refl, exUn_not]
  clear g0 g1 g7 g9 g10 g64 g65 g66 g11 g12 g13 g15
  rintro t3 ⟨g0, g1, g7, g9, g10, g64, g65, g66, g12, g13, g15, g108⟩
  exact hK t3 _ ⟨g0, g1, g7, g9, g10, g64, g65, g66⟩ g12 g13 g15 g108
end
end Go.Proofs.RS
end

noncomputable section
namespace Go.Proofs.RS
open Go Go.Ev Go.Proofs Go.Ds
section
variable {Hs H : Hp} {d : DS} {L : ML} {clk n i : Nat} {last : Str} {lv kv : Value}
variable {W0 : World} {β0 : Mp}
def RI (Hs : Hp) (lv kv : Value) (n m : Nat) (t : T Value) (ds : List Deferred) (H : Hp) : Prop := ds = [] ∧ ∃ (i : Nat) (d : DS) (L : ML) (clk : Nat) (last : Str), m = n - i ∧ i ≤ n ∧ RG t lv kv n i last ∧ LH Hs H d L clk last ∧ d.length ≤ i
set_option maxRecDepth 10000 in
set_option maxHeartbeats 4000000 in
theorem fin62 {t : T Value} (hg : RG t lv kv n i last) (hh : LH Hs H d L clk last) (hi : i < n) (hn : n ≤ 40) (hd : d.length ≤ i + 1) {K : Ex → T Value → List Deferred → Hp → Prop} :
    SK Tryz.prog Tb0 W0 β0 13 ⟨9, 269, none, false⟩ (.reg law_r62) t [] H fun x t1 ds1 H1 => match x with | .normal => ∃ m, m < n - i ∧ RI Hs lv kv n m t1 ds1 H1 | y => K y t1 ds1 H1 := by
  obtain ⟨g0, g1, g7, g9, g10, g64, g65, g66⟩ := hg
  have hwr : wrapF .i64 ((i : Int) + 1) = ((i + 1 : Nat) : Int) := by rw [wrapF_i64 (by omega) (by omega)]; omega
  refine SK.of_wk tb_ok lp_ok spL_ok rfl (by decide) (WK.reg_rr (fun t' => t'.get 0 = lv ∧ t'.get 1 = kv ∧ t'.get 7 = sP ∧ t'.get 9 = mV 101 ∧ t'.get 10 = vS last ∧ t'.get 64 = lv ∧ t'.get 65 = vN n ∧ t'.get 66 = vN (i + 1 : Nat)) ?_ ?_)
  · simp (config := { maxSteps := 1000000 }) only [law_r62, g0, g1, g7, g9, g10, g64, g65, g66, binV_add, hwr, WOR, WOG, WOC, WOGk, WOCk, wants_none', wants_some, wantsV_U, wantsV_tt, wantsV_tf, wantsV_ft, wantsV_ff, run, evalO_tmp, evalO_const, evalO_func, evalL, callV_func, Rv_eq, Ro_some, ok_zero, true_and, and_true, get_putT (d := 9), exLen_str, binV_geq, binV_leq, binV_lss, binV_gtr, exEq_int, exEq_str, exPick_t, exPick_f, Bool.not_true, Bool.not_false, Bc_t, Bc_f, Nat.reducePow, Nat.reduceLT, Nat.reduceEqDiff, Nat.reduceAdd, if_false, reduceIte, and_self, exFa_ptr, putT_none, Nat.zero_add, Nat.add_zero, Nat.le_refl, exUn_not]
  rintro t' ⟨g0, g1, g7, g9, g10, g64, g65, g66⟩
  exact ⟨n - (i + 1), by omega, rfl, i + 1, d, L, clk, last, rfl, by omega, ⟨g0, g1, g7, g9, g10, g64, g65, g66⟩, hh, hd⟩
set_option maxRecDepth 10000 in
set_option maxHeartbeats 4000000 in
theorem round {l : List Str} {ks : List Int} (ha : ArgsA Hs lv kv l ks) (hl : l.length ≤ 40) (hks : l.length ≤ ks.length) {m : Nat} {t : T Value} {ds : List Deferred} (hI : RI Hs lv kv l.length m t ds H) :
    SK Tryz.prog Tb0 W0 β0 13 ⟨9, 269, none, false⟩ law_l63 t ds H fun x t1 ds1 H1 => match x with | .normal => ∃ m', m' < m ∧ RI Hs lv kv l.length m' t1 ds1 H1 | y => inBl 0 (fun x _ ds' _ => x = .normal ∧ ds' = []) y t1 ds1 H1 := by
  obtain ⟨rfl, i, d, L, clk, last, rfl, hi, ⟨g0, g1, g7, g9, g10, g64, g65, g66⟩, hh, hd⟩ := hI
  generalize hn : l.length = n at *
  unfold law_l63
  refine SK.seq (SK.of_wk tb_ok lp_ok spL_ok rfl (by decide) (WK.reg_rr (fun t' => t'.get 0 = lv ∧ t'.get 1 = kv ∧ t'.get 7 = sP ∧ t'.get 9 = mV 101 ∧ t'.get 10 = vS last ∧ t'.get 64 = lv ∧ t'.get 65 = vN n ∧ t'.get 66 = vN i ∧ t'.get 67 = .bool (decide ((i : Int) < (n : Int)))) ?_ ?_))
  · simp (config := { maxSteps := 1000000 }) only [law_r13, g0, g1, g7, g9, g10, g64, g65, g66, WOR, WOG, WOC, WOGk, WOCk, wants_none', wants_some, wantsV_U, wantsV_tt, wantsV_tf, wantsV_ft, wantsV_ff, run, evalO_tmp, evalO_const, evalO_func, evalL, callV_func, Rv_eq, Ro_some, ok_zero, true_and, and_true, get_putT (d := 9), exLen_str, binV_geq, binV_leq, binV_lss, binV_gtr, exEq_int, exEq_str, exPick_t, exPick_f, Bool.not_true, Bool.not_false, Bc_t, Bc_f, Nat.reducePow, Nat.reduceLT, Nat.reduceEqDiff, Nat.reduceAdd, if_false, reduceIte, and_self, exFa_ptr, putT_none, Nat.zero_add, Nat.add_zero, Nat.le_refl, exUn_not]
  clear g0 g1 g7 g9 g10 g64 g65 g66
  rintro t1 ⟨g0, g1, g7, g9, g10, g64, g65, g66, g67⟩
  by_cases hlt : i < n
  case neg =>
    refine SK.seq (SK.of_wk tb_ok lp_ok spL_ok rfl (by decide) (WK.cond (v := false) (by rw [evalO_tmp, g67, decide_eq_false (by omega)]; rfl) (WK.exit ?_)))
    exact ⟨rfl, rfl⟩
  refine SK.seq (SK.of_wk tb_ok lp_ok spL_ok rfl (by decide) (WK.cond (v := true) (by rw [evalO_tmp, g67, decide_eq_true (by omega)]; rfl) (WK.skip ?_)))
  refine SK.seq (SK.block ?_)
  obtain ⟨w, hw⟩ : ∃ w, l[i]? = some w := ⟨l[i]'(by omega), by simp [hn, hlt]⟩
  obtain ⟨k, hk⟩ : ∃ k, ks[i]? = some k := ⟨ks[i]'(by omega), by rw [List.getElem?_eq_getElem]⟩
  obtain ⟨bb, oo, vs, hel, rfl⟩ := (ha.l H hh.low).el hw
  have m1 := hel.addr
  have m2 := one_ld hel
  have m4 := hel.ok
  refine SK.seq (SK.of_wk tb_ok lp_ok spL_ok rfl (by decide) (WK.reg_rr (fun t' => t'.get 0 = lv ∧ t'.get 1 = kv ∧ t'.get 7 = sP ∧ t'.get 9 = mV 101 ∧ t'.get 10 = vS last ∧ t'.get 64 = lv ∧ t'.get 65 = vN n ∧ t'.get 66 = vN i ∧ t'.get 11 = vN i ∧ t'.get 12 = vS w) ?_ ?_))
  · simp (config := { maxSteps := 1000000 }) only [law_r14, g0, g1, g7, g9, g10, g64, g65, g66, m1, m2, m4, WOR, WOG, WOC, WOGk, WOCk, wants_none', wants_some, wantsV_U, wantsV_tt, wantsV_tf, wantsV_ft, wantsV_ff, run, evalO_tmp, evalO_const, evalO_func, evalL, callV_func, Rv_eq, Ro_some, ok_zero, true_and, and_true, get_putT (d := 9), exLen_str, binV_geq, binV_leq, binV_lss, binV_gtr, exEq_int, exEq_str, exPick_t, exPick_f, Bool.not_true, Bool.not_false, Bc_t, Bc_f, Nat.reducePow, Nat.reduceLT, Nat.reduceEqDiff, Nat.reduceAdd, if_false, reduceIte, and_self, exFa_ptr, putT_none, Nat.zero_add, Nat.add_zero, Nat.le_refl, exUn_not]
  clear g0 g1 g7 g9 g10 g64 g65 g66
  rintro t2 ⟨g0, g1, g7, g9, g10, g64, g65, g66, g11, g12⟩
  refine SK.seq ((SK.of_wk tb_ok lp_ok spL_ok rfl (by decide) (seg15 spL_k (t := t2) (n := n) (i := i) ⟨g0, g1, g7, g9, g10, g64, g65, g66⟩ (by have := hh.nx; omega) hh.fn g11 g12)).mono ?_)
  clear g0 g1 g7 g9 g10 g64 g65 g66 g11 g12
  rintro x t3 ds3 H3 ⟨rfl, hg, hkp, g11, g12, rfl | ⟨rfl, c, w', rfl, hok⟩⟩
  · exact fin62 hg (hh.kept hkp) hlt hl (by omega)
  replace hh := hh.kept hkp
  have hc := hok.1
  refine seg18 hg hh ha hk g11 g12 (K := fun _ _ _ _ => True) ?_
  clear hg g11 g12
  intro t4 sel hg g12 g13 g15 g108
  have hfin : ∀ (t' : T Value) (d' : DS) (L' : ML) (clk' : Nat) (last' : Str) (H' : Hp), RG t' lv kv n i last' → LH Hs H' d' L' clk' last' → d'.length ≤ d.length + 1 → SK Tryz.prog Tb0 W0 β0 13 ⟨9, 269, none, false⟩ (.seq (.reg law_r51)
   (.seq (.seq (.draw #[0, 1, 3, 7, 15, 31, 63, 127, 255, 511, 31, 1055, 4095, 8191] law_r52)
   (.cond (.tmp 242) (.seq (.reg law_r53)
    .ret)
    .skip))
   (.seq (.reg law_r54)
   (.block 5 (.loop law_body.sr.sr.sr.sr.sr.sr.sr.sr.sr.sl.sr.bl.lp.sr.sr.sl.bl.sr.sr.sr.sr.sr.sr.sr.sr.bl.lp law_l61))))) t' [] H' (inBl 1 fun x t1 ds1 H1 => match x with
    | .normal => SK Tryz.prog Tb0 W0 β0 13 ⟨9, 269, none, false⟩ (.reg law_r62) t1 ds1 H1 fun x t1 ds1 H1 => match x with
      | .normal => ∃ m', m' < n - i ∧ RI Hs lv kv n m' t1 ds1 H1
      | y => inBl 0 (fun x _ ds' _ => x = .normal ∧ ds' = []) y t1 ds1 H1
    | y => (fun x t1 ds1 H1 => match x with
      | .normal => ∃ m', m' < n - i ∧ RI Hs lv kv n m' t1 ds1 H1
      | y => inBl 0 (fun x _ ds' _ => x = .normal ∧ ds' = []) y t1 ds1 H1) y t1 ds1 H1) := by
    intro t' d' L' clk' last' H' hg' hh' hd'
    refine (SK.of_wk tb_ok lp_ok spL_ok rfl (by decide) (segO spL_k hg' hh' (by omega))).mono ?_
    rintro x t5 ds5 H5 ⟨rfl, rfl, hg5, hh5⟩
    exact fin62 hg5 hh5 hlt hl (by omega)
  refine SK.block ?_
  obtain ⟨g0, g1, g7, g9, g10, g64, g65, g66⟩ := hg
  refine SK.seq (SK.of_wk tb_ok lp_ok spL_ok rfl (by decide) (WK.reg_rr (fun t' => t'.get 0 = lv ∧ t'.get 1 = kv ∧ t'.get 7 = sP ∧ t'.get 9 = mV 101 ∧ t'.get 10 = vS last ∧ t'.get 64 = lv ∧ t'.get 65 = vN n ∧ t'.get 66 = vN i ∧ t'.get 12 = vS (c :: w') ∧ t'.get 13 = vS [c] ∧ t'.get 15 = .bool (isAt d [c]) ∧ t'.get 108 = vN sel ∧ t'.get 109 = .bool (decide (sel = 0))) ?_ ?_))
  · simp (config := { maxSteps := 1000000 }) only [law_r19, g0, g1, g7, g9, g10, g64, g65, g66, g12, g13, g15, g108, WOR, WOG, WOC, WOGk, WOCk, wants_none', wants_some, wantsV_U, wantsV_tt, wantsV_tf, wantsV_ft, wantsV_ff, run, evalO_tmp, evalO_const, evalO_func, evalL, callV_func, Rv_eq, Ro_some, ok_zero, true_and, and_true, get_putT (d := 9), exLen_str, binV_geq, binV_leq, binV_lss, binV_gtr, exEq_int, exEq_str, exPick_t, exPick_f, Bool.not_true, Bool.not_false, Bc_t, Bc_f, Nat.reducePow, Nat.reduceLT, Nat.reduceEqDiff, Nat.reduceAdd, if_false, reduceIte, and_self, exFa_ptr, putT_none, Nat.zero_add, Nat.add_zero, Nat.le_refl, exUn_not]
  clear g0 g1 g7 g9 g10 g64 g65 g66 g12 g13 g15 g108
  rintro t5 ⟨g0, g1, g7, g9, g10, g64, g65, g66, g12, g13, g15, g108, gc⟩
  cases hs : decide (sel = 0) with
  | true =>
    rw [hs] at gc
    refine SK.cond (v := true) (by rw [evalO_tmp, gc]; rfl) ?_
    refine (SK.of_wk tb_ok lp_ok spL_ok rfl (by decide) (seg0 spL_k (t := t5) (n := n) (i := i) ⟨g0, g1, g7, g9, g10, g64, g65, g66⟩ hh ⟨hok.1, hok.2.1⟩ hok.2.2.2 hok.2.2.1 (by omega) g13 g12 g15)).mono ?_
    rintro x t6 ds6 H6 ⟨rfl, rfl, d6, L6, clk6, hg6, hh6, hd6⟩
    exact hfin _ _ _ _ _ _ hg6 hh6 hd6
  | false =>
  rw [hs] at gc
  refine SK.cond (v := false) (by rw [evalO_tmp, gc]; rfl) ?_
  clear gc hs
  refine SK.seq (SK.of_wk tb_ok lp_ok spL_ok rfl (by decide) (WK.reg_rr (fun t' => t'.get 0 = lv ∧ t'.get 1 = kv ∧ t'.get 7 = sP ∧ t'.get 9 = mV 101 ∧ t'.get 10 = vS last ∧ t'.get 64 = lv ∧ t'.get 65 = vN n ∧ t'.get 66 = vN i ∧ t'.get 12 = vS (c :: w') ∧ t'.get 13 = vS [c] ∧ t'.get 15 = .bool (isAt d [c]) ∧ t'.get 108 = vN sel ∧ t'.get 138 = .bool (decide (sel = 1))) ?_ ?_))
  · simp (config := { maxSteps := 1000000 }) only [law_r25, g0, g1, g7, g9, g10, g64, g65, g66, g12, g13, g15, g108, WOR, WOG, WOC, WOGk, WOCk, wants_none', wants_some, wantsV_U, wantsV_tt, wantsV_tf, wantsV_ft, wantsV_ff, run, evalO_tmp, evalO_const, evalO_func, evalL, callV_func, Rv_eq, Ro_some, ok_zero, true_and, and_true, get_putT (d := 9), exLen_str, binV_geq, binV_leq, binV_lss, binV_gtr, exEq_int, exEq_str, exPick_t, exPick_f, Bool.not_true, Bool.not_false, Bc_t, Bc_f, Nat.reducePow, Nat.reduceLT, Nat.reduceEqDiff, Nat.reduceAdd, if_false, reduceIte, and_self, exFa_ptr, putT_none, Nat.zero_add, Nat.add_zero, Nat.le_refl, exUn_not]
  clear g0 g1 g7 g9 g10 g64 g65 g66 g12 g13 g15 g108
  rintro t6 ⟨g0, g1, g7, g9, g10, g64, g65, g66, g12, g13, g15, g108, gc⟩
  cases hs : decide (sel = 1) with
  | true =>
    rw [hs] at gc
    refine SK.cond (v := true) (by rw [evalO_tmp, gc]; rfl) ?_
    refine (SK.of_wk tb_ok lp_ok spL_ok rfl (by decide) (seg1 spL_k (t := t6) (n := n) (i := i) ⟨g0, g1, g7, g9, g10, g64, g65, g66⟩ hh ⟨hok.1, hok.2.1⟩ hok.2.2.2 hok.2.2.1 (by omega) g13 g12 g15)).mono ?_
    rintro x t6 ds6 H6 ⟨rfl, rfl, d6, L6, clk6, hg6, hh6, hd6⟩
    exact hfin _ _ _ _ _ _ hg6 hh6 hd6
  | false =>
  rw [hs] at gc
  refine SK.cond (v := false) (by rw [evalO_tmp, gc]; rfl) ?_
  clear gc hs
  refine SK.seq (SK.of_wk tb_ok lp_ok spL_ok rfl (by decide) (WK.reg_rr (fun t' => t'.get 0 = lv ∧ t'.get 1 = kv ∧ t'.get 7 = sP ∧ t'.get 9 = mV 101 ∧ t'.get 10 = vS last ∧ t'.get 64 = lv ∧ t'.get 65 = vN n ∧ t'.get 66 = vN i ∧ t'.get 12 = vS (c :: w') ∧ t'.get 13 = vS [c] ∧ t'.get 15 = .bool (isAt d [c]) ∧ t'.get 108 = vN sel ∧ t'.get 168 = .bool (decide (sel = 2))) ?_ ?_))
  · simp (config := { maxSteps := 1000000 }) only [law_r31, g0, g1, g7, g9, g10, g64, g65, g66, g12, g13, g15, g108, WOR, WOG, WOC, WOGk, WOCk, wants_none', wants_some, wantsV_U, wantsV_tt, wantsV_tf, wantsV_ft, wantsV_ff, run, evalO_tmp, evalO_const, evalO_func, evalL, callV_func, Rv_eq, Ro_some, ok_zero, true_and, and_true, get_putT (d := 9), exLen_str, binV_geq, binV_leq, binV_lss, binV_gtr, exEq_int, exEq_str, exPick_t, exPick_f, Bool.not_true, Bool.not_false, Bc_t, Bc_f, Nat.reducePow, Nat.reduceLT, Nat.reduceEqDiff, Nat.reduceAdd, if_false, reduceIte, and_self, exFa_ptr, putT_none, Nat.zero_add, Nat.add_zero, Nat.le_refl, exUn_not]
  clear g0 g1 g7 g9 g10 g64 g65 g66 g12 g13 g15 g108
  rintro t7 ⟨g0, g1, g7, g9, g10, g64, g65, g66, g12, g13, g15, g108, gc⟩
  cases hs : decide (sel = 2) with
  | true =>
    rw [hs] at gc
    refine SK.cond (v := true) (by rw [evalO_tmp, gc]; rfl) ?_
    refine (SK.of_wk tb_ok lp_ok spL_ok rfl (by decide) (seg2 spL_k (t := t7) (n := n) (i := i) ⟨g0, g1, g7, g9, g10, g64, g65, g66⟩ hh ⟨hok.1, hok.2.1⟩ hok.2.2.2 hok.2.2.1 (by omega) g13 g12 g15)).mono ?_
    rintro x t6 ds6 H6 ⟨rfl, rfl, d6, L6, clk6, hg6, hh6, hd6⟩
    exact hfin _ _ _ _ _ _ hg6 hh6 hd6
  | false =>
  rw [hs] at gc
  refine SK.cond (v := false) (by rw [evalO_tmp, gc]; rfl) ?_
  clear gc hs
  refine SK.seq (SK.of_wk tb_ok lp_ok spL_ok rfl (by decide) (WK.reg_rr (fun t' => t'.get 0 = lv ∧ t'.get 1 = kv ∧ t'.get 7 = sP ∧ t'.get 9 = mV 101 ∧ t'.get 10 = vS last ∧ t'.get 64 = lv ∧ t'.get 65 = vN n ∧ t'.get 66 = vN i ∧ t'.get 182 = .bool (decide (sel = 3))) ?_ ?_))
  · simp (config := { maxSteps := 1000000 }) only [law_r36, g0, g1, g7, g9, g10, g64, g65, g66, g12, g13, g15, g108, WOR, WOG, WOC, WOGk, WOCk, wants_none', wants_some, wantsV_U, wantsV_tt, wantsV_tf, wantsV_ft, wantsV_ff, run, evalO_tmp, evalO_const, evalO_func, evalL, callV_func, Rv_eq, Ro_some, ok_zero, true_and, and_true, get_putT (d := 9), exLen_str, binV_geq, binV_leq, binV_lss, binV_gtr, exEq_int, exEq_str, exPick_t, exPick_f, Bool.not_true, Bool.not_false, Bc_t, Bc_f, Nat.reducePow, Nat.reduceLT, Nat.reduceEqDiff, Nat.reduceAdd, if_false, reduceIte, and_self, exFa_ptr, putT_none, Nat.zero_add, Nat.add_zero, Nat.le_refl, exUn_not]
  clear g0 g1 g7 g9 g10 g64 g65 g66 g12 g13 g15 g108
  rintro t8 ⟨g0, g1, g7, g9, g10, g64, g65, g66, gc⟩
  cases hs : decide (sel = 3) with
  | false =>
    rw [hs] at gc
    refine SK.cond (v := false) (by rw [evalO_tmp, gc]; rfl) (SK.of_wk tb_ok lp_ok spL_ok rfl (by decide) (WK.skip ?_))
    exact hfin _ _ _ _ _ _ ⟨g0, g1, g7, g9, g10, g64, g65, g66⟩ hh (by omega)
  | true =>
    rw [hs] at gc
    refine SK.cond (v := true) (by rw [evalO_tmp, gc]; rfl) ?_
    refine SK.seq (SK.of_wk tb_ok lp_ok spL_ok rfl (by decide) (WK.reg_rr (fun t' => t'.get 0 = lv ∧ t'.get 1 = kv ∧ t'.get 7 = sP ∧ t'.get 9 = mV 101 ∧ t'.get 10 = vS last ∧ t'.get 64 = lv ∧ t'.get 65 = vN n ∧ t'.get 66 = vN i ∧ t'.get 22 = vS []) ?_ ?_))
    · simp (config := { maxSteps := 1000000 }) only [law_r37, g0, g1, g7, g9, g10, g64, g65, g66, WOR, WOG, WOC, WOGk, WOCk, wants_none', wants_some, wantsV_U, wantsV_tt, wantsV_tf, wantsV_ft, wantsV_ff, run, evalO_tmp, evalO_const, evalO_func, evalL, callV_func, Rv_eq, Ro_some, ok_zero, true_and, and_true, get_putT (d := 9), exLen_str, binV_geq, binV_leq, binV_lss, binV_gtr, exEq_int, exEq_str, exPick_t, exPick_f, Bool.not_true, Bool.not_false, Bc_t, Bc_f, Nat.reducePow, Nat.reduceLT, Nat.reduceEqDiff, Nat.reduceAdd, if_false, reduceIte, and_self, exFa_ptr, putT_none, Nat.zero_add, Nat.add_zero, Nat.le_refl, exUn_not]
    clear g0 g1 g7 g9 g10 g64 g65 g66 gc
    rintro t9 ⟨g0, g1, g7, g9, g10, g64, g65, g66, g22⟩
    refine SK.seq ((seg3a (t := t9) (n := n) (i := i) ⟨g0, g1, g7, g9, g10, g64, g65, g66⟩ hh g22).mono ?_)
    rintro x t10 ds10 H10 ⟨rfl, rfl, hg10, hh10, w, g22, hw⟩
    refine (SK.of_wk tb_ok lp_ok spL_ok rfl (by decide) (seg3b spL_k hg10 hh10 (by omega) g22 hw)).mono ?_
    rintro x t11 ds11 H11 ⟨rfl, rfl, last11, hg11, hh11⟩
    exact hfin _ _ _ _ _ _ hg11 hh11 (by omega)
end
end Go.Proofs.RS
end

noncomputable section
namespace Go.Ev
def SlW (W : World) (w : Nat) {α : Type} (Q : α → List Value → Prop) (v : Value) (l : List α) : Prop :=
  (v = .slice none 0 0 ∧ l = []) ∨ (∃ a : Addr, v = .slice (some a) 0 0 ∧ l = []) ∨ ∃ blk off cap cs ty fr, v = .slice (some ⟨blk, off, none⟩) l.length cap ∧ W.heap[blk]? = some (.cells cs ty fr) ∧ off + l.length * w ≤ cs.size ∧
    ∀ (i : Nat) x, l[i]? = some x → ∃ vs : List Value, vs.length = w ∧ (∀ (j : Nat) v, vs[j]? = some v → cs[off + i * w + j]? = some v) ∧ Q x vs
structure ArgS (ng : Nat) (W : World) (β : Mp) (H : Hp) : Prop where
  fn : H.isFn = true
  g : GRel ng β
  rel : ∀ b, alive H b → ∃ m, β b = some m ∧ BOk β W (H.blk b) m
  fresh : ∀ b, H.nx ≤ b → β b = none
  dom : ∀ b m, β b = some m → m.rb < W.heap.size
abbrev eT : Env := ⟨0, fun _ => True, fun _ => False⟩
theorem ArgS.push {ng : Nat} {W : World} {β : Mp} {H : Hp} (h : ArgS ng W β H) {rb off : Nat} {cs : Array Value} {ty : TypeId} {fr : Nat × Nat} {L : List Value} (w : Nat) (hrb : W.heap[rb]? = some (.cells cs ty fr)) (hfit : off + L.length ≤ cs.size)
    (hL : ∀ (i : Nat) v, L[i]? = some v → oneC v = true ∧ ∃ v', cs[off + i]? = some v' ∧ VRel β v v') (len cap : Nat) :
    ∃ H' β', ArgS ng W β' H' ∧ Mp.le β β' ∧ Kept H H' ∧ H'.nx = H.nx + 1 ∧ RowG H' H.nx ty (w + 1) L ∧ VRel β' (.slice (some ⟨H.nx, 0, none⟩) len (2 * cap)) (.slice (some ⟨rb, off, none⟩) len cap) := by
  obtain ⟨t, _, hg⟩ := blkL_eq L ty (w + 1)
  have hroom := fn_room h.fn
  have hf : β H.nx = none := h.fresh _ (Nat.le_refl _)
  have hlt : rb < W.heap.size := by
    rcases Nat.lt_or_ge rb W.heap.size with h' | h'
    · exact h'
    · rw [Array.getElem?_eq_none h'] at hrb; cases hrb
  let x : Blk := .cells t L.length ty (w + 1) 0 (cs.size + 1)
  let m : Bm := ⟨rb, off, cs.size, w⟩
  have hle : Mp.le β (β.put H.nx m) := Mp.le_put m hf
  refine ⟨H.push x, β.put H.nx m, ⟨by rw [isFn_push]; exact h.fn, fun g hlt => ?_, fun b ha => ?_, fun b hb => ?_, fun b m' e => ?_⟩, hle, ⟨by rw [isFn_push]; exact h.fn, by rw [nx_push]; omega, fun b hb => blk_push_old hroom _ hb⟩, nx_push _ _, ⟨t, 0, cs.size + 1, by rw [blk_push _ hroom, if_pos rfl], hg⟩, ?_⟩
  · obtain ⟨m', h1, h2⟩ := h.g g hlt
    exact ⟨m', hle _ _ h1, h2⟩
  · rw [blk_push _ hroom]
    by_cases e : b = H.nx
    · subst e
      rw [if_pos rfl]
      refine ⟨m, Mp.put_same _ _ _, .cells cs ty fr, hrb, cs, fr, rfl, rfl, hfit, (fun h => by cases h), (fun k h => by cases h; rfl), fun i hi => ?_, .inr (.inr ⟨rfl, Nat.lt_succ_self _⟩)⟩
      have hv : L[i]? = some L[i] := by simp [hi]
      obtain ⟨h1, v', h2, h3⟩ := hL i _ hv
      rw [hg i _ hv]
      exact ⟨h1, v', h2, h3.mono hle⟩
    · rw [if_neg e]
      have ha' : alive H b := (alive_iff H b).2 (by
        have := (alive_iff _ b).1 ha
        rwa [blk_push _ hroom, if_neg e] at this)
      obtain ⟨m', e1, o, ho, hr⟩ := h.rel b ha'
      exact ⟨m', hle _ _ e1, o, ho, hr.mono hle⟩
  · rw [nx_push] at hb
    rw [Mp.put_ne β m (by omega)]
    exact h.fresh b (by omega)
  · by_cases e1 : b = H.nx
    · subst e1; rw [Mp.put_same] at e; cases e; exact hlt
    · rw [Mp.put_ne β m e1] at e; exact h.dom b m' e
  · have := VRel.sl (β := β.put H.nx m) H.nx 0 len (2 * cap) cap m (Mp.put_same _ _ _) ⟨fun _ => by omega, fun h => by omega⟩
    simpa [m] using this
end Go.Ev
end

noncomputable section
namespace Go.Proofs.RS
open Go Go.Ev Go.Proofs Go.Ds
theorem _root_.Go.Ev.RowR.lenA {e0 : Env} {H : Hp} {w : Nat} {α : Type} {Q : α → List Value → Prop} {v : Value} {l : List α} (h : RowR e0 H w Q v l) (H' : Hp) : exLen 1 v H' = .val (vN l.length) H' 0 0 := by cases h <;> rfl
section
variable {P : Program} {tb : Tb} {W0 : World} {β0 : Mp} {cx : Cx} {t : T Value} {ds : List Deferred} {H HA : Hp} {k : KC} {K : Ex → T Value → List Deferred → Hp → Prop}
theorem revive1 (hA : ArgS NG W0 β0 HA) {b : Nat} (hb : b < 13) (hf : H.isFn = true) (hx : 13 ≤ H.nx) (hno : H.blk b = .no)
    (h : ∀ H' : Hp, H'.isFn = true → H'.nx = H.nx → (∀ c, c ≠ b → H'.blk c = H.blk c) → H'.blk b = HA.blk b → SK P tb W0 β0 13 cx k t ds H' K) : SK P tb W0 β0 13 cx k t ds H K := by
  by_cases hz : HA.blk b = .no
  · exact h H hf rfl (fun _ _ => rfl) (hno.trans hz.symm)
  · obtain ⟨m, e, o, ho, hr⟩ := hA.rel b ((alive_iff _ _).2 hz)
    obtain ⟨p1, p2, p3, p4⟩ := put_obj hf (show b < H.nx by omega) (HA.blk b)
    exact SK.revive hb e (hA.dom b m e) (fun β hle => ⟨o, ho, hr.mono hle⟩) (h _ p1 p2 p4 p3)
theorem revive2 (hA : ArgS NG W0 β0 HA) (hf : H.isFn = true) (hx : 13 ≤ H.nx) (h11 : H.blk 11 = .no) (h12 : H.blk 12 = .no)
    (h : ∀ H' : Hp, H'.isFn = true → H'.nx = H.nx → (∀ c, c ≠ 11 → c ≠ 12 → H'.blk c = H.blk c) → H'.blk 11 = HA.blk 11 → H'.blk 12 = HA.blk 12 → SK P tb W0 β0 13 cx k t ds H' K) : SK P tb W0 β0 13 cx k t ds H K := by
  refine revive1 hA (b := 11) (by decide) hf hx h11 fun H1 a1 a2 a3 a4 => ?_
  refine revive1 hA (b := 12) (by decide) a1 (by omega) ((a3 12 (by decide)).trans h12) fun H2 b1 b2 b3 b4 => ?_
  exact h H2 b1 (by omega) (fun c c1 c2 => (b3 c c2).trans (a3 c c1)) ((b3 11 (by decide)).trans a4) b4
end
theorem LH.low13 {H H' : Hp} (h : LH H0 H [] [] 0 []) (hf : H'.isFn = true) (hn : H'.nx = H.nx) (hk : ∀ c, c ≠ 11 → c ≠ 12 → H'.blk c = H.blk c) : LH H' H' [] [] 0 [] := by
  obtain ⟨a1, a2, a3, a4, a5, a6, a7, a8⟩ := h
  refine ⟨hf, by omega, fun _ _ => rfl, ⟨a4.st.of_blk (hk _ (by decide) (by decide)), a4.sinks.of_blk (hk _ (by decide) (by decide)), a4.stores.of_blk (hk _ (by decide) (by decide)), a4.sink.of_blk (hk _ (by decide) (by decide)), a4.out.of_blk (hk _ (by decide) (by decide))⟩, ?_, (hk 101 (by decide) (by decide)).trans a6, a7, a8⟩
  obtain ⟨dv, h1, h2⟩ := a5
  exact ⟨dv, h1.of_blk (hk _ (by decide) (by decide)), h2.behind (Nat.le_refl 102) fun b hb _ => hk b (by omega) (by omega)⟩
theorem H0_5 : H0.blk 5 = g5 := rfl
theorem H0_no {b : Nat} (h : b ≠ 5) : H0.blk b = .no := by
  show Bc (Nat.blt b 13) (Bc (Nat.beq b 5) g5 .no) .no = .no
  rw [show Nat.beq b 5 = false from by
    cases hh : Nat.beq b 5 with
    | false => rfl
    | true => exact absurd ((beq_iff _ _).1 hh) h]
  cases Nat.blt b 13 <;> rfl
section
variable {Hs H : Hp} {lv kv : Value}
variable {W0 : World} {β0 : Mp}
set_option maxRecDepth 10000 in
set_option maxHeartbeats 4000000 in
theorem law_sk {HA : Hp} {l : List Str} {ks : List Int} (hA : ArgS NG W0 β0 HA) (hn : HA.nx ≤ 13) (hb : ∀ b, b < 11 → HA.blk b = H0.blk b) (hl : RowR (envS 13) HA 1 strQ lv l) (hk : RowR (envS 13) HA 1 intQ kv ks) :
    SK Tryz.prog Tb0 W0 β0 13 (cxOf Tryz.f5) law_k (enterT Tryz.f5 [lv, kv]) [] H0 (Go.Ev.Leaves Tb0 (envS 13) Tryz.f5 fun v _ => v = .bool true) := by
  have g0 : (enterT Tryz.f5 [lv, kv]).get 0 = lv := by rw [enterT_get (by show 2 ≤ 269; decide) (by show 0 < 269; decide)]; rfl
  have g1 : (enterT Tryz.f5 [lv, kv]).get 1 = kv := by rw [enterT_get (by show 2 ≤ 269; decide) (by show 1 < 269; decide)]; rfl
  revert g0 g1
  generalize enterT Tryz.f5 [lv, kv] = t0
  intro g0 g1
  show SK Tryz.prog Tb0 W0 β0 13 ⟨9, 269, none, false⟩ law_k t0 [] H0 _
  unfold law_k
  obtain ⟨H7, hA', hB, hC, hD, hE, H8, hM, r7, w7, r8, w8, s⟩ := start_some
  obtain ⟨hlh, hok8, hnx8, hf8⟩ := s.lh
  obtain ⟨n1, n2, n3, n4, n5⟩ := s.nxs
  have fin : ∀ (t : T Value) (H : Hp), t.get 4 = .bool true → Go.Ev.Leaves Tb0 (envS 13) Tryz.f5 (fun v _ => v = .bool true) .ret t [] H := fun t H h4 => by
    refine ⟨.inr rfl, rfl, [.bool true], 0, ?_, .zero _ _, rfl⟩
    show resL Tb0 269 t _ [.tmp 4] = _
    simp only [resL, h4]; rfl
  refine SK.seq (SK.of_wk tb_ok lp_ok spL_ok rfl (by decide) (WK.reg_rr (fun t' => t'.get 0 = lv ∧ t'.get 1 = kv ∧ t'.get 4 = .bool false) ?_ ?_))
  · simp (config := { maxSteps := 1000000 }) only [law_r0, g0, g1, WOR, WOG, WOC, WOGk, WOCk, wants_none', wants_some, wantsV_U, wantsV_tt, wantsV_tf, wantsV_ft, wantsV_ff, run, evalO_tmp, evalO_const, evalO_func, evalL, callV_func, Rv_eq, Ro_some, ok_zero, true_and, and_true, get_putT (d := 9), exLen_str, binV_geq, binV_leq, binV_lss, binV_gtr, exEq_int, exEq_str, exPick_t, exPick_f, Bool.not_true, Bool.not_false, Bc_t, Bc_f, Nat.reducePow, Nat.reduceLT, Nat.reduceEqDiff, Nat.reduceAdd, if_false, reduceIte, and_self, exFa_ptr, putT_none, Nat.zero_add, Nat.add_zero, Nat.le_refl, exUn_not]
  clear g0 g1
  rintro t1 ⟨g0, g1, g4⟩
  refine SK.seq (SK.seq (SK.of_wk tb_ok lp_ok spL_ok rfl (by decide) (WK.reg_gg (fun t' H' => t'.get 0 = lv ∧ t'.get 1 = kv ∧ t'.get 4 = .bool false ∧ t'.get 33 = .bool false ∧ H' = H0) ?_ ?_)))
  · simp (config := { maxSteps := 1000000 }) only [law_r1, g0, g1, g4, WOR, WOG, WOC, WOGk, WOCk, wants_none', wants_some, wantsV_U, wantsV_tt, wantsV_tf, wantsV_ft, wantsV_ff, run, evalO_tmp, evalO_const, evalO_func, evalL, callV_func, Rv_eq, Ro_some, ok_zero, true_and, and_true, get_putT (d := 9), exLen_str, binV_geq, binV_leq, binV_lss, binV_gtr, exEq_int, exEq_str, exPick_t, exPick_f, Bool.not_true, Bool.not_false, Bc_t, Bc_f, Nat.reducePow, Nat.reduceLT, Nat.reduceEqDiff, Nat.reduceAdd, if_false, reduceIte, and_self, exFa_ptr, putT_none, Nat.zero_add, Nat.add_zero, Nat.le_refl, exUn_not]
    refine EC.of_sp (v := .bool true) (H' := H0) (r := bit 5) (w := 0) (spSane_at H0_5) (.read (by decide) fun _ => trivial) (Nat.le_refl _) ?_
    simp (config := { maxSteps := 1000000 }) only [law_r1, g0, g1, g4, WOR, WOG, WOC, WOGk, WOCk, wants_none', wants_some, wantsV_U, wantsV_tt, wantsV_tf, wantsV_ft, wantsV_ff, run, evalO_tmp, evalO_const, evalO_func, evalL, callV_func, Rv_eq, Ro_some, ok_zero, true_and, and_true, get_putT (d := 9), exLen_str, binV_geq, binV_leq, binV_lss, binV_gtr, exEq_int, exEq_str, exPick_t, exPick_f, Bool.not_true, Bool.not_false, Bc_t, Bc_f, Nat.reducePow, Nat.reduceLT, Nat.reduceEqDiff, Nat.reduceAdd, if_false, reduceIte, and_self, exFa_ptr, putT_none, Nat.zero_add, Nat.add_zero, Nat.le_refl, exUn_not]
  clear g0 g1 g4
  rintro t2 H2 ⟨g0, g1, g4, g33, rfl⟩
  refine SK.of_wk tb_ok lp_ok spL_ok rfl (by decide) (WK.cond (v := false) (by rw [evalO_tmp, g33]; rfl) (WK.skip ?_))
  have l0 := hl.lenA
  have l1 := hk.lenA
  by_cases hout : 40 < l.length ∨ ks.length < l.length
  case pos =>
    refine SK.seq (SK.seq (SK.of_wk tb_ok lp_ok spL_ok rfl (by decide) (WK.reg_rr (fun t' => t'.get 43 = .bool true) ?_ ?_)))
    · by_cases h1 : (40 : Int) < (l.length : Int)
      · have e1 := decide_eq_true h1
        simp (config := { maxSteps := 1000000 }) only [law_r3, g0, g1, g4, l0, l1, e1, WOR, WOG, WOC, WOGk, WOCk, wants_none', wants_some, wantsV_U, wantsV_tt, wantsV_tf, wantsV_ft, wantsV_ff, run, evalO_tmp, evalO_const, evalO_func, evalL, callV_func, Rv_eq, Ro_some, ok_zero, true_and, and_true, get_putT (d := 9), exLen_str, binV_geq, binV_leq, binV_lss, binV_gtr, exEq_int, exEq_str, exPick_t, exPick_f, Bool.not_true, Bool.not_false, Bc_t, Bc_f, Nat.reducePow, Nat.reduceLT, Nat.reduceEqDiff, Nat.reduceAdd, if_false, reduceIte, and_self, exFa_ptr, putT_none, Nat.zero_add, Nat.add_zero, Nat.le_refl, exUn_not]
      · have e1 := decide_eq_false h1
        have e2 : decide ((ks.length : Int) < (l.length : Int)) = true := decide_eq_true (by omega)
        simp (config := { maxSteps := 1000000 }) only [law_r3, g0, g1, g4, l0, l1, e1, e2, WOR, WOG, WOC, WOGk, WOCk, wants_none', wants_some, wantsV_U, wantsV_tt, wantsV_tf, wantsV_ft, wantsV_ff, run, evalO_tmp, evalO_const, evalO_func, evalL, callV_func, Rv_eq, Ro_some, ok_zero, true_and, and_true, get_putT (d := 9), exLen_str, binV_geq, binV_leq, binV_lss, binV_gtr, exEq_int, exEq_str, exPick_t, exPick_f, Bool.not_true, Bool.not_false, Bc_t, Bc_f, Nat.reducePow, Nat.reduceLT, Nat.reduceEqDiff, Nat.reduceAdd, if_false, reduceIte, and_self, exFa_ptr, putT_none, Nat.zero_add, Nat.add_zero, Nat.le_refl, exUn_not]
    intro t3 g43
    refine SK.cond (v := true) (by rw [evalO_tmp, g43]; rfl) ?_
    refine SK.seq (SK.of_wk tb_ok lp_ok spL_ok rfl (by decide) (WK.reg_rr (fun t' => t'.get 4 = .bool true) ?_ ?_))
    · simp (config := { maxSteps := 1000000 }) only [law_r4, WOR, WOG, WOC, WOGk, WOCk, wants_none', wants_some, wantsV_U, wantsV_tt, wantsV_tf, wantsV_ft, wantsV_ff, run, evalO_tmp, evalO_const, evalO_func, evalL, callV_func, Rv_eq, Ro_some, ok_zero, true_and, and_true, get_putT (d := 9), exLen_str, binV_geq, binV_leq, binV_lss, binV_gtr, exEq_int, exEq_str, exPick_t, exPick_f, Bool.not_true, Bool.not_false, Bc_t, Bc_f, Nat.reducePow, Nat.reduceLT, Nat.reduceEqDiff, Nat.reduceAdd, if_false, reduceIte, and_self, exFa_ptr, putT_none, Nat.zero_add, Nat.add_zero, Nat.le_refl, exUn_not]
    intro t4 g4
    exact SK.of_wk tb_ok lp_ok spL_ok rfl (by decide) (WK.ret (fin t4 _ g4))
  case neg =>
  have hl40 : l.length ≤ 40 := by omega
  have hks : l.length ≤ ks.length := by omega
  have e1 : decide ((40 : Int) < (l.length : Int)) = false := decide_eq_false (by omega)
  have e2 : decide ((ks.length : Int) < (l.length : Int)) = false := decide_eq_false (by omega)
  refine SK.seq (SK.seq (SK.of_wk tb_ok lp_ok spL_ok rfl (by decide) (WK.reg_rr (fun t' => t'.get 0 = lv ∧ t'.get 1 = kv ∧ t'.get 4 = .bool false ∧ t'.get 43 = .bool false) ?_ ?_)))
  · simp (config := { maxSteps := 1000000 }) only [law_r3, g0, g1, g4, l0, l1, e1, e2, WOR, WOG, WOC, WOGk, WOCk, wants_none', wants_some, wantsV_U, wantsV_tt, wantsV_tf, wantsV_ft, wantsV_ff, run, evalO_tmp, evalO_const, evalO_func, evalL, callV_func, Rv_eq, Ro_some, ok_zero, true_and, and_true, get_putT (d := 9), exLen_str, binV_geq, binV_leq, binV_lss, binV_gtr, exEq_int, exEq_str, exPick_t, exPick_f, Bool.not_true, Bool.not_false, Bc_t, Bc_f, Nat.reducePow, Nat.reduceLT, Nat.reduceEqDiff, Nat.reduceAdd, if_false, reduceIte, and_self, exFa_ptr, putT_none, Nat.zero_add, Nat.add_zero, Nat.le_refl, exUn_not]
  clear g0 g1 g4 g33
  rintro t3 ⟨g0, g1, g4, g43⟩
  refine SK.of_wk tb_ok lp_ok spL_ok rfl (by decide) (WK.cond (v := false) (by rw [evalO_tmp, g43]; rfl) (WK.skip ?_))
  have aA := s.alA
  have aB := s.alB
  have sC := s.stC
  have sD := s.stD
  have oC : (envS 13).ok 0 (bit 23) hC := .write (by omega) fun h => absurd h (by decide)
  have oD : (envS 13).ok 0 (bit 24) hD := .write (by omega) fun h => absurd h (by decide)
  have q1 : H7.nx ≤ hA'.nx := by rw [s.nx7, n1]; decide
  have q2 : hA'.nx ≤ hB.nx := by rw [n1, n2]; decide
  have q3 : hB.nx ≤ hC.nx := by rw [n2, n3]; decide
  have q4 : hC.nx ≤ hD.nx := by rw [n3, n4]; decide
  have q5 : hD.nx ≤ hE.nx := by rw [n4, n5]; decide
  have a0 := fun H => exExt_tup [pV, inV] 0 _ rfl H
  have a1 := fun H => exExt_tup [pV, inV] 1 _ rfl H
  refine SK.seq (SK.of_wk tb_ok lp_ok spL_ok rfl (by decide) (WK.reg_gg (fun t' H' => t'.get 0 = lv ∧ t'.get 1 = kv ∧ t'.get 5 = .pointer (some ⟨23, 0, none⟩) ∧ t'.get 6 = .pointer (some ⟨24, 0, none⟩) ∧ H' = hD) ?_ ?_))
  · simp (config := { maxSteps := 1000000 }) only [law_r5, g0, g1, a0, a1, aA, aB, sC, sD, oC, oD, q1, q2, q3, q4, WOR, WOG, WOC, WOGk, WOCk, wants_none', wants_some, wantsV_U, wantsV_tt, wantsV_tf, wantsV_ft, wantsV_ff, run, evalO_tmp, evalO_const, evalO_func, evalL, callV_func, Rv_eq, Ro_some, ok_zero, true_and, and_true, get_putT (d := 9), exLen_str, binV_geq, binV_leq, binV_lss, binV_gtr, exEq_int, exEq_str, exPick_t, exPick_f, Bool.not_true, Bool.not_false, Bc_t, Bc_f, Nat.reducePow, Nat.reduceLT, Nat.reduceEqDiff, Nat.reduceAdd, if_false, reduceIte, and_self, exFa_ptr, putT_none, Nat.zero_add, Nat.add_zero, Nat.le_refl, exUn_not]
    refine EC.of_run s.run7 s.ok7 (by rw [s.nx7]; decide) ?_
    simp (config := { maxSteps := 1000000 }) only [law_r5, g0, g1, a0, a1, aA, aB, sC, sD, oC, oD, q1, q2, q3, q4, WOR, WOG, WOC, WOGk, WOCk, wants_none', wants_some, wantsV_U, wantsV_tt, wantsV_tf, wantsV_ft, wantsV_ff, run, evalO_tmp, evalO_const, evalO_func, evalL, callV_func, Rv_eq, Ro_some, ok_zero, true_and, and_true, get_putT (d := 9), exLen_str, binV_geq, binV_leq, binV_lss, binV_gtr, exEq_int, exEq_str, exPick_t, exPick_f, Bool.not_true, Bool.not_false, Bc_t, Bc_f, Nat.reducePow, Nat.reduceLT, Nat.reduceEqDiff, Nat.reduceAdd, if_false, reduceIte, and_self, exFa_ptr, putT_none, Nat.zero_add, Nat.add_zero, Nat.le_refl, exUn_not]
  clear g0 g1 g4 g43
  rintro t4 H4 ⟨g0, g1, g5, g6, rfl⟩
  have lD := s.ldD
  have sE := s.stE
  have oD' : (envS 13).ok (bit 24) 0 H4 := .read (by omega) fun _ => trivial
  have oE : (envS 13).ok 0 (bit 22) hE := .write (by omega) fun h => absurd h (by decide)
  have x1 : exIaS 1 (.slice (some ⟨22, 0, none⟩) 2 4) (.int .i64 1) H4 = .val (.pointer (some ⟨22, 1, none⟩)) H4 0 0 := rfl
  refine SK.seq (SK.of_wk tb_ok lp_ok spL_ok rfl (by decide) (WK.reg_gg (fun t' H' => t'.get 0 = lv ∧ t'.get 1 = kv ∧ t'.get 5 = .pointer (some ⟨23, 0, none⟩) ∧ t'.get 6 = .pointer (some ⟨24, 0, none⟩) ∧ H' = hE) ?_ ?_))
  · simp (config := { maxSteps := 1000000 }) only [law_r6, g0, g1, g5, g6, lD, oD', x1, sE, oE, q5, WOR, WOG, WOC, WOGk, WOCk, wants_none', wants_some, wantsV_U, wantsV_tt, wantsV_tf, wantsV_ft, wantsV_ff, run, evalO_tmp, evalO_const, evalO_func, evalL, callV_func, Rv_eq, Ro_some, ok_zero, true_and, and_true, get_putT (d := 9), exLen_str, binV_geq, binV_leq, binV_lss, binV_gtr, exEq_int, exEq_str, exPick_t, exPick_f, Bool.not_true, Bool.not_false, Bc_t, Bc_f, Nat.reducePow, Nat.reduceLT, Nat.reduceEqDiff, Nat.reduceAdd, if_false, reduceIte, and_self, exFa_ptr, putT_none, Nat.zero_add, Nat.add_zero, Nat.le_refl, exUn_not]
  clear g0 g1 g5 g6
  rintro t5 H5 ⟨g0, g1, g5, g6, rfl⟩
  have lE := s.ldE
  have lF := s.ldF
  have oE1 : (envS 13).ok (bit 23) 0 H5 := .read (by omega) fun _ => trivial
  have oE2 : (envS 13).ok (bit 24) 0 H5 := .read (by omega) fun _ => trivial
  have b0 := fun H => exExt_tup [.pointer (some ⟨76, 0, none⟩), .int .i64 0] 0 _ rfl H
  have b1 := fun H => exExt_tup [.pointer (some ⟨76, 0, none⟩), .int .i64 0] 1 _ rfl H
  refine SK.seq (SK.of_wk tb_ok lp_ok spL_ok rfl (by decide) (WK.reg_gg (fun t' H' => t'.get 0 = lv ∧ t'.get 1 = kv ∧ t'.get 7 = sP ∧ t'.get 8 = .int .i64 0 ∧ H' = H8) ?_ ?_))
  · simp (config := { maxSteps := 1000000 }) only [law_r7, g0, g1, g5, g6, lE, lF, oE1, oE2, b0, b1, WOR, WOG, WOC, WOGk, WOCk, wants_none', wants_some, wantsV_U, wantsV_tt, wantsV_tf, wantsV_ft, wantsV_ff, run, evalO_tmp, evalO_const, evalO_func, evalL, callV_func, Rv_eq, Ro_some, ok_zero, true_and, and_true, get_putT (d := 9), exLen_str, binV_geq, binV_leq, binV_lss, binV_gtr, exEq_int, exEq_str, exPick_t, exPick_f, Bool.not_true, Bool.not_false, Bc_t, Bc_f, Nat.reducePow, Nat.reduceLT, Nat.reduceEqDiff, Nat.reduceAdd, if_false, reduceIte, and_self, exFa_ptr, putT_none, Nat.zero_add, Nat.add_zero, Nat.le_refl, exUn_not]
    refine EC.of_run s.run8 hok8 (by rw [n5, hnx8]; decide) ?_
    simp (config := { maxSteps := 1000000 }) only [law_r7, g0, g1, g5, g6, lE, lF, oE1, oE2, b0, b1, WOR, WOG, WOC, WOGk, WOCk, wants_none', wants_some, wantsV_U, wantsV_tt, wantsV_tf, wantsV_ft, wantsV_ff, run, evalO_tmp, evalO_const, evalO_func, evalL, callV_func, Rv_eq, Ro_some, ok_zero, true_and, and_true, get_putT (d := 9), exLen_str, binV_geq, binV_leq, binV_lss, binV_gtr, exEq_int, exEq_str, exPick_t, exPick_f, Bool.not_true, Bool.not_false, Bc_t, Bc_f, Nat.reducePow, Nat.reduceLT, Nat.reduceEqDiff, Nat.reduceAdd, if_false, reduceIte, and_self, exFa_ptr, putT_none, Nat.zero_add, Nat.add_zero, Nat.le_refl, exUn_not]
  clear g0 g1 g5 g6
  rintro t6 H6 ⟨g0, g1, g7, g8, rfl⟩
  have c1 : exEq true (.one .i) (.int .i64 0) (.int .i64 0) H6 = .val (.bool false) H6 0 0 := rfl
  have c2 : exEq false (.one .p) sP (.pointer none) H6 = .val (.bool false) H6 0 0 := rfl
  refine SK.seq (SK.seq (SK.of_wk tb_ok lp_ok spL_ok rfl (by decide) (WK.reg_rr (fun t' => t'.get 0 = lv ∧ t'.get 1 = kv ∧ t'.get 7 = sP ∧ t'.get 62 = .bool false) ?_ ?_)))
  · simp (config := { maxSteps := 1000000 }) only [law_r8, g0, g1, g7, g8, c1, c2, WOR, WOG, WOC, WOGk, WOCk, wants_none', wants_some, wantsV_U, wantsV_tt, wantsV_tf, wantsV_ft, wantsV_ff, run, evalO_tmp, evalO_const, evalO_func, evalL, callV_func, Rv_eq, Ro_some, ok_zero, true_and, and_true, get_putT (d := 9), exLen_str, binV_geq, binV_leq, binV_lss, binV_gtr, exEq_int, exEq_str, exPick_t, exPick_f, Bool.not_true, Bool.not_false, Bc_t, Bc_f, Nat.reducePow, Nat.reduceLT, Nat.reduceEqDiff, Nat.reduceAdd, if_false, reduceIte, and_self, exFa_ptr, putT_none, Nat.zero_add, Nat.add_zero, Nat.le_refl, exUn_not]
  clear g0 g1 g7 g8
  rintro t7 ⟨g0, g1, g7, g62⟩
  refine SK.of_wk tb_ok lp_ok spL_ok rfl (by decide) (WK.cond (v := false) (by rw [evalO_tmp, g62]; rfl) (WK.skip ?_))
  have mk : alloc1 (.obj (.map #[] 0)) H6 (fun i => .map (some i)) 0 0 = .val (mV 101) hM 0 0 := by
    rw [alloc1_room (fn_room hf8), hnx8, ← s.mM]
  have q6 : H6.nx ≤ hM.nx := by rw [s.mM, nx_push]; omega
  refine SK.seq (SK.of_wk tb_ok lp_ok spL_ok rfl (by decide) (WK.reg_gg (fun t' H' => t'.get 0 = lv ∧ t'.get 1 = kv ∧ t'.get 7 = sP ∧ t'.get 9 = mV 101 ∧ H' = hM) ?_ ?_))
  · simp (config := { maxSteps := 1000000 }) only [law_r10, g0, g1, g7, mk, q6, WOR, WOG, WOC, WOGk, WOCk, wants_none', wants_some, wantsV_U, wantsV_tt, wantsV_tf, wantsV_ft, wantsV_ff, run, evalO_tmp, evalO_const, evalO_func, evalL, callV_func, Rv_eq, Ro_some, ok_zero, true_and, and_true, get_putT (d := 9), exLen_str, binV_geq, binV_leq, binV_lss, binV_gtr, exEq_int, exEq_str, exPick_t, exPick_f, Bool.not_true, Bool.not_false, Bc_t, Bc_f, Nat.reducePow, Nat.reduceLT, Nat.reduceEqDiff, Nat.reduceAdd, if_false, reduceIte, and_self, exFa_ptr, putT_none, Nat.zero_add, Nat.add_zero, Nat.le_refl, exUn_not]
  clear g0 g1 g7 g62
  rintro t8 H9 ⟨g0, g1, g7, g9, rfl⟩
  refine SK.seq (SK.of_wk tb_ok lp_ok spL_ok rfl (by decide) (WK.reg_rr (fun t' => t'.get 0 = lv ∧ t'.get 1 = kv ∧ t'.get 7 = sP ∧ t'.get 9 = mV 101 ∧ t'.get 10 = vS []) ?_ ?_))
  · simp (config := { maxSteps := 1000000 }) only [law_r11, g0, g1, g7, g9, WOR, WOG, WOC, WOGk, WOCk, wants_none', wants_some, wantsV_U, wantsV_tt, wantsV_tf, wantsV_ft, wantsV_ff, run, evalO_tmp, evalO_const, evalO_func, evalL, callV_func, Rv_eq, Ro_some, ok_zero, true_and, and_true, get_putT (d := 9), exLen_str, binV_geq, binV_leq, binV_lss, binV_gtr, exEq_int, exEq_str, exPick_t, exPick_f, Bool.not_true, Bool.not_false, Bc_t, Bc_f, Nat.reducePow, Nat.reduceLT, Nat.reduceEqDiff, Nat.reduceAdd, if_false, reduceIte, and_self, exFa_ptr, putT_none, Nat.zero_add, Nat.add_zero, Nat.le_refl, exUn_not]
  clear g0 g1 g7 g9
  rintro t9 ⟨g0, g1, g7, g9, g10⟩
  refine SK.seq (SK.seq (SK.of_wk tb_ok lp_ok spL_ok rfl (by decide) (WK.reg_rr (fun t' => t'.get 0 = lv ∧ t'.get 1 = kv ∧ t'.get 7 = sP ∧ t'.get 9 = mV 101 ∧ t'.get 10 = vS [] ∧ t'.get 64 = lv ∧ t'.get 65 = vN l.length ∧ t'.get 66 = vN (0 : Nat)) ?_ ?_)))
  · simp (config := { maxSteps := 1000000 }) only [law_r12, g0, g1, g7, g9, g10, l0, WOR, WOG, WOC, WOGk, WOCk, wants_none', wants_some, wantsV_U, wantsV_tt, wantsV_tf, wantsV_ft, wantsV_ff, run, evalO_tmp, evalO_const, evalO_func, evalL, callV_func, Rv_eq, Ro_some, ok_zero, true_and, and_true, get_putT (d := 9), exLen_str, binV_geq, binV_leq, binV_lss, binV_gtr, exEq_int, exEq_str, exPick_t, exPick_f, Bool.not_true, Bool.not_false, Bc_t, Bc_f, Nat.reducePow, Nat.reduceLT, Nat.reduceEqDiff, Nat.reduceAdd, if_false, reduceIte, and_self, exFa_ptr, putT_none, Nat.zero_add, Nat.add_zero, Nat.le_refl, exUn_not]
    rfl
  clear g0 g1 g7 g9 g10
  rintro t10 ⟨g0, g1, g7, g9, g10, g64, g65, g66⟩
  refine revive2 hA hlh.fn (by have := hlh.nx; omega) ((hlh.low 11 (by decide)).trans (H0_no (by decide))) ((hlh.low 12 (by decide)).trans (H0_no (by decide))) fun HR r1 r2 r3 r4 r5 => ?_
  have hR := hlh.low13 r1 r2 r3
  have hRA : ∀ b, b < 13 → HR.blk b = HA.blk b := fun b hlt => by
    by_cases h11 : b = 11
    · subst h11; exact r4
    by_cases h12 : b = 12
    · subst h12; exact r5
    · rw [r3 b h11 h12, hlh.low b hlt, hb b (by omega)]
  have ha : ArgsA HR lv kv l ks := ⟨fun H h => RowR.mono hl (fun b hlt => (h b (by omega)).trans (hRA b (by omega))) fun _ _ h => h, fun H h => RowR.mono hk (fun b hlt => (h b (by omega)).trans (hRA b (by omega))) fun _ _ h => h⟩
  have hloop := SK.loop_ind (P := Tryz.prog) (tb := Tb0) (W0 := W0) (β0 := β0) (N0 := 13) (cx := ⟨9, 269, none, false⟩) (d := law_body.sr.sr.sr.sr.sr.sr.sr.sr.sr.sl.sr.bl.lp) (I := RI HR lv kv l.length) (K := inBl 0 fun x _ ds' _ => x = .normal ∧ ds' = []) (fun m t ds H hI => round ha hl40 hks hI) l.length t10 [] HR ⟨rfl, 0, [], [], 0, [], rfl, Nat.zero_le _, ⟨g0, g1, g7, g9, g10, g64, g65, g66⟩, hR, Nat.le_refl _⟩
  refine (SK.block hloop).mono ?_
  rintro x t11 ds11 H11 ⟨rfl, rfl⟩
  refine SK.seq (SK.of_wk tb_ok lp_ok spL_ok rfl (by decide) (WK.reg_rr (fun t' => t'.get 4 = .bool true) ?_ ?_))
  · simp (config := { maxSteps := 1000000 }) only [law_r64, WOR, WOG, WOC, WOGk, WOCk, wants_none', wants_some, wantsV_U, wantsV_tt, wantsV_tf, wantsV_ft, wantsV_ff, run, evalO_tmp, evalO_const, evalO_func, evalL, callV_func, Rv_eq, Ro_some, ok_zero, true_and, and_true, get_putT (d := 9), exLen_str, binV_geq, binV_leq, binV_lss, binV_gtr, exEq_int, exEq_str, exPick_t, exPick_f, Bool.not_true, Bool.not_false, Bc_t, Bc_f, Nat.reducePow, Nat.reduceLT, Nat.reduceEqDiff, Nat.reduceAdd, if_false, reduceIte, and_self, exFa_ptr, putT_none, Nat.zero_add, Nat.add_zero, Nat.le_refl, exUn_not]
  intro t12 h4
  exact SK.of_wk tb_ok lp_ok spL_ok rfl (by decide) (WK.ret (fin t12 _ h4))
end
end Go.Proofs.RS
end
