/-
  A part of the proof that pliantlaw15.RtsReads returns true and leaves its arguments alone. Conditions: those of the card in the last text.
-/
import Derived.Test.YtgdejggelcpokaaGreatDoorG17
import Derived.Test.YtgdejggelcpokaaGreatDoorG18
set_option linter.unusedSimpArgs false
set_option linter.unusedVariables false
set_option linter.unusedSectionVars false

noncomputable section
namespace Go.Proofs.RS
open Go Go.Ev Go.Proofs Go.Ds
theorem exEq_u8 (neg : Bool) (a b : Int) (H : Hp) : exEq neg (.one .i) (.int .u8 a) (.int .u8 b) H = .val (.bool (Bc neg (!decide (a = b)) (decide (a = b)))) H 0 0 := by rw [← eqI_dec]; rfl
theorem binV_lss8 (a b : Int) : binV .lss (.int .u8 a) (.int .u8 b) = some (.bool (decide (a < b))) := by rw [← ltI_dec]; rfl
theorem binV_gtr8 (a b : Int) : binV .gtr (.int .u8 a) (.int .u8 b) = some (.bool (decide (b < a))) := by rw [← ltI_dec]; rfl
abbrev vB (c : UInt8) : Value := .int .u8 c.toNat
theorem exIxS_at {l : List UInt8} {i : Nat} {x : UInt8} (h : l[i]? = some x) (H : Hp) : exIxS (vS l) (vN i) H = .val (vB x) H 0 0 := by
  have hlt : i < l.length := by
    rcases Nat.lt_or_ge i l.length with h' | h'
    · exact h'
    · rw [List.getElem?_eq_none h'] at h; cases h
  have : idx (vN i) l.length = some i := by
    show Bc (Nat.blt i l.length) (some i) none = _
    rw [(blt_iff _ _).2 hlt]; rfl
  show (match idx (vN i) l.length with | some m => (match l[m]? with | some c => R.v (.int .u8 (.ofNat c.toNat)) H | none => .fail) | none => .fail) = _
  rw [this]; simp only [h]; rfl
theorem exSlS_to {l : List UInt8} {i : Nat} (h : i ≤ l.length) (H : Hp) : exSlS (vS l) none (some (vN i)) H = .val (vS (l.take i)) H 0 0 := by
  have h1 : bounds l.length l.length none (some (vN i)) none = some (0, i, l.length) := by
    have e1 : bnd (some (vN i)) l.length l.length = some i := by
      show Bc (Nat.ble i l.length) (some i) none = _
      rw [(ble_iff _ _).2 h]; rfl
    have e2 : bnd none l.length l.length = some l.length := rfl
    have e3 : bnd none 0 i = some 0 := rfl
    show (match bnd none l.length l.length with | none => none | some m => (match bnd (some (vN i)) l.length m with | none => none | some h => (match bnd none 0 h with | none => none | some l => some (l, h, m)))) = _
    rw [e2]; simp only []; rw [e1]; simp only []; rw [e3]
  show (match bounds l.length l.length none (some (vN i)) none with | none => R.fail | some (a, h, _) => R.v (.string ⟨⟨(l.drop a).take (h - a)⟩⟩) H) = _
  rw [h1]; simp only [List.drop_zero, Nat.sub_zero]; rfl
abbrev pad (c : UInt8) (k : Nat) : Str := c :: List.replicate k 32
theorem pad_len (c : UInt8) (k : Nat) : (pad c k).length = k + 1 := by simp [pad]
theorem pad_last (c : UInt8) (k : Nat) : (pad c (k + 1))[k + 1]? = some 32 := by simp [pad, List.getElem?_replicate]
theorem pad_take (c : UInt8) (k : Nat) : (pad c (k + 1)).take (k + 1) = pad c k := by
  show c :: (List.replicate (k + 1) 32).take k = _
  rw [List.take_replicate, Nat.min_eq_left (by omega)]
def plainB (c : UInt8) : Bool := decide (32 ≤ c.toNat) && decide (c.toNat ≤ 126)
def stL : List Value := [.slice (some ⟨73, 0, none⟩) 2 5, vN 32, .slice none 0 0, .slice (some ⟨62, 0, none⟩) 2 5, .slice (some ⟨64, 0, none⟩) 1 3, .slice (some ⟨66, 0, none⟩) 1 3, .pointer (some ⟨74, 0, none⟩), .slice (some ⟨100, 0, none⟩) 1 3, vN 32, .slice (some ⟨91, 0, none⟩) 2 5, .slice (some ⟨93, 0, none⟩) 2 5, .slice (some ⟨95, 0, none⟩) 2 5, .slice (some ⟨75, 0, none⟩) 1 2, .pointer none, .slice none 0 0, vN 0, vN 3, vN 0, .bool false, .bool false, vN 0, vN 0]
structure Fix (H : Hp) : Prop where
  st : RowG H 76 104 0 stL
  sinks : RowG H 93 108 2 [.pointer (some ⟨80, 0, none⟩), .pointer none]
  stores : RowG H 95 109 2 [.pointer none, .pointer (some ⟨89, 0, none⟩)]
  sink : RowG H 80 117 0 [vN 2, .pointer (some ⟨79, 0, none⟩)]
  out : RowG H 79 176 0 [vS [], vN 0]
theorem Fix.keep {H H' : Hp} (h : Fix H) (hk : ∀ b, b < 101 → b ≠ 89 → H'.blk b = H.blk b) : Fix H' :=
  ⟨h.st.of_blk (hk _ (by decide) (by decide)), h.sinks.of_blk (hk _ (by decide) (by decide)), h.stores.of_blk (hk _ (by decide) (by decide)), h.sink.of_blk (hk _ (by decide) (by decide)), h.out.of_blk (hk _ (by decide) (by decide))⟩
abbrev sP : Value := .pointer (some ⟨76, 0, none⟩)
section
variable {sp : Nat → List Value → Hp → Option (Value × Hp × Nat × Nat)} {e : Env}
set_option maxRecDepth 10000 in
set_option maxHeartbeats 4000000 in
theorem ded_ok (S : SpK sp) {H : Hp} (hx : Fix H) (hr : 76 < e.n0 → e.Rd 76) : EC Tb0 sp e 47 [sP] H fun v H' => v = .bool false ∧ H' = H := by
  refine EC.intro (fn := Tryz.f47) (c := ded_body) (S.no 47 (by decide) _ _) (by rfl) ded_some ded_comp (by show 1 ≤ 11; decide) ?_
  have g0 : (enterT Tryz.f47 [sP]).get 0 = sP := by rw [enterT_get (by show 1 ≤ 11; decide) (by show 0 < 11; decide)]; rfl
  revert g0
  generalize enterT Tryz.f47 [sP] = t0
  intro g0
  show WK Tb0 sp e ⟨4, 11, none, false⟩ ded_k t0 [] H _
  unfold ded_k
  have q1 : exEq false (.one .p) sP (.pointer none) H = .val (.bool false) H 0 0 := rfl
  have q2 : exNil sP H = .val sP H 0 0 := rfl
  have q3 : exLd1 (.pointer (some ⟨76, 19, none⟩)) H = .val (.bool false) H (bit 76) 0 := exLd1_rowG hx.st rfl
  have q4 : e.ok (bit 76) 0 H := .read hx.st.lt hr
  refine WK.seq (WK.reg_rr (fun t' => t'.get 0 = sP) ?_ ?_)
  · simp (config := { maxSteps := 1000000 }) only [ded_r0, g0, WOR, WOG, WOC, WOGk, WOCk, wants_none', wants_some, wantsV_U, wantsV_tt, wantsV_tf, wantsV_ft, wantsV_ff, run, evalO_tmp, evalO_const, evalO_func, evalL, callV_func, Rv_eq, Ro_some, ok_zero, true_and, and_true, get_putT (d := 4), exLen_str, binV_geq, binV_leq, binV_lss, binV_gtr, exEq_int, exEq_str, exPick_t, exPick_f, Bool.not_true, Bool.not_false, Bc_t, Bc_f, Nat.reducePow, Nat.reduceLT, Nat.reduceEqDiff, Nat.reduceAdd, if_false, reduceIte, and_self, exFa_ptr, putT_none, Nat.zero_add, Nat.add_zero, Nat.le_refl, exUn_not]
  intro t1 g0
  refine WK.seq (WK.reg_rr (fun t' => t'.get 2 = .bool false) ?_ ?_)
  · simp (config := { maxSteps := 1000000 }) only [ded_r1, g0, q1, q2, q3, q4, WOR, WOG, WOC, WOGk, WOCk, wants_none', wants_some, wantsV_U, wantsV_tt, wantsV_tf, wantsV_ft, wantsV_ff, run, evalO_tmp, evalO_const, evalO_func, evalL, callV_func, Rv_eq, Ro_some, ok_zero, true_and, and_true, get_putT (d := 4), exLen_str, binV_geq, binV_leq, binV_lss, binV_gtr, exEq_int, exEq_str, exPick_t, exPick_f, Bool.not_true, Bool.not_false, Bc_t, Bc_f, Nat.reducePow, Nat.reduceLT, Nat.reduceEqDiff, Nat.reduceAdd, if_false, reduceIte, and_self, exFa_ptr, putT_none, Nat.zero_add, Nat.add_zero, Nat.le_refl, exUn_not]
  intro t2 h2
  refine WK.ret ⟨.inr rfl, rfl, [.bool false], 0, ?_, .zero _ _, rfl, rfl⟩
  show resL Tb0 11 t2 _ [.tmp 2] = _
  simp only [resL, h2]; rfl
set_option maxRecDepth 10000 in
set_option maxHeartbeats 4000000 in
theorem off_ok (S : SpK sp) {H : Hp} (hx : Fix H) (hr : 95 < e.n0 → e.Rd 95) : EC Tb0 sp e 65 [.slice (some ⟨95, 0, none⟩) 2 5, vN 1] H fun v H' => v = .pointer (some ⟨89, 0, none⟩) ∧ H' = H := by
  refine EC.intro (fn := Tryz.f65) (c := off_body) (S.no 65 (by decide) _ _) (by rfl) off_some off_comp (by show 2 ≤ 18; decide) ?_
  have g0 : (enterT Tryz.f65 [.slice (some ⟨95, 0, none⟩) 2 5, vN 1]).get 0 = .slice (some ⟨95, 0, none⟩) 2 5 := by rw [enterT_get (by show 2 ≤ 18; decide) (by show 0 < 18; decide)]; rfl
  have g1 : (enterT Tryz.f65 [.slice (some ⟨95, 0, none⟩) 2 5, vN 1]).get 1 = vN 1 := by rw [enterT_get (by show 2 ≤ 18; decide) (by show 1 < 18; decide)]; rfl
  revert g0 g1
  generalize enterT Tryz.f65 [.slice (some ⟨95, 0, none⟩) 2 5, vN 1] = t0
  intro g0 g1
  show WK Tb0 sp e ⟨5, 18, none, false⟩ off_k t0 [] H _
  unfold off_k
  have q1 : exLen 1 (.slice (some ⟨95, 0, none⟩) 2 5) H = .val (vN 2) H 0 0 := rfl
  have q2 : exIaS 1 (.slice (some ⟨95, 0, none⟩) 2 5) (vN 1) H = .val (.pointer (some ⟨95, 1, none⟩)) H 0 0 := rfl
  have q3 : exLd1 (.pointer (some ⟨95, 1, none⟩)) H = .val (.pointer (some ⟨89, 0, none⟩)) H (bit 95) 0 := exLd1_rowG hx.stores rfl
  have q4 : e.ok (bit 95) 0 H := .read hx.stores.lt hr
  have b1 : binV .geq (vN 1) (.int .i64 0) = some (.bool true) := rfl
  have b2 : binV .lss (vN 1) (vN 2) = some (.bool true) := rfl
  refine WK.seq (WK.reg_rr (fun t' => t'.get 0 = .slice (some ⟨95, 0, none⟩) 2 5 ∧ t'.get 1 = vN 1) ?_ ?_)
  · simp (config := { maxSteps := 1000000 }) only [off_r0, g0, g1, WOR, WOG, WOC, WOGk, WOCk, wants_none', wants_some, wantsV_U, wantsV_tt, wantsV_tf, wantsV_ft, wantsV_ff, run, evalO_tmp, evalO_const, evalO_func, evalL, callV_func, Rv_eq, Ro_some, ok_zero, true_and, and_true, get_putT (d := 5), exLen_str, binV_geq, binV_leq, binV_lss, binV_gtr, exEq_int, exEq_str, exPick_t, exPick_f, Bool.not_true, Bool.not_false, Bc_t, Bc_f, Nat.reducePow, Nat.reduceLT, Nat.reduceEqDiff, Nat.reduceAdd, if_false, reduceIte, and_self, exFa_ptr, putT_none, Nat.zero_add, Nat.add_zero, Nat.le_refl, exUn_not]
  rintro t1 ⟨g0, g1⟩
  refine WK.seq (WK.seq (WK.reg_rr (fun t' => t'.get 0 = .slice (some ⟨95, 0, none⟩) 2 5 ∧ t'.get 1 = vN 1 ∧ t'.get 12 = .bool true) ?_ ?_))
  · simp (config := { maxSteps := 1000000 }) only [off_r1, g0, g1, q1, b1, b2, WOR, WOG, WOC, WOGk, WOCk, wants_none', wants_some, wantsV_U, wantsV_tt, wantsV_tf, wantsV_ft, wantsV_ff, run, evalO_tmp, evalO_const, evalO_func, evalL, callV_func, Rv_eq, Ro_some, ok_zero, true_and, and_true, get_putT (d := 5), exLen_str, binV_geq, binV_leq, binV_lss, binV_gtr, exEq_int, exEq_str, exPick_t, exPick_f, Bool.not_true, Bool.not_false, Bc_t, Bc_f, Nat.reducePow, Nat.reduceLT, Nat.reduceEqDiff, Nat.reduceAdd, if_false, reduceIte, and_self, exFa_ptr, putT_none, Nat.zero_add, Nat.add_zero, Nat.le_refl, exUn_not]
  rintro t2 ⟨g0, g1, g12⟩
  refine WK.cond (v := true) (by rw [evalO_tmp, g12]; rfl) ?_
  refine WK.reg_rr (fun t' => t'.get 4 = .pointer (some ⟨89, 0, none⟩)) ?_ ?_
  · simp (config := { maxSteps := 1000000 }) only [off_r2, g0, g1, q2, q3, q4, WOR, WOG, WOC, WOGk, WOCk, wants_none', wants_some, wantsV_U, wantsV_tt, wantsV_tf, wantsV_ft, wantsV_ff, run, evalO_tmp, evalO_const, evalO_func, evalL, callV_func, Rv_eq, Ro_some, ok_zero, true_and, and_true, get_putT (d := 5), exLen_str, binV_geq, binV_leq, binV_lss, binV_gtr, exEq_int, exEq_str, exPick_t, exPick_f, Bool.not_true, Bool.not_false, Bc_t, Bc_f, Nat.reducePow, Nat.reduceLT, Nat.reduceEqDiff, Nat.reduceAdd, if_false, reduceIte, and_self, exFa_ptr, putT_none, Nat.zero_add, Nat.add_zero, Nat.le_refl, exUn_not]
  intro t3 g4
  show WK Tb0 sp e ⟨5, 18, none, false⟩ _ t3 [] H _
  refine WK.seq (WK.reg_rr (fun t' => t'.get 4 = .pointer (some ⟨89, 0, none⟩)) ?_ ?_)
  · simp (config := { maxSteps := 1000000 }) only [off_r3, g4, WOR, WOG, WOC, WOGk, WOCk, wants_none', wants_some, wantsV_U, wantsV_tt, wantsV_tf, wantsV_ft, wantsV_ff, run, evalO_tmp, evalO_const, evalO_func, evalL, callV_func, Rv_eq, Ro_some, ok_zero, true_and, and_true, get_putT (d := 5), exLen_str, binV_geq, binV_leq, binV_lss, binV_gtr, exEq_int, exEq_str, exPick_t, exPick_f, Bool.not_true, Bool.not_false, Bc_t, Bc_f, Nat.reducePow, Nat.reduceLT, Nat.reduceEqDiff, Nat.reduceAdd, if_false, reduceIte, and_self, exFa_ptr, putT_none, Nat.zero_add, Nat.add_zero, Nat.le_refl, exUn_not]
  intro t4 h4
  refine WK.ret ⟨.inr rfl, rfl, [.pointer (some ⟨89, 0, none⟩)], 0, ?_, .zero _ _, rfl, rfl⟩
  show resL Tb0 18 t4 _ [.tmp 4] = _
  simp only [resL, h4]; rfl
set_option maxRecDepth 10000 in
set_option maxHeartbeats 4000000 in
theorem trb_ok (S : SpK sp) {H : Hp} {c : UInt8} {k : Nat} (hc : c ≠ 32) (hk : k < 1000) : EC Tb0 sp e 169 [vS (pad c k), .int .u8 32] H fun v H' => v = vS [c] ∧ H' = H := by
  refine EC.intro (fn := Tryz.f169) (c := trb_body) (S.no 169 (by decide) _ _) (by rfl) trb_some trb_comp (by show 2 ≤ 23; decide) ?_
  have g0 : (enterT Tryz.f169 [vS (pad c k), .int .u8 32]).get 0 = vS (pad c k) := by rw [enterT_get (by show 2 ≤ 23; decide) (by show 0 < 23; decide)]; rfl
  have g1 : (enterT Tryz.f169 [vS (pad c k), .int .u8 32]).get 1 = .int .u8 32 := by rw [enterT_get (by show 2 ≤ 23; decide) (by show 1 < 23; decide)]; rfl
  revert g0 g1
  generalize enterT Tryz.f169 [vS (pad c k), .int .u8 32] = t0
  intro g0 g1
  show WK Tb0 sp e ⟨5, 23, none, false⟩ trb_k t0 [] H _
  unfold trb_k
  have hc' : ¬ ((c.toNat : Int) = 32) := fun h => by
    have h1 : c.toNat = 32 := by omega
    exact hc (UInt8.toNat_inj.1 (by rw [h1]; rfl))
  refine WK.seq (WK.reg_rr (fun t' => t'.get 0 = vS (pad c k) ∧ t'.get 1 = .int .u8 32) ?_ ?_)
  · simp (config := { maxSteps := 1000000 }) only [trb_r0, g0, g1, WOR, WOG, WOC, WOGk, WOCk, wants_none', wants_some, wantsV_U, wantsV_tt, wantsV_tf, wantsV_ft, wantsV_ff, run, evalO_tmp, evalO_const, evalO_func, evalL, callV_func, Rv_eq, Ro_some, ok_zero, true_and, and_true, get_putT (d := 5), exLen_str, binV_geq, binV_leq, binV_lss, binV_gtr, exEq_int, exEq_str, exPick_t, exPick_f, Bool.not_true, Bool.not_false, Bc_t, Bc_f, Nat.reducePow, Nat.reduceLT, Nat.reduceEqDiff, Nat.reduceAdd, if_false, reduceIte, and_self, exFa_ptr, putT_none, Nat.zero_add, Nat.add_zero, Nat.le_refl, exUn_not]
  rintro t1 ⟨g0, g1⟩
  refine WK.seq (WK.block (WK.loop_ind (fun m t' ds' H' => ds' = [] ∧ H' = H ∧ m < 1000 ∧ t'.get 0 = vS (pad c m) ∧ t'.get 1 = .int .u8 32) ?_ k t1 [] H ⟨rfl, rfl, hk, g0, g1⟩))
  clear g0 g1
  rintro m t2 ds H2 ⟨rfl, rfl, hm, g0, g1⟩
  unfold trb_l3
  have q0 : exLen 0 (vS (pad c m)) H2 = .val (vN ((m + 1 : Nat) : Int)) H2 0 0 := by rw [exLen_str, pad_len]
  have q1 : binV .gtr (vN ((m + 1 : Nat) : Int)) (.int .i64 0) = some (.bool true) := by rw [binV_gtr, decide_eq_true (by omega)]
  have q2 : binV .sub (vN ((m + 1 : Nat) : Int)) (.int .i64 1) = some (vN (m : Int)) := by rw [binV_sub, wrapF_i64 (by omega) (by omega)]; congr 2; omega
  cases m with
  | zero =>
    have q3 : exIxS (vS (pad c 0)) (vN ((0 : Nat) : Int)) H2 = .val (vB c) H2 0 0 := exIxS_at rfl H2
    have q4 : exEq false (.one .i) (vB c) (.int .u8 32) H2 = .val (.bool false) H2 0 0 := by rw [exEq_u8, decide_eq_false hc']; rfl
    refine WK.seq (WK.seq (WK.reg_rr (fun t' => t'.get 16 = .bool false ∧ t'.get 0 = vS (pad c 0)) ?_ ?_))
    · simp (config := { maxSteps := 1000000 }) only [trb_r1, g0, g1, q0, q1, q2, q3, q4, WOR, WOG, WOC, WOGk, WOCk, wants_none', wants_some, wantsV_U, wantsV_tt, wantsV_tf, wantsV_ft, wantsV_ff, run, evalO_tmp, evalO_const, evalO_func, evalL, callV_func, Rv_eq, Ro_some, ok_zero, true_and, and_true, get_putT (d := 5), exLen_str, binV_geq, binV_leq, binV_lss, binV_gtr, exEq_int, exEq_str, exPick_t, exPick_f, Bool.not_true, Bool.not_false, Bc_t, Bc_f, Nat.reducePow, Nat.reduceLT, Nat.reduceEqDiff, Nat.reduceAdd, if_false, reduceIte, and_self, exFa_ptr, putT_none, Nat.zero_add, Nat.add_zero, Nat.le_refl, exUn_not]
    rintro t3 ⟨h16, g0⟩
    refine WK.cond (v := false) (by rw [evalO_tmp, h16]; rfl) (WK.exit ?_)
    show WK Tb0 sp e ⟨5, 23, none, false⟩ _ t3 [] H2 _
    refine WK.seq (WK.reg_rr (fun t' => t'.get 4 = vS (pad c 0)) ?_ ?_)
    · simp (config := { maxSteps := 1000000 }) only [trb_r4, g0, WOR, WOG, WOC, WOGk, WOCk, wants_none', wants_some, wantsV_U, wantsV_tt, wantsV_tf, wantsV_ft, wantsV_ff, run, evalO_tmp, evalO_const, evalO_func, evalL, callV_func, Rv_eq, Ro_some, ok_zero, true_and, and_true, get_putT (d := 5), exLen_str, binV_geq, binV_leq, binV_lss, binV_gtr, exEq_int, exEq_str, exPick_t, exPick_f, Bool.not_true, Bool.not_false, Bc_t, Bc_f, Nat.reducePow, Nat.reduceLT, Nat.reduceEqDiff, Nat.reduceAdd, if_false, reduceIte, and_self, exFa_ptr, putT_none, Nat.zero_add, Nat.add_zero, Nat.le_refl, exUn_not]
    intro t4 h4
    refine WK.ret ⟨.inr rfl, rfl, [vS (pad c 0)], 0, ?_, .zero _ _, rfl, rfl⟩
    show resL Tb0 23 t4 _ [.tmp 4] = _
    simp only [resL, h4]; rfl
  | succ m =>
    have q3 : exIxS (vS (pad c (m + 1))) (vN ((m + 1 : Nat) : Int)) H2 = .val (.int .u8 32) H2 0 0 := exIxS_at (pad_last c m) H2
    have q4 : exEq false (.one .i) (.int .u8 32) (.int .u8 32) H2 = .val (.bool true) H2 0 0 := rfl
    have q5 : exSlS (vS (pad c (m + 1))) none (some (vN ((m + 1 : Nat) : Int))) H2 = .val (vS (pad c m)) H2 0 0 := by rw [exSlS_to (by rw [pad_len]; omega), pad_take]
    refine WK.seq (WK.seq (WK.reg_rr (fun t' => t'.get 16 = .bool true ∧ t'.get 0 = vS (pad c (m + 1)) ∧ t'.get 1 = .int .u8 32) ?_ ?_))
    · simp (config := { maxSteps := 1000000 }) only [trb_r1, g0, g1, q0, q1, q2, q3, q4, WOR, WOG, WOC, WOGk, WOCk, wants_none', wants_some, wantsV_U, wantsV_tt, wantsV_tf, wantsV_ft, wantsV_ff, run, evalO_tmp, evalO_const, evalO_func, evalL, callV_func, Rv_eq, Ro_some, ok_zero, true_and, and_true, get_putT (d := 5), exLen_str, binV_geq, binV_leq, binV_lss, binV_gtr, exEq_int, exEq_str, exPick_t, exPick_f, Bool.not_true, Bool.not_false, Bc_t, Bc_f, Nat.reducePow, Nat.reduceLT, Nat.reduceEqDiff, Nat.reduceAdd, if_false, reduceIte, and_self, exFa_ptr, putT_none, Nat.zero_add, Nat.add_zero, Nat.le_refl, exUn_not]
    rintro t3 ⟨h16, g0, g1⟩
    refine WK.cond (v := true) (by rw [evalO_tmp, h16]; rfl) (WK.skip ?_)
    show WK Tb0 sp e ⟨5, 23, none, false⟩ (.block 1 (.reg trb_r2)) t3 [] H2 _
    refine WK.block (WK.reg_rr (fun t' => t'.get 0 = vS (pad c m) ∧ t'.get 1 = .int .u8 32) ?_ ?_)
    · simp (config := { maxSteps := 1000000 }) only [trb_r2, g0, g1, q0, q2, q5, evalM, WOR, WOG, WOC, WOGk, WOCk, wants_none', wants_some, wantsV_U, wantsV_tt, wantsV_tf, wantsV_ft, wantsV_ff, run, evalO_tmp, evalO_const, evalO_func, evalL, callV_func, Rv_eq, Ro_some, ok_zero, true_and, and_true, get_putT (d := 5), exLen_str, binV_geq, binV_leq, binV_lss, binV_gtr, exEq_int, exEq_str, exPick_t, exPick_f, Bool.not_true, Bool.not_false, Bc_t, Bc_f, Nat.reducePow, Nat.reduceLT, Nat.reduceEqDiff, Nat.reduceAdd, if_false, reduceIte, and_self, exFa_ptr, putT_none, Nat.zero_add, Nat.add_zero, Nat.le_refl, exUn_not]
    rintro t4 ⟨g0, g1⟩
    exact ⟨m, Nat.lt_succ_self _, rfl, rfl, by omega, g0, g1⟩
set_option maxRecDepth 10000 in
set_option maxHeartbeats 4000000 in
theorem trr_ok (S : SpK sp) {H : Hp} {c : UInt8} {k : Nat} (hc : c ≠ 32) (hk : k < 1000) : EC Tb0 sp e 132 [vS (pad c k), .string ⟨#[32]⟩] H fun v H' => v = vS [c] ∧ H' = H := by
  refine EC.intro (fn := Tryz.f132) (c := trr_body) (S.no 132 (by decide) _ _) (by rfl) trr_some trr_comp (by show 2 ≤ 37; decide) ?_
  have g0 : (enterT Tryz.f132 [vS (pad c k), .string ⟨#[32]⟩]).get 0 = vS (pad c k) := by rw [enterT_get (by show 2 ≤ 37; decide) (by show 0 < 37; decide)]; rfl
  have g1 : (enterT Tryz.f132 [vS (pad c k), .string ⟨#[32]⟩]).get 1 = .string ⟨#[32]⟩ := by rw [enterT_get (by show 2 ≤ 37; decide) (by show 1 < 37; decide)]; rfl
  revert g0 g1
  generalize enterT Tryz.f132 [vS (pad c k), .string ⟨#[32]⟩] = t0
  intro g0 g1
  show WK Tb0 sp e ⟨6, 37, none, false⟩ trr_k t0 [] H _
  unfold trr_k
  have q0 : exEq false (.one .s) (vS (pad c k)) (.string ⟨#[]⟩) H = .val (.bool false) H 0 0 := rfl
  have q1 : exEq false (.one .s) (.string ⟨#[32]⟩) (.string ⟨#[]⟩) H = .val (.bool false) H 0 0 := rfl
  have q2 : exLen 0 (.string ⟨#[32]⟩) H = .val (vN 1) H 0 0 := rfl
  have q3 : exEq false (.one .i) (vN 1) (.int .i64 1) H = .val (.bool true) H 0 0 := rfl
  have q4 : exIxS (.string ⟨#[32]⟩) (.int .i64 0) H = .val (.int .u8 32) H 0 0 := rfl
  have q5 : binV .lss (.int .u8 32) (.int .u8 128) = some (.bool true) := rfl
  refine WK.seq (WK.reg_rr (fun t' => t'.get 0 = vS (pad c k) ∧ t'.get 1 = .string ⟨#[32]⟩) ?_ ?_)
  · simp (config := { maxSteps := 1000000 }) only [trr_r0, g0, g1, WOR, WOG, WOC, WOGk, WOCk, wants_none', wants_some, wantsV_U, wantsV_tt, wantsV_tf, wantsV_ft, wantsV_ff, run, evalO_tmp, evalO_const, evalO_func, evalL, callV_func, Rv_eq, Ro_some, ok_zero, true_and, and_true, get_putT (d := 6), exLen_str, binV_geq, binV_leq, binV_lss, binV_gtr, exEq_int, exEq_str, exPick_t, exPick_f, Bool.not_true, Bool.not_false, Bc_t, Bc_f, Nat.reducePow, Nat.reduceLT, Nat.reduceEqDiff, Nat.reduceAdd, if_false, reduceIte, and_self, exFa_ptr, putT_none, Nat.zero_add, Nat.add_zero, Nat.le_refl, exUn_not]
  rintro t1 ⟨g0, g1⟩
  refine WK.seq (WK.seq (WK.reg_rr (fun t' => t'.get 0 = vS (pad c k) ∧ t'.get 1 = .string ⟨#[32]⟩ ∧ t'.get 12 = .bool false) ?_ ?_))
  · simp (config := { maxSteps := 1000000 }) only [trr_r1, g0, g1, q0, q1, WOR, WOG, WOC, WOGk, WOCk, wants_none', wants_some, wantsV_U, wantsV_tt, wantsV_tf, wantsV_ft, wantsV_ff, run, evalO_tmp, evalO_const, evalO_func, evalL, callV_func, Rv_eq, Ro_some, ok_zero, true_and, and_true, get_putT (d := 6), exLen_str, binV_geq, binV_leq, binV_lss, binV_gtr, exEq_int, exEq_str, exPick_t, exPick_f, Bool.not_true, Bool.not_false, Bc_t, Bc_f, Nat.reducePow, Nat.reduceLT, Nat.reduceEqDiff, Nat.reduceAdd, if_false, reduceIte, and_self, exFa_ptr, putT_none, Nat.zero_add, Nat.add_zero, Nat.le_refl, exUn_not]
  rintro t2 ⟨g0, g1, g12⟩
  refine WK.cond (v := false) (by rw [evalO_tmp, g12]; rfl) (WK.skip ?_)
  show WK Tb0 sp e ⟨6, 37, none, false⟩ _ t2 [] H _
  refine WK.seq (WK.seq (WK.reg_rr (fun t' => t'.get 0 = vS (pad c k) ∧ t'.get 1 = .string ⟨#[32]⟩ ∧ t'.get 21 = .bool true) ?_ ?_))
  · simp (config := { maxSteps := 1000000 }) only [trr_r3, g0, g1, q2, q3, q4, q5, WOR, WOG, WOC, WOGk, WOCk, wants_none', wants_some, wantsV_U, wantsV_tt, wantsV_tf, wantsV_ft, wantsV_ff, run, evalO_tmp, evalO_const, evalO_func, evalL, callV_func, Rv_eq, Ro_some, ok_zero, true_and, and_true, get_putT (d := 6), exLen_str, binV_geq, binV_leq, binV_lss, binV_gtr, exEq_int, exEq_str, exPick_t, exPick_f, Bool.not_true, Bool.not_false, Bc_t, Bc_f, Nat.reducePow, Nat.reduceLT, Nat.reduceEqDiff, Nat.reduceAdd, if_false, reduceIte, and_self, exFa_ptr, putT_none, Nat.zero_add, Nat.add_zero, Nat.le_refl, exUn_not]
  rintro t3 ⟨g0, g1, g21⟩
  refine WK.cond (v := true) (by rw [evalO_tmp, g21]; rfl) (WK.seq (WK.reg_gg (fun t' H' => t'.get 4 = vS [c] ∧ H' = H) ?_ ?_))
  · simp (config := { maxSteps := 1000000 }) only [trr_r4, g0, g1, q4, WOR, WOG, WOC, WOGk, WOCk, wants_none', wants_some, wantsV_U, wantsV_tt, wantsV_tf, wantsV_ft, wantsV_ff, run, evalO_tmp, evalO_const, evalO_func, evalL, callV_func, Rv_eq, Ro_some, ok_zero, true_and, and_true, get_putT (d := 6), exLen_str, binV_geq, binV_leq, binV_lss, binV_gtr, exEq_int, exEq_str, exPick_t, exPick_f, Bool.not_true, Bool.not_false, Bc_t, Bc_f, Nat.reducePow, Nat.reduceLT, Nat.reduceEqDiff, Nat.reduceAdd, if_false, reduceIte, and_self, exFa_ptr, putT_none, Nat.zero_add, Nat.add_zero, Nat.le_refl, exUn_not]
    refine (trb_ok S hc hk).mono fun v H4 _ hv => ?_
    obtain ⟨rfl, rfl⟩ := hv
    simp (config := { maxSteps := 1000000 }) only [WOR, WOG, WOC, WOGk, WOCk, wants_none', wants_some, wantsV_U, wantsV_tt, wantsV_tf, wantsV_ft, wantsV_ff, run, evalO_tmp, evalO_const, evalO_func, evalL, callV_func, Rv_eq, Ro_some, ok_zero, true_and, and_true, get_putT (d := 6), exLen_str, binV_geq, binV_leq, binV_lss, binV_gtr, exEq_int, exEq_str, exPick_t, exPick_f, Bool.not_true, Bool.not_false, Bc_t, Bc_f, Nat.reducePow, Nat.reduceLT, Nat.reduceEqDiff, Nat.reduceAdd, if_false, reduceIte, and_self, exFa_ptr, putT_none, Nat.zero_add, Nat.add_zero, Nat.le_refl, exUn_not]
  rintro t4 H4 ⟨h4, rfl⟩
  refine WK.ret ⟨.inr rfl, rfl, [vS [c]], 0, ?_, .zero _ _, rfl, rfl⟩
  show resL Tb0 37 t4 _ [.tmp 4] = _
  simp only [resL, h4]; rfl
set_option maxRecDepth 10000 in
set_option maxHeartbeats 4000000 in
theorem pln_ok (S : SpK sp) {H : Hp} {s : Str} (hp : ∀ c ∈ s, plainB c = true) (hlen : s.length < 4611686018427387904) : EC Tb0 sp e 82 [vS s, .bool false] H fun v H' => v = .bool true ∧ H' = H := by
  refine EC.intro (fn := Tryz.f82) (c := pln_body) (S.no 82 (by decide) _ _) (by rfl) pln_some pln_comp (by show 2 ≤ 32; decide) ?_
  have g0 : (enterT Tryz.f82 [vS s, .bool false]).get 0 = vS s := by rw [enterT_get (by show 2 ≤ 32; decide) (by show 0 < 32; decide)]; rfl
  have g1 : (enterT Tryz.f82 [vS s, .bool false]).get 1 = .bool false := by rw [enterT_get (by show 2 ≤ 32; decide) (by show 1 < 32; decide)]; rfl
  revert g0 g1
  generalize enterT Tryz.f82 [vS s, .bool false] = t0
  intro g0 g1
  show WK Tb0 sp e ⟨6, 32, none, false⟩ pln_k t0 [] H _
  unfold pln_k
  refine WK.seq (WK.reg_rr (fun t' => t'.get 0 = vS s ∧ t'.get 1 = .bool false) ?_ ?_)
  · simp (config := { maxSteps := 1000000 }) only [pln_r0, g0, g1, WOR, WOG, WOC, WOGk, WOCk, wants_none', wants_some, wantsV_U, wantsV_tt, wantsV_tf, wantsV_ft, wantsV_ff, run, evalO_tmp, evalO_const, evalO_func, evalL, callV_func, Rv_eq, Ro_some, ok_zero, true_and, and_true, get_putT (d := 6), exLen_str, binV_geq, binV_leq, binV_lss, binV_gtr, exEq_int, exEq_str, exPick_t, exPick_f, Bool.not_true, Bool.not_false, Bc_t, Bc_f, Nat.reducePow, Nat.reduceLT, Nat.reduceEqDiff, Nat.reduceAdd, if_false, reduceIte, and_self, exFa_ptr, putT_none, Nat.zero_add, Nat.add_zero, Nat.le_refl, exUn_not]
  rintro t1 ⟨g0, g1⟩
  refine WK.seq (WK.seq (WK.reg_rr (fun t' => t'.get 0 = vS s ∧ t'.get 1 = .bool false ∧ t'.get 7 = vN s.length ∧ t'.get 8 = vN (0 : Nat)) ?_ ?_))
  · simp (config := { maxSteps := 1000000 }) only [pln_r1, g0, g1, WOR, WOG, WOC, WOGk, WOCk, wants_none', wants_some, wantsV_U, wantsV_tt, wantsV_tf, wantsV_ft, wantsV_ff, run, evalO_tmp, evalO_const, evalO_func, evalL, callV_func, Rv_eq, Ro_some, ok_zero, true_and, and_true, get_putT (d := 6), exLen_str, binV_geq, binV_leq, binV_lss, binV_gtr, exEq_int, exEq_str, exPick_t, exPick_f, Bool.not_true, Bool.not_false, Bc_t, Bc_f, Nat.reducePow, Nat.reduceLT, Nat.reduceEqDiff, Nat.reduceAdd, if_false, reduceIte, and_self, exFa_ptr, putT_none, Nat.zero_add, Nat.add_zero, Nat.le_refl, exUn_not]
    rfl
  rintro t2 ⟨g0, g1, g7, g8⟩
  refine WK.block (WK.loop_ind (fun m t' ds' H' => ds' = [] ∧ H' = H ∧ ∃ i : Nat, m = s.length - i ∧ i ≤ s.length ∧ t'.get 0 = vS s ∧ t'.get 1 = .bool false ∧ t'.get 7 = vN s.length ∧ t'.get 8 = vN i) ?_ s.length t2 [] H ⟨rfl, rfl, 0, by omega, by omega, g0, g1, g7, g8⟩)
  clear g0 g1 g7 g8
  rintro m t3 ds H3 ⟨rfl, rfl, i, rfl, hi, g0, g1, g7, g8⟩
  unfold pln_l7
  refine WK.seq (WK.reg_rr (fun t' => t'.get 9 = .bool (decide ((i : Int) < (s.length : Int))) ∧ Lo 9 t3 t') ?_ ?_)
  · simp (config := { maxSteps := 1000000 }) only [pln_r2, g7, g8, WOR, WOG, WOC, WOGk, WOCk, wants_none', wants_some, wantsV_U, wantsV_tt, wantsV_tf, wantsV_ft, wantsV_ff, run, evalO_tmp, evalO_const, evalO_func, evalL, callV_func, Rv_eq, Ro_some, ok_zero, true_and, and_true, get_putT (d := 6), exLen_str, binV_geq, binV_leq, binV_lss, binV_gtr, exEq_int, exEq_str, exPick_t, exPick_f, Bool.not_true, Bool.not_false, Bc_t, Bc_f, Nat.reducePow, Nat.reduceLT, Nat.reduceEqDiff, Nat.reduceAdd, if_false, reduceIte, and_self, exFa_ptr, putT_none, Nat.zero_add, Nat.add_zero, Nat.le_refl, exUn_not]
    intro j hj
    simp (disch := omega) only [putT_lo (d := 6)]
  rintro t4 ⟨h9, hlo⟩
  have f0 := (hlo 0 (by omega)).trans g0
  have f1 := (hlo 1 (by omega)).trans g1
  have f7 := (hlo 7 (by omega)).trans g7
  have f8 := (hlo 8 (by omega)).trans g8
  by_cases hlt : i < s.length
  case neg =>
    refine WK.seq (WK.cond (v := false) (by rw [evalO_tmp, h9, decide_eq_false (by omega)]; rfl) (WK.exit ?_))
    show WK Tb0 sp e ⟨6, 32, none, false⟩ _ t4 [] H3 _
    refine WK.seq (WK.reg_rr (fun t' => t'.get 4 = .bool true) ?_ ?_)
    · simp (config := { maxSteps := 1000000 }) only [pln_r8, WOR, WOG, WOC, WOGk, WOCk, wants_none', wants_some, wantsV_U, wantsV_tt, wantsV_tf, wantsV_ft, wantsV_ff, run, evalO_tmp, evalO_const, evalO_func, evalL, callV_func, Rv_eq, Ro_some, ok_zero, true_and, and_true, get_putT (d := 6), exLen_str, binV_geq, binV_leq, binV_lss, binV_gtr, exEq_int, exEq_str, exPick_t, exPick_f, Bool.not_true, Bool.not_false, Bc_t, Bc_f, Nat.reducePow, Nat.reduceLT, Nat.reduceEqDiff, Nat.reduceAdd, if_false, reduceIte, and_self, exFa_ptr, putT_none, Nat.zero_add, Nat.add_zero, Nat.le_refl, exUn_not]
    intro t5 h4
    refine WK.ret ⟨.inr rfl, rfl, [.bool true], 0, ?_, .zero _ _, rfl, rfl⟩
    show resL Tb0 32 t5 _ [.tmp 4] = _
    simp only [resL, h4]; rfl
  refine WK.seq (WK.cond (v := true) (by rw [evalO_tmp, h9, decide_eq_true (by omega)]; rfl) (WK.skip ?_))
  obtain ⟨x, hx⟩ : ∃ x, s[i]? = some x := ⟨s[i], by simp [hlt]⟩
  have hpx : plainB x = true := hp x (List.mem_of_getElem? hx)
  unfold plainB at hpx
  rw [Bool.and_eq_true] at hpx
  have p1 := of_decide_eq_true hpx.1
  have p2 := of_decide_eq_true hpx.2
  have q1 := exIxS_at hx H3
  have q2 : binV .lss (vB x) (.int .u8 32) = some (.bool false) := by rw [binV_lss8, decide_eq_false (by omega)]
  have q3 : binV .gtr (vB x) (.int .u8 126) = some (.bool false) := by rw [binV_gtr8, decide_eq_false (by omega)]
  refine WK.seq (WK.block (WK.seq (WK.reg_rr (fun t' => t'.get 5 = vN i ∧ t'.get 0 = vS s ∧ t'.get 1 = .bool false ∧ t'.get 7 = vN s.length ∧ t'.get 8 = vN i) ?_ ?_)))
  · simp (config := { maxSteps := 1000000 }) only [pln_r3, f0, f1, f7, f8, WOR, WOG, WOC, WOGk, WOCk, wants_none', wants_some, wantsV_U, wantsV_tt, wantsV_tf, wantsV_ft, wantsV_ff, run, evalO_tmp, evalO_const, evalO_func, evalL, callV_func, Rv_eq, Ro_some, ok_zero, true_and, and_true, get_putT (d := 6), exLen_str, binV_geq, binV_leq, binV_lss, binV_gtr, exEq_int, exEq_str, exPick_t, exPick_f, Bool.not_true, Bool.not_false, Bc_t, Bc_f, Nat.reducePow, Nat.reduceLT, Nat.reduceEqDiff, Nat.reduceAdd, if_false, reduceIte, and_self, exFa_ptr, putT_none, Nat.zero_add, Nat.add_zero, Nat.le_refl, exUn_not]
  rintro t5 ⟨h5, f0, f1, f7, f8⟩
  refine WK.seq (WK.reg_rr (fun t' => t'.get 30 = .bool false ∧ t'.get 0 = vS s ∧ t'.get 1 = .bool false ∧ t'.get 7 = vN s.length ∧ t'.get 8 = vN i) ?_ ?_)
  · simp (config := { maxSteps := 1000000 }) only [pln_r4, h5, f0, f1, f7, f8, q1, q2, q3, WOR, WOG, WOC, WOGk, WOCk, wants_none', wants_some, wantsV_U, wantsV_tt, wantsV_tf, wantsV_ft, wantsV_ff, run, evalO_tmp, evalO_const, evalO_func, evalL, callV_func, Rv_eq, Ro_some, ok_zero, true_and, and_true, get_putT (d := 6), exLen_str, binV_geq, binV_leq, binV_lss, binV_gtr, exEq_int, exEq_str, exPick_t, exPick_f, Bool.not_true, Bool.not_false, Bc_t, Bc_f, Nat.reducePow, Nat.reduceLT, Nat.reduceEqDiff, Nat.reduceAdd, if_false, reduceIte, and_self, exFa_ptr, putT_none, Nat.zero_add, Nat.add_zero, Nat.le_refl, exUn_not]
  rintro t6 ⟨h30, f0, f1, f7, f8⟩
  refine WK.cond (v := false) (by rw [evalO_tmp, h30]; rfl) (WK.skip ?_)
  show WK Tb0 sp e ⟨6, 32, none, false⟩ (.reg pln_r6) t6 [] H3 _
  have hwr : wrapF .i64 ((i : Int) + 1) = ((i + 1 : Nat) : Int) := by rw [wrapF_i64 (by omega) (by omega)]; omega
  refine WK.reg_rr (fun t' => t'.get 0 = vS s ∧ t'.get 1 = .bool false ∧ t'.get 7 = vN s.length ∧ t'.get 8 = vN (i + 1 : Nat)) ?_ ?_
  · simp (config := { maxSteps := 1000000 }) only [pln_r6, f0, f1, f7, f8, binV_add, hwr, WOR, WOG, WOC, WOGk, WOCk, wants_none', wants_some, wantsV_U, wantsV_tt, wantsV_tf, wantsV_ft, wantsV_ff, run, evalO_tmp, evalO_const, evalO_func, evalL, callV_func, Rv_eq, Ro_some, ok_zero, true_and, and_true, get_putT (d := 6), exLen_str, binV_geq, binV_leq, binV_lss, binV_gtr, exEq_int, exEq_str, exPick_t, exPick_f, Bool.not_true, Bool.not_false, Bc_t, Bc_f, Nat.reducePow, Nat.reduceLT, Nat.reduceEqDiff, Nat.reduceAdd, if_false, reduceIte, and_self, exFa_ptr, putT_none, Nat.zero_add, Nat.add_zero, Nat.le_refl, exUn_not]
  rintro t7 ⟨d0, d1, d7, d8⟩
  exact ⟨s.length - (i + 1), by omega, rfl, rfl, i + 1, rfl, by omega, d0, d1, d7, d8⟩
end
end Go.Proofs.RS
end
