/-
  A part of the proof that pliantlaw25.TasksCycles returns true and leaves its argument alone. Conditions: those of the card in the last text.
-/
import Derived.KernelRfl
import Derived.Test.YtdaglpleolagnaaGreatDoorG10
import Derived.Test.YtdaglpleolagnaaGreatDoorG12
import Derived.Test.YtdaglpleolagnaaGreatDoorG14
set_option linter.unusedSimpArgs false
set_option linter.unusedVariables false

noncomputable section
set_option linter.unusedSimpArgs false
set_option linter.unusedVariables false
namespace Go.Proofs.K25
open Go Go.Ev Go.Proofs Go.Cyc
/-- what round leaves -/
def RoundK (H0 : Hp) (ws : Ws) (n : Int) (v : Value) (H : Hp) : Prop := Kept H0 H ∧
  ((v = .slice none 0 0 ∧ ∀ l, ¬ Clo ws n (n :: l)) ∨ ∃ r, (∃ bs bm, WayAt H0.nx H bs bm v (n :: r)) ∧ Clo ws n (n :: r) ∧ ∀ l', Clo ws n (n :: l') → r.length ≤ l'.length ∧ (l'.length = r.length → Le r l'))
/-- the state at the head of the loop over layers -/
structure OS (H0 : Hp) (v0 : Value) (n : Int) (ws : Ws) (k : Nat) (t : T Value) (H : Hp) (seen : List Int) (ways : List (List Int)) (bs : Nat) : Prop where
  g0 : t.get 0 = v0
  g1 : t.get 1 = vI n
  kept : Kept H0 H
  s : Own H0.nx 3 H bs (t.get 5) (seen.map vI)
  aw : WaysAt H0.nx H bs bs (t.get 6) ways
  lay : Lay ws n k seen ways
  nd : seen.Nodup
  sub : ∀ y ∈ seen, ∃ x, (x, y) ∈ ws
  k : ways ≠ [] → k ≤ seen.length
  wn : ways.length ≤ ws.length + 1
def meas (ws : Ws) (seen : List Int) (ways : List (List Int)) : Nat := 2 * (ws.length - seen.length) + (match ways with | [] => 0 | _ => 1)
section
variable {sp : Nat → List Value → Hp → Option (Value × Hp × Nat × Nat)} {e : Env}
set_option maxRecDepth 10000 in
set_option maxHeartbeats 4000000 in
theorem round_ok (hsp : ∀ args H, sp 57 args H = none) (hsp2 : ∀ args H, sp 23 args H = none) {H : Hp} {v0 : Value} {n : Int} {ws : Ws} (hf : H.isFn = true) (he : e.n0 ≤ H.nx) (hpw : PairsR e H v0 ws) (hwl : ws.length < 1099511627776) :
    EC Tb0 sp e 23 [v0, .int .i64 n] H (RoundK H ws n) := by
  refine EC.intro (fn := Tryz.f23) (c := rnd_body) (hsp2 _ _) (by rfl) rnd_some rnd_comp (by show 2 ≤ 111; decide) ?_
  have g0 : (enterT Tryz.f23 [v0, .int .i64 n]).get 0 = v0 := by rw [enterT_get (by show 2 ≤ 111; decide) (by show 0 < 111; decide)]; rfl
  have g1 : (enterT Tryz.f23 [v0, .int .i64 n]).get 1 = vI n := by rw [enterT_get (by show 2 ≤ 111; decide) (by show 1 < 111; decide)]; rfl
  revert g0 g1
  generalize enterT Tryz.f23 [v0, .int .i64 n] = t0
  intro g0 g1
  show WK Tb0 sp e cx23 rnd_k t0 [] H _
  have hpw' : ∀ H', Kept H H' → PairsR e H' v0 ws := fun H' h => hpw.of_blk h.old
  unfold rnd_k
  refine WK.seq (WK.reg_rr (fun t' => Lo 4 t0 t') ?_ ?_)
  · simp (config := { maxSteps := 1000000 }) only [rnd_r0, WOR, wants_none', run, evalO_const, Rv_eq, ok_zero, true_and]
    intro j hj
    simp (disch := omega) only [putT_lo (d := 7)]
  intro t1 hlo1
  refine WK.seq (WK.reg_gg (fun t' H' => Lo 4 t1 t' ∧ H' = H.push (blkL [] 3 0) ∧ t'.get 5 = .slice (some ⟨H.nx, 0, none⟩) 0 (2 * 0)) ?_ ?_)
  · simp (config := { maxSteps := 1000000 }) only [rnd_r1, WOG, wants_none', run, evalO_tmp, Rv_eq, ok_zero, true_and, fillL_nil, exFill_some, alloc_bsl hf, get_putT (d := 7), Nat.reducePow, Nat.reduceLT, Nat.reduceEqDiff, reduceIte, nx_push, and_true]
    refine ⟨Nat.le_succ _, Nat.le_refl _, fun j hj => ?_⟩
    simp (disch := omega) only [putT_lo (d := 7)]
  rintro t2 H2 ⟨hlo2, rfl, h5⟩
  have hf2 : (H.push (blkL [] 3 0)).isFn = true := by rw [isFn_push]; exact hf
  have hs2 : Own H.nx 3 (H.push (blkL [] 3 0)) H.nx (t2.get 5) (([] : List Int).map vI) := by rw [h5]; exact Own.new hf (Nat.le_refl _) []
  have hk2 : Kept H (H.push (blkL [] 3 0)) := ⟨hf2, by rw [nx_push]; omega, fun b hb => blk_push_old (fn_room hf) _ hb⟩
  have hnx2 : (H.push (blkL [] 3 0)).nx = H.nx + 1 := nx_push _ _
  generalize H.push (blkL [] 3 0) = H2 at hf2 hs2 hk2 hnx2
  have p1 : t2.get 1 = vI n := by rw [hlo2 1 (by omega), hlo1 1 (by omega)]; exact g1
  have hf3 : (H2.push (blkL [vI n] 3 0)).isFn = true := by rw [isFn_push]; exact hf2
  have hfil1 : ∀ (t' : T Value), t'.get 17 = .int .i64 n → fillL t' [.int .i64 0] [(0, 1, .tmp 17)] = some [.int .i64 n] := fun t' h => fillL_one (by rw [evalO_tmp, h]; rfl)
  have hfil2 : ∀ (t' : T Value), t'.get 18 = .slice (some ⟨H2.nx, 0, none⟩) 1 (2 * 1) → fillL t' [.slice none 0 0] [(0, 1, .tmp 18)] = some [.slice (some ⟨H2.nx, 0, none⟩) 1 (2 * 1)] := fun t' h => fillL_one (by rw [evalO_tmp, h]; rfl)
  have hfil3 : ∀ (t' : T Value), t'.get 19 = .agg ⟨[.slice (some ⟨H2.nx, 0, none⟩) 1 (2 * 1)]⟩ → fillL t' [.slice none 0 0] [(0, 1, .tmp 19)] = some [.slice (some ⟨H2.nx, 0, none⟩) 1 (2 * 1)] := fun t' h => fillL_one (by rw [evalO_tmp, h]; rfl)
  have st3 : Step H2 H.nx H.nx (H2.push (blkL [vI n] 3 0)) H.nx H.nx := ⟨hf3, by rw [nx_push]; omega, fun c hc _ _ => blk_push_old (fn_room hf2) _ hc, .inl rfl, .inl rfl⟩
  refine WK.seq (WK.reg_gg (fun t' H' => OS H v0 n ws 0 t' H' [] [[n]] H.nx) ?_ ?_)
  · simp (config := { maxSteps := 1000000 }) only [rnd_r2, WOG, wants_none', run, evalO_tmp, Rv_eq, ok_zero, true_and, p1, hfil1, hfil2, hfil3, exFill_some, alloc_bsl hf2, alloc_bsl hf3, get_putT (d := 7), Nat.reducePow, Nat.reduceLT, Nat.reduceEqDiff, reduceIte, Nat.le_refl]
    have hr3 : Row (H2.push (blkL [vI n] 3 0)) H2.nx 3 0 [vI n] := row_push (fn_room hf2) _ _ _
    have hr4 := row_push (H := H2.push (blkL [vI n] 3 0)) (fn_room hf3) [.slice (some ⟨H2.nx, 0, none⟩) 1 (2 * 1)] 138 0
    have hx3 : (H2.push (blkL [vI n] 3 0)).nx = H2.nx + 1 := nx_push _ _
    have hx3' : (H2.push (blkL [Value.int .i64 n] 3 0)).nx = H2.nx + 1 := hx3
    have hold4 : ∀ c, c < H2.nx + 1 → ((H2.push (blkL [vI n] 3 0)).push (blkL [.slice (some ⟨H2.nx, 0, none⟩) 1 (2 * 1)] 138 0)).blk c = (H2.push (blkL [vI n] 3 0)).blk c := fun c hc => blk_push_old (fn_room hf3) _ (by omega)
    have hold3 : ∀ c, c < H2.nx → (H2.push (blkL [vI n] 3 0)).blk c = H2.blk c := fun c hc => blk_push_old (fn_room hf2) _ hc
    refine ⟨by rw [nx_push]; omega, by rw [nx_push _ (blkL [.slice (some ⟨H2.nx, 0, none⟩) 1 (2 * 1)] 138 0)]; omega, ?_⟩
    refine ⟨?_, ?_, ⟨?_, ?_, fun c hc => ?_⟩, ?_, ?_, Lay.zero ws n, by simp, by simp, fun _ => by simp, by simp⟩
    · rw [putT_lo (by omega) (by omega), putT_lo (by omega) (by omega), putT_lo (by omega) (by omega), putT_lo (by omega) (by omega), putT_lo (by omega) (by omega), hlo2 0 (by omega), hlo1 0 (by omega)]; exact g0
    · rw [putT_lo (by omega) (by omega), putT_lo (by omega) (by omega), putT_lo (by omega) (by omega), putT_lo (by omega) (by omega), putT_lo (by omega) (by omega)]; exact p1
    · rw [isFn_push]; exact hf3
    · rw [nx_push]; omega
    · rw [hold4 c (by omega), hold3 c (by omega)]; exact hk2.old c hc
    · simp (config := { maxSteps := 1000000 }) only [get_putT (d := 7), Nat.reducePow, Nat.reduceLT, Nat.reduceEqDiff, reduceIte]
      exact hs2.of_blk (by rw [hold4 _ (by omega), hold3 _ (by omega)])
    · simp (config := { maxSteps := 1000000 }) only [get_putT (d := 7), Nat.reducePow, Nat.reduceLT, Nat.reduceEqDiff, reduceIte]
      refine ⟨_, 0, _, _, rfl, hr4, by omega, by omega, by omega, rfl, fun i p hp => ?_⟩
      rcases i with _ | i
      · simp at hp; subst hp
        exact ⟨_, rfl, ⟨H2.nx, 0, _, rfl, hr3.of_blk (hold4 _ (by omega)), by omega, by omega, by omega⟩⟩
      · simp at hp
  intro t3 H3 hos
  refine WK.seq (WK.block (WK.loop_ind (fun m t' ds' H' => ds' = [] ∧ ∃ (k : Nat) (seen : List Int) (ways : List (List Int)) (bs : Nat), m = meas ws seen ways ∧ OS H v0 n ws k t' H' seen ways bs) ?_ (meas ws [] [[n]]) t3 [] H3 ⟨rfl, 0, [], [[n]], H.nx, rfl, hos⟩))
  clear hos
  rintro m t4 ds H4 ⟨rfl, k, seen, ways, bs, rfl, hS⟩
  have k0 := hS.aw.len
  have hsl := sub_len hS.nd hS.sub
  have hf4 := hS.kept.fn
  have hnx4 := hS.kept.nx
  unfold rnd_l34
  refine WK.seq (WK.seq (WK.reg_rr (fun t' => t'.get 23 = .bool (decide ((0 : Int) < (ways.length : Int))) ∧ Lo 9 t4 t') ?_ ?_))
  · simp (config := { maxSteps := 1000000 }) only [rnd_r3, WOR, wants_none', run, evalO_tmp, evalO_const, Rv_eq, Ro_some, ok_zero, true_and, get_putT (d := 7), k0, binV_gtr, Nat.reducePow, Nat.reduceLT, Nat.reduceEqDiff, if_false, reduceIte]
    intro j hj
    simp (disch := omega) only [putT_lo (d := 7)]
  rintro t5 ⟨h23, hlo5⟩
  by_cases hw0 : ways = []
  · subst hw0
    refine WK.cond (v := false) (by rw [evalO_tmp, h23, decide_eq_false (by simp)]; rfl) (WK.exit ?_)
    show WK Tb0 sp e cx23 _ t5 [] H4 _
    refine WK.seq (WK.reg_rr (fun t' => t'.get 4 = .slice none 0 0) ?_ ?_)
    · simp (config := { maxSteps := 1000000 }) only [rnd_r35, WOR, wants_none', run, evalO_const, Rv_eq, ok_zero, true_and, get_putT (d := 7), Nat.reducePow, Nat.reduceLT, Nat.reduceEqDiff, reduceIte]
    intro t6 h4
    refine WK.ret ⟨.inr rfl, rfl, [.slice none 0 0], 0, ?_, .zero _ _, hS.kept, .inl ⟨rfl, hS.lay.empty⟩⟩
    show resL Tb0 111 t6 H4 [.tmp 4] = _
    simp only [resL, h4]; rfl
  have hpos : 0 < ways.length := Nat.pos_of_ne_zero fun h => hw0 (List.length_eq_zero_iff.1 h)
  refine WK.cond (v := true) (by rw [evalO_tmp, h23, decide_eq_true (by omega)]; rfl) (WK.skip ?_)
  refine WK.block (WK.seq (WK.reg_gg (fun t' H' => Lo 7 t5 t' ∧ H' = H4.push (blkL [] 138 0) ∧ t'.get 7 = .slice (some ⟨H4.nx, 0, none⟩) 0 (2 * 0)) ?_ ?_))
  · simp (config := { maxSteps := 1000000 }) only [rnd_r4, WOG, wants_none', run, evalO_tmp, Rv_eq, ok_zero, true_and, fillL_nil, exFill_some, alloc_bsl hf4, get_putT (d := 7), Nat.reducePow, Nat.reduceLT, Nat.reduceEqDiff, reduceIte, nx_push, and_true]
    refine ⟨Nat.le_succ _, Nat.le_refl _, fun j hj => ?_⟩
    simp (disch := omega) only [putT_lo (d := 7)]
  rintro t6 H5 ⟨hlo6, rfl, h7⟩
  have st5 : Step H4 bs bs (H4.push (blkL [] 138 0)) bs H4.nx := ⟨by rw [isFn_push]; exact hf4, by rw [nx_push]; omega, fun c hc _ _ => blk_push_old (fn_room hf4) _ hc, .inl rfl, .inr (Nat.le_refl _)⟩
  have hm5 : Own H.nx 138 (H4.push (blkL [] 138 0)) H4.nx (t6.get 7) [] := by rw [h7]; exact Own.new hf4 hnx4 []
  have hs5 : Own H.nx 3 (H4.push (blkL [] 138 0)) bs (t4.get 5) (seen.map vI) := hS.s.of_blk (blk_push_old (fn_room hf4) _ hS.s.lt)
  have hk5 : Kept H (H4.push (blkL [] 138 0)) := hS.kept.trans ⟨st5.fn, st5.nx, fun c hc => blk_push_old (fn_room hf4) _ hc⟩
  have haw5 := hS.aw.step st5
  have hl46 : Lo 7 t4 t6 := (hlo5.mono (by omega)).trans hlo6
  refine WK.seq (WK.seq (WK.reg_rr (fun t' => t'.get 8 = vI (0 : Nat) ∧ Lo 8 t6 t') ?_ ?_))
  · simp (config := { maxSteps := 1000000 }) only [rnd_r5, WOR, wants_none', run, evalO_const, Rv_eq, ok_zero, true_and, get_putT (d := 7), Nat.reducePow, Nat.reduceLT, Nat.reduceEqDiff, reduceIte]
    refine ⟨rfl, fun j hj => ?_⟩
    simp (disch := omega) only [putT_lo (d := 7)]
  rintro t7 ⟨h8, hlo7⟩
  have hl47 : Lo 7 t4 t7 := hl46.trans (hlo7.mono (by omega))
  have hkk := hS.k hw0
  have hbs := hS.s.lt
  refine iloop_ok (wv := t4.get 6) (bs := bs) (bm := H4.nx) (seen := seen) (more := []) hsp he hwl (by omega) hS.wn hpw' hS.lay ⟨(hl47 0 (by omega)).trans hS.g0, (hl47 1 (by omega)).trans hS.g1, hl47 6 (by omega), h8, ⟨hk5, by omega, by rw [hl47 5 (by omega)]; exact hs5, [], by rw [hlo7 7 (by omega)]; exact hm5, .nil _ _ _ _⟩, haw5, fun l => by simpa using Mid.start ws n seen l, ⟨hS.nd, hS.sub, by simp⟩, by simp⟩ ?_ ?_
  · intro t8 H8 bs8 bm8 seen8 more8 h8
    obtain ⟨vs, hom, hwl8⟩ := h8.hs.m
    refine WK.reg_rr (fun t' => Lo 6 t8 t' ∧ t'.get 6 = t8.get 7) ?_ ?_
    · simp (config := { maxSteps := 1000000 }) only [rnd_r33, WOR, wants_none', run, evalO_tmp, Rv_eq, ok_zero, true_and, get_putT (d := 7), Nat.reducePow, Nat.reduceLT, Nat.reduceEqDiff, reduceIte, and_true]
      intro j hj
      simp (disch := omega) only [putT_lo (d := 7)]
    rintro t9 ⟨hlo9, h6⟩
    have hsl8 := sub_len h8.sn.nd h8.sn.sub
    have hlen8 := h8.sn.len
    have hne8 := h8.hs.ne
    refine ⟨meas ws seen8 more8, ?_, rfl, k + 1, seen8, more8, bs8, rfl, ⟨(hlo9 0 (by omega)).trans h8.g0, (hlo9 1 (by omega)).trans h8.g1, h8.hs.kept, by rw [hlo9 5 (by omega)]; exact h8.hs.s, ?_, ?_, h8.sn.nd, h8.sn.sub, fun hne => ?_, by omega⟩⟩
    · unfold meas
      cases ways with
      | nil => exact absurd rfl hw0
      | cons a b =>
        cases more8 with
        | nil => simp only [List.length_nil] at hlen8 ⊢; omega
        | cons c d => simp only [List.length_cons] at hlen8 ⊢; omega
    · rw [h6]
      obtain ⟨op, cc, e1, e2⟩ := hom.row
      exact ⟨bm8, op, cc, vs, by rw [e2, hwl8.len], e1, hom.ge, fun h => hne8 h.symm, fun h => hne8 h.symm, hwl8.drop⟩
    · have hmid := h8.mid []
      have hno := h8.no
      rw [List.take_length] at hmid hno
      exact hS.lay.next hmid hno
    · have : 0 < more8.length := Nat.pos_of_ne_zero fun h => hne (List.length_eq_zero_iff.1 h)
      omega
  · intro t8 H8 r lv hk8 h4 hway hc hbest
    refine ⟨.inr rfl, rfl, [lv], 0, ?_, .zero _ _, hk8, .inr ⟨r, hway, hc, hbest⟩⟩
    show resL Tb0 111 t8 H8 [.tmp 4] = _
    simp only [resL, h4]; rfl
end
end Go.Proofs.K25
end

noncomputable section
set_option linter.unusedSimpArgs false
namespace Go.Proofs.K25
open Go Go.Ev Go.Proofs
/-! pliant/pliantref25.Cycle: function 7, 39 temporaries, parameters [22], results [t2] -/
noncomputable def rcy_body : Code := (Tryz.f7.body).getD .skip
-- ref.go:972
def rcy_r0 : List CO := [
    ⟨(some 2), none, .mv (.const (.slice none 0 0))⟩]
-- ref.go:973
def rcy_r1 : List CO := [
    ⟨(some 6), none, .bslice 0 3 [] []⟩,
    ⟨(some 3), none, .mv (.tmp 6)⟩]
-- ref.go:974
def rcy_r2 : List CO := [
    ⟨(some 4), none, .mv (.const (.int .i64 (0)))⟩]
-- ref.go:974
def rcy_r3 : List CO := [
    ⟨(some 7), none, .mv (.tmp 4)⟩,
    ⟨(some 8), none, .mv (.tmp 0)⟩,
    ⟨(some 9), none, .len 1 (.tmp 8)⟩,
    ⟨(some 10), none, .bin .lss (.tmp 7) (.tmp 9)⟩]
-- ref.go:975
def rcy_r4 : List CO := [
    ⟨(some 13), none, .mv (.tmp 3)⟩,
    ⟨(some 14), none, .len 1 (.tmp 13)⟩,
    ⟨(some 15), none, .bin .gtr (.tmp 14) (.const (.int .i64 (0)))⟩,
    ⟨(some 16), none, .mv (.tmp 15)⟩,
    ⟨(some 17), (some (16, true)), .mv (.tmp 0)⟩,
    ⟨(some 18), (some (16, true)), .mv (.tmp 4)⟩,
    ⟨(some 19), (some (16, true)), .iaS 2 (.tmp 17) (.tmp 18)⟩,
    ⟨(some 20), (some (16, true)), .iaA 2 1 (.tmp 19) (.const (.int .i64 (0)))⟩,
    ⟨(some 21), (some (16, true)), .ld1 (.tmp 20)⟩,
    ⟨(some 22), (some (16, true)), .mv (.tmp 3)⟩,
    ⟨(some 23), (some (16, true)), .iaS 1 (.tmp 22) (.const (.int .i64 (0)))⟩,
    ⟨(some 24), (some (16, true)), .ld1 (.tmp 23)⟩,
    ⟨(some 25), (some (16, true)), .bin .geq (.tmp 21) (.tmp 24)⟩,
    ⟨(some 26), none, .pick (.tmp 16) (.tmp 25) (.const (.bool false))⟩]
-- ref.go:978
def rcy_r5 : List CO := [
    ⟨(some 27), none, .mv (.tmp 0)⟩,
    ⟨(some 28), none, .mv (.tmp 0)⟩,
    ⟨(some 29), none, .mv (.tmp 4)⟩,
    ⟨(some 30), none, .iaS 2 (.tmp 28) (.tmp 29)⟩,
    ⟨(some 31), none, .iaA 2 1 (.tmp 30) (.const (.int .i64 (0)))⟩,
    ⟨(some 32), none, .ld1 (.tmp 31)⟩,
    ⟨(some 33), none, .call (.func 23) [(.tmp 27), (.tmp 32)]⟩,
    ⟨(some 5), none, .mv (.tmp 33)⟩]
-- ref.go:979
def rcy_r6 : List CO := [
    ⟨(some 34), none, .mv (.tmp 5)⟩,
    ⟨(some 35), none, .len 1 (.tmp 34)⟩,
    ⟨(some 36), none, .bin .gtr (.tmp 35) (.const (.int .i64 (0)))⟩]
-- ref.go:980
def rcy_r7 : List CO := [
    ⟨(some 37), none, .mv (.tmp 5)⟩,
    ⟨(some 3), none, .mv (.tmp 37)⟩]
-- ref.go:974
def rcy_r8 : List CO := [
    ⟨(some 11), none, .mv (.tmp 4)⟩,
    ⟨(some 12), none, .bin .add (.tmp 11) (.const (.int .i64 (1)))⟩,
    ⟨(some 4), none, .mv (.tmp 12)⟩]
noncomputable def rcy_l9 : KC :=
  (.seq (.seq (.reg rcy_r3)
  (.cond (.tmp 10) .skip
   (.exit 0)))
  (.seq (.block 1 (.seq (.seq (.draw #[0, 1, 3, 7, 15, 15, 63, 127, 255, 15, 527, 1551, 4095, 8191] rcy_r4)
   (.cond (.tmp 26) (.exit 1)
    .skip))
   (.seq (.reg rcy_r5)
   (.seq (.reg rcy_r6)
   (.cond (.tmp 36) (.reg rcy_r7)
    .skip)))))
  (.reg rcy_r8)))
-- ref.go:983
def rcy_r10 : List CO := [
    ⟨(some 38), none, .mv (.tmp 3)⟩,
    ⟨(some 2), none, .mv (.tmp 38)⟩]
noncomputable def rcy_k : KC :=
  (.seq (.reg rcy_r0)
  (.seq (.reg rcy_r1)
  (.seq (.seq (.reg rcy_r2)
  (.block 0 (.loop rcy_body.sr.sr.sl.sr.bl.lp rcy_l9)))
  (.seq (.reg rcy_r10)
  .ret))))
theorem rcy_comp : kcomp Tb0 Tryz.f7.ntmps rcy_body = rcy_k := by kernel_rfl
theorem rcy_some : Tryz.f7.body = some rcy_body := rfl

end Go.Proofs.K25
end

noncomputable section
set_option linter.unusedSimpArgs false
set_option linter.unusedVariables false
namespace Go.Proofs.K25
open Go Go.Ev Go.Proofs Go.Cyc
abbrev cx7 : Cx := ⟨6, 39, none, false⟩
/-- the best way so far: among those that begin with the first i pairs' heads -/
structure Best (ws : Ws) (i : Nat) (out : List Int) : Prop where
  nil : out = [] → ∀ (k : Nat) (p : Int × Int), k < i → ws[k]? = some p → ∀ l, ¬ Clo ws p.1 (p.1 :: l)
  cons : ∀ s r, out = s :: r → Clo ws s (s :: r) ∧ (∀ l', Clo ws s (s :: l') → r.length ≤ l'.length ∧ (l'.length = r.length → Le r l')) ∧ ∀ (k : Nat) (p : Int × Int), k < i → ws[k]? = some p → ∀ l, Clo ws p.1 (p.1 :: l) → s ≤ p.1
theorem Best.zero (ws : Ws) : Best ws 0 [] := ⟨fun _ k p h => absurd h (by omega), fun s r h => by simp at h⟩
theorem clo_head {ws : Ws} {s : Int} {l : List Int} (h : Clo ws s (s :: l)) : ∃ y, (s, y) ∈ ws := by
  cases l with
  | nil => exact ⟨s, h⟩
  | cons y l => exact ⟨y, h.1⟩
theorem Best.isCyc {ws : Ws} {out : List Int} (h : Best ws ws.length out) : IsCyc ws out := by
  have hd : ∀ s l, Clo ws s (s :: l) → ∃ (k : Nat) (p : Int × Int), k < ws.length ∧ ws[k]? = some p ∧ p.1 = s := by
    intro s l hc
    obtain ⟨y, hy⟩ := clo_head hc
    obtain ⟨k, hk, e⟩ := List.mem_iff_getElem.1 hy
    exact ⟨k, (s, y), hk, by rw [List.getElem?_eq_getElem hk, e], rfl⟩
  cases out with
  | nil =>
    refine .inl ⟨rfl, fun s l hc => ?_⟩
    obtain ⟨k, p, h1, h2, rfl⟩ := hd s l hc
    exact h.nil rfl k p h1 h2 l hc
  | cons s r =>
    obtain ⟨h1, h2, h3⟩ := h.cons s r rfl
    refine .inr ⟨s, r, rfl, h1, fun s' l hc => ?_, h2⟩
    obtain ⟨k, p, g1, g2, rfl⟩ := hd s' l hc
    exact h3 k p g1 g2 l hc
/-- a pair whose head is no less -/
theorem Best.skip {ws : Ws} {i : Nat} {s : Int} {r : List Int} {p : Int × Int} (h : Best ws i (s :: r)) (hi : ws[i]? = some p) (hle : s ≤ p.1) : Best ws (i + 1) (s :: r) := by
  refine ⟨fun h => by simp at h, fun s' r' he => ?_⟩
  cases he
  obtain ⟨h1, h2, h3⟩ := h.cons s r rfl
  refine ⟨h1, h2, fun k q hk hq l hc => ?_⟩
  by_cases hki : k = i
  · subst hki; rw [hi] at hq; cases hq; exact hle
  · exact h3 k q (by omega) hq l hc
/-- no way from here -/
theorem Best.none {ws : Ws} {i : Nat} {out : List Int} {p : Int × Int} (h : Best ws i out) (hi : ws[i]? = some p) (hno : ∀ l, ¬ Clo ws p.1 (p.1 :: l)) : Best ws (i + 1) out := by
  refine ⟨fun he k q hk hq l hc => ?_, fun s r he => ?_⟩
  · by_cases hki : k = i
    · subst hki; rw [hi] at hq; cases hq; exact hno l hc
    · exact h.nil he k q (by omega) hq l hc
  · obtain ⟨h1, h2, h3⟩ := h.cons s r he
    refine ⟨h1, h2, fun k q hk hq l hc => ?_⟩
    by_cases hki : k = i
    · subst hki; rw [hi] at hq; cases hq; exact absurd hc (hno l)
    · exact h3 k q (by omega) hq l hc
/-- a better one -/
theorem Best.new {ws : Ws} {i : Nat} {out r : List Int} {p : Int × Int} (h : Best ws i out) (hi : ws[i]? = some p) (hlt : ∀ s r, out = s :: r → p.1 < s) (hc : Clo ws p.1 (p.1 :: r)) (hb : ∀ l', Clo ws p.1 (p.1 :: l') → r.length ≤ l'.length ∧ (l'.length = r.length → Le r l')) : Best ws (i + 1) (p.1 :: r) := by
  refine ⟨fun h => by simp at h, fun s' r' he => ?_⟩
  cases he
  refine ⟨hc, hb, fun k q hk hq l hcl => ?_⟩
  by_cases hki : k = i
  · subst hki; rw [hi] at hq; cases hq; exact Int.le_refl _
  · cases out with
    | nil => exact absurd hcl (h.nil rfl k q (by omega) hq l)
    | cons s r =>
      have h1 := (h.cons s r rfl).2.2 k q (by omega) hq l hcl
      have h2 := hlt s r rfl
      omega
/-- a list that Cycle leaves -/
structure NumsAt (N : Nat) (H : Hp) (v : Value) (p : List Int) : Prop where
  out : (∃ a c, p = [] ∧ v = .slice a 0 c) ∨ ∃ b op c, v = .slice (some ⟨b, 0, none⟩) p.length c ∧ Row H b 3 op (p.map vI) ∧ N ≤ b
theorem NumsAt.numsR {e : Env} {N : Nat} {H : Hp} {v : Value} {p : List Int} (h : NumsAt N H v p) (he : e.n0 ≤ N) : NumsR e H v p := by
  rcases h.out with ⟨a, c, rfl, rfl⟩ | ⟨b, op, c, rfl, h2, h3⟩
  · exact .nil c a
  · exact .inRow b c 3 op p h2 fun hlt => absurd hlt (by omega)
theorem NumsAt.kept {N : Nat} {H H' : Hp} {v : Value} {p : List Int} (h : NumsAt N H v p) (g : Kept H H') : NumsAt N H' v p := by
  rcases h.out with h | ⟨b, op, c, h1, h2, h3⟩
  · exact ⟨.inl h⟩
  · exact ⟨.inr ⟨b, op, c, h1, h2.of_blk (g.old _ h2.lt), h3⟩⟩
def noLess (x : Int) (out : List Int) : Bool := match out with | [] => false | s :: _ => !decide (x < s)
theorem noLess_nil (x : Int) : noLess x [] = false := rfl
theorem noLess_cons (x s : Int) (r : List Int) : noLess x (s :: r) = !decide (x < s) := rfl
def CycleK (H0 : Hp) (ws : Ws) (v : Value) (H : Hp) : Prop := Kept H0 H ∧ ∃ out, NumsAt H0.nx H v out ∧ IsCyc ws out
section
variable {sp : Nat → List Value → Hp → Option (Value × Hp × Nat × Nat)} {e : Env}
set_option maxRecDepth 10000 in
set_option maxHeartbeats 4000000 in
theorem rcycle_ok (hsp : ∀ args H, sp 57 args H = none) (hsp2 : ∀ args H, sp 23 args H = none) (hsp3 : ∀ args H, sp 7 args H = none) {H : Hp} {v0 : Value} {ws : Ws} (hf : H.isFn = true) (he : e.n0 ≤ H.nx) (hpw : PairsR e H v0 ws) (hwl : ws.length < 1099511627776) :
    EC Tb0 sp e 7 [v0] H (CycleK H ws) := by
  refine EC.intro (fn := Tryz.f7) (c := rcy_body) (hsp3 _ _) (by rfl) rcy_some rcy_comp (by show 1 ≤ 39; decide) ?_
  have g0 : (enterT Tryz.f7 [v0]).get 0 = v0 := by rw [enterT_get (by show 1 ≤ 39; decide) (by show 0 < 39; decide)]; rfl
  revert g0
  generalize enterT Tryz.f7 [v0] = t0
  intro g0
  show WK Tb0 sp e cx7 rcy_k t0 [] H _
  have hpw' : ∀ H', Kept H H' → PairsR e H' v0 ws := fun H' h => hpw.of_blk h.old
  unfold rcy_k
  refine WK.seq (WK.reg_rr (fun t' => t'.get 0 = v0) ?_ ?_)
  · simp (config := { maxSteps := 1000000 }) only [rcy_r0, WOR, wants_none', run, evalO_const, Rv_eq, ok_zero, true_and, get_putT (d := 6), g0, Nat.reducePow, Nat.reduceLT, Nat.reduceEqDiff, reduceIte]
  intro t1 g0
  refine WK.seq (WK.reg_gg (fun t' H' => t'.get 0 = v0 ∧ Kept H H' ∧ NumsAt H.nx H' (t'.get 3) []) ?_ ?_)
  · simp (config := { maxSteps := 1000000 }) only [rcy_r1, WOG, wants_none', run, evalO_tmp, Rv_eq, ok_zero, true_and, fillL_nil, exFill_some, alloc_bsl hf, get_putT (d := 6), g0, Nat.reducePow, Nat.reduceLT, Nat.reduceEqDiff, reduceIte, Nat.le_refl]
    exact ⟨by rw [nx_push]; omega, ⟨by rw [isFn_push]; exact hf, by rw [nx_push]; omega, fun b hb => blk_push_old (fn_room hf) _ hb⟩, ⟨.inl ⟨_, _, rfl, rfl⟩⟩⟩
  rintro t2 H2 ⟨g0, hk2, hn2⟩
  refine WK.seq (WK.seq (WK.reg_rr (fun t' => t'.get 0 = v0 ∧ t'.get 3 = t2.get 3 ∧ t'.get 4 = vI (0 : Nat)) ?_ ?_))
  · simp (config := { maxSteps := 1000000 }) only [rcy_r2, WOR, wants_none', run, evalO_const, Rv_eq, ok_zero, true_and, get_putT (d := 6), g0, Nat.reducePow, Nat.reduceLT, Nat.reduceEqDiff, reduceIte]
    rfl
  rintro t3 ⟨g0, g3, g4⟩
  rw [← g3] at hn2
  refine WK.block (WK.loop_ind (fun m t' ds' H' => ds' = [] ∧ ∃ (i : Nat) (out : List Int), m = ws.length - i ∧ i ≤ ws.length ∧ t'.get 0 = v0 ∧ t'.get 4 = vI i ∧ Kept H H' ∧ NumsAt H.nx H' (t'.get 3) out ∧ Best ws i out) ?_ ws.length t3 [] H2 ⟨rfl, 0, [], by omega, by omega, g0, g4, hk2, hn2, .zero ws⟩)
  clear hn2 hk2 g0 g3 g4
  rintro m t4 ds H4 ⟨rfl, i, out, rfl, hi, g0, g4, hk, hn, hB⟩
  have hf4 := hk.fn
  have hnx4 := hk.nx
  have hp4 := hpw' H4 hk
  have k0 := hp4.len
  have hN := hn.numsR he
  have k1 := hN.len
  unfold rcy_l9
  refine WK.seq (WK.seq (WK.reg_rr (fun t' => t'.get 10 = .bool (decide ((i : Int) < (ws.length : Int))) ∧ Lo 5 t4 t') ?_ ?_))
  · simp (config := { maxSteps := 1000000 }) only [rcy_r3, WOR, wants_none', run, evalO_tmp, evalO_const, Rv_eq, Ro_some, ok_zero, true_and, get_putT (d := 6), g0, g4, k0, binV_lss, Nat.reducePow, Nat.reduceLT, Nat.reduceEqDiff, if_false, reduceIte]
    intro j hj
    simp (disch := omega) only [putT_lo (d := 6)]
  rintro t5 ⟨h10, hlo5⟩
  by_cases hlt : i < ws.length
  case neg =>
    have : i = ws.length := by omega
    subst this
    refine WK.cond (v := false) (by rw [evalO_tmp, h10, decide_eq_false (by omega)]; rfl) (WK.exit ?_)
    show WK Tb0 sp e cx7 _ t5 [] H4 _
    refine WK.seq (WK.reg_rr (fun t' => t'.get 2 = t4.get 3) ?_ ?_)
    · have h3 := hlo5 3 (by omega)
      simp (config := { maxSteps := 1000000 }) only [rcy_r10, WOR, wants_none', run, evalO_tmp, Rv_eq, ok_zero, true_and, get_putT (d := 6), h3, Nat.reducePow, Nat.reduceLT, Nat.reduceEqDiff, reduceIte]
    intro t6 h2
    refine WK.ret ⟨.inr rfl, rfl, [t4.get 3], 0, ?_, .zero _ _, hk, out, hn, hB.isCyc⟩
    show resL Tb0 39 t6 H4 [.tmp 2] = _
    simp only [resL, h2]; rfl
  refine WK.cond (v := true) (by rw [evalO_tmp, h10, decide_eq_true (by omega)]; rfl) (WK.skip ?_)
  obtain ⟨p, hp⟩ : ∃ p, ws[i]? = some p := ⟨ws[i], by simp [hlt]⟩
  obtain ⟨b1, o1, m1, m2, m2', m3, m3', m4⟩ := hp4.read hp
  have q0 := (hlo5 0 (by omega)).trans g0
  have q3 := hlo5 3 (by omega)
  have q4 := (hlo5 4 (by omega)).trans g4
  -- the last region
  have nxt : ∀ (t8 : T Value) (H8 : Hp) (out8 : List Int), t8.get 0 = v0 → t8.get 4 = vI i → Kept H H8 → NumsAt H.nx H8 (t8.get 3) out8 → Best ws (i + 1) out8 →
      WK Tb0 sp e cx7 (.reg rcy_r8) t8 [] H8 (fun x_1 t1 ds1 H1 => match x_1 with
        | .normal => ∃ m, m < ws.length - i ∧ ds1 = [] ∧ ∃ (i : Nat) (out : List Int), m = ws.length - i ∧ i ≤ ws.length ∧ t1.get 0 = v0 ∧ t1.get 4 = vI i ∧ Kept H H1 ∧ NumsAt H.nx H1 (t1.get 3) out ∧ Best ws i out
        | y => inBl 0 (fun x_2 t2 ds2 H2 => match x_2 with | .normal => WK Tb0 sp e cx7 (.seq (.reg rcy_r10) .ret) t2 ds2 H2 (Go.Ev.Leaves Tb0 e Tryz.f7 (CycleK H ws)) | y => Go.Ev.Leaves Tb0 e Tryz.f7 (CycleK H ws) y t2 ds2 H2) y t1 ds1 H1) := by
    intro t8 H8 out8 p0 p4 hk8 hn8 hB8
    have hwr : wrapF .i64 ((i : Int) + 1) = ((i + 1 : Nat) : Int) := by rw [wrapF_i64 (by omega) (by omega)]; omega
    refine WK.reg_rr (fun t' => t'.get 0 = v0 ∧ t'.get 3 = t8.get 3 ∧ t'.get 4 = vI (i + 1 : Nat)) ?_ ?_
    · simp (config := { maxSteps := 1000000 }) only [rcy_r8, WOR, wants_none', run, evalO_tmp, evalO_const, Rv_eq, Ro_some, ok_zero, true_and, get_putT (d := 6), p0, p4, binV_add, hwr, Nat.reducePow, Nat.reduceLT, Nat.reduceEqDiff, if_false, reduceIte, and_self]
    rintro t9 ⟨p0, p3, p4⟩
    exact ⟨ws.length - (i + 1), by omega, rfl, i + 1, out8, rfl, by omega, p0, p4, hk8, by rw [p3]; exact hn8, hB8⟩
  refine WK.seq (WK.block (WK.seq (WK.seq (WK.draw_rr (fun t' => t'.get 26 = .bool (noLess p.1 out) ∧ Lo 5 t5 t') ?_ ?_))))
  · cases out with
    | nil =>
      have hd : decide ((0 : Int) < (([] : List Int).length : Int)) = false := rfl
      simp (config := { maxSteps := 1000000 }) only [rcy_r4, WOR, wants_none', run, evalO_tmp, evalO_const, Rv_eq, Ro_some, ok_zero, true_and, get_putT (d := 6), q0, q3, q4, k1, hd, binV_gtr, noLess_nil, noLess_cons, wants_some, wantsV_U, wantsV_tt, wantsV_tf, wantsV_ft, wantsV_ff, exPick_t, exPick_f, Nat.reducePow, Nat.reduceLT, Nat.reduceEqDiff, if_false, reduceIte]
      intro j hj
      simp (disch := omega) only [putT_lo (d := 6)]
    | cons s r =>
      have hd : decide ((0 : Int) < ((s :: r : List Int).length : Int)) = true := decide_eq_true (by simp)
      obtain ⟨b2, n1, n2, n3⟩ := hN.read (i := 0) (z := s) rfl
      have n1' : exIaS 1 (t4.get 3) (.int .i64 0) H4 = .val (.pointer (some ⟨b2, 0, none⟩)) H4 0 0 := n1
      simp (config := { maxSteps := 1000000 }) only [rcy_r4, WOR, wants_none', run, evalO_tmp, evalO_const, Rv_eq, Ro_some, ok_zero, true_and, get_putT (d := 6), q0, q3, q4, k1, hd, m1, m2, m2', m3, m3', m4, n1', n2, n3, binV_gtr, binV_geq, noLess_nil, noLess_cons, wants_some, wantsV_U, wantsV_tt, wantsV_tf, wantsV_ft, wantsV_ff, exPick_t, exPick_f, Nat.reducePow, Nat.reduceLT, Nat.reduceEqDiff, if_false, reduceIte]
      intro j hj
      simp (disch := omega) only [putT_lo (d := 6)]
  rintro t6 ⟨h26, hlo6⟩
  have r0 := (hlo6 0 (by omega)).trans q0
  have r3 := (hlo6 3 (by omega)).trans q3
  have r4 := (hlo6 4 (by omega)).trans q4
  -- a head that is no less
  by_cases hcont : (noLess p.1 out) = true
  · refine WK.cond (v := true) (by rw [evalO_tmp, h26, hcont]; rfl) (WK.exit ?_)
    cases out with
    | nil => simp [noLess_nil] at hcont
    | cons s r =>
      simp [noLess_cons] at hcont
      exact nxt t6 H4 (s :: r) r0 r4 hk (by rw [r3]; exact hn) (hB.skip hp hcont)
  have hcont' : noLess p.1 out = false := by simpa using hcont
  have hless : ∀ s r, out = s :: r → p.1 < s := by
    intro s r ho; subst ho; simpa [noLess_cons] using hcont'
  refine WK.cond (v := false) (by rw [evalO_tmp, h26, hcont']; rfl) (WK.skip ?_)
  refine WK.seq (WK.reg_gg (fun t' H' => Lo 5 t6 t' ∧ RoundK H4 ws p.1 (t'.get 5) H') ?_ ?_)
  · simp (config := { maxSteps := 1000000 }) only [rcy_r5, WOG, WOGk, wants_none', run, evalO_tmp, evalO_const, evalO_func, evalL, callV_func, Rv_eq, Ro_some, ok_zero, true_and, get_putT (d := 6), r0, r4, m1, m2, m3, m4, Nat.reducePow, Nat.reduceLT, Nat.reduceEqDiff, reduceIte, Nat.le_refl]
    refine (round_ok hsp hsp2 hf4 (by omega) hp4 hwl).mono fun v H' hle hv => ?_
    simp (config := { maxSteps := 1000000 }) only [WOG, WOGk, wants_none', run, evalO_tmp, Rv_eq, ok_zero, true_and, get_putT (d := 6), Nat.reducePow, Nat.reduceLT, Nat.reduceEqDiff, reduceIte, Nat.le_refl]
    refine ⟨fun j hj => ?_, hv⟩
    simp (disch := omega) only [putT_lo (d := 6)]
  rintro t7 H7 ⟨hlo7, hk7, hr⟩
  obtain ⟨v5, hv5⟩ : ∃ v5, t7.get 5 = v5 := ⟨_, rfl⟩
  rw [hv5] at hr
  have s0 := (hlo7 0 (by omega)).trans r0
  have s3 := (hlo7 3 (by omega)).trans r3
  have s4 := (hlo7 4 (by omega)).trans r4
  have hkk := hk.trans hk7
  obtain ⟨n5, hlen5⟩ : ∃ n5 : Nat, exLen 1 v5 H7 = .val (vI n5) H7 0 0 ∧ ((n5 = 0 ∧ ∀ l, ¬ Clo ws p.1 (p.1 :: l)) ∨ (0 < n5 ∧ ∃ r, NumsAt H.nx H7 v5 (p.1 :: r) ∧ Clo ws p.1 (p.1 :: r) ∧ ∀ l', Clo ws p.1 (p.1 :: l') → r.length ≤ l'.length ∧ (l'.length = r.length → Le r l'))) := by
    rcases hr with ⟨rfl, hno⟩ | ⟨r, ⟨bs, bm, hw⟩, hc, hb⟩
    · exact ⟨0, rfl, .inl ⟨rfl, hno⟩⟩
    · obtain ⟨b, op, c, h1, h2, h3, _⟩ := hw.out
      exact ⟨(p.1 :: r).length, by rw [h1]; rfl, .inr ⟨by simp, r, ⟨.inr ⟨b, op, c, h1, h2, by omega⟩⟩, hc, hb⟩⟩
  obtain ⟨hlen5, hr5⟩ := hlen5
  refine WK.seq (WK.reg_rr (fun t' => t'.get 36 = .bool (decide ((0 : Int) < (n5 : Int))) ∧ Lo 6 t7 t') ?_ ?_)
  · simp (config := { maxSteps := 1000000 }) only [rcy_r6, WOR, wants_none', run, evalO_tmp, evalO_const, Rv_eq, Ro_some, ok_zero, true_and, get_putT (d := 6), hv5, hlen5, binV_gtr, Nat.reducePow, Nat.reduceLT, Nat.reduceEqDiff, if_false, reduceIte]
    intro j hj
    simp (disch := omega) only [putT_lo (d := 6)]
  rintro t8 ⟨h36, hlo8⟩
  have u0 := (hlo8 0 (by omega)).trans s0
  have u3 := (hlo8 3 (by omega)).trans s3
  have u4 := (hlo8 4 (by omega)).trans s4
  have u5 := (hlo8 5 (by omega)).trans hv5
  rcases hr5 with ⟨rfl, hno⟩ | ⟨hpos, r, hna, hc, hb⟩
  · refine WK.cond (v := false) (by rw [evalO_tmp, h36]; rfl) (WK.skip ?_)
    exact nxt t8 H7 out u0 u4 hkk (by rw [u3]; exact hn.kept hk7) (hB.none hp hno)
  · refine WK.cond (v := true) (by rw [evalO_tmp, h36, decide_eq_true (by omega)]; rfl) (WK.reg_rr (fun t' => t'.get 0 = v0 ∧ t'.get 4 = vI i ∧ t'.get 3 = v5) ?_ ?_)
    · simp (config := { maxSteps := 1000000 }) only [rcy_r7, WOR, wants_none', run, evalO_tmp, Rv_eq, ok_zero, true_and, get_putT (d := 6), u0, u4, u5, Nat.reducePow, Nat.reduceLT, Nat.reduceEqDiff, reduceIte, and_self]
    rintro t9 ⟨w0, w4, w3⟩
    exact nxt t9 H7 (p.1 :: r) w0 w4 hkk (by rw [w3]; exact hna) (hB.new hp hless hc hb)
end
end Go.Proofs.K25
end

noncomputable section
set_option linter.unusedSimpArgs false
namespace Go.Proofs.K25
open Go Go.Ev Go.Proofs
/-! pliant/tasks.Cycle: function 6, 177 temporaries, parameters [22], results [t2] -/
noncomputable def tcy_body : Code := (Tryz.f6.body).getD .skip
-- check.go:167
def tcy_r0 : List CO := [
    ⟨(some 2), none, .mv (.const (.slice none 0 0))⟩]
-- check.go:168
def tcy_r1 : List CO := [
    ⟨(some 30), none, .mkM⟩,
    ⟨(some 3), none, .mv (.tmp 30)⟩]
-- check.go:169
def tcy_r2 : List CO := [
    ⟨(some 4), none, .mv (.const (.slice none 0 0))⟩]
-- check.go:170
def tcy_r3 : List CO := [
    ⟨(some 31), none, .mv (.tmp 0)⟩,
    ⟨(some 32), none, .len 1 (.tmp 31)⟩,
    ⟨(some 33), none, .mv (.const (.int .i64 (0)))⟩]
-- check.go:170
def tcy_r4 : List CO := [
    ⟨(some 34), none, .bin .lss (.tmp 33) (.tmp 32)⟩]
-- check.go:170
def tcy_r5 : List CO := [
    ⟨(some 35), none, .iaS 2 (.tmp 31) (.tmp 33)⟩,
    ⟨(some 36), none, .ldN 2 (.tmp 35)⟩,
    ⟨(some 6), none, .alloc (blkL [.int .i64 (0), .int .i64 (0)] 69 0)⟩,
    ⟨none, none, .st 2 (.tmp 6) (.tmp 36)⟩]
-- check.go:171
def tcy_r6 : List CO := [
    ⟨(some 37), none, .mv (.tmp 3)⟩,
    ⟨(some 38), none, .iaA 2 1 (.tmp 6) (.const (.int .i64 (0)))⟩,
    ⟨(some 39), none, .ld1 (.tmp 38)⟩,
    ⟨(some 40), none, .mv (.tmp 3)⟩,
    ⟨(some 41), none, .iaA 2 1 (.tmp 6) (.const (.int .i64 (0)))⟩,
    ⟨(some 42), none, .ld1 (.tmp 41)⟩,
    ⟨(some 43), none, .lkp (.slice none 0 0) false (.one .i) (.tmp 40) (.tmp 42)⟩,
    ⟨(some 44), none, .iaA 2 1 (.tmp 6) (.const (.int .i64 (1)))⟩,
    ⟨(some 45), none, .ld1 (.tmp 44)⟩,
    ⟨(some 46), none, .bslice 1 3 [.int .i64 (0)] [(0, 1, (.tmp 45))]⟩,
    ⟨(some 47), none, .app 3 1 8 (.tmp 43) (.tmp 46)⟩,
    ⟨none, none, .mup (.one .i) (.tmp 37) (.tmp 39) (.tmp 47)⟩]
-- check.go:172
def tcy_r7 : List CO := [
    ⟨(some 48), none, .mv (.tmp 4)⟩,
    ⟨(some 49), none, .iaA 2 1 (.tmp 6) (.const (.int .i64 (0)))⟩,
    ⟨(some 50), none, .ld1 (.tmp 49)⟩,
    ⟨(some 51), none, .bslice 1 3 [.int .i64 (0)] [(0, 1, (.tmp 50))]⟩,
    ⟨(some 52), none, .app 3 1 8 (.tmp 48) (.tmp 51)⟩,
    ⟨(some 4), none, .mv (.tmp 52)⟩]
-- check.go:170
def tcy_r8 : List CO := [
    ⟨(some 53), none, .bin .add (.tmp 33) (.const (.int .i64 (1)))⟩,
    ⟨(some 33), none, .mv (.tmp 53)⟩]
noncomputable def tcy_l9 : KC :=
  (.seq (.reg tcy_r4)
  (.seq (.cond (.tmp 34) .skip
   (.exit 0))
  (.seq (.block 1 (.seq (.reg tcy_r5)
   (.seq (.draw #[0, 0, 2, 0, 0, 16, 56, 0, 128, 384, 1016, 2047] tcy_r6)
   (.reg tcy_r7))))
  (.reg tcy_r8))))
-- check.go:174
def tcy_r10 : List CO := [
    ⟨(some 54), none, .mv (.tmp 4)⟩,
    ⟨(some 55), none, .call (.func 21) [(.tmp 54)]⟩]
-- check.go:175
def tcy_r11 : List CO := [
    ⟨(some 56), none, .mv (.tmp 4)⟩,
    ⟨(some 57), none, .call (.func 22) [(.tmp 56)]⟩,
    ⟨(some 58), none, .len 1 (.tmp 57)⟩,
    ⟨(some 59), none, .mv (.const (.int .i64 (0)))⟩]
-- check.go:175
def tcy_r12 : List CO := [
    ⟨(some 60), none, .bin .lss (.tmp 59) (.tmp 58)⟩]
-- check.go:175
def tcy_r13 : List CO := [
    ⟨(some 61), none, .iaS 1 (.tmp 57) (.tmp 59)⟩,
    ⟨(some 62), none, .ld1 (.tmp 61)⟩,
    ⟨(some 8), none, .mv (.tmp 62)⟩]
-- check.go:177
def tcy_r14 : List CO := [
    ⟨(some 63), none, .mkM⟩,
    ⟨(some 64), none, .mv (.tmp 8)⟩,
    ⟨none, none, .mup (.one .i) (.tmp 63) (.tmp 64) (.const (.int .i64 (0)))⟩,
    ⟨(some 65), none, .mv (.tmp 63)⟩,
    ⟨(some 9), none, .mv (.tmp 65)⟩]
-- check.go:178
def tcy_r15 : List CO := [
    ⟨(some 10), none, .mv (.const (.bool true))⟩]
-- check.go:178
def tcy_r16 : List CO := [
    ⟨(some 66), none, .mv (.tmp 10)⟩]
-- check.go:179
def tcy_r17 : List CO := [
    ⟨(some 10), none, .mv (.const (.bool false))⟩]
-- check.go:180
def tcy_r18 : List CO := [
    ⟨(some 67), none, .mv (.tmp 0)⟩,
    ⟨(some 68), none, .len 1 (.tmp 67)⟩,
    ⟨(some 69), none, .mv (.const (.int .i64 (0)))⟩]
-- check.go:180
def tcy_r19 : List CO := [
    ⟨(some 70), none, .bin .lss (.tmp 69) (.tmp 68)⟩]
-- check.go:180
def tcy_r20 : List CO := [
    ⟨(some 71), none, .iaS 2 (.tmp 67) (.tmp 69)⟩,
    ⟨(some 72), none, .ldN 2 (.tmp 71)⟩,
    ⟨(some 12), none, .alloc (blkL [.int .i64 (0), .int .i64 (0)] 69 0)⟩,
    ⟨none, none, .st 2 (.tmp 12) (.tmp 72)⟩]
-- check.go:181
def tcy_r21 : List CO := [
    ⟨(some 74), none, .mv (.tmp 9)⟩,
    ⟨(some 75), none, .iaA 2 1 (.tmp 12) (.const (.int .i64 (1)))⟩,
    ⟨(some 76), none, .ld1 (.tmp 75)⟩,
    ⟨(some 77), none, .lkp (.int .i64 (0)) true (.one .i) (.tmp 74) (.tmp 76)⟩,
    ⟨(some 73), none, .mv (.tmp 77)⟩,
    ⟨(some 78), none, .ext (.tmp 73) 0⟩,
    ⟨(some 79), none, .ext (.tmp 73) 1⟩,
    ⟨(some 13), none, .mv (.tmp 78)⟩,
    ⟨(some 14), none, .mv (.tmp 79)⟩]
-- check.go:182
def tcy_r22 : List CO := [
    ⟨(some 81), none, .mv (.tmp 9)⟩,
    ⟨(some 82), none, .iaA 2 1 (.tmp 12) (.const (.int .i64 (0)))⟩,
    ⟨(some 83), none, .ld1 (.tmp 82)⟩,
    ⟨(some 84), none, .lkp (.int .i64 (0)) true (.one .i) (.tmp 81) (.tmp 83)⟩,
    ⟨(some 80), none, .mv (.tmp 84)⟩,
    ⟨(some 85), none, .ext (.tmp 80) 0⟩,
    ⟨(some 86), none, .ext (.tmp 80) 1⟩,
    ⟨(some 15), none, .mv (.tmp 85)⟩,
    ⟨(some 16), none, .mv (.tmp 86)⟩]
-- check.go:182
def tcy_r23 : List CO := [
    ⟨(some 87), none, .mv (.tmp 14)⟩,
    ⟨(some 88), none, .mv (.tmp 87)⟩,
    ⟨(some 89), (some (88, true)), .mv (.tmp 16)⟩,
    ⟨(some 90), (some (88, true)), .un .not (.tmp 89)⟩,
    ⟨(some 91), (some (88, true)), .mv (.tmp 90)⟩,
    ⟨(some 92), (some (91, false)), .mv (.tmp 13)⟩,
    ⟨(some 93), (some (91, false)), .bin .add (.tmp 92) (.const (.int .i64 (1)))⟩,
    ⟨(some 94), (some (91, false)), .mv (.tmp 15)⟩,
    ⟨(some 95), (some (91, false)), .bin .lss (.tmp 93) (.tmp 94)⟩,
    ⟨(some 96), (some (88, true)), .pick (.tmp 91) (.const (.bool true)) (.tmp 95)⟩,
    ⟨(some 97), none, .pick (.tmp 88) (.tmp 96) (.const (.bool false))⟩]
-- check.go:183
def tcy_r24 : List CO := [
    ⟨(some 98), none, .mv (.tmp 9)⟩,
    ⟨(some 99), none, .iaA 2 1 (.tmp 12) (.const (.int .i64 (0)))⟩,
    ⟨(some 100), none, .ld1 (.tmp 99)⟩,
    ⟨(some 101), none, .mv (.tmp 13)⟩,
    ⟨(some 102), none, .bin .add (.tmp 101) (.const (.int .i64 (1)))⟩,
    ⟨none, none, .mup (.one .i) (.tmp 98) (.tmp 100) (.tmp 102)⟩]
-- check.go:184
def tcy_r25 : List CO := [
    ⟨(some 10), none, .mv (.const (.bool true))⟩]
-- check.go:180
def tcy_r26 : List CO := [
    ⟨(some 103), none, .bin .add (.tmp 69) (.const (.int .i64 (1)))⟩,
    ⟨(some 69), none, .mv (.tmp 103)⟩]
noncomputable def tcy_l27 : KC :=
  (.seq (.reg tcy_r19)
  (.seq (.cond (.tmp 70) .skip
   (.exit 6))
  (.seq (.block 7 (.seq (.reg tcy_r20)
   (.seq (.reg tcy_r21)
   (.seq (.reg tcy_r22)
   (.seq (.reg tcy_r23)
   (.cond (.tmp 97) (.seq (.reg tcy_r24)
    (.reg tcy_r25))
    .skip))))))
  (.reg tcy_r26))))
noncomputable def tcy_l28 : KC :=
  (.seq (.seq (.reg tcy_r16)
  (.cond (.tmp 66) .skip
   (.exit 4)))
  (.block 5 (.seq (.reg tcy_r17)
   (.seq (.reg tcy_r18)
   (.block 6 (.loop tcy_body.sr.sr.sr.sr.sr.sl.sr.bl.lp.sr.sr.sl.bl.sr.sr.sl.sr.bl.lp.sr.bl.sr.sr.bl.lp tcy_l27))))))
-- check.go:188
def tcy_r29 : List CO := [
    ⟨(some 17), none, .mv (.const (.int .i64 (-1)))⟩]
-- check.go:189
def tcy_r30 : List CO := [
    ⟨(some 104), none, .mv (.tmp 3)⟩,
    ⟨(some 105), none, .mv (.tmp 8)⟩,
    ⟨(some 106), none, .lkp (.slice none 0 0) false (.one .i) (.tmp 104) (.tmp 105)⟩,
    ⟨(some 107), none, .len 1 (.tmp 106)⟩,
    ⟨(some 108), none, .mv (.const (.int .i64 (0)))⟩]
-- check.go:189
def tcy_r31 : List CO := [
    ⟨(some 109), none, .bin .lss (.tmp 108) (.tmp 107)⟩]
-- check.go:189
def tcy_r32 : List CO := [
    ⟨(some 110), none, .iaS 1 (.tmp 106) (.tmp 108)⟩,
    ⟨(some 111), none, .ld1 (.tmp 110)⟩,
    ⟨(some 19), none, .mv (.tmp 111)⟩]
-- check.go:190
def tcy_r33 : List CO := [
    ⟨(some 113), none, .mv (.tmp 9)⟩,
    ⟨(some 114), none, .mv (.tmp 19)⟩,
    ⟨(some 115), none, .lkp (.int .i64 (0)) true (.one .i) (.tmp 113) (.tmp 114)⟩,
    ⟨(some 112), none, .mv (.tmp 115)⟩,
    ⟨(some 116), none, .ext (.tmp 112) 0⟩,
    ⟨(some 117), none, .ext (.tmp 112) 1⟩,
    ⟨(some 20), none, .mv (.tmp 116)⟩,
    ⟨(some 21), none, .mv (.tmp 117)⟩]
-- check.go:190
def tcy_r34 : List CO := [
    ⟨(some 118), none, .mv (.tmp 21)⟩,
    ⟨(some 119), none, .mv (.tmp 118)⟩,
    ⟨(some 120), (some (119, true)), .mv (.tmp 17)⟩,
    ⟨(some 121), (some (119, true)), .bin .lss (.tmp 120) (.const (.int .i64 (0)))⟩,
    ⟨(some 122), (some (119, true)), .mv (.tmp 121)⟩,
    ⟨(some 123), (some (122, false)), .mv (.tmp 20)⟩,
    ⟨(some 124), (some (122, false)), .mv (.tmp 17)⟩,
    ⟨(some 125), (some (122, false)), .bin .lss (.tmp 123) (.tmp 124)⟩,
    ⟨(some 126), (some (119, true)), .pick (.tmp 122) (.const (.bool true)) (.tmp 125)⟩,
    ⟨(some 127), none, .pick (.tmp 119) (.tmp 126) (.const (.bool false))⟩]
-- check.go:191
def tcy_r35 : List CO := [
    ⟨(some 128), none, .mv (.tmp 20)⟩,
    ⟨(some 17), none, .mv (.tmp 128)⟩]
-- check.go:189
def tcy_r36 : List CO := [
    ⟨(some 129), none, .bin .add (.tmp 108) (.const (.int .i64 (1)))⟩,
    ⟨(some 108), none, .mv (.tmp 129)⟩]
noncomputable def tcy_l37 : KC :=
  (.seq (.reg tcy_r31)
  (.seq (.cond (.tmp 109) .skip
   (.exit 8))
  (.seq (.block 9 (.seq (.reg tcy_r32)
   (.seq (.reg tcy_r33)
   (.seq (.reg tcy_r34)
   (.cond (.tmp 127) (.reg tcy_r35)
    .skip)))))
  (.reg tcy_r36))))
-- check.go:194
def tcy_r38 : List CO := [
    ⟨(some 130), none, .mv (.tmp 17)⟩,
    ⟨(some 131), none, .bin .lss (.tmp 130) (.const (.int .i64 (0)))⟩]
-- check.go:197
def tcy_r39 : List CO := [
    ⟨(some 132), none, .mv (.tmp 8)⟩,
    ⟨(some 133), none, .bslice 1 3 [.int .i64 (0)] [(0, 1, (.tmp 132))]⟩,
    ⟨(some 22), none, .mv (.tmp 133)⟩]
-- check.go:198
def tcy_r40 : List CO := [
    ⟨(some 134), none, .mv (.tmp 8)⟩,
    ⟨(some 23), none, .mv (.tmp 134)⟩]
-- check.go:198
def tcy_r41 : List CO := [
    ⟨(some 135), none, .mv (.tmp 17)⟩,
    ⟨(some 136), none, .bin .gtr (.tmp 135) (.const (.int .i64 (0)))⟩]
-- check.go:199
def tcy_r42 : List CO := [
    ⟨(some 24), none, .mv (.const (.int .i64 (0)))⟩,
    ⟨(some 25), none, .mv (.const (.bool false))⟩]
-- check.go:200
def tcy_r43 : List CO := [
    ⟨(some 139), none, .mv (.tmp 3)⟩,
    ⟨(some 140), none, .mv (.tmp 23)⟩,
    ⟨(some 141), none, .lkp (.slice none 0 0) false (.one .i) (.tmp 139) (.tmp 140)⟩,
    ⟨(some 142), none, .len 1 (.tmp 141)⟩,
    ⟨(some 143), none, .mv (.const (.int .i64 (0)))⟩]
-- check.go:200
def tcy_r44 : List CO := [
    ⟨(some 144), none, .bin .lss (.tmp 143) (.tmp 142)⟩]
-- check.go:200
def tcy_r45 : List CO := [
    ⟨(some 145), none, .iaS 1 (.tmp 141) (.tmp 143)⟩,
    ⟨(some 146), none, .ld1 (.tmp 145)⟩,
    ⟨(some 27), none, .mv (.tmp 146)⟩]
-- check.go:201
def tcy_r46 : List CO := [
    ⟨(some 148), none, .mv (.tmp 9)⟩,
    ⟨(some 149), none, .mv (.tmp 27)⟩,
    ⟨(some 150), none, .lkp (.int .i64 (0)) true (.one .i) (.tmp 148) (.tmp 149)⟩,
    ⟨(some 147), none, .mv (.tmp 150)⟩,
    ⟨(some 151), none, .ext (.tmp 147) 0⟩,
    ⟨(some 152), none, .ext (.tmp 147) 1⟩,
    ⟨(some 28), none, .mv (.tmp 151)⟩,
    ⟨(some 29), none, .mv (.tmp 152)⟩]
-- check.go:201
def tcy_r47 : List CO := [
    ⟨(some 153), none, .mv (.tmp 29)⟩,
    ⟨(some 154), none, .mv (.tmp 153)⟩,
    ⟨(some 155), (some (154, true)), .mv (.tmp 28)⟩,
    ⟨(some 156), (some (154, true)), .mv (.tmp 17)⟩,
    ⟨(some 157), (some (154, true)), .eq false (.one .i) (.tmp 155) (.tmp 156)⟩,
    ⟨(some 158), none, .pick (.tmp 154) (.tmp 157) (.const (.bool false))⟩,
    ⟨(some 159), none, .mv (.tmp 158)⟩,
    ⟨(some 160), (some (159, true)), .mv (.tmp 25)⟩,
    ⟨(some 161), (some (159, true)), .un .not (.tmp 160)⟩,
    ⟨(some 162), (some (159, true)), .mv (.tmp 161)⟩,
    ⟨(some 163), (some (162, false)), .mv (.tmp 27)⟩,
    ⟨(some 164), (some (162, false)), .mv (.tmp 24)⟩,
    ⟨(some 165), (some (162, false)), .bin .lss (.tmp 163) (.tmp 164)⟩,
    ⟨(some 166), (some (159, true)), .pick (.tmp 162) (.const (.bool true)) (.tmp 165)⟩,
    ⟨(some 167), none, .pick (.tmp 159) (.tmp 166) (.const (.bool false))⟩]
-- check.go:202
def tcy_r48 : List CO := [
    ⟨(some 168), none, .mv (.tmp 27)⟩,
    ⟨(some 24), none, .mv (.tmp 168)⟩,
    ⟨(some 25), none, .mv (.const (.bool true))⟩]
-- check.go:200
def tcy_r49 : List CO := [
    ⟨(some 169), none, .bin .add (.tmp 143) (.const (.int .i64 (1)))⟩,
    ⟨(some 143), none, .mv (.tmp 169)⟩]
noncomputable def tcy_l50 : KC :=
  (.seq (.reg tcy_r44)
  (.seq (.cond (.tmp 144) .skip
   (.exit 12))
  (.seq (.block 13 (.seq (.reg tcy_r45)
   (.seq (.reg tcy_r46)
   (.seq (.reg tcy_r47)
   (.cond (.tmp 167) (.reg tcy_r48)
    .skip)))))
  (.reg tcy_r49))))
-- check.go:205
def tcy_r51 : List CO := [
    ⟨(some 170), none, .mv (.tmp 24)⟩,
    ⟨(some 23), none, .mv (.tmp 170)⟩]
-- check.go:206
def tcy_r52 : List CO := [
    ⟨(some 171), none, .mv (.tmp 22)⟩,
    ⟨(some 172), none, .mv (.tmp 23)⟩,
    ⟨(some 173), none, .bslice 1 3 [.int .i64 (0)] [(0, 1, (.tmp 172))]⟩,
    ⟨(some 174), none, .app 3 1 8 (.tmp 171) (.tmp 173)⟩,
    ⟨(some 22), none, .mv (.tmp 174)⟩]
-- check.go:198
def tcy_r53 : List CO := [
    ⟨(some 137), none, .mv (.tmp 17)⟩,
    ⟨(some 138), none, .bin .sub (.tmp 137) (.const (.int .i64 (1)))⟩,
    ⟨(some 17), none, .mv (.tmp 138)⟩]
noncomputable def tcy_l54 : KC :=
  (.seq (.seq (.reg tcy_r41)
  (.cond (.tmp 136) .skip
   (.exit 10)))
  (.seq (.block 11 (.seq (.reg tcy_r42)
   (.seq (.seq (.reg tcy_r43)
   (.block 12 (.loop tcy_body.sr.sr.sr.sr.sr.sl.sr.bl.lp.sr.sr.sl.bl.sr.sr.sr.sr.sr.sr.sr.sl.sr.bl.lp.sr.sl.bl.sr.sl.sr.bl.lp tcy_l50)))
   (.seq (.reg tcy_r51)
   (.reg tcy_r52)))))
  (.reg tcy_r53)))
-- check.go:208
def tcy_r55 : List CO := [
    ⟨(some 175), none, .mv (.tmp 22)⟩,
    ⟨(some 2), none, .mv (.tmp 175)⟩]
-- check.go:175
def tcy_r56 : List CO := [
    ⟨(some 176), none, .bin .add (.tmp 59) (.const (.int .i64 (1)))⟩,
    ⟨(some 59), none, .mv (.tmp 176)⟩]
noncomputable def tcy_l57 : KC :=
  (.seq (.reg tcy_r12)
  (.seq (.cond (.tmp 60) .skip
   (.exit 2))
  (.seq (.block 3 (.seq (.reg tcy_r13)
   (.seq (.reg tcy_r14)
   (.seq (.seq (.reg tcy_r15)
   (.block 4 (.loop tcy_body.sr.sr.sr.sr.sr.sl.sr.bl.lp.sr.sr.sl.bl.sr.sr.sl.sr.bl.lp tcy_l28)))
   (.seq (.reg tcy_r29)
   (.seq (.seq (.reg tcy_r30)
   (.block 8 (.loop tcy_body.sr.sr.sr.sr.sr.sl.sr.bl.lp.sr.sr.sl.bl.sr.sr.sr.sr.sl.sr.bl.lp tcy_l37)))
   (.seq (.seq (.reg tcy_r38)
   (.cond (.tmp 131) (.exit 3)
    .skip))
   (.seq (.reg tcy_r39)
   (.seq (.seq (.reg tcy_r40)
   (.block 10 (.loop tcy_body.sr.sr.sr.sr.sr.sl.sr.bl.lp.sr.sr.sl.bl.sr.sr.sr.sr.sr.sr.sr.sl.sr.bl.lp tcy_l54)))
   (.seq (.reg tcy_r55)
   .ret))))))))))
  (.reg tcy_r56))))
-- check.go:210
def tcy_r58 : List CO := [
    ⟨(some 2), none, .mv (.const (.slice none 0 0))⟩]
noncomputable def tcy_k : KC :=
  (.seq (.reg tcy_r0)
  (.seq (.reg tcy_r1)
  (.seq (.reg tcy_r2)
  (.seq (.seq (.reg tcy_r3)
  (.block 0 (.loop tcy_body.sr.sr.sr.sl.sr.bl.lp tcy_l9)))
  (.seq (.reg tcy_r10)
  (.seq (.seq (.reg tcy_r11)
  (.block 2 (.loop tcy_body.sr.sr.sr.sr.sr.sl.sr.bl.lp tcy_l57)))
  (.seq (.reg tcy_r58)
  .ret)))))))
theorem tcy_comp : kcomp Tb0 Tryz.f6.ntmps tcy_body = tcy_k := by kernel_rfl
theorem tcy_some : Tryz.f6.body = some tcy_body := rfl

end Go.Proofs.K25
end

noncomputable section
set_option linter.unusedSimpArgs false
set_option linter.unusedVariables false
namespace Go.Proofs.K25
open Go Go.Ev Go.Proofs Go.Cyc
/-! ### Words for the walk of tasks.Cycle -/
/-- a list that code makes by append: nil, or a block of its own -/
def OwnO (N ty : Nat) (H : Hp) (bo : Option Nat) (v : Value) (L : List Value) : Prop :=
  (bo = none ∧ v = .slice none 0 0 ∧ L = []) ∨ ∃ b, bo = some b ∧ Own N ty H b v L
theorem OwnO.lt {N ty : Nat} {H : Hp} {b : Nat} {v : Value} {L : List Value} (h : OwnO N ty H (some b) v L) : b < H.nx := by
  rcases h with ⟨h, _⟩ | ⟨b', h1, h2⟩
  · cases h
  · cases h1; exact h2.lt
theorem OwnO.ge {N ty : Nat} {H : Hp} {b : Nat} {v : Value} {L : List Value} (h : OwnO N ty H (some b) v L) : N ≤ b := by
  rcases h with ⟨h, _⟩ | ⟨b', h1, h2⟩
  · cases h
  · cases h1; exact h2.ge
theorem OwnO.of_blk {N ty : Nat} {H H' : Hp} {bo : Option Nat} {v : Value} {L : List Value} (h : OwnO N ty H bo v L) (e : ∀ b, bo = some b → b < H.nx → H'.blk b = H.blk b) : OwnO N ty H' bo v L := by
  rcases h with h | ⟨b, h1, h2⟩
  · exact .inl h
  · exact .inr ⟨b, h1, h2.of_blk (e b h1 h2.lt)⟩
theorem OwnO.numsR {e : Env} {N : Nat} {H : Hp} {bo : Option Nat} {v : Value} {L : List Int} (h : OwnO N 3 H bo v (L.map vI)) (hn : e.n0 ≤ N) : NumsR e H v L := by
  rcases h with ⟨h1, rfl, h3⟩ | ⟨b, h1, h2⟩
  · have : L = [] := by simpa using h3
    subst this; exact .nil 0 none
  · exact h2.numsR hn
theorem OwnO.nil (N ty : Nat) (H : Hp) : OwnO N ty H none (.slice none 0 0) [] := .inl ⟨rfl, rfl, rfl⟩
/-- one value more -/
theorem appO {e : Env} {N ty by_ b2 : Nat} {bo : Option Nat} {H : Hp} {v w : Value} {L : List Value} (ho : OwnO N ty H bo v L) (hrow : Row H b2 ty 0 [w]) (he : e.n0 ≤ N) (hb2 : N ≤ b2) (hf : H.isFn = true) (hby : by_ ≤ 24) (hlen : L.length < 2199023255552) :
    ∃ v' H3 r w', exApp ty 1 by_ v (.slice (some ⟨b2, 0, none⟩) 1 (2 * 1)) H = .val v' H3 r w' ∧ e.ok r w' H3 ∧ H3.nx = H.nx + 1 ∧ Own N ty H3 H.nx v' (L ++ [w]) ∧ H3.isFn = true ∧ (∀ c, c < H.nx → bo ≠ some c → H3.blk c = H.blk c) ∧
      (∀ b, r.testBit b = true → b = b2 ∨ bo = some b) ∧ ∀ b, w'.testBit b = true → bo = some b := by
  have hlt2 := hrow.lt
  have hb : (2 * (L.length + 1) + 768) * by_ ≤ 140737488355328 := by
    have h1 : (2 * (L.length + 1) + 768) * by_ ≤ (2 * 2199023255552 + 768) * 24 := Nat.mul_le_mul (by omega) hby
    omega
  have hok : okBytes (L.length + 1) by_ = true := okBytes_of hb (by omega)
  have hc : cellsOfV H 1 1 (.slice (some ⟨b2, 0, none⟩) 1 (2 * 1)) = some ([w], bit b2) := cellsOf_slice hrow (by simp)
  have hr0 : e.ok (bit b2) 0 H := .fresh hlt2 (by omega)
  rcases ho with ⟨rfl, rfl, rfl⟩ | ⟨b, rfl, ho⟩
  · refine ⟨_, _, _, _, exApp_nil (fn_room hf) (n := 1) (new := [w]) rfl (by omega) hc hok, ⟨hr0.rd, hr0.wr, fun c hcc => by rw [nx_push]; have := hr0.lt c hcc; omega⟩, by rw [nx_push], ⟨by omega, .inr ⟨row_push (fn_room hf) _ ty 2, rfl⟩⟩, by rw [isFn_push]; exact hf,
      fun c hc _ => blk_push_old (fn_room hf) _ hc, fun b hb => .inl ((bit_iff _ _).1 hb), fun b hb => by simp at hb⟩
  · have hlt := ho.lt
    have hge := ho.ge
    have hlen2 : (L ++ [w]).length = L.length + 1 := by simp
    rcases ho.form with ⟨h1, rfl⟩ | ⟨h1, rfl⟩
    · refine ⟨_, _, _, _, exApp_shut (fn_room hf) h1 (m := L.length) (by omega) rfl (by omega) hc hok, ?_, by rw [nx_push], ⟨by omega, .inr ⟨row_push (fn_room hf) (L ++ [w]) ty 2, by rw [hlen2]⟩⟩, by rw [isFn_push]; exact hf,
        fun c hc _ => blk_push_old (fn_room hf) _ hc, fun c hcc => ?_, fun c hcc => by simp at hcc⟩
      · have h2 := hr0.lor (Env.ok.fresh (e := e) (b := b) hlt (by omega)) (Nat.le_refl _)
        rw [lor_zero'] at h2
        exact ⟨h2.rd, h2.wr, fun c hcc => by rw [nx_push]; have := h2.lt c hcc; omega⟩
      · rw [lor_bit, Bool.or_eq_true] at hcc
        rcases hcc with hcc | hcc
        · exact .inl ((bit_iff _ _).1 hcc)
        · exact .inr (by rw [(bit_iff _ _).1 hcc])
    · refine ⟨_, _, _, _, exApp_open (fn_room hf) h1 (m := L.length) (by omega) rfl (by omega) hc hok, ?_, by rw [nx_push, nx_put], ⟨by omega, .inr ⟨?_, by rw [hlen2]⟩⟩, by rw [isFn_push, isFn_put]; exact hf,
        fun c hcl hcb => ?_, fun c hcc => .inl ((bit_iff _ _).1 hcc), fun c hcc => by rw [(bit_iff _ _).1 hcc]⟩
      · have h2 := hr0.lor (Env.ok.write (e := e) (b := b) hlt (fun h => absurd h (by omega))) (Nat.le_refl _)
        rw [lor_zero', zero_lor'] at h2
        exact ⟨h2.rd, h2.wr, fun c hcc => by rw [nx_push, nx_put]; have := h2.lt c hcc; omega⟩
      · have := row_push (H := H.put b .no) (by rw [room_put]; exact (fn_room hf)) (L ++ [w]) ty 2
        rwa [nx_put] at this
      · rw [blk_push_old (by rw [room_put]; exact (fn_room hf)) _ (by rw [nx_put]; exact hcl), blk_put_ne (fn_wf hf) _ hlt (fun e => hcb (by rw [e]))]
/-- a store of all cells of a row -/
theorem exSt_row {H : Hp} {b ty op : Nat} {L vs : List Value} (hf : H.isFn = true) (h : Row H b ty op L) (hl : vs.length = L.length) :
    ∃ H', exSt L.length (.pointer (some ⟨b, 0, none⟩)) (.agg ⟨vs⟩) H = .val U H' 0 (bit b) ∧ Row H' b ty op vs ∧ H'.nx = H.nx ∧ H'.isFn = true ∧ ∀ c, c ≠ b → H'.blk c = H.blk c := by
  have hlt := h.lt
  obtain ⟨t, h1, h2⟩ := h
  refine ⟨H.put b (.cells (wrL (dep L.length) vs 0 t) L.length ty op 0 0), ?_, ⟨wrL (dep L.length) vs 0 t, ?_, fun i v hv => ?_⟩, nx_put _ _ _, by rw [isFn_put]; exact hf, fun c hc => blk_put_ne (fn_wf hf) _ hlt hc⟩
  · have e1 : wrN H b 0 vs = some (H.put b (.cells (wrL (dep L.length) vs 0 t) L.length ty op 0 0)) := by
      unfold wrN; rw [h1]; simp only []
      rw [(ble_iff _ _).2 (by omega), thawed_zero]; rfl
    show (match some vs with | some vs => Bc (Nat.beq vs.length L.length) (match wrN H b 0 vs with | some H' => R.val U H' 0 (bit b) | none => .fail) .fail | none => .fail) = _
    simp only [e1, (beq_iff _ _).2 hl, Bc_t]
  · rw [blk_put _ (fn_wf hf) hlt, if_pos rfl, hl]
  · have hd := lt_dep L.length
    have hi : i < vs.length := by
      rcases Nat.lt_or_ge i vs.length with h' | h'
      · exact h'
      · rw [List.getElem?_eq_none h'] at hv; cases hv
    rw [wrL_get _ _ _ _ _ (by omega) (by omega), if_pos ⟨by omega, by omega⟩]
    simp [List.getD, hv]
theorem take2 {α : Type} {l : List α} {o : Nat} {a b : α} (h1 : l[o]? = some a) (h2 : l[o + 1]? = some b) : (l.drop o).take 2 = [a, b] := by
  apply List.ext_getElem?
  intro i
  rcases i with _ | _ | i
  · simp [h1]
  · simp [h2]
  · rw [List.getElem?_eq_none (by simp; omega), List.getElem?_eq_none (by simp)]
theorem PairsR.readN {e : Env} {H : Hp} {v : Value} {ws : List (Int × Int)} (h : PairsR e H v ws) {i : Nat} {p : Int × Int} (hz : ws[i]? = some p) : ∃ b o, exIaS 2 v (vI i) H = .val (.pointer (some ⟨b, o, none⟩)) H 0 0 ∧
    exLdN 2 (.pointer (some ⟨b, o, none⟩)) H = .val (.agg ⟨[vI p.1, vI p.2]⟩) H (bit b) 0 ∧ e.ok (bit b) 0 H := by
  cases h with
  | nil => simp at hz
  | inRow b o c ty op ws cells h hr hc =>
    have hlt : i < ws.length := by
      rcases Nat.lt_or_ge i ws.length with h' | h'
      · exact h'
      · rw [List.getElem?_eq_none h'] at hz; cases hz
    obtain ⟨c1, c2⟩ := hc i p hz
    have hlen : o + i * 2 + 1 < cells.length := by
      rcases Nat.lt_or_ge (o + i * 2 + 1) cells.length with h' | h'
      · exact h'
      · rw [List.getElem?_eq_none h'] at c2; cases c2
    refine ⟨b, o + i * 2, ?_, ?_, .read h.lt hr⟩
    · rw [exIaS_int (by omega) (by omega)]; simp
    · rw [exLdN_rowF h (by omega), take2 c1 c2]
/-- a pair in an array of its own -/
theorem pairArr {e : Env} {H : Hp} {b op : Nat} {x y : Value} (h : Row H b 69 op [x, y]) (hn : e.n0 ≤ b) : exIaA 2 1 (.pointer (some ⟨b, 0, none⟩)) (vI 0) H = .val (.pointer (some ⟨b, 0, none⟩)) H 0 0 ∧ exIaA 2 1 (.pointer (some ⟨b, 0, none⟩)) (vI 1) H = .val (.pointer (some ⟨b, 1, none⟩)) H 0 0 ∧
    exLd1 (.pointer (some ⟨b, 0, none⟩)) H = .val x H (bit b) 0 ∧ exLd1 (.pointer (some ⟨b, 1, none⟩)) H = .val y H (bit b) 0 ∧ e.ok (bit b) 0 H := by
  refine ⟨?_, ?_, exLd1_row h rfl, exLd1_row h rfl, .fresh h.lt hn⟩
  · rw [exIaA_int (by decide) (by decide)]; rfl
  · rw [exIaA_int (by decide) (by decide)]; rfl
/-! regions that draw, step by step -/
section
variable {tb : Tb} {sp : Nat → List Value → Hp → Option (Value × Hp × Nat × Nat)} {e : Env}
variable {cx : Cx} {B : Array Nat} {o : CO} {cos : List CO} {i : Nat} {t : T Value} {ds : List Deferred} {H : Hp} {A : List En} {K : T Value → List Deferred → Hp → Prop}
theorem WD.pure {v : Value} (hg : o.guard = none) (hr : run o.op t H = .val v H 0 0) (hk : WD tb sp e cx B cos (i + 1) (putT cx.d t o.dst v) ds H A K) : WD tb sp e cx B (o :: cos) i t ds H A K := by
  refine WD.cons (by rw [hg]; rfl) ?_
  rw [hr]
  exact ⟨.zero e H, Nat.le_refl _, .inl ⟨rfl, rfl, rfl, hk⟩⟩
theorem WD.val {v : Value} {H1 : Hp} {r w : Nat} (R W : Nat → Prop) (hg : o.guard = none) (hr : run o.op t H = .val v H1 r w) (h1 : e.ok r w H1) (h2 : H.nx ≤ H1.nx) (hR : ∀ b, r.testBit b = true → R b) (hW : ∀ b, w.testBit b = true ∨ (H.nx ≤ b ∧ b < H1.nx) → W b) (hc : Chk B i R W A)
    (hk : WD tb sp e cx B cos (i + 1) (putT cx.d t o.dst v) ds H1 (⟨i, R, W⟩ :: A) K) : WD tb sp e cx B (o :: cos) i t ds H A K := by
  refine WD.cons (by rw [hg]; rfl) ?_
  rw [hr]
  exact ⟨h1, h2, .inr ⟨R, W, hR, hW, hc, hk⟩⟩
theorem _root_.Go.Ev.Chk.nil {R W : Nat → Prop} : Chk B i R W [] := fun en h => absurd h (by simp)
theorem _root_.Go.Ev.Chk.bit {R W : Nat → Prop} {en : En} (h : (B.getD i 0).testBit en.i = true) (hc : Chk B i R W A) : Chk B i R W (en :: A) := fun x hx => by
  rcases List.mem_cons.1 hx with rfl | hx
  · exact .inl h
  · exact hc x hx
theorem _root_.Go.Ev.Chk.apart {R W : Nat → Prop} {en : En} (h1 : ∀ b, en.W b → ¬ R b ∧ ¬ W b) (h2 : ∀ b, W b → ¬ en.R b) (hc : Chk B i R W A) : Chk B i R W (en :: A) := fun x hx => by
  rcases List.mem_cons.1 hx with rfl | hx
  · exact .inr ⟨h1, h2⟩
  · exact hc x hx
end
/-- a step that touches one block alone, and what it makes -/
structure St (b : Nat) (H H' : Hp) : Prop where
  fn : H'.isFn = true
  nx : H.nx ≤ H'.nx
  old : ∀ c, c < H.nx → c ≠ b → H'.blk c = H.blk c
theorem St.refl {b : Nat} {H : Hp} (h : H.isFn = true) : St b H H := ⟨h, Nat.le_refl _, fun _ _ _ => rfl⟩
theorem St.trans {b : Nat} {H H1 H2 : Hp} (h : St b H H1) (g : St b H1 H2) : St b H H2 := ⟨g.fn, Nat.le_trans h.nx g.nx, fun c hc hne => (g.old c (Nat.lt_of_lt_of_le hc h.nx) hne).trans (h.old c hc hne)⟩
theorem St.kept {b : Nat} {H0 H H' : Hp} (h : Kept H0 H) (g : St b H H') (hb : H0.nx ≤ b) : Kept H0 H' := ⟨g.fn, Nat.le_trans h.nx g.nx, fun c hc => (g.old c (Nat.lt_of_lt_of_le hc h.nx) (by omega)).trans (h.old c hc)⟩
/-- what stands behind k -/
def succs (ws : Ws) (k : Int) : List Int := (ws.filter fun p => decide (p.1 = k)).map (·.2)
theorem mem_succs {ws : Ws} {k y : Int} : y ∈ succs ws k ↔ (k, y) ∈ ws := by
  unfold succs
  rw [List.mem_map]
  constructor
  · rintro ⟨p, hp, rfl⟩
    obtain ⟨h1, h2⟩ := List.mem_filter.1 hp
    have : p.1 = k := by simpa using h2
    subst this; exact h1
  · intro h
    exact ⟨(k, y), List.mem_filter.2 ⟨h, by simp⟩, rfl⟩
theorem sucs_le (ws : Ws) (k : Int) : (succs ws k).length ≤ ws.length := by
  unfold succs
  rw [List.length_map]; exact List.length_filter_le _ _
theorem succs_snoc (P : Ws) (p : Int × Int) (k : Int) : succs (P ++ [p]) k = if p.1 = k then succs P k ++ [p.2] else succs P k := by
  unfold succs
  rw [List.filter_append]
  by_cases h : p.1 = k
  · simp [h]
  · simp [h]
end Go.Proofs.K25
end
