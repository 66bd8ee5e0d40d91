/-
  A part of the proof that pliantlaw25.TasksCycles returns true and leaves its argument alone. Conditions: those of the card in the last text.
-/
import Derived.Test.YtdaglpleolagnaaGreatDoorG15
set_option linter.unusedSimpArgs false
set_option linter.unusedVariables false

noncomputable section
set_option linter.unusedSimpArgs false
set_option linter.unusedVariables false
namespace Go.Proofs.K25
open Go Go.Ev Go.Proofs Go.Cyc
/-! ### tasks.Cycle: its first loop -/
abbrev cx6 : Cx := ⟨8, 177, none, false⟩
abbrev nilS : Value := .slice none 0 0
theorem lkp_f {H : Hp} {b : Nat} {es : List MapEntry} (h : MapI H b es) (z : Value) (k : Int) : exLkp z false (.one .i) (.map (some b)) (.int .i64 k) H = .val ((mapF es k).getD z) H (bit b) 0 := by
  rw [exLkp_map h]; cases mapF es k <;> rfl
theorem lkp_t {H : Hp} {b : Nat} {es : List MapEntry} (h : MapI H b es) (z : Value) (k : Int) : exLkp z true (.one .i) (.map (some b)) (.int .i64 k) H = .val (.tuple #[(mapF es k).getD z, .bool (mapF es k).isSome]) H (bit b) 0 := by
  rw [exLkp_map h]; cases mapF es k <;> rfl
theorem alloc_ptr {H : Hp} (hf : H.isFn = true) (x : Blk) : alloc1 x H ptrTo 0 0 = .val (.pointer (some ⟨H.nx, 0, none⟩)) (H.push x) 0 0 := by rw [alloc1_room (fn_room hf)]; rfl
theorem alloc_map {H : Hp} (hf : H.isFn = true) : alloc1 (.obj (.map #[] 0)) H (fun i => .map (some i)) 0 0 = .val (.map (some H.nx)) (H.push (.obj (.map #[] 0))) 0 0 := by rw [alloc1_room (fn_room hf)]
theorem own_ne_map {N ty : Nat} {H : Hp} {bo : Option Nat} {v : Value} {L : List Value} {bm : Nat} {es : List MapEntry} (ho : OwnO N ty H bo v L) (hm : MapI H bm es) : bo ≠ some bm := by
  rintro rfl
  rcases ho with ⟨h, _⟩ | ⟨b, h1, h2⟩
  · cases h
  · cases h1
    obtain ⟨op, c, ⟨t, h3, _⟩, _⟩ := h2.row
    obtain ⟨c', h4, _⟩ := hm
    rw [h3] at h4; cases h4
section
variable {sp : Nat → List Value → Hp → Option (Value × Hp × Nat × Nat)} {e : Env}
theorem WD.read {tb : Tb} {cx : Cx} {B : Array Nat} {o : CO} {cos : List CO} {i : Nat} {t : T Value} {ds : List Deferred} {H : Hp} {A : List En} {K : T Value → List Deferred → Hp → Prop} {v : Value} (b : Nat) (hg : o.guard = none) (hr : run o.op t H = .val v H (bit b) 0) (hok : e.ok (bit b) 0 H) (hc : Chk B i (fun c => c = b) (fun _ => False) A)
    (hk : WD tb sp e cx B cos (i + 1) (putT cx.d t o.dst v) ds H (⟨i, fun c => c = b, fun _ => False⟩ :: A) K) : WD tb sp e cx B (o :: cos) i t ds H A K :=
  WD.val _ _ hg hr hok (Nat.le_refl _) (fun c hc => (bit_iff _ _).1 hc) (fun c hc => by rcases hc with hc | hc <;> first | (simp at hc; done) | omega) hc hk
set_option maxRecDepth 10000 in
set_option maxHeartbeats 2000000 in
theorem r6_ok {H : Hp} {t : T Value} {ds : List Deferred} {N bm bw : Nat} {bo : Option Nat} {es : List MapEntry} {p : Int × Int} {L : List Value} {K : Ex → T Value → List Deferred → Hp → Prop}
    (hf : H.isFn = true) (he : e.n0 ≤ N) (hm : MapI H bm es) (hbm : N ≤ bm) (hw : Row H bw 69 0 [vI p.1, vI p.2]) (hbw : N ≤ bw) (ho : OwnO N 3 H bo ((mapF es p.1).getD nilS) L) (hne : bo ≠ some bw) (hlen : L.length < 2199023255552) (g3 : t.get 3 = .map (some bm)) (g6 : t.get 6 = .pointer (some ⟨bw, 0, none⟩))
    (hK : ∀ t' H' es' v', Lo 37 t t' → H'.isFn = true → H'.nx = H.nx + 2 → MapI H' bm es' → (∀ j, mapF es' j = if j = p.1 then some v' else mapF es j) → Own N 3 H' (H.nx + 1) v' (L ++ [vI p.2]) → (∀ c, c < H.nx → c ≠ bm → bo ≠ some c → H'.blk c = H.blk c) → K .normal t' ds H') :
    WK Tb0 sp e cx6 (.draw #[0, 0, 2, 0, 0, 16, 56, 0, 128, 384, 1016, 2047] tcy_r6) t ds H K := by
  have hltm : bm < H.nx := hm.alive.1
  have hltw : bw < H.nx := hw.lt
  have hNH : N ≤ H.nx := by omega
  obtain ⟨p0, p1, p2, p3, pok⟩ := pairArr (e := e) hw (by omega)
  have mok : e.ok (bit bm) 0 H := .fresh hltm (by omega)
  have hlk := lkp_f hm nilS p.1
  obtain ⟨V, hV⟩ : ∃ V, (mapF es p.1).getD nilS = V := ⟨_, rfl⟩
  rw [hV] at hlk ho
  have hrow1 : Row (H.push (blkL [vI p.2] 3 0)) H.nx 3 0 [vI p.2] := row_push (fn_room hf) _ _ _
  have hf1 : (H.push (blkL [vI p.2] 3 0)).isFn = true := by rw [isFn_push]; exact hf
  have hnx1 : (H.push (blkL [vI p.2] 3 0)).nx = H.nx + 1 := nx_push _ _
  have hold1 : ∀ c, c < H.nx → (H.push (blkL [vI p.2] 3 0)).blk c = H.blk c := fun c hc => blk_push_old (fn_room hf) _ hc
  have hal : alloc1 (blkL [vI p.2] 3 0) H (fun i => mkSlV (some (i, 0)) 1 1 false) 0 0 = .val (.slice (some ⟨H.nx, 0, none⟩) 1 (2 * 1)) (H.push (blkL [vI p.2] 3 0)) 0 0 := alloc_bsl hf _ 3 1
  revert hrow1 hf1 hnx1 hold1 hal
  generalize H.push (blkL [vI p.2] 3 0) = H1
  intro hrow1 hf1 hnx1 hold1 hal
  have ho1 : OwnO N 3 H1 bo V L := ho.of_blk fun b _ hb => hold1 b hb
  have hm1 : MapI H1 bm es := hm.of_blk (hold1 bm hltm)
  have hbo : ∀ b, bo = some b → b < H.nx := fun b hb => by subst hb; exact ho.lt
  obtain ⟨v', H3, r', w', a1, a2, a3, a4, a5, a6, a7, a8⟩ := appO (e := e) (by_ := 8) ho1 hrow1 he (by omega) hf1 (by omega) hlen
  have hm3 : MapI H3 bm es := hm1.of_blk (a6 bm (by omega) (own_ne_map ho hm))
  obtain ⟨es', c', b1, b2, b3, b4⟩ := exMup_map hm3 p.1 v'
  have hlt3 : bm < H3.nx := by omega
  refine WK.draw ?_
  unfold tcy_r6
  refine WD.pure (v := .map (some bm)) rfl (by simp only [run, evalO_tmp, g3, Rv_eq]) ?_
  refine WD.pure (v := .pointer (some ⟨bw, 0, none⟩)) rfl (by simp only [run, evalO_tmp, evalO_const, get_putT (d := 8), g6, p0, Nat.reducePow, Nat.reduceLT, Nat.reduceEqDiff, reduceIte]) ?_
  refine WD.read (v := vI p.1) bw rfl (by simp only [run, evalO_tmp, evalO_const, get_putT (d := 8), p2, Nat.reducePow, Nat.reduceLT, Nat.reduceEqDiff, reduceIte]) pok .nil ?_
  refine WD.pure (v := .map (some bm)) rfl (by simp only [run, evalO_tmp, evalO_const, get_putT (d := 8), g3, Rv_eq, Nat.reducePow, Nat.reduceLT, Nat.reduceEqDiff, reduceIte]) ?_
  refine WD.pure (v := .pointer (some ⟨bw, 0, none⟩)) rfl (by simp only [run, evalO_tmp, evalO_const, get_putT (d := 8), g6, p0, Nat.reducePow, Nat.reduceLT, Nat.reduceEqDiff, reduceIte]) ?_
  refine WD.read (v := vI p.1) bw rfl (by simp only [run, evalO_tmp, evalO_const, get_putT (d := 8), p2, Nat.reducePow, Nat.reduceLT, Nat.reduceEqDiff, reduceIte]) pok (.apart (fun _ h => h.elim) (fun _ h => h.elim) .nil) ?_
  refine WD.read (v := V) bm rfl (by simp only [run, evalO_tmp, evalO_const, get_putT (d := 8), hlk, Nat.reducePow, Nat.reduceLT, Nat.reduceEqDiff, reduceIte]) mok (.apart (fun _ h => h.elim) (fun _ h => h.elim) (.apart (fun _ h => h.elim) (fun _ h => h.elim) .nil)) ?_
  refine WD.pure (v := .pointer (some ⟨bw, 1, none⟩)) rfl (by simp only [run, evalO_tmp, evalO_const, get_putT (d := 8), g6, p1, Nat.reducePow, Nat.reduceLT, Nat.reduceEqDiff, reduceIte]) ?_
  refine WD.read (v := vI p.2) bw rfl (by simp only [run, evalO_tmp, evalO_const, get_putT (d := 8), p3, Nat.reducePow, Nat.reduceLT, Nat.reduceEqDiff, reduceIte]) pok (.apart (fun _ h => h.elim) (fun _ h => h.elim) (.apart (fun _ h => h.elim) (fun _ h => h.elim) (.apart (fun _ h => h.elim) (fun _ h => h.elim) .nil))) ?_
  refine WD.val (v := .slice (some ⟨H.nx, 0, none⟩) 1 (2 * 1)) (H1 := H1) (r := 0) (w := 0) (fun _ => False) (fun b => b = H.nx) rfl ?_ (.zero _ _) (by omega) (fun b hb => by simp at hb) (fun b hb => by
      rcases hb with hb | hb
      · simp at hb
      · omega) (.apart (fun _ h => h.elim) (fun b h h' => by simp only at h'; omega) (.apart (fun _ h => h.elim) (fun b h h' => by simp only at h'; omega) (.apart (fun _ h => h.elim) (fun b h h' => by simp only at h'; omega) (.apart (fun _ h => h.elim) (fun b h h' => by simp only at h'; omega) .nil)))) ?_
  · have hfil : ∀ (t' : T Value), t'.get 45 = .int .i64 p.2 → fillL t' [.int .i64 0] [(0, 1, .tmp 45)] = some [.int .i64 p.2] := fun t' h => fillL_one (by rw [evalO_tmp, h]; rfl)
    simp only [run, evalO_tmp, evalO_const, get_putT (d := 8), hfil, exFill_some, hal, Nat.reducePow, Nat.reduceLT, Nat.reduceEqDiff, reduceIte]
  refine WD.val (v := v') (H1 := H3) (r := r') (w := w') (fun b => b = H.nx ∨ bo = some b) (fun b => bo = some b ∨ b = H1.nx) rfl ?_ a2 (by omega) a7 (fun b hb => by
      rcases hb with hb | hb
      · exact .inl (a8 b hb)
      · exact .inr (by omega)) (.bit (by first | rfl | (simp; done) | (simp; decide)) (.bit (by first | rfl | (simp; done) | (simp; decide)) (.bit (by first | rfl | (simp; done) | (simp; decide)) (.bit (by first | rfl | (simp; done) | (simp; decide)) (.apart (fun _ h => h.elim) (fun b h h' => by
        simp only at h'; subst h'
        rcases h with h | h
        · exact hne h
        · omega) .nil))))) ?_
  · simp only [run, evalO_tmp, evalO_const, get_putT (d := 8), a1, Nat.reducePow, Nat.reduceLT, Nat.reduceEqDiff, reduceIte]
  refine WD.val (v := U) (H1 := H3.put bm (.obj (.map ⟨es'⟩ c'))) (r := 0) (w := bit bm) (fun _ => False) (fun b => b = bm) rfl ?_ (.write (by rw [nx_put]; exact hlt3) (fun h => absurd h (by omega))) (by rw [nx_put]; exact Nat.le_refl _) (fun b hb => by simp at hb) (fun b hb => by
      rcases hb with hb | hb
      · exact (bit_iff _ _).1 hb
      · rw [nx_put] at hb; omega) (.bit (by first | rfl | (simp; done) | (simp; decide)) (.bit (by first | rfl | (simp; done) | (simp; decide)) (.bit (by first | rfl | (simp; done) | (simp; decide)) (.bit (by first | rfl | (simp; done) | (simp; decide)) (.bit (by first | rfl | (simp; done) | (simp; decide)) (.bit (by first | rfl | (simp; done) | (simp; decide)) .nil)))))) ?_
  · simp only [run, evalO_tmp, evalO_const, get_putT (d := 8), b1, Nat.reducePow, Nat.reduceLT, Nat.reduceEqDiff, reduceIte]
  refine WD.nil (hK _ _ es' v' (fun j hj => ?_) (by rw [isFn_put]; exact a5) (by rw [nx_put]; omega) ⟨c', by rw [blk_put _ (fn_wf a5) hlt3, if_pos rfl], b2⟩ b3 ?_ fun c hc hcm hcb => ?_)
  · simp (disch := omega) only [putT_lo (d := 8), putT_none]
  · have hlt4 := a4.lt
    have hne4 : H1.nx ≠ bm := by omega
    have := a4.of_blk (H' := H3.put bm (.obj (.map ⟨es'⟩ c'))) (blk_put_ne (fn_wf a5) _ hlt3 hne4)
    rwa [hnx1] at this
  · rw [blk_put_ne (fn_wf a5) _ hlt3 hcm, a6 c (by omega) hcb, hold1 c hc]
/-- the map and the nodes, so far -/
structure NextI (N : Nat) (H : Hp) (bm : Nat) (bn : Option Nat) (P : Ws) (v3 v4 : Value) : Prop where
  v3 : v3 = .map (some bm)
  bmN : N ≤ bm
  ent : ∃ (es : List MapEntry) (bk : Int → Option Nat), MapI H bm es ∧ (∀ k, OwnO N 3 H (bk k) ((mapF es k).getD nilS) ((succs P k).map vI)) ∧ (∀ k k' b, bk k = some b → bk k' = some b → k = k') ∧ ∀ k b, bk k = some b → bn ≠ some b
  nodes : OwnO N 3 H bn v4 ((P.map (·.1)).map vI)
theorem NextI.old {N : Nat} {H H' : Hp} {bm : Nat} {bn : Option Nat} {P : Ws} {v3 v4 : Value} (h : NextI N H bm bn P v3 v4) (hk : ∀ c, c < H.nx → H'.blk c = H.blk c) : NextI N H' bm bn P v3 v4 := by
  obtain ⟨es, bk, h1, h2, h3, h4⟩ := h.ent
  exact ⟨h.v3, h.bmN, ⟨es, bk, h1.of_blk (hk _ h1.alive.1), fun k => (h2 k).of_blk fun b _ hb => hk b hb, h3, h4⟩, h.nodes.of_blk fun b _ hb => hk b hb⟩
structure L9 (H0 : Hp) (v0 : Value) (ws : Ws) (i : Nat) (t : T Value) (H : Hp) : Prop where
  g0 : t.get 0 = v0
  g31 : t.get 31 = v0
  g32 : t.get 32 = vI ws.length
  g33 : t.get 33 = vI i
  kept : Kept H0 H
  nxt : ∃ bm bn, NextI H0.nx H bm bn (ws.take i) (t.get 3) (t.get 4)
set_option maxRecDepth 10000 in
set_option maxHeartbeats 2000000 in
theorem loop9_ok {H0 H : Hp} {t : T Value} {ds : List Deferred} {v0 : Value} {ws : Ws} {c : Code} {K : Ex → T Value → List Deferred → Hp → Prop} (he : e.n0 ≤ H0.nx) (hpw : PairsR e H0 v0 ws) (hwl : ws.length < 1099511627776) (hL : L9 H0 v0 ws 0 t H)
    (hK : ∀ t' H', L9 H0 v0 ws ws.length t' H' → K .normal t' ds H') : WK Tb0 sp e cx6 (.block 0 (.loop c tcy_l9)) t ds H K := by
  refine WK.block (WK.loop_ind (fun n t' ds' H' => ds' = ds ∧ ∃ i : Nat, n = ws.length - i ∧ i ≤ ws.length ∧ L9 H0 v0 ws i t' H') ?_ ws.length t ds H ⟨rfl, 0, by omega, by omega, hL⟩)
  rintro n t1 ds H ⟨rfl, i, rfl, hi, ⟨g0, g31, g32, g33, hkept, bm, bn, hN⟩⟩
  unfold tcy_l9
  refine WK.seq (WK.reg_rr (fun t' => t'.get 34 = .bool (decide ((i : Int) < (ws.length : Int))) ∧ Lo 34 t1 t') ?_ ?_)
  · simp (config := { maxSteps := 1000000 }) only [tcy_r4, WOR, wants_none', run, evalO_tmp, evalO_const, Rv_eq, Ro_some, ok_zero, true_and, get_putT (d := 8), g32, g33, binV_lss, Nat.reducePow, Nat.reduceLT, Nat.reduceEqDiff, if_false, reduceIte]
    intro j hj
    simp (disch := omega) only [putT_lo (d := 8)]
  rintro t2 ⟨h34, hlo⟩
  have f0 := (hlo 0 (by omega)).trans g0
  have f31 := (hlo 31 (by omega)).trans g31
  have f32 := (hlo 32 (by omega)).trans g32
  have f33 := (hlo 33 (by omega)).trans g33
  have f3 := hlo 3 (by omega)
  have f4 := hlo 4 (by omega)
  rw [← f3, ← f4] at hN
  by_cases hlt : i < ws.length
  case neg =>
    have : i = ws.length := by omega
    subst this
    refine WK.seq (WK.cond (v := false) (by rw [evalO_tmp, h34, decide_eq_false (by omega)]; rfl) (WK.exit ?_))
    exact hK t2 H ⟨f0, f31, f32, f33, hkept, bm, bn, hN⟩
  refine WK.seq (WK.cond (v := true) (by rw [evalO_tmp, h34, decide_eq_true (by omega)]; rfl) (WK.skip ?_))
  obtain ⟨p, hp⟩ : ∃ p, ws[i]? = some p := ⟨ws[i], by simp [hlt]⟩
  obtain ⟨pb, po, m1, m2, m3⟩ := (hpw.of_blk hkept.old).readN hp
  have hf := hkept.fn
  have hnx := hkept.nx
  have hv3 := hN.v3
  have hrow1 : Row (H.push (blkL [.int .i64 0, .int .i64 0] 69 0)) H.nx 69 0 [.int .i64 0, .int .i64 0] := row_push (fn_room hf) _ _ _
  have hf1 : (H.push (blkL [.int .i64 0, .int .i64 0] 69 0)).isFn = true := by rw [isFn_push]; exact hf
  have hnx1 : (H.push (blkL [.int .i64 0, .int .i64 0] 69 0)).nx = H.nx + 1 := nx_push _ _
  have hold1 : ∀ c, c < H.nx → (H.push (blkL [.int .i64 0, .int .i64 0] 69 0)).blk c = H.blk c := fun c hc => blk_push_old (fn_room hf) _ hc
  have hal := alloc_ptr hf (blkL [.int .i64 0, .int .i64 0] 69 0)
  revert hrow1 hf1 hnx1 hold1 hal
  generalize H.push (blkL [.int .i64 0, .int .i64 0] 69 0) = H1
  intro hrow1 hf1 hnx1 hold1 hal
  obtain ⟨H2, s1, s2, s3, s4, s5⟩ := exSt_row (vs := [vI p.1, vI p.2]) hf1 hrow1 rfl
  have s1' : exSt 2 (.pointer (some ⟨H.nx, 0, none⟩)) (.agg ⟨[vI p.1, vI p.2]⟩) H1 = .val U H2 0 (bit H.nx) := s1
  have hold2 : ∀ c, c < H.nx → H2.blk c = H.blk c := fun c hc => (s5 c (by omega)).trans (hold1 c hc)
  refine WK.seq (WK.block (WK.seq (WK.reg_gg (fun t' H' => H2 = H' ∧ t'.get 0 = v0 ∧ t'.get 31 = v0 ∧ t'.get 32 = vI ws.length ∧ t'.get 33 = vI i ∧ t'.get 3 = t2.get 3 ∧ t'.get 4 = t2.get 4 ∧ t'.get 6 = .pointer (some ⟨H.nx, 0, none⟩)) ?_ ?_)))
  · simp (config := { maxSteps := 1000000 }) only [tcy_r5, WOG, wants_none', run, evalO_tmp, evalO_const, Rv_eq, Ro_some, ok_zero, true_and, putT_none, get_putT (d := 8), f0, f31, f32, f33, m1, m2, m3, hal, s1', Nat.reducePow, Nat.reduceLT, Nat.reduceEqDiff, reduceIte, Nat.le_refl, and_true]
    exact ⟨by omega, .write (by omega) (fun h => absurd h (by omega)), by omega⟩
  rintro t3 HH ⟨rfl, k0, k31, k32, k33, k3, k4, k6⟩
  obtain ⟨es, bk, e1, e2, e3, e4⟩ := hN.ent
  have hbm := hN.bmN
  have hltm : bm < H.nx := e1.alive.1
  have hbk : ∀ k b, bk k = some b → b < H.nx := fun k b hb => by have := e2 k; rw [hb] at this; exact this.lt
  have hbn : ∀ b, bn = some b → b < H.nx := fun b hb => by have := hN.nodes; rw [hb] at this; exact this.lt
  have e1' : MapI H2 bm es := e1.of_blk (hold2 bm hltm)
  have e2' : ∀ k, OwnO H0.nx 3 H2 (bk k) ((mapF es k).getD nilS) ((succs (ws.take i) k).map vI) := fun k => (e2 k).of_blk fun b _ hb => hold2 b hb
  have hsl : ∀ k, (succs (ws.take i) k).length ≤ ws.length := fun k => by have := sucs_le (ws.take i) k; rw [List.length_take] at this; omega
  have htk : ws.take (i + 1) = ws.take i ++ [p] := by rw [List.take_add_one, hp]; rfl
  refine WK.seq (r6_ok (N := H0.nx) (p := p) (L := (succs (ws.take i) p.1).map vI) s4 he e1' hbm s2 (by omega) (e2' p.1) (fun h => by have := hbk _ _ h; omega) (by rw [List.length_map]; have := hsl p.1; omega) (k3.trans hv3) k6 ?_)
  intro t4 H4 es' v' hlo4 q1 q2 q3 q4 q5 q6
  have n0 := (hlo4 0 (by omega)).trans k0
  have n31 := (hlo4 31 (by omega)).trans k31
  have n32 := (hlo4 32 (by omega)).trans k32
  have n33 := (hlo4 33 (by omega)).trans k33
  have n3 := (hlo4 3 (by omega)).trans k3
  have n4 := (hlo4 4 (by omega)).trans k4
  have n6 := (hlo4 6 (by omega)).trans k6
  have hnd4 : OwnO H0.nx 3 H4 bn (t2.get 4) (((ws.take i).map (·.1)).map vI) := (hN.nodes).of_blk fun b hb hb' => by
    have h1 := own_ne_map hN.nodes e1
    rw [q6 b (by omega) (fun h => h1 (by rw [hb, h])) (fun h => e4 _ _ h hb), hold2 b hb']
  have hrow4 : Row H4 H.nx 69 0 [vI p.1, vI p.2] := s2.of_blk (q6 _ (by omega) (by omega) (fun h => by have := hbk _ _ h; omega))
  obtain ⟨r0, r1, r2, r3, rok⟩ := pairArr (e := e) hrow4 (by omega)
  have hrow5 : Row (H4.push (blkL [vI p.1] 3 0)) H4.nx 3 0 [vI p.1] := row_push (fn_room q1) _ _ _
  have hf5 : (H4.push (blkL [vI p.1] 3 0)).isFn = true := by rw [isFn_push]; exact q1
  have hnx5 : (H4.push (blkL [vI p.1] 3 0)).nx = H4.nx + 1 := nx_push _ _
  have hold5 : ∀ c, c < H4.nx → (H4.push (blkL [vI p.1] 3 0)).blk c = H4.blk c := fun c hc => blk_push_old (fn_room q1) _ hc
  have hal5 : alloc1 (blkL [vI p.1] 3 0) H4 (fun i => mkSlV (some (i, 0)) 1 1 false) 0 0 = .val (.slice (some ⟨H4.nx, 0, none⟩) 1 (2 * 1)) (H4.push (blkL [vI p.1] 3 0)) 0 0 := alloc_bsl q1 _ 3 1
  revert hrow5 hf5 hnx5 hold5 hal5
  generalize H4.push (blkL [vI p.1] 3 0) = H5
  intro hrow5 hf5 hnx5 hold5 hal5
  obtain ⟨v5, H6, r', w', a1, a2, a3, a4, a5, a6, _, _⟩ := appO (e := e) (by_ := 8) (hnd4.of_blk fun b _ hb => hold5 b hb) hrow5 he (by omega) hf5 (by omega) (by rw [List.length_map, List.length_map, List.length_take]; omega)
  have hold6 : ∀ c, c < H4.nx → bn ≠ some c → H6.blk c = H4.blk c := fun c hc hcb => (a6 c (by omega) hcb).trans (hold5 c hc)
  have hfil : ∀ (t' : T Value), t'.get 50 = .int .i64 p.1 → fillL t' [.int .i64 0] [(0, 1, .tmp 50)] = some [.int .i64 p.1] := fun t' h => fillL_one (by rw [evalO_tmp, h]; rfl)
  refine WK.reg_gg (fun t' H' => H6 = H' ∧ t'.get 0 = v0 ∧ t'.get 31 = v0 ∧ t'.get 32 = vI ws.length ∧ t'.get 33 = vI i ∧ t'.get 3 = t2.get 3 ∧ t'.get 4 = v5) ?_ ?_
  · simp (config := { maxSteps := 1000000 }) only [tcy_r7, WOG, wants_none', run, evalO_tmp, evalO_const, Rv_eq, Ro_some, ok_zero, true_and, putT_none, get_putT (d := 8), n0, n31, n32, n33, n3, n4, n6, r0, r2, rok, hfil, exFill_some, hal5, a1, Nat.reducePow, Nat.reduceLT, Nat.reduceEqDiff, reduceIte, Nat.le_refl, and_true]
    exact ⟨by omega, a2, by omega⟩
  rintro t5 HH ⟨rfl, j0, j31, j32, j33, j3, j4⟩
  have hwr : wrapF .i64 ((i : Int) + 1) = ((i + 1 : Nat) : Int) := by rw [wrapF_i64 (by omega) (by omega)]; omega
  refine WK.reg_rr (fun t' => t'.get 0 = v0 ∧ t'.get 31 = v0 ∧ t'.get 32 = vI ws.length ∧ t'.get 33 = vI (i + 1 : Nat) ∧ t'.get 3 = t2.get 3 ∧ t'.get 4 = v5) ?_ ?_
  · simp (config := { maxSteps := 1000000 }) only [tcy_r8, WOR, wants_none', run, evalO_tmp, evalO_const, Rv_eq, Ro_some, ok_zero, true_and, get_putT (d := 8), j0, j31, j32, j33, j3, j4, binV_add, hwr, Nat.reducePow, Nat.reduceLT, Nat.reduceEqDiff, if_false, reduceIte, and_self]
  rintro t6 ⟨i0, i31, i32, i33, i3, i4⟩
  refine ⟨ws.length - (i + 1), by omega, rfl, i + 1, rfl, by omega, ⟨i0, i31, i32, i33, ⟨a5, by omega, fun c hc => ?_⟩, bm, some H5.nx, ⟨i3.trans hv3, hbm, ⟨es', fun k => if k = p.1 then some (H2.nx + 1) else bk k, ?_, fun k => ?_, fun k k' b h h' => ?_, fun k b h => ?_⟩, ?_⟩⟩⟩
  · rw [hold6 c (by omega) (fun h => by have h1 := hN.nodes; rw [h] at h1; have := h1.ge; omega), q6 c (by omega) (by omega) (fun h => by have h1 := e2 p.1; rw [h] at h1; have := h1.ge; omega), hold2 c (by omega)]
    exact hkept.old c hc
  · exact q3.of_blk (hold6 bm (by omega) (own_ne_map hnd4 q3))
  · rw [htk, succs_snoc]
    simp only
    by_cases hk : k = p.1
    · subst hk
      rw [if_pos rfl, if_pos rfl, q4, if_pos rfl, List.map_append]
      exact .inr ⟨_, rfl, q5.of_blk (hold6 _ (by omega) (fun h => by have := hbn _ h; omega))⟩
    · rw [if_neg hk, if_neg (fun h => hk h.symm), q4, if_neg hk]
      refine (e2 k).of_blk fun b hb hlt => ?_
      have h1 := own_ne_map (e2 k) e1
      rw [hold6 b (by omega) (e4 k b hb), q6 b (by omega) (fun h => h1 (by rw [hb, h])) (fun h => hk (e3 _ _ _ hb h)), hold2 b hlt]
  · simp only at h h'
    by_cases hk : k = p.1
    · by_cases hk' : k' = p.1
      · rw [hk, hk']
      · rw [if_pos hk] at h; rw [if_neg hk'] at h'
        cases h; have := hbk _ _ h'; omega
    · by_cases hk' : k' = p.1
      · rw [if_neg hk] at h; rw [if_pos hk'] at h'
        cases h'; have := hbk _ _ h; omega
      · rw [if_neg hk] at h; rw [if_neg hk'] at h'
        exact e3 k k' b h h'
  · simp only at h
    intro h2
    have h2' := Option.some.inj h2
    by_cases hk : k = p.1
    · rw [if_pos hk] at h; have := Option.some.inj h; omega
    · rw [if_neg hk] at h; have := hbk _ _ h; omega
  · rw [i4, htk, List.map_append, List.map_append]
    exact .inr ⟨_, rfl, a4⟩
end
end Go.Proofs.K25
end

noncomputable section
set_option linter.unusedSimpArgs false
set_option linter.unusedVariables false
namespace Go.Proofs.K25
open Go Go.Ev Go.Proofs Go.Cyc
/-! ### tasks.Cycle: how far each number is from the start -/
/-- registers that the inner loops keep -/
def Ke (t t' : T Value) : Prop := ∀ j, (j < 10 ∨ (57 ≤ j ∧ j < 60)) → t'.get j = t.get j
theorem Ke.refl (t : T Value) : Ke t t := fun _ _ => rfl
theorem Ke.trans {t t' t'' : T Value} (h : Ke t t') (g : Ke t' t'') : Ke t t'' := fun j hj => (g j hj).trans (h j hj)
theorem putT_ne {d i j : Nat} (h : j ≠ i) (hi : i < 2 ^ d) (hj : j < 2 ^ d) (t : T Value) (v : Value) : (putT d t (some i) v).get j = t.get j := by
  rw [get_putT hi hj, if_neg h]
theorem exExt_0 (a b : Value) (H : Hp) : exExt (.tuple #[a, b]) 0 H = .val a H 0 0 := rfl
theorem exExt_1 (a b : Value) (H : Hp) : exExt (.tuple #[a, b]) 1 H = .val b H 0 0 := rfl
structure FarI (ws : Ws) (s : Int) (es : List MapEntry) (F : Int → Option Nat) : Prop where
  val : ∀ j, mapF es j = (F j).map fun n => vI n
  zero : F s = some 0
  way : ∀ u n, F u = some n → (n = 0 ∧ u = s) ∨ ∃ l, Clo ws s (u :: l) ∧ (u :: l).length = n
  nodup : (es.map fun e => keyI e.key).Nodup
  keys : ∀ k ∈ es.map (fun e => keyI e.key), k ∈ (s :: ws.map (·.1)).map some
  bound : ∀ u n, F u = some n → n < es.length
theorem FarI.len {ws : Ws} {s : Int} {es : List MapEntry} {F : Int → Option Nat} (h : FarI ws s es F) : es.length ≤ ws.length + 1 := by
  have := nodup_le _ _ h.nodup h.keys
  simpa using this
theorem FarI.lt {ws : Ws} {s : Int} {es : List MapEntry} {F : Int → Option Nat} (h : FarI ws s es F) {u : Int} {n : Nat} (hu : F u = some n) : n ≤ ws.length := by
  have := h.bound u n hu; have := h.len; omega
theorem FarI.getD {ws : Ws} {s : Int} {es : List MapEntry} {F : Int → Option Nat} (h : FarI ws s es F) (k : Int) : (mapF es k).getD (.int .i64 0) = vI ((F k).getD 0 : Nat) := by
  rw [h.val]; cases F k <;> rfl
theorem FarI.isSome {ws : Ws} {s : Int} {es : List MapEntry} {F : Int → Option Nat} (h : FarI ws s es F) (k : Int) : (mapF es k).isSome = (F k).isSome := by
  rw [h.val]; cases F k <;> rfl
theorem mapF_none_key {k : Int} : ∀ {es : List MapEntry}, mapF es k = none → some k ∉ es.map (fun e => keyI e.key) := by
  intro es
  induction es with
  | nil => intro _ h; simp at h
  | cons e es ih =>
    intro h hm
    rw [mapF_cons] at h
    split at h
    · cases h
    · rename_i hne
      rw [List.map_cons] at hm
      rcases List.mem_cons.1 hm with hm | hm
      · exact hne hm.symm
      · exact ih h hm
def bigOf (ws : Ws) : Nat := ws.length + 1
def keysOf (ws : Ws) (s : Int) : List Int := s :: ws.map (·.1)
theorem FarI.set {ws : Ws} {s u v : Int} {n : Nat} {es es' : List MapEntry} {F : Int → Option Nat} (h : FarI ws s es F) (he : (u, v) ∈ ws) (hv : F v = some n) (hlow : ∀ m, F u = some m → n + 1 < m)
    (hm : ∀ j, mapF es' j = if j = u then some (vI (n + 1 : Nat)) else mapF es j) (hk : es'.map (fun e => keyI e.key) = (if (mapF es u).isSome then es.map (fun e => keyI e.key) else es.map (fun e => keyI e.key) ++ [some u])) :
    FarI ws s es' (fun j => if j = u then some (n + 1) else F j) ∧ pot (bigOf ws) (fun j => if j = u then some (n + 1) else F j) (keysOf ws s) < pot (bigOf ws) F (keysOf ws s) := by
  have hsu : s ≠ u := fun e => by have := hlow 0 (by rw [← e]; exact h.zero); omega
  have hmem : some u ∈ (s :: ws.map (·.1)).map some := List.mem_map.2 ⟨u, List.mem_cons.2 (.inr (List.mem_map.2 ⟨(u, v), he, rfl⟩)), rfl⟩
  have hI : FarI ws s es' (fun j => if j = u then some (n + 1) else F j) := by
    refine ⟨fun j => ?_, ?_, fun x m hx => ?_, ?_, fun k hk' => ?_, fun x m hx => ?_⟩
    · rw [hm j]
      by_cases hj : j = u
      · simp only [hj, if_true]; rfl
      · simp only [hj, if_false]; exact h.val j
    · simp only [hsu, if_false]; exact h.zero
    · try simp only at hx
      by_cases hj : x = u
      · rw [if_pos hj] at hx
        cases hx; subst hj
        right
        rcases h.way v n hv with ⟨rfl, rfl⟩ | ⟨l, h1, h2⟩
        · exact ⟨[], he, rfl⟩
        · exact ⟨v :: l, ⟨he, h1⟩, by simp only [List.length_cons] at h2 ⊢; omega⟩
      · rw [if_neg hj] at hx; exact h.way x m hx
    · rw [hk]
      cases hs : mapF es u with
      | some y => simp only [Option.isSome_some, if_true]; exact h.nodup
      | none =>
        simp only [Option.isSome_none, Bool.false_eq_true, if_false]
        refine List.nodup_append.2 ⟨h.nodup, by simp, fun a ha b hb hab => ?_⟩
        simp at hb; subst hb; subst hab
        exact mapF_none_key hs ha
    · rw [hk] at hk'
      cases hs : mapF es u with
      | some y => rw [hs] at hk'; simp only [Option.isSome_some, if_true] at hk'; exact h.keys k hk'
      | none =>
        rw [hs] at hk'; simp only [Option.isSome_none, Bool.false_eq_true, if_false] at hk'
        rcases List.mem_append.1 hk' with h1 | h1
        · exact h.keys k h1
        · simp at h1; subst h1; exact hmem
    · try simp only at hx
      have hlen := congrArg List.length hk
      rw [List.length_map] at hlen
      have hb := h.bound v n hv
      by_cases hj : x = u
      · rw [if_pos hj] at hx
        cases hx; subst hj
        cases hs : F x with
        | some m =>
          have h1 := hlow m hs
          have h2 := h.bound x m hs
          have hss : (mapF es x).isSome = true := by rw [h.isSome, hs]; rfl
          rw [if_pos hss, List.length_map] at hlen
          omega
        | none =>
          have hss : ¬ (mapF es x).isSome = true := by rw [h.isSome, hs]; simp
          rw [if_neg hss, List.length_append, List.length_map] at hlen
          simp at hlen; omega
      · rw [if_neg hj] at hx
        have h1 := h.bound x m hx
        split at hlen
        · rw [List.length_map] at hlen; omega
        · rw [List.length_append, List.length_map] at hlen; omega
  refine ⟨hI, pot_lt (k := u) _ (List.mem_cons.2 (.inr (List.mem_map.2 ⟨(u, v), he, rfl⟩))) (fun j => ?_) ?_⟩
  · try simp only
    by_cases hj : j = u
    · subst hj
      rw [if_pos rfl]
      have h1 := hI.lt (u := j) (n := n + 1) (by simp)
      cases hs : F j with
      | some m => have := hlow m hs; show n + 1 ≤ m; omega
      | none => show n + 1 ≤ bigOf ws; unfold bigOf; omega
    · rw [if_neg hj]; exact Nat.le_refl _
  · simp only [if_true]
    have h1 := hI.lt (u := u) (n := n + 1) (by simp)
    cases hs : F u with
    | some m => exact hlow m hs
    | none => show n + 1 < bigOf ws; unfold bigOf; omega
/-- whether a pair lowers a distance -/
def upd (F : Int → Option Nat) (p : Int × Int) : Bool := match F p.2 with
  | none => false
  | some n => match F p.1 with | none => true | some m => decide ((n : Int) + 1 < (m : Int))
section
variable {sp : Nat → List Value → Hp → Option (Value × Hp × Nat × Nat)} {e : Env}
set_option maxRecDepth 10000 in
set_option maxHeartbeats 4000000 in
theorem r23_ok {H : Hp} {t : T Value} {F : Int → Option Nat} {p : Int × Int} {ws : Ws} {s : Int} {es : List MapEntry} (hF : FarI ws s es F) (hwl : ws.length < 1099511627776)
    (g13 : t.get 13 = vI ((F p.2).getD 0 : Nat)) (g14 : t.get 14 = .bool (F p.2).isSome) (g15 : t.get 15 = vI ((F p.1).getD 0 : Nat)) (g16 : t.get 16 = .bool (F p.1).isSome) :
    WOR e 8 H (fun t' => t'.get 97 = .bool (upd F p) ∧ Lo 80 t t') tcy_r23 t := by
  cases hv : F p.2 with
  | none =>
    have hu : upd F p = false := by unfold upd; rw [hv]
    rw [hu]
    rw [hv] at g14
    have g14' : t.get 14 = .bool false := g14
    simp (config := { maxSteps := 1000000 }) only [tcy_r23, WOR, wants_none', run, evalO_tmp, evalO_const, Rv_eq, Ro_some, ok_zero, true_and, get_putT (d := 8), g14', wants_some, wantsV_U, wantsV_tt, wantsV_tf, wantsV_ft, wantsV_ff, exPick_t, exPick_f, Nat.reducePow, Nat.reduceLT, Nat.reduceEqDiff, if_false, reduceIte]
    intro j hj
    simp (disch := omega) only [putT_lo (d := 8)]
  | some n =>
    rw [hv] at g13 g14
    have g13' : t.get 13 = .int .i64 (n : Int) := g13
    have g14' : t.get 14 = .bool true := g14
    have hn := hF.lt hv
    cases hu : F p.1 with
    | none =>
      have hup : upd F p = true := by unfold upd; rw [hv, hu]
      rw [hup]
      rw [hu] at g16
      have g16' : t.get 16 = .bool false := g16
      simp (config := { maxSteps := 1000000 }) only [tcy_r23, WOR, wants_none', run, evalO_tmp, evalO_const, Rv_eq, Ro_some, ok_zero, true_and, get_putT (d := 8), g13', g14', g16', exUn_not, Bool.not_false, Bool.not_true, wants_some, wantsV_U, wantsV_tt, wantsV_tf, wantsV_ft, wantsV_ff, exPick_t, exPick_f, Nat.reducePow, Nat.reduceLT, Nat.reduceEqDiff, if_false, reduceIte]
      intro j hj
      simp (disch := omega) only [putT_lo (d := 8)]
    | some m =>
      rw [hu] at g15 g16
      have g15' : t.get 15 = .int .i64 (m : Int) := g15
      have g16' : t.get 16 = .bool true := g16
      have hup : upd F p = decide ((n : Int) + 1 < (m : Int)) := by unfold upd; rw [hv, hu]
      rw [hup]
      have hwr : wrapF .i64 ((n : Int) + 1) = (n : Int) + 1 := wrapF_i64 (by omega) (by omega)
      simp (config := { maxSteps := 1000000 }) only [tcy_r23, WOR, wants_none', run, evalO_tmp, evalO_const, Rv_eq, Ro_some, ok_zero, true_and, get_putT (d := 8), g13', g14', g15', g16', exUn_not, Bool.not_false, Bool.not_true, binV_add, binV_lss, hwr, wants_some, wantsV_U, wantsV_tt, wantsV_tf, wantsV_ft, wantsV_ff, exPick_t, exPick_f, Nat.reducePow, Nat.reduceLT, Nat.reduceEqDiff, if_false, reduceIte]
      intro j hj
      simp (disch := omega) only [putT_lo (d := 8)]
/-- what a pass over the pairs has found: nothing to lower, or less is left -/
def Pass (ws : Ws) (s : Int) (F0 F : Int → Option Nat) (i : Nat) (c : Bool) : Prop :=
  (c = false → pot (bigOf ws) F (keysOf ws s) ≤ pot (bigOf ws) F0 (keysOf ws s) ∧ ∀ (k : Nat) p n, k < i → ws[k]? = some p → F p.2 = some n → ∃ m, F p.1 = some m ∧ m ≤ n + 1) ∧
  (c = true → pot (bigOf ws) F (keysOf ws s) < pot (bigOf ws) F0 (keysOf ws s))
structure L27 (H0 : Hp) (v0 : Value) (ws : Ws) (s : Int) (bf : Nat) (F0 : Int → Option Nat) (t0 : T Value) (i : Nat) (t : T Value) (H : Hp) : Prop where
  ke : Ke t0 t
  g67 : t.get 67 = v0
  g68 : t.get 68 = vI ws.length
  g69 : t.get 69 = vI i
  kept : Kept H0 H
  far : ∃ es F c, MapI H bf es ∧ FarI ws s es F ∧ t.get 10 = .bool c ∧ Pass ws s F0 F i c
set_option maxRecDepth 10000 in
set_option maxHeartbeats 4000000 in
theorem loop27_ok {H0 H : Hp} {t0 t : T Value} {ds : List Deferred} {v0 : Value} {ws : Ws} {s : Int} {bf : Nat} {F0 : Int → Option Nat} {c : Code} {K : Ex → T Value → List Deferred → Hp → Prop} (he : e.n0 ≤ H0.nx) (hpw : PairsR e H0 v0 ws) (hwl : ws.length < 1099511627776) (hbf : H0.nx ≤ bf)
    (h9 : t0.get 9 = .map (some bf)) (hL : L27 H0 v0 ws s bf F0 t0 0 t H)
    (hK : ∀ t' H', L27 H0 v0 ws s bf F0 t0 ws.length t' H' → K .normal t' ds H') : WK Tb0 sp e cx6 (.block 6 (.loop c tcy_l27)) t ds H K := by
  refine WK.block (WK.loop_ind (fun n t' ds' H' => ds' = ds ∧ ∃ i : Nat, n = ws.length - i ∧ i ≤ ws.length ∧ L27 H0 v0 ws s bf F0 t0 i t' H') ?_ ws.length t ds H ⟨rfl, 0, by omega, by omega, hL⟩)
  rintro n t1 ds H ⟨rfl, i, rfl, hi, ⟨hke, g67, g68, g69, hkept, es, F, ch, hm, hF, g10, hP⟩⟩
  unfold tcy_l27
  refine WK.seq (WK.reg_rr (fun t' => t'.get 70 = .bool (decide ((i : Int) < (ws.length : Int))) ∧ Lo 70 t1 t') ?_ ?_)
  · simp (config := { maxSteps := 1000000 }) only [tcy_r19, WOR, wants_none', run, evalO_tmp, evalO_const, Rv_eq, Ro_some, ok_zero, true_and, get_putT (d := 8), g68, g69, binV_lss, Nat.reducePow, Nat.reduceLT, Nat.reduceEqDiff, if_false, reduceIte]
    intro j hj
    simp (disch := omega) only [putT_lo (d := 8)]
  rintro t2 ⟨h70, hlo⟩
  have hke2 : Ke t0 t2 := fun j hj => (hlo j (by omega)).trans (hke j hj)
  have f67 := (hlo 67 (by omega)).trans g67
  have f68 := (hlo 68 (by omega)).trans g68
  have f69 := (hlo 69 (by omega)).trans g69
  have f10 := (hlo 10 (by omega)).trans g10
  by_cases hlt : i < ws.length
  case neg =>
    have : i = ws.length := by omega
    subst this
    refine WK.seq (WK.cond (v := false) (by rw [evalO_tmp, h70, decide_eq_false (by omega)]; rfl) (WK.exit ?_))
    exact hK t2 H ⟨hke2, f67, f68, f69, hkept, es, F, ch, hm, hF, f10, hP⟩
  refine WK.seq (WK.cond (v := true) (by rw [evalO_tmp, h70, decide_eq_true (by omega)]; rfl) (WK.skip ?_))
  obtain ⟨p, hp⟩ : ∃ p, ws[i]? = some p := ⟨ws[i], by simp [hlt]⟩
  have hpm : (p.1, p.2) ∈ ws := List.mem_of_getElem? hp
  obtain ⟨pb, po, m1, m2, m3⟩ := (hpw.of_blk hkept.old).readN hp
  have hf := hkept.fn
  have hnx := hkept.nx
  have hltm : bf < H.nx := hm.alive.1
  have hrow1 : Row (H.push (blkL [.int .i64 0, .int .i64 0] 69 0)) H.nx 69 0 [.int .i64 0, .int .i64 0] := row_push (fn_room hf) _ _ _
  have hf1 : (H.push (blkL [.int .i64 0, .int .i64 0] 69 0)).isFn = true := by rw [isFn_push]; exact hf
  have hnx1 : (H.push (blkL [.int .i64 0, .int .i64 0] 69 0)).nx = H.nx + 1 := nx_push _ _
  have hold1 : ∀ c, c < H.nx → (H.push (blkL [.int .i64 0, .int .i64 0] 69 0)).blk c = H.blk c := fun c hc => blk_push_old (fn_room hf) _ hc
  have hal := alloc_ptr hf (blkL [.int .i64 0, .int .i64 0] 69 0)
  revert hrow1 hf1 hnx1 hold1 hal
  generalize H.push (blkL [.int .i64 0, .int .i64 0] 69 0) = H1
  intro hrow1 hf1 hnx1 hold1 hal
  obtain ⟨H2, s1, s2, s3, s4, s5⟩ := exSt_row (vs := [vI p.1, vI p.2]) hf1 hrow1 rfl
  have s1' : exSt 2 (.pointer (some ⟨H.nx, 0, none⟩)) (.agg ⟨[vI p.1, vI p.2]⟩) H1 = .val U H2 0 (bit H.nx) := s1
  have hold2 : ∀ c, c < H.nx → H2.blk c = H.blk c := fun c hc => (s5 c (by omega)).trans (hold1 c hc)
  have hm2 : MapI H2 bf es := hm.of_blk (hold2 bf hltm)
  have hkept2 : Kept H0 H2 := ⟨s4, by omega, fun c hc => (hold2 c (by omega)).trans (hkept.old c hc)⟩
  refine WK.seq (WK.block (WK.seq (WK.reg_gg (fun t' H' => H2 = H' ∧ Ke t0 t' ∧ t'.get 67 = v0 ∧ t'.get 68 = vI ws.length ∧ t'.get 69 = vI i ∧ t'.get 10 = .bool ch ∧ t'.get 12 = .pointer (some ⟨H.nx, 0, none⟩)) ?_ ?_)))
  · simp (config := { maxSteps := 1000000 }) only [tcy_r20, WOG, wants_none', run, evalO_tmp, evalO_const, Rv_eq, Ro_some, ok_zero, true_and, putT_none, get_putT (d := 8), f67, f68, f69, f10, m1, m2, m3, hal, s1', Nat.reducePow, Nat.reduceLT, Nat.reduceEqDiff, reduceIte, Nat.le_refl, and_true]
    refine ⟨by omega, .write (by omega) (fun h => absurd h (by omega)), by omega, fun j hj => ?_⟩
    simp (disch := omega) only [putT_ne (d := 8)]
    exact hke2 j hj
  rintro t3 HH ⟨rfl, ke3, k67, k68, k69, k10, k12⟩
  have k9 := (ke3 9 (by omega)).trans h9
  obtain ⟨p0, p1, p2, p3, pok⟩ := pairArr (e := e) s2 (by omega)
  have mok : e.ok (bit bf) 0 H2 := .fresh (by omega) (by omega)
  have lkv := lkp_t hm2 (.int .i64 0) p.2
  have lku := lkp_t hm2 (.int .i64 0) p.1
  rw [hF.getD, hF.isSome] at lkv lku
  refine WK.seq (WK.reg_rr (fun t' => Lo 12 t3 t' ∧ t'.get 57 = t3.get 57 ∧ t'.get 58 = t3.get 58 ∧ t'.get 59 = t3.get 59 ∧ t'.get 67 = v0 ∧ t'.get 68 = vI ws.length ∧ t'.get 69 = vI i ∧ t'.get 12 = .pointer (some ⟨H.nx, 0, none⟩) ∧ t'.get 13 = vI ((F p.2).getD 0 : Nat) ∧ t'.get 14 = .bool (F p.2).isSome) ?_ ?_)
  · simp (config := { maxSteps := 1000000 }) only [tcy_r21, WOR, wants_none', run, evalO_tmp, evalO_const, Rv_eq, Ro_some, ok_zero, true_and, get_putT (d := 8), k67, k68, k69, k12, k9, p1, p3, pok, lkv, mok, exExt_0, exExt_1, Nat.reducePow, Nat.reduceLT, Nat.reduceEqDiff, if_false, reduceIte, and_true]
    intro j hj
    simp (disch := omega) only [putT_lo (d := 8)]
  rintro t4 ⟨lo4, d57, d58, d59, n67, n68, n69, n12, n13, n14⟩
  have n9 := (lo4 9 (by omega)).trans k9
  refine WK.seq (WK.reg_rr (fun t' => Lo 12 t4 t' ∧ t'.get 57 = t4.get 57 ∧ t'.get 58 = t4.get 58 ∧ t'.get 59 = t4.get 59 ∧ t'.get 67 = v0 ∧ t'.get 68 = vI ws.length ∧ t'.get 69 = vI i ∧ t'.get 12 = .pointer (some ⟨H.nx, 0, none⟩) ∧ t'.get 13 = vI ((F p.2).getD 0 : Nat) ∧ t'.get 14 = .bool (F p.2).isSome ∧ t'.get 15 = vI ((F p.1).getD 0 : Nat) ∧ t'.get 16 = .bool (F p.1).isSome) ?_ ?_)
  · simp (config := { maxSteps := 1000000 }) only [tcy_r22, WOR, wants_none', run, evalO_tmp, evalO_const, Rv_eq, Ro_some, ok_zero, true_and, get_putT (d := 8), n67, n68, n69, n12, n13, n14, n9, p0, p2, pok, lku, mok, exExt_0, exExt_1, Nat.reducePow, Nat.reduceLT, Nat.reduceEqDiff, if_false, reduceIte, and_true]
    intro j hj
    simp (disch := omega) only [putT_lo (d := 8)]
  rintro t5 ⟨lo5, c57, c58, c59, j67, j68, j69, j12, j13, j14, j15, j16⟩
  refine WK.seq (WK.reg_rr _ (r23_ok hF hwl j13 j14 j15 j16) ?_)
  rintro t6 ⟨h97, lo6⟩
  have ke6 : Ke t0 t6 := fun j hj => by
    rw [lo6 j (by omega)]
    rcases hj with hj | hj
    · rw [lo5 j (by omega), lo4 j (by omega)]; exact ke3 j (.inl hj)
    · have : j = 57 ∨ j = 58 ∨ j = 59 := by omega
      rcases this with rfl | rfl | rfl
      · rw [c57, d57]; exact ke3 57 (by omega)
      · rw [c58, d58]; exact ke3 58 (by omega)
      · rw [c59, d59]; exact ke3 59 (by omega)
  have i67 := (lo6 67 (by omega)).trans j67
  have i68 := (lo6 68 (by omega)).trans j68
  have i69 := (lo6 69 (by omega)).trans j69
  have i12 := (lo6 12 (by omega)).trans j12
  have i13 := (lo6 13 (by omega)).trans j13
  have i9 := (ke6 9 (by omega)).trans h9
  have i10 : t6.get 10 = .bool ch := by rw [lo6 10 (by omega), lo5 10 (by omega), lo4 10 (by omega)]; exact k10
  have hwr : wrapF .i64 ((i : Int) + 1) = ((i + 1 : Nat) : Int) := by rw [wrapF_i64 (by omega) (by omega)]; omega
  have nxt : ∀ (t8 : T Value) (H8 : Hp) (es8 : List MapEntry) (F8 : Int → Option Nat) (c8 : Bool), Ke t0 t8 → t8.get 67 = v0 → t8.get 68 = vI ws.length → t8.get 69 = vI i → t8.get 10 = .bool c8 → Kept H0 H8 → MapI H8 bf es8 → FarI ws s es8 F8 → Pass ws s F0 F8 (i + 1) c8 →
      WK Tb0 sp e cx6 (.reg tcy_r26) t8 ds H8 (fun x_1 t1 ds1 H1 => match x_1 with
        | .normal => ∃ m, m < ws.length - i ∧ ds1 = ds ∧ ∃ i : Nat, m = ws.length - i ∧ i ≤ ws.length ∧ L27 H0 v0 ws s bf F0 t0 i t1 H1
        | y => inBl 6 K y t1 ds1 H1) := by
    intro t8 H8 es8 F8 c8 kk x67 x68 x69 x10 hk8 hm8 hF8 hP8
    refine WK.reg_rr (fun t' => Ke t0 t' ∧ t'.get 67 = v0 ∧ t'.get 68 = vI ws.length ∧ t'.get 69 = vI (i + 1 : Nat) ∧ t'.get 10 = .bool c8) ?_ ?_
    · simp (config := { maxSteps := 1000000 }) only [tcy_r26, WOR, wants_none', run, evalO_tmp, evalO_const, Rv_eq, Ro_some, ok_zero, true_and, get_putT (d := 8), x67, x68, x69, x10, binV_add, hwr, Nat.reducePow, Nat.reduceLT, Nat.reduceEqDiff, if_false, reduceIte, and_true]
      intro j hj
      simp (disch := omega) only [putT_ne (d := 8)]
      exact kk j hj
    rintro t9 ⟨kk9, y67, y68, y69, y10⟩
    exact ⟨ws.length - (i + 1), by omega, rfl, i + 1, rfl, by omega, kk9, y67, y68, y69, hk8, es8, F8, c8, hm8, hF8, y10, hP8⟩
  cases hup : upd F p with
  | false =>
    rw [hup] at h97
    refine WK.cond (v := false) (by rw [evalO_tmp, h97]; rfl) (WK.skip ?_)
    refine nxt t6 H2 es F ch ke6 i67 i68 i69 i10 hkept2 hm2 hF ⟨fun hc => ⟨(hP.1 hc).1, fun k q n hk hq hn => ?_⟩, hP.2⟩
    by_cases hki : k = i
    · subst hki; rw [hp] at hq; cases hq
      unfold upd at hup
      rw [hn] at hup
      cases hu : F p.1 with
      | none => rw [hu] at hup; cases hup
      | some m =>
        rw [hu] at hup
        have h1 : ¬ ((n : Int) + 1 < (m : Int)) := of_decide_eq_false hup
        exact ⟨m, rfl, by omega⟩
    · exact (hP.1 hc).2 k q n (by omega) hq hn
  | true =>
    rw [hup] at h97
    refine WK.cond (v := true) (by rw [evalO_tmp, h97]; rfl) ?_
    unfold upd at hup
    cases hv : F p.2 with
    | none => rw [hv] at hup; cases hup
    | some n =>
    rw [hv] at hup i13
    have i13' : t6.get 13 = .int .i64 (n : Int) := i13
    have hlow : ∀ m, F p.1 = some m → n + 1 < m := fun m hm' => by
      rw [hm'] at hup
      have := of_decide_eq_true hup
      omega
    have hnl := hF.lt hv
    have hwr2 : wrapF .i64 ((n : Int) + 1) = ((n + 1 : Nat) : Int) := by rw [wrapF_i64 (by omega) (by omega)]; omega
    obtain ⟨es', c', b1, b2, b3, b4⟩ := exMup_map hm2 p.1 (vI (n + 1 : Nat))
    obtain ⟨hF', hpot⟩ := hF.set hpm hv hlow b3 b4
    have hlt2 : bf < H2.nx := by omega
    refine WK.seq (WK.reg_gg (fun t' H' => H2.put bf (.obj (.map ⟨es'⟩ c')) = H' ∧ Ke t0 t' ∧ t'.get 67 = v0 ∧ t'.get 68 = vI ws.length ∧ t'.get 69 = vI i) ?_ ?_)
    · simp (config := { maxSteps := 1000000 }) only [tcy_r24, WOG, wants_none', run, evalO_tmp, evalO_const, Rv_eq, Ro_some, ok_zero, true_and, putT_none, get_putT (d := 8), i67, i68, i69, i12, i13', i9, p0, p2, pok, binV_add, hwr2, b1, Nat.reducePow, Nat.reduceLT, Nat.reduceEqDiff, reduceIte, Nat.le_refl, and_true]
      refine ⟨.write (by rw [nx_put]; exact hlt2) (fun h => absurd h (by omega)), by rw [nx_put]; exact Nat.le_refl _, fun j hj => ?_⟩
      simp (disch := omega) only [putT_ne (d := 8)]
      exact ke6 j hj
    rintro t7 HH ⟨rfl, ke7, x67, x68, x69⟩
    refine WK.reg_rr (fun t' => Ke t0 t' ∧ t'.get 67 = v0 ∧ t'.get 68 = vI ws.length ∧ t'.get 69 = vI i ∧ t'.get 10 = .bool true) ?_ ?_
    · simp (config := { maxSteps := 1000000 }) only [tcy_r25, WOR, wants_none', run, evalO_tmp, evalO_const, Rv_eq, Ro_some, ok_zero, true_and, get_putT (d := 8), x67, x68, x69, Nat.reducePow, Nat.reduceLT, Nat.reduceEqDiff, if_false, reduceIte, and_true]
      intro j hj
      simp (disch := omega) only [putT_ne (d := 8)]
      exact ke7 j hj
    rintro t8 ⟨ke8, y67, y68, y69, y10⟩
    refine nxt t8 _ es' _ true ke8 y67 y68 y69 y10 (St.kept (b := bf) hkept2 ⟨by rw [isFn_put]; exact s4, by rw [nx_put]; exact Nat.le_refl _, fun c _ hne => blk_put_ne (fn_wf s4) _ hlt2 hne⟩ hbf) ⟨c', by rw [blk_put _ (fn_wf s4) hlt2, if_pos rfl], b2⟩ hF' ⟨fun h => (by cases h), fun _ => ?_⟩
    cases ch with
    | false => exact Nat.lt_of_lt_of_le hpot (hP.1 rfl).1
    | true => exact Nat.lt_trans hpot (hP.2 rfl)
end
end Go.Proofs.K25
end

noncomputable section
set_option linter.unusedSimpArgs false
set_option linter.unusedVariables false
namespace Go.Proofs.K25
open Go Go.Ev Go.Proofs Go.Cyc
/-! ### tasks.Cycle: the loop while something has changed; the least distance behind the start -/
section
variable {sp : Nat → List Value → Hp → Option (Value × Hp × Nat × Nat)} {e : Env}
set_option maxRecDepth 10000 in
set_option maxHeartbeats 4000000 in
theorem loop28_ok {H0 H : Hp} {t : T Value} {ds : List Deferred} {v0 : Value} {ws : Ws} {s : Int} {bf : Nat} {es : List MapEntry} {F : Int → Option Nat} {c : Code} {K : Ex → T Value → List Deferred → Hp → Prop} (he : e.n0 ≤ H0.nx) (hpw : PairsR e H0 v0 ws) (hwl : ws.length < 1099511627776) (hbf : H0.nx ≤ bf)
    (g0 : t.get 0 = v0) (h9 : t.get 9 = .map (some bf)) (g10 : t.get 10 = .bool true) (hk : Kept H0 H) (hm : MapI H bf es) (hF : FarI ws s es F)
    (hK : ∀ t' H' es' F', Ke t t' → Kept H0 H' → MapI H' bf es' → FarI ws s es' F' → Far ws s F' → K .normal t' ds H') : WK Tb0 sp e cx6 (.block 4 (.loop c tcy_l28)) t ds H K := by
  refine WK.block (WK.loop_ind (fun n t' ds' H' => ds' = ds ∧ ∃ es F ch, n = 2 * pot (bigOf ws) F (keysOf ws s) + (if ch = true then 1 else 0) ∧ Ke t t' ∧ Kept H0 H' ∧ MapI H' bf es ∧ FarI ws s es F ∧ t'.get 10 = .bool ch ∧ (ch = false → ∀ u v n, (u, v) ∈ ws → F v = some n → ∃ m, F u = some m ∧ m ≤ n + 1)) ?_ _ t ds H ⟨rfl, es, F, true, rfl, .refl t, hk, hm, hF, g10, fun h => by cases h⟩)
  rintro n t1 ds H ⟨rfl, es, F, ch, rfl, hke, hk, hm, hF, g10, hfx⟩
  unfold tcy_l28
  refine WK.seq (WK.seq (WK.reg_rr (fun t' => t'.get 66 = .bool ch ∧ Lo 66 t1 t') ?_ ?_))
  · simp (config := { maxSteps := 1000000 }) only [tcy_r16, WOR, wants_none', run, evalO_tmp, evalO_const, Rv_eq, Ro_some, ok_zero, true_and, get_putT (d := 8), g10, Nat.reducePow, Nat.reduceLT, Nat.reduceEqDiff, if_false, reduceIte]
    intro j hj
    simp (disch := omega) only [putT_lo (d := 8)]
  rintro t2 ⟨h66, hlo⟩
  have hke2 : Ke t t2 := fun j hj => (hlo j (by omega)).trans (hke j hj)
  cases ch with
  | false =>
    refine WK.cond (v := false) (by rw [evalO_tmp, h66]; rfl) (WK.exit ?_)
    exact hK t2 H es F hke2 hk hm hF ⟨hF.zero, hF.way, hfx rfl⟩
  | true =>
    refine WK.cond (v := true) (by rw [evalO_tmp, h66]; rfl) (WK.skip ?_)
    have f0 := (hke2 0 (by omega)).trans g0
    refine WK.block (WK.seq (WK.reg_rr (fun t' => Ke t t' ∧ t'.get 10 = .bool false) ?_ ?_))
    · simp (config := { maxSteps := 1000000 }) only [tcy_r17, WOR, wants_none', run, evalO_tmp, evalO_const, Rv_eq, Ro_some, ok_zero, true_and, get_putT (d := 8), Nat.reducePow, Nat.reduceLT, Nat.reduceEqDiff, if_false, reduceIte, and_true]
      intro j hj
      simp (disch := omega) only [putT_ne (d := 8)]
      exact hke2 j hj
    rintro t3 ⟨hke3, k10⟩
    have k0 := (hke3 0 (by omega)).trans g0
    have hlen := (hpw.of_blk hk.old).len
    refine WK.seq (WK.reg_rr (fun t' => Ke t t' ∧ t'.get 10 = .bool false ∧ t'.get 67 = v0 ∧ t'.get 68 = vI ws.length ∧ t'.get 69 = vI (0 : Nat)) ?_ ?_)
    · simp (config := { maxSteps := 1000000 }) only [tcy_r18, WOR, wants_none', run, evalO_tmp, evalO_const, Rv_eq, Ro_some, ok_zero, true_and, get_putT (d := 8), k0, k10, hlen, Nat.reducePow, Nat.reduceLT, Nat.reduceEqDiff, if_false, reduceIte, and_true]
      refine ⟨fun j hj => ?_, rfl⟩
      simp (disch := omega) only [putT_ne (d := 8)]
      exact hke3 j hj
    rintro t4 ⟨hke4, n10, n67, n68, n69⟩
    refine loop27_ok (H0 := H0) (t0 := t) (F0 := F) he hpw hwl hbf h9 ⟨hke4, n67, n68, n69, hk, es, F, false, hm, hF, n10, fun _ => ⟨Nat.le_refl _, fun k p n h => absurd h (by omega)⟩, fun h => by cases h⟩ ?_
    rintro t5 H5 ⟨hke5, _, _, _, hk5, es5, F5, c5, hm5, hF5, n10, hP⟩
    refine ⟨2 * pot (bigOf ws) F5 (keysOf ws s) + (if c5 = true then 1 else 0), ?_, rfl, es5, F5, c5, rfl, hke5, hk5, hm5, hF5, n10, fun hc u v n huv hv => ?_⟩
    · cases c5 with
      | false => have := (hP.1 rfl).1; simp; omega
      | true => have := hP.2 rfl; simp; omega
    · obtain ⟨k, hk1⟩ := List.mem_iff_getElem?.1 huv
      have hlt : k < ws.length := by
        rcases Nat.lt_or_ge k ws.length with h' | h'
        · exact h'
        · rw [List.getElem?_eq_none h'] at hk1; cases hk1
      exact (hP.1 hc).2 k (u, v) n hlt hk1 hv
/-- the least distance among the first i -/
def WayI (F : Int → Option Nat) (l : List Int) (w : Int) : Prop :=
  (w = -1 ∧ ∀ x ∈ l, F x = none) ∨ ∃ d : Nat, w = (d : Int) ∧ (∃ x ∈ l, F x = some d) ∧ ∀ x ∈ l, ∀ m, F x = some m → d ≤ m
def nearer (F : Int → Option Nat) (w x : Int) : Bool := match F x with
  | none => false
  | some n => decide (w < 0) || decide ((n : Int) < w)
theorem WayI.step {F : Int → Option Nat} {l : List Int} {w x : Int} (h : WayI F l w) : WayI F (l ++ [x]) (if nearer F w x = true then ((F x).getD 0 : Nat) else w) := by
  cases hx : F x with
  | none =>
    have : nearer F w x = false := by unfold nearer; rw [hx]
    rw [this]
    rcases h with ⟨h1, h2⟩ | ⟨d, h1, ⟨y, h2, h3⟩, h4⟩
    · refine .inl ⟨h1, fun y hy => ?_⟩
      rcases List.mem_append.1 hy with hy | hy
      · exact h2 y hy
      · simp at hy; subst hy; exact hx
    · refine .inr ⟨d, h1, ⟨y, List.mem_append.2 (.inl h2), h3⟩, fun z hz m hm => ?_⟩
      rcases List.mem_append.1 hz with hz | hz
      · exact h4 z hz m hm
      · simp at hz; subst hz; rw [hx] at hm; cases hm
  | some n =>
    have hn : nearer F w x = (decide (w < 0) || decide ((n : Int) < w)) := by unfold nearer; rw [hx]
    rw [hn]
    rcases h with ⟨rfl, h2⟩ | ⟨d, rfl, ⟨y, h2, h3⟩, h4⟩
    · refine .inr ⟨n, by simp, ⟨x, by simp, hx⟩, fun z hz m hm => ?_⟩
      rcases List.mem_append.1 hz with hz | hz
      · rw [h2 z hz] at hm; cases hm
      · simp at hz; subst hz; rw [hx] at hm; cases hm; exact Nat.le_refl _
    · by_cases hlt : (n : Int) < (d : Int)
      · have : (decide ((d : Int) < 0) || decide ((n : Int) < (d : Int))) = true := by simp [hlt]
        rw [if_pos this]
        refine .inr ⟨n, rfl, ⟨x, by simp, hx⟩, fun z hz m hm => ?_⟩
        rcases List.mem_append.1 hz with hz | hz
        · have := h4 z hz m hm; omega
        · simp at hz; subst hz; rw [hx] at hm; cases hm; exact Nat.le_refl _
      · have : ¬ ((decide ((d : Int) < 0) || decide ((n : Int) < (d : Int))) = true) := by simp; omega
        rw [if_neg this]
        refine .inr ⟨d, rfl, ⟨y, List.mem_append.2 (.inl h2), h3⟩, fun z hz m hm => ?_⟩
        rcases List.mem_append.1 hz with hz | hz
        · exact h4 z hz m hm
        · simp at hz; subst hz; rw [hx] at hm; cases hm; omega
theorem WayI.rng {F : Int → Option Nat} {l : List Int} {w : Int} (h : WayI F l w) : w = -1 ∨ ∃ d : Nat, w = (d : Int) ∧ ∃ x ∈ l, F x = some d := by
  rcases h with ⟨h, _⟩ | ⟨d, h, hx, _⟩
  · exact .inl h
  · exact .inr ⟨d, h, hx⟩
set_option maxRecDepth 10000 in
set_option maxHeartbeats 4000000 in
theorem r34_ok {H : Hp} {t : T Value} {F : Int → Option Nat} {w x : Int} (g17 : t.get 17 = .int .i64 w) (g20 : t.get 20 = vI ((F x).getD 0 : Nat)) (g21 : t.get 21 = .bool (F x).isSome) :
    WOR e 8 H (fun t' => t'.get 127 = .bool (nearer F w x) ∧ Lo 118 t t') tcy_r34 t := by
  cases hv : F x with
  | none =>
    have hu : nearer F w x = false := by unfold nearer; rw [hv]
    rw [hu]
    rw [hv] at g21
    have g21' : t.get 21 = .bool false := g21
    simp (config := { maxSteps := 1000000 }) only [tcy_r34, WOR, wants_none', run, evalO_tmp, evalO_const, Rv_eq, Ro_some, ok_zero, true_and, get_putT (d := 8), g21', wants_some, wantsV_U, wantsV_tt, wantsV_tf, wantsV_ft, wantsV_ff, exPick_t, exPick_f, Nat.reducePow, Nat.reduceLT, Nat.reduceEqDiff, if_false, reduceIte]
    intro j hj
    simp (disch := omega) only [putT_lo (d := 8)]
  | some n =>
    rw [hv] at g20 g21
    have g20' : t.get 20 = .int .i64 (n : Int) := g20
    have g21' : t.get 21 = .bool true := g21
    have hu : nearer F w x = (decide (w < 0) || decide ((n : Int) < w)) := by unfold nearer; rw [hv]
    rw [hu]
    by_cases hw : w < 0
    · have hd : decide (w < 0) = true := decide_eq_true hw
      simp (config := { maxSteps := 1000000 }) only [tcy_r34, WOR, wants_none', run, evalO_tmp, evalO_const, Rv_eq, Ro_some, ok_zero, true_and, get_putT (d := 8), g17, g20', g21', binV_lss, hd, Bool.true_or, wants_some, wantsV_U, wantsV_tt, wantsV_tf, wantsV_ft, wantsV_ff, exPick_t, exPick_f, Nat.reducePow, Nat.reduceLT, Nat.reduceEqDiff, if_false, reduceIte]
      intro j hj
      simp (disch := omega) only [putT_lo (d := 8)]
    · have hd : decide (w < 0) = false := decide_eq_false hw
      simp (config := { maxSteps := 1000000 }) only [tcy_r34, WOR, wants_none', run, evalO_tmp, evalO_const, Rv_eq, Ro_some, ok_zero, true_and, get_putT (d := 8), g17, g20', g21', binV_lss, hd, Bool.false_or, wants_some, wantsV_U, wantsV_tt, wantsV_tf, wantsV_ft, wantsV_ff, exPick_t, exPick_f, Nat.reducePow, Nat.reduceLT, Nat.reduceEqDiff, if_false, reduceIte]
      intro j hj
      simp (disch := omega) only [putT_lo (d := 8)]
set_option maxRecDepth 10000 in
set_option maxHeartbeats 4000000 in
theorem loop37_ok {H : Hp} {t0 t : T Value} {ds : List Deferred} {v : Value} {ws : Ws} {s : Int} {l : List Int} {bf : Nat} {es : List MapEntry} {F : Int → Option Nat} {c : Code} {K : Ex → T Value → List Deferred → Hp → Prop} (hV : NumsR e H v l) (hll : l.length < 1099511627776)
    (hm : MapI H bf es) (hF : FarI ws s es F) (hbf : e.n0 ≤ bf) (h9 : t0.get 9 = .map (some bf)) (hke : Ke t0 t) (g17 : t.get 17 = .int .i64 (-1)) (g106 : t.get 106 = v) (g107 : t.get 107 = vI l.length) (g108 : t.get 108 = vI (0 : Nat))
    (hK : ∀ t' w, Ke t0 t' → t'.get 17 = .int .i64 w → WayI F l w → K .normal t' ds H) : WK Tb0 sp e cx6 (.block 8 (.loop c tcy_l37)) t ds H K := by
  refine WK.block (WK.loop_ind (fun n t' ds' H' => ds' = ds ∧ H' = H ∧ ∃ (i : Nat) (w : Int), n = l.length - i ∧ i ≤ l.length ∧ Ke t0 t' ∧ t'.get 17 = .int .i64 w ∧ t'.get 106 = v ∧ t'.get 107 = vI l.length ∧ t'.get 108 = vI i ∧ WayI F (l.take i) w) ?_ l.length t ds H ⟨rfl, rfl, 0, -1, by omega, by omega, hke, g17, g106, g107, g108, .inl ⟨rfl, fun x hx => by simp at hx⟩⟩)
  clear hke g17 g106 g107 g108
  rintro n t1 ds H ⟨rfl, rfl, i, w, rfl, hi, hke, g17, g106, g107, g108, hW⟩
  unfold tcy_l37
  refine WK.seq (WK.reg_rr (fun t' => t'.get 109 = .bool (decide ((i : Int) < (l.length : Int))) ∧ Lo 109 t1 t') ?_ ?_)
  · simp (config := { maxSteps := 1000000 }) only [tcy_r31, WOR, wants_none', run, evalO_tmp, evalO_const, Rv_eq, Ro_some, ok_zero, true_and, get_putT (d := 8), g107, g108, binV_lss, Nat.reducePow, Nat.reduceLT, Nat.reduceEqDiff, if_false, reduceIte]
    intro j hj
    simp (disch := omega) only [putT_lo (d := 8)]
  rintro t2 ⟨h109, hlo⟩
  have ke2 : Ke t0 t2 := fun j hj => (hlo j (by omega)).trans (hke j hj)
  have f17 := (hlo 17 (by omega)).trans g17
  have f106 := (hlo 106 (by omega)).trans g106
  have f107 := (hlo 107 (by omega)).trans g107
  have f108 := (hlo 108 (by omega)).trans g108
  by_cases hlt : i < l.length
  case neg =>
    have : i = l.length := by omega
    subst this
    refine WK.seq (WK.cond (v := false) (by rw [evalO_tmp, h109, decide_eq_false (by omega)]; rfl) (WK.exit ?_))
    rw [List.take_length] at hW
    exact hK t2 w ke2 f17 hW
  refine WK.seq (WK.cond (v := true) (by rw [evalO_tmp, h109, decide_eq_true (by omega)]; rfl) (WK.skip ?_))
  obtain ⟨x, hx⟩ : ∃ x, l[i]? = some x := ⟨l[i], by simp [hlt]⟩
  have htk : l.take (i + 1) = l.take i ++ [x] := by rw [List.take_add_one, hx]; rfl
  obtain ⟨b1, m1, m2, m3⟩ := hV.read hx
  have hltm := hm.alive.1
  have mok : e.ok (bit bf) 0 H := .fresh (by omega) hbf
  have lkx := lkp_t hm (.int .i64 0) x
  rw [hF.getD, hF.isSome] at lkx
  refine WK.seq (WK.block (WK.seq (WK.reg_rr (fun t' => Ke t0 t' ∧ t'.get 17 = .int .i64 w ∧ t'.get 106 = v ∧ t'.get 107 = vI l.length ∧ t'.get 108 = vI i ∧ t'.get 19 = vI x) ?_ ?_)))
  · simp (config := { maxSteps := 1000000 }) only [tcy_r32, WOR, wants_none', run, evalO_tmp, evalO_const, Rv_eq, Ro_some, ok_zero, true_and, get_putT (d := 8), f17, f106, f107, f108, m1, m2, m3, Nat.reducePow, Nat.reduceLT, Nat.reduceEqDiff, if_false, reduceIte, and_true]
    intro j hj
    simp (disch := omega) only [putT_ne (d := 8)]
    exact ke2 j hj
  rintro t3 ⟨ke3, k17, k106, k107, k108, k19⟩
  have k9 := (ke3 9 (by omega)).trans h9
  refine WK.seq (WK.reg_rr (fun t' => Ke t0 t' ∧ t'.get 17 = .int .i64 w ∧ t'.get 106 = v ∧ t'.get 107 = vI l.length ∧ t'.get 108 = vI i ∧ t'.get 20 = vI ((F x).getD 0 : Nat) ∧ t'.get 21 = .bool (F x).isSome) ?_ ?_)
  · simp (config := { maxSteps := 1000000 }) only [tcy_r33, WOR, wants_none', run, evalO_tmp, evalO_const, Rv_eq, Ro_some, ok_zero, true_and, get_putT (d := 8), k17, k106, k107, k108, k19, k9, lkx, mok, exExt_0, exExt_1, Nat.reducePow, Nat.reduceLT, Nat.reduceEqDiff, if_false, reduceIte, and_true]
    intro j hj
    simp (disch := omega) only [putT_ne (d := 8)]
    exact ke3 j hj
  rintro t4 ⟨ke4, n17, n106, n107, n108, n20, n21⟩
  refine WK.seq (WK.reg_rr _ (r34_ok n17 n20 n21) ?_)
  rintro t5 ⟨h127, lo5⟩
  have ke5 : Ke t0 t5 := fun j hj => (lo5 j (by omega)).trans (ke4 j hj)
  have j17 := (lo5 17 (by omega)).trans n17
  have j106 := (lo5 106 (by omega)).trans n106
  have j107 := (lo5 107 (by omega)).trans n107
  have j108 := (lo5 108 (by omega)).trans n108
  have j20 := (lo5 20 (by omega)).trans n20
  have hS := hW.step (x := x)
  rw [← htk] at hS
  have hwr : wrapF .i64 ((i : Int) + 1) = ((i + 1 : Nat) : Int) := by rw [wrapF_i64 (by omega) (by omega)]; omega
  have nxt : ∀ (t8 : T Value) (w8 : Int), Ke t0 t8 → t8.get 17 = .int .i64 w8 → t8.get 106 = v → t8.get 107 = vI l.length → t8.get 108 = vI i → WayI F (l.take (i + 1)) w8 →
      WK Tb0 sp e cx6 (.reg tcy_r36) t8 ds H (fun x_1 t1 ds1 H1 => match x_1 with
        | .normal => ∃ m, m < l.length - i ∧ ds1 = ds ∧ H1 = H ∧ ∃ (i : Nat) (w : Int), m = l.length - i ∧ i ≤ l.length ∧ Ke t0 t1 ∧ t1.get 17 = .int .i64 w ∧ t1.get 106 = v ∧ t1.get 107 = vI l.length ∧ t1.get 108 = vI i ∧ WayI F (l.take i) w
        | y => inBl 8 K y t1 ds1 H1) := by
    intro t8 w8 kk x17 x106 x107 x108 hW8
    refine WK.reg_rr (fun t' => Ke t0 t' ∧ t'.get 17 = .int .i64 w8 ∧ t'.get 106 = v ∧ t'.get 107 = vI l.length ∧ t'.get 108 = vI (i + 1 : Nat)) ?_ ?_
    · simp (config := { maxSteps := 1000000 }) only [tcy_r36, WOR, wants_none', run, evalO_tmp, evalO_const, Rv_eq, Ro_some, ok_zero, true_and, get_putT (d := 8), x17, x106, x107, x108, binV_add, hwr, Nat.reducePow, Nat.reduceLT, Nat.reduceEqDiff, if_false, reduceIte, and_true]
      intro j hj
      simp (disch := omega) only [putT_ne (d := 8)]
      exact kk j hj
    rintro t9 ⟨kk9, y17, y106, y107, y108⟩
    exact ⟨l.length - (i + 1), by omega, rfl, rfl, i + 1, w8, rfl, by omega, kk9, y17, y106, y107, y108, hW8⟩
  cases hn : nearer F w x with
  | false =>
    rw [hn] at h127 hS
    refine WK.cond (v := false) (by rw [evalO_tmp, h127]; rfl) (WK.skip ?_)
    exact nxt t5 w ke5 j17 j106 j107 j108 hS
  | true =>
    rw [hn, if_pos rfl] at hS
    rw [hn] at h127
    refine WK.cond (v := true) (by rw [evalO_tmp, h127]; rfl) ?_
    refine WK.reg_rr (fun t' => Ke t0 t' ∧ t'.get 17 = vI ((F x).getD 0 : Nat) ∧ t'.get 106 = v ∧ t'.get 107 = vI l.length ∧ t'.get 108 = vI i) ?_ ?_
    · simp (config := { maxSteps := 1000000 }) only [tcy_r35, WOR, wants_none', run, evalO_tmp, evalO_const, Rv_eq, Ro_some, ok_zero, true_and, get_putT (d := 8), j20, j106, j107, j108, Nat.reducePow, Nat.reduceLT, Nat.reduceEqDiff, if_false, reduceIte, and_true]
      intro j hj
      simp (disch := omega) only [putT_ne (d := 8)]
      exact ke5 j hj
    rintro t6 ⟨ke6, y17, y106, y107, y108⟩
    exact nxt t6 _ ke6 y17 y106 y107 y108 hS
end
end Go.Proofs.K25
end
