/-
  A part of the proof that pliantlaw25.TasksCycles returns true and leaves its argument alone. Conditions: those of the card in the last text.
-/
import Derived.Test.YtdaglpleolagnaaGreatDoorG17
set_option linter.unusedSimpArgs false
set_option linter.unusedVariables false

noncomputable section
set_option linter.unusedSimpArgs false
set_option linter.unusedVariables false
namespace Go.Proofs.K25
open Go Go.Ev Go.Proofs Go.Cyc
section
variable {sp : Nat → List Value → Hp → Option (Value × Hp × Nat × Nat)} {e : Env}
abbrev spSort (args : List Value) (H : Hp) : Option (Value × Hp × Nat × Nat) := spOr (spRow sortI (fun _ _ _ _ => U) args H) (spNil (fun _ => U) args H)
abbrev spComp (args : List Value) (H : Hp) : Option (Value × Hp × Nat × Nat) := spOr (spRow compI (fun b o c zs => .slice (some ⟨b, o, none⟩) (Lib.compact zs).length c) args H) (spNil (fun c => .slice none 0 c) args H)
theorem ok_rw {H : Hp} {b : Nat} (hb : b < H.nx) (hn : e.n0 ≤ b) : e.ok (bit b) (bit b) H := by
  refine ⟨fun c hc hh => ?_, fun c hc hh => ?_, fun c hh => ?_⟩
  · have := (bit_iff b c).1 hh; omega
  · have := (bit_iff b c).1 hh; omega
  · rcases hh with hh | hh <;> (have := (bit_iff b c).1 hh; omega)
theorem own_row {N : Nat} {H : Hp} {b : Nat} {v : Value} {zs : List Int} (h : Own N 3 H b v (zs.map vI)) : ∃ op c, Row H b 3 op (zs.map vI) ∧ v = .slice (some ⟨b, 0, none⟩) zs.length c ∧ zs.length ≤ c / 2 ∧
    ∀ H' (L : List Int), L.length = zs.length → Row H' b 3 op (L.map vI) → Own N 3 H' b v (L.map vI) := by
  rcases h.form with ⟨h1, h2⟩ | ⟨h1, h2⟩
  · rw [List.length_map] at h2
    exact ⟨0, _, h1, h2, by omega, fun H' L hl hr => ⟨h.ge, .inl ⟨hr, by rw [List.length_map, hl]; exact h2⟩⟩⟩
  · rw [List.length_map] at h2
    exact ⟨2, _, h1, h2, by omega, fun H' L hl hr => ⟨h.ge, .inr ⟨hr, by rw [List.length_map, hl]; exact h2⟩⟩⟩
theorem sort_ec (h21 : ∀ args H, sp 21 args H = spSort args H) {N : Nat} {H : Hp} {bo : Option Nat} {v : Value} {zs : List Int} (hf : H.isFn = true) (he : e.n0 ≤ N) (ho : OwnO N 3 H bo v (zs.map vI)) (hlen : zs.length < 4611686018427387904) :
    EC Tb0 sp e 21 [v] H fun _ H' => H'.isFn = true ∧ H'.nx = H.nx ∧ (∀ c, bo ≠ some c → H'.blk c = H.blk c) ∧ OwnO N 3 H' bo v ((sortI zs).map vI) := by
  rcases ho with ⟨rfl, rfl, h3⟩ | ⟨b, rfl, ho⟩
  · have : zs = [] := by simpa using h3
    subst this
    exact EC.of_sp (v := U) (by rw [h21]; rfl) (.zero _ _) (Nat.le_refl _) ⟨hf, rfl, fun _ _ => rfl, .inl ⟨rfl, rfl, by simp [sortI]⟩⟩
  · obtain ⟨op, c, h1, rfl, h3, h4⟩ := own_row ho
    obtain ⟨H', k1, k2, k3, k4, k5⟩ := spRow_row (rv := fun _ _ _ _ => U) sortI_len (fn_wf hf) h1 hlen h3
    refine EC.of_sp (by rw [h21]; show spOr _ _ = _; rw [k1]; rfl) (ok_rw (by rw [k3]; exact ho.lt) (by have := ho.ge; omega)) (by rw [k3]; exact Nat.le_refl _) ⟨k5.trans hf, k3, fun c hc => k4 c (fun h => hc (by rw [h])), .inr ⟨b, rfl, h4 _ _ (sortI_len zs) k2⟩⟩
theorem comp_ec (h22 : ∀ args H, sp 22 args H = spComp args H) {N : Nat} {H : Hp} {bo : Option Nat} {v : Value} {zs : List Int} (hf : H.isFn = true) (he : e.n0 ≤ N) (ho : OwnO N 3 H bo v (zs.map vI)) (hlen : zs.length < 4611686018427387904) :
    EC Tb0 sp e 22 [v] H fun r H' => H'.isFn = true ∧ H'.nx = H.nx ∧ (∀ c, bo ≠ some c → H'.blk c = H.blk c) ∧ PreR e H' r (Lib.compact zs) := by
  rcases ho with ⟨rfl, rfl, h3⟩ | ⟨b, rfl, ho⟩
  · have : zs = [] := by simpa using h3
    subst this
    exact EC.of_sp (v := .slice none 0 0) (by rw [h22]; rfl) (.zero _ _) (Nat.le_refl _) ⟨hf, rfl, fun _ _ => rfl, .inl ⟨_, _, rfl, rfl⟩⟩
  · obtain ⟨op, c, h1, rfl, h3, h4⟩ := own_row ho
    obtain ⟨H', k1, k2, k3, k4, k5⟩ := spRow_row (rv := fun b o c zs => .slice (some ⟨b, o, none⟩) (Lib.compact zs).length c) compI_len (fn_wf hf) h1 hlen h3
    refine EC.of_sp (by rw [h22]; show spOr _ _ = _; rw [k1]; rfl) (ok_rw (by rw [k3]; exact ho.lt) (by have := ho.ge; omega)) (by rw [k3]; exact Nat.le_refl _) ⟨k5.trans hf, k3, fun c hc => k4 c (fun h => hc (by rw [h])), .inr ⟨b, c, op, (List.replicate (zs.length - (Lib.compact zs).length) 0).map vI, rfl, ?_, by have := ho.ge; omega⟩⟩
    rw [← List.map_append]; exact k2
def CycleT (H0 : Hp) (ws : Ws) (v : Value) (H : Hp) : Prop := Kept H0 H ∧ ∃ out, NumsAt H0.nx H v out ∧ IsCyc ws out ∧ out.length ≤ ws.length + 1
set_option maxRecDepth 10000 in
set_option maxHeartbeats 4000000 in
theorem tcycle_ok (h6 : ∀ args H, sp 6 args H = none) (h21 : ∀ args H, sp 21 args H = spSort args H) (h22 : ∀ args H, sp 22 args H = spComp args H) {H : Hp} {v0 : Value} {ws : Ws} (hf : H.isFn = true) (he : e.n0 ≤ H.nx) (hpw : PairsR e H v0 ws) (hwl : ws.length < 1099511627776) :
    EC Tb0 sp e 6 [v0] H (CycleT H ws) := by
  refine EC.intro (fn := Tryz.f6) (c := tcy_body) (h6 _ _) (by rfl) tcy_some tcy_comp (by show 1 ≤ 177; decide) ?_
  have g0 : (enterT Tryz.f6 [v0]).get 0 = v0 := by rw [enterT_get (by show 1 ≤ 177; decide) (by show 0 < 177; decide)]; rfl
  revert g0
  generalize enterT Tryz.f6 [v0] = t0
  intro g0
  show WK Tb0 sp e cx6 tcy_k t0 [] H _
  unfold tcy_k
  refine WK.seq (WK.reg_rr (fun t' => t'.get 0 = v0) ?_ ?_)
  · simp (config := { maxSteps := 1000000 }) only [tcy_r0, WOR, wants_none', run, evalO_const, Rv_eq, ok_zero, true_and, get_putT (d := 8), g0, Nat.reducePow, Nat.reduceLT, Nat.reduceEqDiff, reduceIte]
  intro t1 g0
  have hmnew : MapI (H.push (.obj (.map #[] 0))) H.nx [] := ⟨0, by rw [blk_push _ (fn_room hf), if_pos rfl], fun x hx => by simp at hx⟩
  have hf1 : (H.push (.obj (.map #[] 0))).isFn = true := by rw [isFn_push]; exact hf
  have hnx1 : (H.push (.obj (.map #[] 0))).nx = H.nx + 1 := nx_push _ _
  have hold1 : ∀ c, c < H.nx → (H.push (.obj (.map #[] 0))).blk c = H.blk c := fun c hc => blk_push_old (fn_room hf) _ hc
  have hal := alloc_map hf
  revert hmnew hf1 hnx1 hold1 hal
  generalize H.push (.obj (.map #[] 0)) = H1
  intro hmnew hf1 hnx1 hold1 hal
  refine WK.seq (WK.reg_gg (fun t' H' => H1 = H' ∧ t'.get 0 = v0 ∧ t'.get 3 = .map (some H.nx)) ?_ ?_)
  · simp (config := { maxSteps := 1000000 }) only [tcy_r1, WOG, wants_none', run, evalO_tmp, evalO_const, Rv_eq, Ro_some, ok_zero, true_and, putT_none, get_putT (d := 8), g0, hal, Nat.reducePow, Nat.reduceLT, Nat.reduceEqDiff, reduceIte, Nat.le_refl, and_true]
    omega
  rintro t2 HH ⟨rfl, g0, g3⟩
  refine WK.seq (WK.reg_rr (fun t' => t'.get 0 = v0 ∧ t'.get 3 = .map (some H.nx) ∧ t'.get 4 = nilS) ?_ ?_)
  · simp (config := { maxSteps := 1000000 }) only [tcy_r2, WOR, wants_none', run, evalO_const, Rv_eq, ok_zero, true_and, get_putT (d := 8), g0, g3, Nat.reducePow, Nat.reduceLT, Nat.reduceEqDiff, reduceIte, and_self]
  rintro t3 ⟨g0, g3, g4⟩
  have hk1 : Kept H H1 := ⟨hf1, by omega, hold1⟩
  have hlen := (hpw.of_blk hk1.old).len
  refine WK.seq (WK.seq (WK.reg_rr (fun t' => t'.get 0 = v0 ∧ t'.get 3 = .map (some H.nx) ∧ t'.get 4 = nilS ∧ t'.get 31 = v0 ∧ t'.get 32 = vI ws.length ∧ t'.get 33 = vI (0 : Nat)) ?_ ?_))
  · simp (config := { maxSteps := 1000000 }) only [tcy_r3, WOR, wants_none', run, evalO_tmp, evalO_const, Rv_eq, Ro_some, ok_zero, true_and, get_putT (d := 8), g0, g3, g4, hlen, Nat.reducePow, Nat.reduceLT, Nat.reduceEqDiff, if_false, reduceIte, and_self]
    rfl
  rintro t4 ⟨g0, g3, g4, g31, g32, g33⟩
  refine loop9_ok he hpw hwl ⟨g0, g31, g32, g33, hk1, H.nx, none, ⟨g3, Nat.le_refl _, ⟨[], fun _ => none, hmnew, fun k => OwnO.nil _ _ _, fun k k' b h => (by cases h), fun k b h => (by cases h)⟩, by rw [g4]; exact OwnO.nil _ _ _⟩⟩ ?_
  rintro t5 H5 ⟨g0, _, _, _, hk5, bm, bn, hN⟩
  rw [List.take_length] at hN
  obtain ⟨v4, hv4⟩ : ∃ v4, t5.get 4 = v4 := ⟨_, rfl⟩
  obtain ⟨g3, hbmN, ⟨es, bk, e1, e2, e3, e4⟩, hnodes⟩ := hN
  rw [hv4] at hnodes
  have hf5 := hk5.fn
  have hnx5 := hk5.nx
  have hll : (ws.map (·.1)).length < 4611686018427387904 := by rw [List.length_map]; omega
  have hbnN : ∀ b, bn = some b → H.nx ≤ b := fun b hb => by have := hnodes; rw [hb] at this; exact this.ge
  refine WK.seq (WK.reg_gg (fun t' H' => t'.get 0 = v0 ∧ t'.get 3 = .map (some bm) ∧ t'.get 4 = v4 ∧ H'.isFn = true ∧ H'.nx = H5.nx ∧ (∀ c, bn ≠ some c → H'.blk c = H5.blk c) ∧ OwnO H.nx 3 H' bn v4 ((sortI (ws.map (·.1))).map vI)) ?_ ?_)
  · simp (config := { maxSteps := 1000000 }) only [tcy_r10, WOG, WOGk, wants_none', run, evalO_tmp, evalO_const, evalO_func, evalL, callV_func, Rv_eq, Ro_some, ok_zero, true_and, get_putT (d := 8), hv4, Nat.reducePow, Nat.reduceLT, Nat.reduceEqDiff, reduceIte, Nat.le_refl]
    refine (sort_ec h21 hf5 he hnodes hll).mono fun v H' hle hv => ?_
    simp (config := { maxSteps := 1000000 }) only [WOG, WOGk, wants_none', run, evalO_tmp, Rv_eq, ok_zero, true_and, get_putT (d := 8), g0, g3, hv4, Nat.reducePow, Nat.reduceLT, Nat.reduceEqDiff, reduceIte, Nat.le_refl]
    exact hv
  rintro t6 H6 ⟨g0, g3, g4, hf6, hnx6, hold6, hnodes6⟩
  refine WK.seq (WK.seq (WK.reg_gg (fun t' H' => t'.get 0 = v0 ∧ t'.get 3 = .map (some bm) ∧ H'.isFn = true ∧ H'.nx = H6.nx ∧ (∀ c, bn ≠ some c → H'.blk c = H6.blk c) ∧ PreR e H' (t'.get 57) (Lib.compact (sortI (ws.map (·.1)))) ∧ t'.get 58 = vI (Lib.compact (sortI (ws.map (·.1)))).length ∧ t'.get 59 = vI (0 : Nat)) ?_ ?_))
  · simp (config := { maxSteps := 1000000 }) only [tcy_r11, WOG, WOGk, wants_none', run, evalO_tmp, evalO_const, evalO_func, evalL, callV_func, Rv_eq, Ro_some, ok_zero, true_and, get_putT (d := 8), g4, Nat.reducePow, Nat.reduceLT, Nat.reduceEqDiff, reduceIte, Nat.le_refl]
    refine (comp_ec h22 hf6 he hnodes6 (by rw [sortI_len]; exact hll)).mono fun v H' hle hv => ?_
    obtain ⟨w1, w2, w3, w4⟩ := hv
    have hl := w4.len H'
    simp (config := { maxSteps := 1000000 }) only [WOG, WOGk, wants_none', run, evalO_tmp, evalO_const, Rv_eq, ok_zero, true_and, get_putT (d := 8), g0, g3, hl, Nat.reducePow, Nat.reduceLT, Nat.reduceEqDiff, if_false, reduceIte, Nat.le_refl]
    exact ⟨w1, w2, w3, w4, rfl⟩
  rintro t7 H7 ⟨g0, g3, hf7, hnx7, hold7, hpre, g58, g59⟩
  have hold57 : ∀ c, bn ≠ some c → H7.blk c = H5.blk c := fun c hc => (hold7 c hc).trans (hold6 c hc)
  have hk7 : Kept H H7 := ⟨hf7, by omega, fun c hc => (hold57 c (fun h => by have := hbnN c h; omega)).trans (hk5.old c hc)⟩
  refine loop57_ok he hpw hwl (cs := Lib.compact (sortI (ws.map (·.1)))) (fun x => ?_) (sorted_compact (sorted_sortI _)) ?_ ⟨g0, g3, hk7, hbmN, ⟨es, e1.of_blk (hold57 bm (own_ne_map hnodes e1)), fun k => ?_⟩, hpre, g58, g59, fun k s h => absurd h (by omega)⟩ ?_ ?_
  · rw [mem_compact, mem_sortI, List.mem_map]
    constructor
    · rintro ⟨p, hp, rfl⟩; exact ⟨p.2, hp⟩
    · rintro ⟨y, hy⟩; exact ⟨(x, y), hy, rfl⟩
  · have := Lib.compact_length_le (sortI (ws.map (·.1)))
    rw [sortI_len, List.length_map] at this; exact this
  · exact ((e2 k).of_blk fun b hb _ => hold57 b (fun h => e4 k b hb h)).numsR he
  · intro t' H' v out h2 hk' hn hc hlo
    refine ⟨.inr rfl, rfl, [v], 0, ?_, .zero _ _, hk', out, hn, hc, hlo⟩
    show resL Tb0 177 t' H' [.tmp 2] = _
    simp only [resL, h2]; rfl
  · intro t' H' hk' hc
    refine WK.seq (WK.reg_rr (fun t' => t'.get 2 = nilS) ?_ ?_)
    · simp (config := { maxSteps := 1000000 }) only [tcy_r58, WOR, wants_none', run, evalO_const, Rv_eq, ok_zero, true_and, get_putT (d := 8), Nat.reducePow, Nat.reduceLT, Nat.reduceEqDiff, reduceIte]
    intro t8 h2
    refine WK.ret ⟨.inr rfl, rfl, [nilS], 0, ?_, .zero _ _, hk', [], ⟨.inl ⟨none, 0, rfl, rfl⟩⟩, hc, by simp⟩
    show resL Tb0 177 t8 H' [.tmp 2] = _
    simp only [resL, h2]; rfl
end
end Go.Proofs.K25
end
