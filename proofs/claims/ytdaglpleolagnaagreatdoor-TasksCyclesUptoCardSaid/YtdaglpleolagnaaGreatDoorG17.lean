/-
  A part of the proof that pliantlaw25.TasksCycles returns true and leaves its argument alone. Conditions: those of the card in the last text.
-/
import Derived.Lib.RowBridge
import Derived.Lib.SlicesCompact
import Derived.Sort.Grow
import Derived.Sort.Row
import Derived.Test.YtdaglpleolagnaaGreatDoorG09
import Derived.Test.YtdaglpleolagnaaGreatDoorG13
import Derived.Test.YtdaglpleolagnaaGreatDoorG16
set_option linter.unusedSimpArgs false
set_option linter.unusedVariables false

noncomputable section
set_option linter.unusedSimpArgs false
set_option linter.unusedVariables false
namespace Go.Proofs.K25
open Go Go.Ev Go.Proofs Go.Cyc
/-! ### tasks.Cycle: the way back, by the least number each time -/
/-- the least one of distance w among the first ones -/
def LeastI (F : Int → Option Nat) (w : Nat) (l : List Int) (b : Int) (fd : Bool) : Prop :=
  (fd = false ∧ ∀ x ∈ l, F x ≠ some w) ∨ (fd = true ∧ b ∈ l ∧ F b = some w ∧ ∀ x ∈ l, F x = some w → b ≤ x)
def better (F : Int → Option Nat) (w : Nat) (b : Int) (fd : Bool) (x : Int) : Bool := match F x with
  | none => false
  | some n => decide ((n : Int) = (w : Int)) && (!fd || decide (x < b))
theorem LeastI.step {F : Int → Option Nat} {w : Nat} {l : List Int} {b x : Int} {fd : Bool} (h : LeastI F w l b fd) : LeastI F w (l ++ [x]) (if better F w b fd x = true then x else b) (if better F w b fd x = true then true else fd) := by
  by_cases hx : F x = some w
  · have hb : better F w b fd x = (!fd || decide (x < b)) := by unfold better; rw [hx]; simp
    rw [hb]
    rcases h with ⟨rfl, h2⟩ | ⟨rfl, h1, h2, h3⟩
    · refine .inr ⟨by simp, by simp, by simp [hx], fun z hz hm => ?_⟩
      rcases List.mem_append.1 hz with hz | hz
      · exact absurd hm (h2 z hz)
      · simp at hz; subst hz; simp
    · by_cases hlt : x < b
      · have : (!true || decide (x < b)) = true := by simp [hlt]
        rw [if_pos this, if_pos this]
        refine .inr ⟨rfl, by simp, hx, fun z hz hm => ?_⟩
        rcases List.mem_append.1 hz with hz | hz
        · have := h3 z hz hm; omega
        · simp at hz; subst hz; exact Int.le_refl _
      · have : ¬ ((!true || decide (x < b)) = true) := by simp; omega
        rw [if_neg this, if_neg this]
        refine .inr ⟨rfl, List.mem_append.2 (.inl h1), h2, fun z hz hm => ?_⟩
        rcases List.mem_append.1 hz with hz | hz
        · exact h3 z hz hm
        · simp at hz; subst hz; omega
  · have hb : better F w b fd x = false := by
      unfold better
      cases hn : F x with
      | none => rfl
      | some n =>
        have : ¬ ((n : Int) = (w : Int)) := fun e => hx (by rw [hn]; congr 1; omega)
        simp [this]
    rw [hb]
    simp only [Bool.false_eq_true, if_false]
    rcases h with ⟨rfl, h2⟩ | ⟨rfl, h1, h2, h3⟩
    · refine .inl ⟨rfl, fun z hz => ?_⟩
      rcases List.mem_append.1 hz with hz | hz
      · exact h2 z hz
      · simp at hz; subst hz; exact hx
    · refine .inr ⟨rfl, List.mem_append.2 (.inl h1), h2, fun z hz hm => ?_⟩
      rcases List.mem_append.1 hz with hz | hz
      · exact h3 z hz hm
      · simp at hz; subst hz; exact absurd hm hx
section
variable {sp : Nat → List Value → Hp → Option (Value × Hp × Nat × Nat)} {e : Env}
set_option maxRecDepth 10000 in
set_option maxHeartbeats 4000000 in
theorem r47_ok {H : Hp} {t : T Value} {F : Int → Option Nat} {w : Nat} {b x : Int} {fd : Bool} (g17 : t.get 17 = vI w) (g24 : t.get 24 = .int .i64 b) (g25 : t.get 25 = .bool fd) (g27 : t.get 27 = .int .i64 x) (g28 : t.get 28 = vI ((F x).getD 0 : Nat)) (g29 : t.get 29 = .bool (F x).isSome) :
    WOR e 8 H (fun t' => t'.get 167 = .bool (better F w b fd x) ∧ Lo 153 t t') tcy_r47 t := by
  cases hv : F x with
  | none =>
    have hu : better F w b fd x = false := by unfold better; rw [hv]
    rw [hu]
    rw [hv] at g29
    have g29' : t.get 29 = .bool false := g29
    simp (config := { maxSteps := 1000000 }) only [tcy_r47, WOR, wants_none', run, evalO_tmp, evalO_const, Rv_eq, Ro_some, ok_zero, true_and, get_putT (d := 8), g29', wants_some, wantsV_U, wantsV_tt, wantsV_tf, wantsV_ft, wantsV_ff, exPick_t, exPick_f, Nat.reducePow, Nat.reduceLT, Nat.reduceEqDiff, if_false, reduceIte]
    intro j hj
    simp (disch := omega) only [putT_lo (d := 8)]
  | some n =>
    rw [hv] at g28 g29
    have g28' : t.get 28 = .int .i64 (n : Int) := g28
    have g29' : t.get 29 = .bool true := g29
    have g17' : t.get 17 = .int .i64 (w : Int) := g17
    have hu : better F w b fd x = (decide ((n : Int) = (w : Int)) && (!fd || decide (x < b))) := by unfold better; rw [hv]
    rw [hu]
    by_cases hw : (n : Int) = (w : Int)
    · have hd : decide ((n : Int) = (w : Int)) = true := decide_eq_true hw
      cases fd with
      | false =>
        simp (config := { maxSteps := 1000000 }) only [tcy_r47, WOR, wants_none', run, evalO_tmp, evalO_const, Rv_eq, Ro_some, ok_zero, true_and, get_putT (d := 8), g17', g24, g25, g27, g28', g29', exEq_int, hd, Bc_f, Bc_t, exUn_not, Bool.not_false, Bool.not_true, Bool.true_and, Bool.true_or, wants_some, wantsV_U, wantsV_tt, wantsV_tf, wantsV_ft, wantsV_ff, exPick_t, exPick_f, Nat.reducePow, Nat.reduceLT, Nat.reduceEqDiff, if_false, reduceIte]
        intro j hj
        simp (disch := omega) only [putT_lo (d := 8)]
      | true =>
        simp (config := { maxSteps := 1000000 }) only [tcy_r47, WOR, wants_none', run, evalO_tmp, evalO_const, Rv_eq, Ro_some, ok_zero, true_and, get_putT (d := 8), g17', g24, g25, g27, g28', g29', exEq_int, hd, Bc_f, Bc_t, exUn_not, Bool.not_false, Bool.not_true, Bool.true_and, Bool.false_or, binV_lss, wants_some, wantsV_U, wantsV_tt, wantsV_tf, wantsV_ft, wantsV_ff, exPick_t, exPick_f, Nat.reducePow, Nat.reduceLT, Nat.reduceEqDiff, if_false, reduceIte]
        intro j hj
        simp (disch := omega) only [putT_lo (d := 8)]
    · have hd : decide ((n : Int) = (w : Int)) = false := decide_eq_false hw
      simp (config := { maxSteps := 1000000 }) only [tcy_r47, WOR, wants_none', run, evalO_tmp, evalO_const, Rv_eq, Ro_some, ok_zero, true_and, get_putT (d := 8), g17', g24, g25, g27, g28', g29', exEq_int, hd, Bc_f, Bc_t, exUn_not, Bool.not_false, Bool.not_true, Bool.false_and, wants_some, wantsV_U, wantsV_tt, wantsV_tf, wantsV_ft, wantsV_ff, exPick_t, exPick_f, Nat.reducePow, Nat.reduceLT, Nat.reduceEqDiff, if_false, reduceIte]
      intro j hj
      simp (disch := omega) only [putT_lo (d := 8)]
/-- registers that the loop within keeps -/
def Kf (t t' : T Value) : Prop := ∀ j, (j < 10 ∨ j = 17 ∨ j = 22 ∨ j = 23 ∨ (57 ≤ j ∧ j < 60)) → t'.get j = t.get j
theorem Kf.ke {t t' : T Value} (h : Kf t t') : Ke t t' := fun j hj => h j (by omega)
set_option maxRecDepth 10000 in
set_option maxHeartbeats 4000000 in
theorem loop50_ok {H : Hp} {t0 t : T Value} {ds : List Deferred} {v : Value} {ws : Ws} {s : Int} {l : List Int} {w bf : Nat} {es : List MapEntry} {F : Int → Option Nat} {c : Code} {K : Ex → T Value → List Deferred → Hp → Prop} (hV : NumsR e H v l) (hll : l.length < 1099511627776)
    (hm : MapI H bf es) (hF : FarI ws s es F) (hbf : e.n0 ≤ bf) (h9 : t0.get 9 = .map (some bf)) (h17 : t0.get 17 = vI w) (hke : Kf t0 t) (g24 : t.get 24 = .int .i64 0) (g25 : t.get 25 = .bool false) (g141 : t.get 141 = v) (g142 : t.get 142 = vI l.length) (g143 : t.get 143 = vI (0 : Nat))
    (hK : ∀ t' b fd, Kf t0 t' → t'.get 24 = .int .i64 b → LeastI F w l b fd → K .normal t' ds H) : WK Tb0 sp e cx6 (.block 12 (.loop c tcy_l50)) t ds H K := by
  refine WK.block (WK.loop_ind (fun n t' ds' H' => ds' = ds ∧ H' = H ∧ ∃ (i : Nat) (b : Int) (fd : Bool), n = l.length - i ∧ i ≤ l.length ∧ Kf t0 t' ∧ t'.get 24 = .int .i64 b ∧ t'.get 25 = .bool fd ∧ t'.get 141 = v ∧ t'.get 142 = vI l.length ∧ t'.get 143 = vI i ∧ LeastI F w (l.take i) b fd) ?_ l.length t ds H ⟨rfl, rfl, 0, 0, false, by omega, by omega, hke, g24, g25, g141, g142, g143, .inl ⟨rfl, fun x hx => by simp at hx⟩⟩)
  clear hke g24 g25 g141 g142 g143
  rintro n t1 ds H ⟨rfl, rfl, i, b, fd, rfl, hi, hke, g24, g25, g141, g142, g143, hW⟩
  unfold tcy_l50
  refine WK.seq (WK.reg_rr (fun t' => t'.get 144 = .bool (decide ((i : Int) < (l.length : Int))) ∧ Lo 144 t1 t') ?_ ?_)
  · simp (config := { maxSteps := 1000000 }) only [tcy_r44, WOR, wants_none', run, evalO_tmp, evalO_const, Rv_eq, Ro_some, ok_zero, true_and, get_putT (d := 8), g142, g143, binV_lss, Nat.reducePow, Nat.reduceLT, Nat.reduceEqDiff, if_false, reduceIte]
    intro j hj
    simp (disch := omega) only [putT_lo (d := 8)]
  rintro t2 ⟨h144, hlo⟩
  have ke2 : Kf t0 t2 := fun j hj => (hlo j (by omega)).trans (hke j hj)
  have f24 := (hlo 24 (by omega)).trans g24
  have f25 := (hlo 25 (by omega)).trans g25
  have f141 := (hlo 141 (by omega)).trans g141
  have f142 := (hlo 142 (by omega)).trans g142
  have f143 := (hlo 143 (by omega)).trans g143
  by_cases hlt : i < l.length
  case neg =>
    have : i = l.length := by omega
    subst this
    refine WK.seq (WK.cond (v := false) (by rw [evalO_tmp, h144, decide_eq_false (by omega)]; rfl) (WK.exit ?_))
    rw [List.take_length] at hW
    exact hK t2 b fd ke2 f24 hW
  refine WK.seq (WK.cond (v := true) (by rw [evalO_tmp, h144, decide_eq_true (by omega)]; rfl) (WK.skip ?_))
  obtain ⟨x, hx⟩ : ∃ x, l[i]? = some x := ⟨l[i], by simp [hlt]⟩
  have htk : l.take (i + 1) = l.take i ++ [x] := by rw [List.take_add_one, hx]; rfl
  obtain ⟨b1, m1, m2, m3⟩ := hV.read hx
  have hltm := hm.alive.1
  have mok : e.ok (bit bf) 0 H := .fresh (by omega) hbf
  have lkx := lkp_t hm (.int .i64 0) x
  rw [hF.getD, hF.isSome] at lkx
  refine WK.seq (WK.block (WK.seq (WK.reg_rr (fun t' => Kf t0 t' ∧ t'.get 24 = .int .i64 b ∧ t'.get 25 = .bool fd ∧ t'.get 141 = v ∧ t'.get 142 = vI l.length ∧ t'.get 143 = vI i ∧ t'.get 27 = vI x) ?_ ?_)))
  · simp (config := { maxSteps := 1000000 }) only [tcy_r45, WOR, wants_none', run, evalO_tmp, evalO_const, Rv_eq, Ro_some, ok_zero, true_and, get_putT (d := 8), f24, f25, f141, f142, f143, m1, m2, m3, Nat.reducePow, Nat.reduceLT, Nat.reduceEqDiff, if_false, reduceIte, and_true]
    intro j hj
    simp (disch := omega) only [putT_ne (d := 8)]
    exact ke2 j hj
  rintro t3 ⟨ke3, k24, k25, k141, k142, k143, k27⟩
  have k9 := (ke3 9 (by omega)).trans h9
  refine WK.seq (WK.reg_rr (fun t' => Kf t0 t' ∧ t'.get 24 = .int .i64 b ∧ t'.get 25 = .bool fd ∧ t'.get 141 = v ∧ t'.get 142 = vI l.length ∧ t'.get 143 = vI i ∧ t'.get 27 = vI x ∧ t'.get 28 = vI ((F x).getD 0 : Nat) ∧ t'.get 29 = .bool (F x).isSome) ?_ ?_)
  · simp (config := { maxSteps := 1000000 }) only [tcy_r46, WOR, wants_none', run, evalO_tmp, evalO_const, Rv_eq, Ro_some, ok_zero, true_and, get_putT (d := 8), k24, k25, k141, k142, k143, k27, k9, lkx, mok, exExt_0, exExt_1, Nat.reducePow, Nat.reduceLT, Nat.reduceEqDiff, if_false, reduceIte, and_true]
    intro j hj
    simp (disch := omega) only [putT_ne (d := 8)]
    exact ke3 j hj
  rintro t4 ⟨ke4, n24, n25, n141, n142, n143, n27, n28, n29⟩
  have n17 := (ke4 17 (by omega)).trans h17
  refine WK.seq (WK.reg_rr _ (r47_ok n17 n24 n25 n27 n28 n29) ?_)
  rintro t5 ⟨h167, lo5⟩
  have ke5 : Kf t0 t5 := fun j hj => (lo5 j (by omega)).trans (ke4 j hj)
  have j24 := (lo5 24 (by omega)).trans n24
  have j25 := (lo5 25 (by omega)).trans n25
  have j27 := (lo5 27 (by omega)).trans n27
  have j141 := (lo5 141 (by omega)).trans n141
  have j142 := (lo5 142 (by omega)).trans n142
  have j143 := (lo5 143 (by omega)).trans n143
  have hS := hW.step (x := x)
  rw [← htk] at hS
  have hwr : wrapF .i64 ((i : Int) + 1) = ((i + 1 : Nat) : Int) := by rw [wrapF_i64 (by omega) (by omega)]; omega
  have nxt : ∀ (t8 : T Value) (b8 : Int) (fd8 : Bool), Kf t0 t8 → t8.get 24 = .int .i64 b8 → t8.get 25 = .bool fd8 → t8.get 141 = v → t8.get 142 = vI l.length → t8.get 143 = vI i → LeastI F w (l.take (i + 1)) b8 fd8 →
      WK Tb0 sp e cx6 (.reg tcy_r49) t8 ds H (fun x_1 t1 ds1 H1 => match x_1 with
        | .normal => ∃ m, m < l.length - i ∧ ds1 = ds ∧ H1 = H ∧ ∃ (i : Nat) (b : Int) (fd : Bool), m = l.length - i ∧ i ≤ l.length ∧ Kf t0 t1 ∧ t1.get 24 = .int .i64 b ∧ t1.get 25 = .bool fd ∧ t1.get 141 = v ∧ t1.get 142 = vI l.length ∧ t1.get 143 = vI i ∧ LeastI F w (l.take i) b fd
        | y => inBl 12 K y t1 ds1 H1) := by
    intro t8 b8 fd8 kk x24 x25 x141 x142 x143 hW8
    refine WK.reg_rr (fun t' => Kf t0 t' ∧ t'.get 24 = .int .i64 b8 ∧ t'.get 25 = .bool fd8 ∧ t'.get 141 = v ∧ t'.get 142 = vI l.length ∧ t'.get 143 = vI (i + 1 : Nat)) ?_ ?_
    · simp (config := { maxSteps := 1000000 }) only [tcy_r49, WOR, wants_none', run, evalO_tmp, evalO_const, Rv_eq, Ro_some, ok_zero, true_and, get_putT (d := 8), x24, x25, x141, x142, x143, binV_add, hwr, Nat.reducePow, Nat.reduceLT, Nat.reduceEqDiff, if_false, reduceIte, and_true]
      intro j hj
      simp (disch := omega) only [putT_ne (d := 8)]
      exact kk j hj
    rintro t9 ⟨kk9, y24, y25, y141, y142, y143⟩
    exact ⟨l.length - (i + 1), by omega, rfl, rfl, i + 1, b8, fd8, rfl, by omega, kk9, y24, y25, y141, y142, y143, hW8⟩
  cases hn : better F w b fd x with
  | false =>
    rw [hn] at h167 hS
    refine WK.cond (v := false) (by rw [evalO_tmp, h167]; rfl) (WK.skip ?_)
    exact nxt t5 b fd ke5 j24 j25 j141 j142 j143 hS
  | true =>
    rw [hn, if_pos rfl, if_pos rfl] at hS
    rw [hn] at h167
    refine WK.cond (v := true) (by rw [evalO_tmp, h167]; rfl) ?_
    refine WK.reg_rr (fun t' => Kf t0 t' ∧ t'.get 24 = .int .i64 x ∧ t'.get 25 = .bool true ∧ t'.get 141 = v ∧ t'.get 142 = vI l.length ∧ t'.get 143 = vI i) ?_ ?_
    · simp (config := { maxSteps := 1000000 }) only [tcy_r48, WOR, wants_none', run, evalO_tmp, evalO_const, Rv_eq, Ro_some, ok_zero, true_and, get_putT (d := 8), j27, j141, j142, j143, Nat.reducePow, Nat.reduceLT, Nat.reduceEqDiff, if_false, reduceIte, and_true]
      intro j hj
      simp (disch := omega) only [putT_ne (d := 8)]
      exact ke5 j hj
    rintro t6 ⟨ke6, y24, y25, y141, y142, y143⟩
    exact nxt t6 x true ke6 y24 y25 y141 y142 y143 hS
/-- the state at the head of the loop over the way -/
structure L54 (H0 : Hp) (t0 : T Value) (ws : Ws) (s : Int) (F : Int → Option Nat) (d bf n : Nat) (t : T Value) (H : Hp) : Prop where
  ke : Ke t0 t
  g17 : t.get 17 = vI n
  kept : Kept H0 H
  far : ∃ es, MapI H bf es ∧ FarI ws s es F
  st : ∃ (u : Int) (done : List Int) (b : Nat), t.get 23 = vI u ∧ done.length + n = d ∧ OwnO H0.nx 3 H (some b) (t.get 22) ((s :: done).map vI) ∧ (∃ v, (u, v) ∈ ws ∧ F v = some n) ∧ ∀ l, Greedy ws F u n l → Greedy ws F s d (done ++ l)
set_option maxRecDepth 10000 in
set_option maxHeartbeats 4000000 in
theorem loop54_ok {H0 H : Hp} {t0 t : T Value} {ds : List Deferred} {ws : Ws} {s : Int} {bf bm d : Nat} {esn : List MapEntry} {F : Int → Option Nat} {c : Code} {K : Ex → T Value → List Deferred → Hp → Prop} (he : e.n0 ≤ H0.nx) (hwl : ws.length < 1099511627776)
    (hbf : H0.nx ≤ bf) (hbm : e.n0 ≤ bm) (h3 : t0.get 3 = .map (some bm)) (h9 : t0.get 9 = .map (some bf)) (hnm : MapI H0 bm esn) (hnx : ∀ k, NumsR e H0 ((mapF esn k).getD nilS) (succs ws k))
    (hFar : Far ws s F) (hd : d ≤ ws.length) (hL : L54 H0 t0 ws s F d bf d t H)
    (hK : ∀ t' H' b done, Ke t0 t' → Kept H0 H' → OwnO H0.nx 3 H' (some b) (t'.get 22) ((s :: done).map vI) → Greedy ws F s d done → K .normal t' ds H') : WK Tb0 sp e cx6 (.block 10 (.loop c tcy_l54)) t ds H K := by
  refine WK.block (WK.loop_ind (fun n t' ds' H' => ds' = ds ∧ L54 H0 t0 ws s F d bf n t' H') ?_ d t ds H ⟨rfl, hL⟩)
  rintro n t1 ds H ⟨rfl, ⟨hke, g17, hkept, ⟨es, hm, hF⟩, u, done, b, g23, hlen, hown, hv, hG⟩⟩
  unfold tcy_l54
  have hnx0 := hkept.nx
  have hf := hkept.fn
  refine WK.seq (WK.seq (WK.reg_rr (fun t' => t'.get 136 = .bool (decide ((0 : Int) < (n : Int))) ∧ Lo 135 t1 t') ?_ ?_))
  · simp (config := { maxSteps := 1000000 }) only [tcy_r41, WOR, wants_none', run, evalO_tmp, evalO_const, Rv_eq, Ro_some, ok_zero, true_and, get_putT (d := 8), g17, binV_gtr, Nat.reducePow, Nat.reduceLT, Nat.reduceEqDiff, if_false, reduceIte]
    intro j hj
    simp (disch := omega) only [putT_lo (d := 8)]
  rintro t2 ⟨h136, hlo⟩
  have ke2 : Ke t0 t2 := fun j hj => (hlo j (by omega)).trans (hke j hj)
  have f17 := (hlo 17 (by omega)).trans g17
  have f23 := (hlo 23 (by omega)).trans g23
  have f22 := hlo 22 (by omega)
  rw [← f22] at hown
  by_cases hpos : 0 < n
  case neg =>
    have : n = 0 := by omega
    subst this
    refine WK.cond (v := false) (by rw [evalO_tmp, h136, decide_eq_false (by omega)]; rfl) (WK.exit ?_)
    have := hG [] (.nil u)
    rw [List.append_nil] at this
    exact hK t2 H b done ke2 hkept hown this
  refine WK.cond (v := true) (by rw [evalO_tmp, h136, decide_eq_true (by omega)]; rfl) (WK.skip ?_)
  -- the list behind u
  have hnm' : MapI H bm esn := hnm.of_blk (hkept.old bm hnm.alive.1)
  have hltm : bm < H.nx := hnm'.alive.1
  have hV : NumsR e H ((mapF esn u).getD nilS) (succs ws u) := by
    have h := hnx u
    revert h
    generalize (mapF esn u).getD nilS = V
    generalize succs ws u = L
    intro h
    cases h with
    | nil c a => exact .nil c a
    | inRow b c ty op L h1 h2 => exact .inRow b c ty op L (h1.of_blk (hkept.old b h1.lt)) h2
  obtain ⟨V, hVe⟩ : ∃ V, (mapF esn u).getD nilS = V := ⟨_, rfl⟩
  have lku := lkp_f hnm' nilS u
  rw [hVe] at lku hV
  have hVl := hV.len
  have mok : e.ok (bit bm) 0 H := .fresh (by omega) hbm
  refine WK.seq (WK.block (WK.seq (WK.reg_rr (fun t' => Kf t2 t' ∧ t'.get 24 = .int .i64 0 ∧ t'.get 25 = .bool false) ?_ ?_)))
  · simp (config := { maxSteps := 1000000 }) only [tcy_r42, WOR, wants_none', run, evalO_tmp, evalO_const, Rv_eq, Ro_some, ok_zero, true_and, get_putT (d := 8), Nat.reducePow, Nat.reduceLT, Nat.reduceEqDiff, if_false, reduceIte, and_true]
    intro j hj
    simp (disch := omega) only [putT_ne (d := 8)]
  rintro t3 ⟨kf3, k24, k25⟩
  have k3 : t3.get 3 = .map (some bm) := ((kf3 3 (by omega)).trans (ke2 3 (by omega))).trans h3
  have k23 := (kf3 23 (by omega)).trans f23
  refine WK.seq (WK.seq (WK.reg_rr (fun t' => Kf t2 t' ∧ t'.get 24 = .int .i64 0 ∧ t'.get 25 = .bool false ∧ t'.get 141 = V ∧ t'.get 142 = vI (succs ws u).length ∧ t'.get 143 = vI (0 : Nat)) ?_ ?_))
  · simp (config := { maxSteps := 1000000 }) only [tcy_r43, WOR, wants_none', run, evalO_tmp, evalO_const, Rv_eq, Ro_some, ok_zero, true_and, get_putT (d := 8), k3, k23, k24, k25, lku, hVl, mok, Nat.reducePow, Nat.reduceLT, Nat.reduceEqDiff, if_false, reduceIte, and_true]
    refine ⟨fun j hj => ?_, rfl⟩
    simp (disch := omega) only [putT_ne (d := 8)]
    exact kf3 j hj
  rintro t4 ⟨kf4, n24, n25, n141, n142, n143⟩
  refine loop50_ok (t0 := t2) (w := n) hV (by have := sucs_le ws u; omega) hm hF (by omega) ((ke2 9 (by omega)).trans h9) f17 kf4 n24 n25 n141 n142 n143 ?_
  intro t5 x fd kf5 j24 hX
  have hxx : (u, x) ∈ ws ∧ F x = some n ∧ ∀ y, (u, y) ∈ ws → F y = some n → x ≤ y := by
    obtain ⟨v, hv1, hv2⟩ := hv
    rcases hX with ⟨_, h1⟩ | ⟨_, h1, h2, h3⟩
    · exact absurd hv2 (h1 v (mem_succs.2 hv1))
    · exact ⟨mem_succs.1 h1, h2, fun y hy => h3 y (mem_succs.2 hy)⟩
  obtain ⟨hx1, hx2, hx3⟩ := hxx
  refine WK.seq (WK.reg_rr (fun t' => Ke t2 t' ∧ t'.get 17 = vI n ∧ t'.get 22 = t2.get 22 ∧ t'.get 23 = vI x) ?_ ?_)
  · have q17 := (kf5 17 (by omega)).trans f17
    have q22 := kf5 22 (by omega)
    simp (config := { maxSteps := 1000000 }) only [tcy_r51, WOR, wants_none', run, evalO_tmp, evalO_const, Rv_eq, Ro_some, ok_zero, true_and, get_putT (d := 8), j24, q17, q22, Nat.reducePow, Nat.reduceLT, Nat.reduceEqDiff, if_false, reduceIte, and_true]
    intro j hj
    simp (disch := omega) only [putT_ne (d := 8)]
    exact kf5.ke j hj
  rintro t6 ⟨ke6, i17, i22, i23⟩
  -- the list grows
  have hltf : bf < H.nx := hm.alive.1
  have hrow5 : Row (H.push (blkL [vI x] 3 0)) H.nx 3 0 [vI x] := row_push (fn_room hf) _ _ _
  have hf5 : (H.push (blkL [vI x] 3 0)).isFn = true := by rw [isFn_push]; exact hf
  have hnx5 : (H.push (blkL [vI x] 3 0)).nx = H.nx + 1 := nx_push _ _
  have hold5 : ∀ c, c < H.nx → (H.push (blkL [vI x] 3 0)).blk c = H.blk c := fun c hc => blk_push_old (fn_room hf) _ hc
  have hal5 : alloc1 (blkL [vI x] 3 0) H (fun i => mkSlV (some (i, 0)) 1 1 false) 0 0 = .val (.slice (some ⟨H.nx, 0, none⟩) 1 (2 * 1)) (H.push (blkL [vI x] 3 0)) 0 0 := alloc_bsl hf _ 3 1
  revert hrow5 hf5 hnx5 hold5 hal5
  generalize H.push (blkL [vI x] 3 0) = H5
  intro hrow5 hf5 hnx5 hold5 hal5
  obtain ⟨v5, H6, r', w', a1, a2, a3, a4, a5, a6, _, _⟩ := appO (e := e) (by_ := 8) (hown.of_blk fun b _ hb => hold5 b hb) hrow5 he (by omega) hf5 (by omega) (by rw [List.length_map, List.length_cons]; omega)
  have hold6 : ∀ c, c < H.nx → b ≠ c → H6.blk c = H.blk c := fun c hc hcb => (a6 c (by omega) (fun h => hcb (by cases h; rfl))).trans (hold5 c hc)
  have hfil : ∀ (t' : T Value), t'.get 172 = .int .i64 x → fillL t' [.int .i64 0] [(0, 1, .tmp 172)] = some [.int .i64 x] := fun t' h => fillL_one (by rw [evalO_tmp, h]; rfl)
  have hbb := own_ne_map hown hm
  have hbN := hown.ge
  refine WK.reg_gg (fun t' H' => H6 = H' ∧ Ke t2 t' ∧ t'.get 17 = vI n ∧ t'.get 22 = v5 ∧ t'.get 23 = vI x) ?_ ?_
  · simp (config := { maxSteps := 1000000 }) only [tcy_r52, WOG, wants_none', run, evalO_tmp, evalO_const, Rv_eq, Ro_some, ok_zero, true_and, putT_none, get_putT (d := 8), i17, i22, i23, hfil, exFill_some, hal5, a1, Nat.reducePow, Nat.reduceLT, Nat.reduceEqDiff, reduceIte, Nat.le_refl, and_true]
    refine ⟨by omega, a2, by omega, fun j hj => ?_⟩
    simp (disch := omega) only [putT_ne (d := 8)]
    exact ke6 j hj
  rintro t7 HH ⟨rfl, ke7, x17, x22, x23⟩
  obtain ⟨m, rfl⟩ : ∃ m, n = m + 1 := ⟨n - 1, by omega⟩
  have hwr : wrapF .i64 (((m + 1 : Nat) : Int) - 1) = (m : Int) := by rw [wrapF_i64 (by omega) (by omega)]; omega
  refine WK.reg_rr (fun t' => Ke t2 t' ∧ t'.get 17 = vI m ∧ t'.get 22 = v5 ∧ t'.get 23 = vI x) ?_ ?_
  · simp (config := { maxSteps := 1000000 }) only [tcy_r53, WOR, wants_none', run, evalO_tmp, evalO_const, Rv_eq, Ro_some, ok_zero, true_and, get_putT (d := 8), x17, x22, x23, binV_sub, hwr, Nat.reducePow, Nat.reduceLT, Nat.reduceEqDiff, if_false, reduceIte, and_true]
    intro j hj
    simp (disch := omega) only [putT_ne (d := 8)]
    exact ke7 j hj
  rintro t8 ⟨ke8, y17, y22, y23⟩
  refine ⟨m, by omega, rfl, ke2.trans ke8, y17, ⟨a5, by omega, fun c hc => ?_⟩, ⟨es, hm.of_blk (hold6 bf hltf (fun h => hbb (by rw [h]))), hF⟩, x, done ++ [x], H5.nx, y23, by rw [List.length_append]; simp; omega, ?_, hFar.next hx2, fun l hl => ?_⟩
  · rw [hold6 c (by omega) (by omega)]; exact hkept.old c hc
  · rw [y22]
    refine .inr ⟨_, rfl, ?_⟩
    have : (s :: (done ++ [x])).map vI = (s :: done).map vI ++ [vI x] := by simp
    rw [this]; exact a4
  · have := hG (x :: l) (.cons u x m l hx1 hx2 hx3 hl)
    simpa using this
end
end Go.Proofs.K25
end

noncomputable section
/- Plain lists: sorting and compacting numbers. -/
namespace Go.Cyc
open Go.Lib
def sortI (zs : List Int) : List Int := zs.mergeSort fun x y => decide (x ≤ y)
def compI (zs : List Int) : List Int := compact zs ++ List.replicate (zs.length - (compact zs).length) 0
theorem sortI_len (zs : List Int) : (sortI zs).length = zs.length := List.length_mergeSort zs
theorem mem_sortI {zs : List Int} {x : Int} : x ∈ sortI zs ↔ x ∈ zs := List.mem_mergeSort
theorem sorted_sortI (zs : List Int) : (sortI zs).Pairwise (· ≤ ·) := by
  have h := List.pairwise_mergeSort (le := fun x y : Int => decide (x ≤ y)) (fun a b c h1 h2 => by simp only [decide_eq_true_eq] at *; omega) (fun a b => by simp only [Bool.or_eq_true, decide_eq_true_eq]; omega) zs
  exact h.imp fun h => by simpa using h
theorem compI_len (zs : List Int) : (compI zs).length = zs.length := by
  unfold compI
  have := compact_length_le zs
  rw [List.length_append, List.length_replicate]; omega
theorem mem_upTo (d : Array Int) (x : Int) : ∀ m, x ∈ compactUpTo d m ↔ ∃ j, j < m ∧ d[j]! = x := by
  intro m
  induction m with
  | zero => simp [compactUpTo]
  | succ m ih =>
    rw [compactUpTo_succ, List.mem_append, ih]
    constructor
    · rintro (⟨j, h1, h2⟩ | h)
      · exact ⟨j, by omega, h2⟩
      · split at h
        · simp at h; exact ⟨m, by omega, h.symm⟩
        · simp at h
    · rintro ⟨j, h1, h2⟩
      by_cases hj : j = m
      · subst hj
        by_cases hk : keeps d j = true
        · right; rw [if_pos hk]; simp [h2]
        · left
          unfold keeps at hk
          simp only [decide_eq_true_eq, not_or] at hk
          refine ⟨j - 1, by omega, ?_⟩
          have : d[j]! = d[j - 1]! := Classical.byContradiction fun hne => hk.2 hne
          rw [← this]; exact h2
      · exact .inl ⟨j, by omega, h2⟩
theorem mem_compact {zs : List Int} {x : Int} : x ∈ compact zs ↔ x ∈ zs := by
  unfold compact
  rw [mem_upTo]
  constructor
  · rintro ⟨j, h1, h2⟩
    have h3 : zs.toArray[j]! = zs[j] := by simp [h1]
    rw [h3] at h2
    rw [← h2]; exact List.getElem_mem h1
  · intro h
    obtain ⟨j, hj, e⟩ := List.mem_iff_getElem.1 h
    exact ⟨j, hj, by simp [hj, e]⟩
theorem sorted_upTo (zs : List Int) (h : zs.Pairwise (· ≤ ·)) : ∀ m, m ≤ zs.length → (compactUpTo zs.toArray m).Pairwise (· ≤ ·) := by
  intro m
  induction m with
  | zero => intro _; simp [compactUpTo]
  | succ m ih =>
    intro hm
    rw [compactUpTo_succ]
    split
    · refine List.pairwise_append.2 ⟨ih (by omega), by simp, fun a ha b hb => ?_⟩
      simp at hb; subst hb
      obtain ⟨j, h1, h2⟩ := (mem_upTo _ _ m).1 ha
      have e1 : zs.toArray[j]! = zs[j] := by simp [show j < zs.length by omega]
      have e2 : zs.toArray[m]! = zs[m] := by simp [show m < zs.length by omega]
      rw [e1] at h2
      rw [← h2, ← e1]
      have := List.pairwise_iff_getElem.1 h j m (by omega) (by omega) h1
      simpa [show j < zs.length by omega, show m < zs.length by omega] using this
    · rw [List.append_nil]; exact ih (by omega)
theorem sorted_compact {zs : List Int} (h : zs.Pairwise (· ≤ ·)) : (compact zs).Pairwise (· ≤ ·) := sorted_upTo zs h zs.length (Nat.le_refl _)
end Go.Cyc
end

noncomputable section
namespace Go.Ev
/-! ### Specifications of functions that write a row of numbers anew -/
theorem Post.grow {β β' : Mp} {H H' : Hp} {w : Nat} {W W1 W2 : World} {os : Array Obj} (q : Post β β' H H' w W W1) (h : W2.heap = W1.heap ++ os) (he : W2.os = W1.os ∧ W2.tape = W1.tape ∧ W2.output = W1.output) : Post β β' H H' w W W2 := by
  have up : ∀ (i : Nat) o, W1.heap[i]? = some o → W2.heap[i]? = some o := fun i o ho => by
    have hi : i < W1.heap.size := by
      rcases Nat.lt_or_ge i W1.heap.size with h' | h'
      · exact h'
      · rw [Array.getElem?_eq_none h'] at ho; cases ho
    rw [h, Array.getElem?_append_left hi]; exact ho
  have sz : W1.heap.size ≤ W2.heap.size := by rw [h, Array.size_append]; omega
  exact ⟨q.le, q.only, fun b hb ha => let ⟨m, e1, o, ho, hr⟩ := q.rel b hb ha; ⟨m, e1, o, up _ _ ho, hr⟩, fun rb o ho hn => up _ _ (q.frame rb o ho hn), Nat.le_trans q.size sz,
    fun b m e => Nat.lt_of_lt_of_le (q.dom b m e) sz, q.new, q.inj, ⟨he.1.trans q.env.1, he.2.1.trans q.env.2.1, he.2.2.trans q.env.2.2⟩⟩
def intsOf : List Value → Option (List Int)
  | [] => some []
  | v :: r => match v with
    | .int .i64 z => (match intsOf r with | some l => some (z :: l) | none => none)
    | _ => none
theorem intsOf_inv : ∀ {l : List Value} {zs : List Int}, intsOf l = some zs → l = zs.map (Value.int .i64) := by
  intro l
  induction l with
  | nil => intro zs h; cases h; rfl
  | cons v r ih =>
    intro zs h
    unfold intsOf at h
    split at h
    · rename_i z
      split at h
      · rename_i l hl
        cases h
        rw [ih hl]; rfl
      · cases h
    · cases h
theorem intsOf_map (zs : List Int) : intsOf (zs.map (Value.int .i64)) = some zs := by
  induction zs with
  | nil => rfl
  | cons z zs ih => simp only [List.map_cons, intsOf, ih]
def spRow (g : List Int → List Int) (rv : Nat → Nat → Nat → List Int → Value) (args : List Value) (H : Hp) : Option (Value × Hp × Nat × Nat) := match args with
  | [.slice (some ⟨b, o, none⟩) n c] => (match rdN H b o n with
    | some l => (match intsOf l with
      | some zs => Bc (Nat.blt zs.length 4611686018427387904 && Nat.ble zs.length (Nat.div c 2)) (match wrN H b o ((g zs).map (Value.int .i64)) with
        | some H' => some (rv b o c zs, H', bit b, bit b)
        | none => none) none
      | none => none)
    | none => none)
  | _ => none
theorem modify_set {W : World} {rb : Nat} {o o' : Obj} {F : Obj → Obj} (h : W.heap[rb]? = some o) (hF : F o = o') : W.heap.modify rb F = W.heap.setIfInBounds rb o' := by
  have hlt : rb < W.heap.size := by
    rcases Nat.lt_or_ge rb W.heap.size with h' | h'
    · exact h'
    · rw [Array.getElem?_eq_none h'] at h; cases h
  apply Array.ext_getElem?
  intro k
  rw [Array.getElem?_modify, Array.getElem?_setIfInBounds]
  by_cases hk : rb = k
  · subst hk
    rw [if_pos rfl, if_pos rfl, if_pos hlt, h, Option.map_some, hF]
  · rw [if_neg hk, if_neg hk]
theorem putCells_get (off : Nat) (d : Array Int) (c : Array Value) (k : Nat) : (Sort.putCells (Value.int .i64) off d c)[k]? = c[k]?.map fun x => if off ≤ k ∧ k < off + d.size then Value.int .i64 d[k - off]! else x := by
  unfold Sort.putCells
  rw [Array.getElem?_mapIdx]
theorem spRow_ok {P : Program} {ng : Nat} {f : FuncId} {g : List Int → List Int} {rv rv' : Nat → Nat → Nat → List Int → Value} (hg : ∀ zs, (g zs).length = zs.length)
    (hent : ∀ (args : Array Value) (W : World), (callFunc f args).run P W = .ok (.enter f args) W)
    (hrel : ∀ (β : Mp) b o c c' m zs, β b = some m → CapRel m o c c' → VRel β (rv b o c zs) (rv' m.rb (o + m.sh) c' zs))
    (hc : ∀ (blk off cap : Nat) (zs : List Int) (W : World), Sort.Holds (Value.int .i64) W blk off zs.toArray → blk < W.heap.size → zs.length < 4611686018427387904 → zs.length ≤ cap →
      Calls P f #[.slice (some ⟨blk, off, none⟩) zs.length cap] W fun e W' => e = .returned (rv' blk off cap zs) ∧ ∃ n os, W' = Sort.grow (Sort.putRow (Value.int .i64) (Sort.ahead W n) blk off (g zs).toArray) os)
    {args : List Value} {H : Hp} {v : Value} {H' : Hp} {r w : Nat} (hw : H.wf) (h : spRow g rv args H = some (v, H', r, w)) : TaskOk P ng (.call f args) H (.k (.ret v H' r w)) := by
  unfold spRow at h
  split at h
  case h_2 => cases h
  rename_i b o n c
  cases e1 : rdN H b o n with
  | none => rw [e1] at h; cases h
  | some l =>
  rw [e1] at h
  simp only [] at h
  cases e2 : intsOf l with
  | none => rw [e2] at h; cases h
  | some zs =>
  rw [e2] at h
  simp only [] at h
  cases e3 : (Nat.blt zs.length 4611686018427387904 && Nat.ble zs.length (Nat.div c 2)) with
  | false => rw [e3, Bc_f] at h; cases h
  | true =>
  rw [e3, Bc_t] at h
  rw [Bool.and_eq_true] at e3
  have hlen := (blt_iff _ _).1 e3.1
  have hcap2 : zs.length ≤ c / 2 := (ble_iff _ _).1 e3.2
  cases e4 : wrN H b o ((g zs).map (Value.int .i64)) with
  | none => rw [e4] at h; cases h
  | some H1 =>
  rw [e4] at h
  simp only [Option.some.injEq, Prod.mk.injEq] at h
  obtain ⟨rfl, rfl, rfl, rfl⟩ := h
  refine ⟨(can_wr hw e4).1, fun β W hgr p => ?_⟩
  intro args' hl
  obtain ⟨x', l', e, hx, hl'⟩ := hl.cons_inv
  have := hl'.nil_inv; subst this
  have ea := arr_one e; subst ea
  cases hx with | sl _ _ _ _ c' m e0 hcap =>
  have ha := (can_wr hw e4).2
  obtain ⟨t, n', ty, op, lo, hi, hb, ho, hth, rfl⟩ := wrN_inv e4
  obtain ⟨m', cs, fr, em, hm, h2, h3, h4, h4', h5, h6⟩ := cells_of p (.inl ((bit_iff b b).2 rfl)) hb
  rw [e0] at em; cases em
  obtain ⟨t', q, ty', op', lo', hi', hb', ho', rfl⟩ := rdN_inv e1
  rw [hb] at hb'
  cases hb'
  have hzs := intsOf_inv e2
  have hn : zs.length = n := by
    have := congrArg List.length hzs
    rw [rdL_len, List.length_map] at this
    exact this.symm
  have hgl : ((g zs).map (Value.int .i64)).length = zs.length := by rw [List.length_map, hg]
  rw [hgl] at ho hth
  have hval : ∀ j, j < zs.length → t.get (o + j) = .int .i64 zs[j]! := fun j hj => by
    have h7 := rdL_get t n o j (by omega)
    rw [hzs, List.getElem?_map] at h7
    rw [getElem!_pos zs j hj]
    rw [List.getElem?_eq_getElem hj] at h7
    exact (Option.some.inj h7).symm
  have hH : Sort.Holds (Value.int .i64) W m.rb (o + m.sh) zs.toArray := by
    intro j hj
    have hj' : j < zs.length := by simpa using hj
    obtain ⟨_, v', k1, k2⟩ := h5 (o + j) (by omega)
    rw [hval j hj'] at k2
    cases k2
    constructor
    · unfold World.cell?
      simp only [hm]
      rw [show o + m.sh + j = m.sh + (o + j) from by omega, k1]
      simp [hj']
    · unfold World.frozen?
      simp only [hm]
      have := thawed_ok hth h6 (by omega) (o + m.sh + j) (by omega) (by omega)
      simp only [Bool.and_eq_false_imp, decide_eq_true_eq, decide_eq_false_iff_not]
      omega
  have hcc : zs.length ≤ c' := by
    rcases Nat.mod_two_eq_zero_or_one c with hc2 | hc2
    · have := hcap.1 hc2; omega
    · have := (hcap.2 hc2).1; omega
  subst hn
  refine .inl ⟨hent _ _, callsIn_wide.2 ((hc m.rb (o + m.sh) c' zs W hH (p.dom b m e0) hlen hcc).mono fun e W' hR => ?_)⟩
  obtain ⟨rfl, k, os, rfl⟩ := hR
  refine ⟨β, _, rfl, hrel β b o c c' m zs e0 hcap, ?_⟩
  have hor : ORel β m (.cells (wrL (dep n') ((g zs).map (Value.int .i64)) o t) n' ty op lo hi) (.cells (Sort.putCells (Value.int .i64) (o + m.sh) (g zs).toArray cs) ty fr) := by
    refine ⟨_, fr, rfl, by unfold Sort.putCells; rw [Array.size_mapIdx]; exact h2, h3, h4, h4', fun i hi => ?_, h6⟩
    have hd := lt_dep n'
    obtain ⟨k1, v', k2, k3⟩ := h5 i hi
    rw [wrL_get _ _ _ _ _ (by omega) (by omega), putCells_get, k2, Option.map_some]
    have hsz : (g zs).toArray.size = zs.length := by rw [List.size_toArray, hg]
    rw [hgl, hsz]
    by_cases hin : o ≤ i ∧ i < o + zs.length
    · rw [if_pos hin, if_pos (by omega)]
      have hlt : i - o < (g zs).length := by rw [hg]; omega
      have hgt : ((g zs).map (Value.int .i64)).getD (i - o) U = .int .i64 (g zs)[i - o] := by simp [List.getD, hlt]
      rw [hgt]
      refine ⟨rfl, _, rfl, ?_⟩
      rw [show m.sh + i - (o + m.sh) = i - o from by omega]
      have : (g zs).toArray[i - o]! = (g zs)[i - o] := by rw [getElem!_pos (g zs).toArray (i - o) (by simpa using hlt)]; simp
      rw [this]; exact .int _ _
    · rw [if_neg hin, if_neg (by omega)]
      exact ⟨k1, v', rfl, k3⟩
  refine (post_put _ hw ha e0 hm hor p.dom).grow (os := os) ?_ ⟨rfl, rfl, rfl⟩
  show W.heap.modify m.rb (Sort.onCells (Sort.putCells (Value.int .i64) (o + m.sh) (g zs).toArray)) ++ os = W.heap.setIfInBounds m.rb _ ++ os
  rw [modify_set hm rfl]; rfl
/-- .. of no element -/
def spNil (rn : Nat → Value) (args : List Value) (H : Hp) : Option (Value × Hp × Nat × Nat) := match args with
  | [.slice none 0 c] => some (rn c, H, 0, 0)
  | _ => none
theorem spNil_ok {P : Program} {ng : Nat} {f : FuncId} {rn : Nat → Value}
    (hent : ∀ (args : Array Value) (W : World), (callFunc f args).run P W = .ok (.enter f args) W)
    (hrel : ∀ (β : Mp) c, VRel β (rn c) (rn c))
    (hc : ∀ (c : Nat) (W : World), Calls P f #[.slice none 0 c] W fun e W' => e = .returned (rn c) ∧ W' = W)
    {args : List Value} {H : Hp} {v : Value} {H' : Hp} {r w : Nat} (hw : H.wf) (h : spNil rn args H = some (v, H', r, w)) : TaskOk P ng (.call f args) H (.k (.ret v H' r w)) := by
  unfold spNil at h
  split at h
  · rename_i c
    simp only [Option.some.injEq, Prod.mk.injEq] at h
    obtain ⟨rfl, rfl, rfl, rfl⟩ := h
    refine ⟨Can.refl hw, fun β W hg p => ?_⟩
    intro args' hl
    obtain ⟨x', l', e, hx, hl'⟩ := hl.cons_inv
    have := hl'.nil_inv; subst this
    have ea := arr_one e; subst ea
    cases hx
    refine .inl ⟨hent _ _, callsIn_wide.2 ((hc c W).mono fun e W' hR => ?_)⟩
    obtain ⟨rfl, rfl⟩ := hR
    exact ⟨β, _, rfl, hrel β c, Post.refl p.dom⟩
  · cases h
def spOr (a b : Option (Value × Hp × Nat × Nat)) : Option (Value × Hp × Nat × Nat) := match a with | some x => some x | none => b
theorem spOr_inv {a b : Option (Value × Hp × Nat × Nat)} {x : Value × Hp × Nat × Nat} (h : spOr a b = some x) : a = some x ∨ b = some x := by
  cases a with
  | some y => exact .inl h
  | none => exact .inr h
/-- what such a specification does at a row that holds the slice whole -/
theorem wrN_row {H : Hp} {b ty op : Nat} {L vs : List Value} (hf : H.wf) (h : Row H b ty op L) (hl : vs.length = L.length) :
    ∃ H', wrN H b 0 vs = some H' ∧ Row H' b ty op vs ∧ H' = H.put b (.cells (wrL (dep L.length) vs 0 (match H.blk b with | .cells t _ _ _ _ _ => t | _ => .e U)) L.length ty op 0 0) := by
  have hlt := h.lt
  obtain ⟨t, h1, h2⟩ := h
  refine ⟨_, ?_, ⟨wrL (dep L.length) vs 0 t, ?_, fun i v hv => ?_⟩, rfl⟩
  · unfold wrN; rw [h1]; simp only []
    rw [(ble_iff _ _).2 (by omega), thawed_zero]; rfl
  · rw [blk_put _ hf hlt, if_pos rfl, hl, h1]
  · have hd := lt_dep L.length
    have hi : i < vs.length := by
      rcases Nat.lt_or_ge i vs.length with h' | h'
      · exact h'
      · rw [List.getElem?_eq_none h'] at hv; cases hv
    rw [wrL_get _ _ _ _ _ (by omega) (by omega), if_pos ⟨by omega, by omega⟩]
    simp [List.getD, hv]
theorem spRow_row {g : List Int → List Int} {rv : Nat → Nat → Nat → List Int → Value} {H : Hp} {b ty op c : Nat} {zs : List Int} (hg : ∀ zs, (g zs).length = zs.length) (hw : H.wf) (h : Row H b ty op (zs.map (Value.int .i64))) (hlen : zs.length < 4611686018427387904) (hc : zs.length ≤ c / 2) :
    ∃ H', spRow g rv [.slice (some ⟨b, 0, none⟩) zs.length c] H = some (rv b 0 c zs, H', bit b, bit b) ∧ Row H' b ty op ((g zs).map (Value.int .i64)) ∧ H'.nx = H.nx ∧ (∀ x, x ≠ b → H'.blk x = H.blk x) ∧ H'.isFn = H.isFn := by
  have hlt := h.lt
  obtain ⟨H', h1, h2, h3⟩ := wrN_row (vs := (g zs).map (Value.int .i64)) hw h (by rw [List.length_map, List.length_map, hg])
  have hr := rdN_all h
  rw [List.length_map] at hr
  refine ⟨H', ?_, h2, by rw [h3, nx_put], fun x hx => by rw [h3, blk_put_ne hw _ hlt hx], by rw [h3, isFn_put]⟩
  simp only [spRow, hr, intsOf_map]
  rw [(blt_iff _ _).2 hlen, show Nat.ble zs.length (Nat.div c 2) = true from (ble_iff _ _).2 hc]
  simp only [Bool.and_self, Bc_t, h1]
section
variable {tb : Tb} {sp : Nat → List Value → Hp → Option (Value × Hp × Nat × Nat)} {e : Env}
theorem EC.of_sp {f : FuncId} {args : List Value} {H H' : Hp} {v : Value} {r w : Nat} {K : Value → Hp → Prop} (h : sp f args H = some (v, H', r, w)) (hok : e.ok r w H') (hn : H.nx ≤ H'.nx) (hk : K v H') : EC tb sp e f args H K := by
  refine ⟨1, v, H', r, w, ?_, hok, hn, hk⟩
  show evTask tb sp (ev tb sp 0) (.call f args) H = _
  simp only [evTask, h]
end
end Go.Ev
end

noncomputable section
set_option linter.unusedSimpArgs false
set_option linter.unusedVariables false
namespace Go.Proofs.K25
open Go Go.Ev Go.Proofs Go.Cyc
/-! ### tasks.Cycle: the loop over the starts, and the whole -/
/-- numbers that stand ahead in a block -/
def PreR (e : Env) (H : Hp) (v : Value) (L : List Int) : Prop :=
  (∃ a c, v = .slice a 0 c ∧ L = []) ∨ ∃ b c op rest, v = .slice (some ⟨b, 0, none⟩) L.length c ∧ Row H b 3 op (L.map vI ++ rest) ∧ e.n0 ≤ b
theorem PreR.len {e : Env} {H : Hp} {v : Value} {L : List Int} (h : PreR e H v L) (H' : Hp) : exLen 1 v H' = .val (vI L.length) H' 0 0 := by
  rcases h with ⟨a, c, rfl, rfl⟩ | ⟨b, c, op, rest, rfl, _⟩ <;> rfl
theorem PreR.kept {e : Env} {H H' : Hp} {v : Value} {L : List Int} (h : PreR e H v L) (g : ∀ c, c < H.nx → H'.blk c = H.blk c) : PreR e H' v L := by
  rcases h with h | ⟨b, c, op, rest, h1, h2, h3⟩
  · exact .inl h
  · exact .inr ⟨b, c, op, rest, h1, h2.of_blk (g b h2.lt), h3⟩
theorem PreR.read {e : Env} {H : Hp} {v : Value} {L : List Int} (h : PreR e H v L) {i : Nat} {z : Int} (hz : L[i]? = some z) : ∃ b, exIaS 1 v (vI i) H = .val (.pointer (some ⟨b, i, none⟩)) H 0 0 ∧ exLd1 (.pointer (some ⟨b, i, none⟩)) H = .val (vI z) H (bit b) 0 ∧ e.ok (bit b) 0 H := by
  rcases h with ⟨a, c, rfl, rfl⟩ | ⟨b, c, op, rest, rfl, h2, h3⟩
  · simp at hz
  · have hlt : i < L.length := by
      rcases Nat.lt_or_ge i L.length with h' | h'
      · exact h'
      · rw [List.getElem?_eq_none h'] at hz; cases hz
    refine ⟨b, ?_, exLd1_row h2 (by rw [List.getElem?_append_left (by rw [List.length_map]; exact hlt), List.getElem?_map, hz]; rfl), .fresh h2.lt h3⟩
    rw [exIaS_int (by omega) (by omega)]
    simp
theorem NumsR.kept {e : Env} {H H' : Hp} {v : Value} {L : List Int} (h : NumsR e H v L) (g : ∀ c, c < H.nx → H'.blk c = H.blk c) : NumsR e H' v L := by
  cases h with
  | nil c a => exact .nil c a
  | inRow b c ty op L h1 h2 => exact .inRow b c ty op L (h1.of_blk (g b h1.lt)) h2
/-- the state at the head of the loop over the starts -/
structure L57 (e : Env) (H0 : Hp) (v0 : Value) (ws : Ws) (bm : Nat) (cs : List Int) (i : Nat) (t : T Value) (H : Hp) : Prop where
  g0 : t.get 0 = v0
  g3 : t.get 3 = .map (some bm)
  kept : Kept H0 H
  bmN : H0.nx ≤ bm
  map : ∃ esn, MapI H bm esn ∧ ∀ k, NumsR e H ((mapF esn k).getD nilS) (succs ws k)
  pre : PreR e H (t.get 57) cs
  g58 : t.get 58 = vI cs.length
  g59 : t.get 59 = vI i
  none_ : ∀ (k : Nat) s, k < i → cs[k]? = some s → ∀ l, ¬ Clo ws s (s :: l)
theorem L57.step {e : Env} {H0 : Hp} {v0 : Value} {ws : Ws} {bm : Nat} {cs : List Int} {i : Nat} {t t' : T Value} {H H' : Hp} (h : L57 e H0 v0 ws bm cs i t H) (hk : Kept H H') (h0 : t'.get 0 = t.get 0) (h3 : t'.get 3 = t.get 3) (h57 : t'.get 57 = t.get 57) (h58 : t'.get 58 = t.get 58) (h59 : t'.get 59 = vI (i + 1 : Nat))
    (hn : ∀ s, cs[i]? = some s → ∀ l, ¬ Clo ws s (s :: l)) : L57 e H0 v0 ws bm cs (i + 1) t' H' := by
  obtain ⟨esn, h1, h2⟩ := h.map
  refine ⟨h0.trans h.g0, h3.trans h.g3, h.kept.trans hk, h.bmN, ⟨esn, h1.of_blk (hk.old bm h1.alive.1), fun k => NumsR.kept (h2 k) hk.old⟩, by rw [h57]; exact h.pre.kept hk.old, h58.trans h.g58, h59, fun k s hlt hs => ?_⟩
  by_cases hki : k = i
  · subst hki; exact hn s hs
  · exact h.none_ k s (by omega) hs
section
variable {sp : Nat → List Value → Hp → Option (Value × Hp × Nat × Nat)} {e : Env}
set_option maxRecDepth 10000 in
set_option maxHeartbeats 4000000 in
theorem loop57_ok {H0 H : Hp} {t : T Value} {v0 : Value} {ws : Ws} {bm : Nat} {cs : List Int} {c : Code} {K : Ex → T Value → List Deferred → Hp → Prop} (he : e.n0 ≤ H0.nx) (hpw : PairsR e H0 v0 ws) (hwl : ws.length < 1099511627776)
    (hcs : ∀ x, x ∈ cs ↔ ∃ y, (x, y) ∈ ws) (hsort : cs.Pairwise (· ≤ ·)) (hcl : cs.length ≤ ws.length) (hL : L57 e H0 v0 ws bm cs 0 t H)
    (hret : ∀ t' H' v out, t'.get 2 = v → Kept H0 H' → NumsAt H0.nx H' v out → IsCyc ws out → out.length ≤ ws.length + 1 → K .ret t' [] H')
    (hK : ∀ t' H', Kept H0 H' → IsCyc ws [] → K .normal t' [] H') : WK Tb0 sp e cx6 (.block 2 (.loop c tcy_l57)) t [] H K := by
  refine WK.block (WK.loop_ind (fun n t' ds' H' => ds' = [] ∧ ∃ i : Nat, n = cs.length - i ∧ i ≤ cs.length ∧ L57 e H0 v0 ws bm cs i t' H') ?_ cs.length t [] H ⟨rfl, 0, by omega, by omega, hL⟩)
  clear hL
  rintro n t1 ds H ⟨rfl, i, rfl, hi, hL⟩
  have hL0 := hL
  obtain ⟨g0, g3, hkept, hbmN, ⟨esn, hnm, hnx⟩, hpre, g58, g59, hno⟩ := hL
  have hnx0 := hkept.nx
  have hf := hkept.fn
  unfold tcy_l57
  refine WK.seq (WK.reg_rr (fun t' => t'.get 60 = .bool (decide ((i : Int) < (cs.length : Int))) ∧ Lo 60 t1 t') ?_ ?_)
  · simp (config := { maxSteps := 1000000 }) only [tcy_r12, WOR, wants_none', run, evalO_tmp, evalO_const, Rv_eq, Ro_some, ok_zero, true_and, get_putT (d := 8), g58, g59, binV_lss, Nat.reducePow, Nat.reduceLT, Nat.reduceEqDiff, if_false, reduceIte]
    intro j hj
    simp (disch := omega) only [putT_lo (d := 8)]
  rintro t2 ⟨h60, hlo⟩
  by_cases hlt : i < cs.length
  case neg =>
    have : i = cs.length := by omega
    subst this
    refine WK.seq (WK.cond (v := false) (by rw [evalO_tmp, h60, decide_eq_false (by omega)]; rfl) (WK.exit ?_))
    refine hK t2 H hkept (.inl ⟨rfl, fun s l hc => ?_⟩)
    obtain ⟨y, hy⟩ := clo_head hc
    obtain ⟨k, hk, ek⟩ := List.mem_iff_getElem.1 ((hcs s).2 ⟨y, hy⟩)
    exact hno k s hk (by rw [List.getElem?_eq_getElem hk, ek]) l hc
  refine WK.seq (WK.cond (v := true) (by rw [evalO_tmp, h60, decide_eq_true (by omega)]; rfl) (WK.skip ?_))
  obtain ⟨s, hs⟩ : ∃ s, cs[i]? = some s := ⟨cs[i], by simp [hlt]⟩
  obtain ⟨b1, m1, m2, m3⟩ := hpre.read hs
  have q57 := hlo 57 (by omega)
  have q59 := (hlo 59 (by omega)).trans g59
  obtain ⟨C, hC⟩ : ∃ C, t1.get 57 = C := ⟨_, rfl⟩
  rw [hC] at m1 q57
  -- after the block: the next start
  have nxt : ∀ (t8 : T Value) (H8 : Hp), Kept H H8 → t8.get 0 = t1.get 0 → t8.get 3 = t1.get 3 → t8.get 57 = t1.get 57 → t8.get 58 = t1.get 58 → t8.get 59 = t1.get 59 → (∀ l, ¬ Clo ws s (s :: l)) →
      WK Tb0 sp e cx6 (.reg tcy_r56) t8 [] H8 (fun x_1 t1 ds1 H1 => match x_1 with
        | .normal => ∃ m, m < cs.length - i ∧ ds1 = [] ∧ ∃ i : Nat, m = cs.length - i ∧ i ≤ cs.length ∧ L57 e H0 v0 ws bm cs i t1 H1
        | y => inBl 2 K y t1 ds1 H1) := by
    intro t8 H8 hk8 x0 x3 x57 x58 x59 hno8
    have hwr : wrapF .i64 ((i : Int) + 1) = ((i + 1 : Nat) : Int) := by rw [wrapF_i64 (by omega) (by omega)]; omega
    have x59' := x59.trans g59
    refine WK.reg_rr (fun t' => Lo 59 t8 t' ∧ t'.get 59 = vI (i + 1 : Nat)) ?_ ?_
    · simp (config := { maxSteps := 1000000 }) only [tcy_r56, WOR, wants_none', run, evalO_tmp, evalO_const, Rv_eq, Ro_some, ok_zero, true_and, get_putT (d := 8), x59', binV_add, hwr, Nat.reducePow, Nat.reduceLT, Nat.reduceEqDiff, if_false, reduceIte, and_true]
      intro j hj
      simp (disch := omega) only [putT_lo (d := 8)]
    rintro t9 ⟨lo9, y59⟩
    exact ⟨cs.length - (i + 1), by omega, rfl, i + 1, rfl, by omega, hL0.step hk8 ((lo9 0 (by omega)).trans x0) ((lo9 3 (by omega)).trans x3) ((lo9 57 (by omega)).trans x57) ((lo9 58 (by omega)).trans x58) y59 fun s' hs' => by rw [hs] at hs'; cases hs'; exact hno8⟩
  refine WK.seq (WK.block (WK.seq (WK.reg_rr (fun t' => (∀ j, j < 8 ∨ 57 ≤ j ∧ j < 60 → t'.get j = t1.get j) ∧ t'.get 8 = vI s) ?_ ?_)))
  · simp (config := { maxSteps := 1000000 }) only [tcy_r13, WOR, wants_none', run, evalO_tmp, evalO_const, Rv_eq, Ro_some, ok_zero, true_and, get_putT (d := 8), q57, q59, m1, m2, m3, Nat.reducePow, Nat.reduceLT, Nat.reduceEqDiff, if_false, reduceIte, and_true]
    intro j hj
    simp (disch := omega) only [putT_ne (d := 8)]
    exact hlo j (by omega)
  rintro t3 ⟨hr3, k8⟩
  -- the table of distances
  have hmnew : MapI (H.push (.obj (.map #[] 0))) H.nx [] := ⟨0, by rw [blk_push _ (fn_room hf), if_pos rfl], fun x hx => by simp at hx⟩
  have hf1 : (H.push (.obj (.map #[] 0))).isFn = true := by rw [isFn_push]; exact hf
  have hnx1 : (H.push (.obj (.map #[] 0))).nx = H.nx + 1 := nx_push _ _
  have hold1 : ∀ c, c < H.nx → (H.push (.obj (.map #[] 0))).blk c = H.blk c := fun c hc => blk_push_old (fn_room hf) _ hc
  have hal := alloc_map hf
  revert hmnew hf1 hnx1 hold1 hal
  generalize H.push (.obj (.map #[] 0)) = H1
  intro hmnew hf1 hnx1 hold1 hal
  obtain ⟨es', c', b1', b2, b3, b4⟩ := exMup_map hmnew s (vI (0 : Nat))
  have b1 : exMup (.one .i) (.map (some H.nx)) (.int .i64 s) (.int .i64 0) H1 = .val U (H1.put H.nx (.obj (.map ⟨es'⟩ c'))) 0 (bit H.nx) := b1'
  have hlt1 : H.nx < H1.nx := by omega
  have hm2 : MapI (H1.put H.nx (.obj (.map ⟨es'⟩ c'))) H.nx es' := ⟨c', by rw [blk_put _ (fn_wf hf1) hlt1, if_pos rfl], b2⟩
  have hk2 : Kept H (H1.put H.nx (.obj (.map ⟨es'⟩ c'))) := ⟨by rw [isFn_put]; exact hf1, by rw [nx_put]; omega, fun c hc => by rw [blk_put_ne (fn_wf hf1) _ hlt1 (by omega)]; exact hold1 c hc⟩
  have hnx2 : (H1.put H.nx (.obj (.map ⟨es'⟩ c'))).nx = H.nx + 1 := by rw [nx_put]; exact hnx1
  have hF : FarI ws s es' (fun j => if j = s then some 0 else none) := by
    have hkeys : es'.map (fun e => keyI e.key) = [some s] := by rw [b4]; rfl
    have hlen : es'.length = 1 := by have := congrArg List.length hkeys; simpa using this
    refine ⟨fun j => ?_, by simp, fun u n hu => ?_, by rw [hkeys]; simp, fun k hk => ?_, fun u n hu => ?_⟩
    · rw [b3 j]
      by_cases hj : j = s
      · simp only [hj, if_true]; rfl
      · simp only [hj, if_false]; rfl
    · try simp only at hu
      split at hu
      · rename_i h; cases hu; exact .inl ⟨rfl, h⟩
      · cases hu
    · rw [hkeys] at hk; simp at hk; subst hk; simp
    · try simp only at hu
      split at hu
      · cases hu; omega
      · cases hu
  refine WK.seq (WK.reg_gg (fun t' H' => H1.put H.nx (.obj (.map ⟨es'⟩ c')) = H' ∧ (∀ j, j < 9 ∨ 57 ≤ j ∧ j < 60 → t'.get j = t3.get j) ∧ t'.get 9 = .map (some H.nx)) ?_ ?_)
  · simp (config := { maxSteps := 1000000 }) only [tcy_r14, WOG, wants_none', run, evalO_tmp, evalO_const, Rv_eq, Ro_some, ok_zero, true_and, putT_none, get_putT (d := 8), k8, hal, b1, Nat.reducePow, Nat.reduceLT, Nat.reduceEqDiff, reduceIte, Nat.le_refl, and_true]
    refine ⟨by omega, .write (by omega) (fun h => absurd h (by omega)), by rw [nx_put]; exact Nat.le_refl _, fun j hj => ?_⟩
    simp (disch := omega) only [putT_ne (d := 8)]
  rintro t4 H4 ⟨rfl, hr4, n9⟩
  revert hm2 hk2 hnx2
  generalize H1.put H.nx (.obj (.map ⟨es'⟩ c')) = H4
  intro hm2 hk2 hnx2
  refine WK.seq (WK.seq (WK.reg_rr (fun t' => Ke t4 t' ∧ t'.get 10 = .bool true) ?_ ?_))
  · simp (config := { maxSteps := 1000000 }) only [tcy_r15, WOR, wants_none', run, evalO_tmp, evalO_const, Rv_eq, Ro_some, ok_zero, true_and, get_putT (d := 8), Nat.reducePow, Nat.reduceLT, Nat.reduceEqDiff, if_false, reduceIte, and_true]
    intro j hj
    simp (disch := omega) only [putT_ne (d := 8)]
  rintro t5 ⟨ke5, j10⟩
  have base : ∀ j, j < 8 ∨ 57 ≤ j ∧ j < 60 → t5.get j = t1.get j := fun j hj => by rw [ke5 j (by omega), hr4 j (by omega), hr3 j (by omega)]
  have j0 : t5.get 0 = v0 := (base 0 (by omega)).trans g0
  have j3 : t5.get 3 = .map (some bm) := (base 3 (by omega)).trans g3
  have j8 : t5.get 8 = vI s := by rw [ke5 8 (by omega), hr4 8 (by omega)]; exact k8
  have j9 : t5.get 9 = .map (some H.nx) := (ke5 9 (by omega)).trans n9
  have hpwH : PairsR e H v0 ws := hpw.of_blk hkept.old
  refine loop28_ok (H0 := H) (by omega) hpwH hwl (Nat.le_refl _) j0 j9 j10 hk2 hm2 hF ?_
  intro t6 H6 es6 F ke6 hk6 hm6 hF6 hFar
  have base6 : ∀ j, j < 8 ∨ 57 ≤ j ∧ j < 60 → t6.get j = t1.get j := fun j hj => (ke6 j (by omega)).trans (base j hj)
  have i3 := (ke6 3 (by omega)).trans j3
  have i8 := (ke6 8 (by omega)).trans j8
  have i9 := (ke6 9 (by omega)).trans j9
  have hnm6 : MapI H6 bm esn := hnm.of_blk (hk6.old bm hnm.alive.1)
  have hnx6 : ∀ k, NumsR e H6 ((mapF esn k).getD nilS) (succs ws k) := fun k => NumsR.kept (hnx k) hk6.old
  obtain ⟨V, hVe⟩ : ∃ V, (mapF esn s).getD nilS = V := ⟨_, rfl⟩
  have lks := lkp_f hnm6 nilS s
  have hV := hnx6 s
  rw [hVe] at lks hV
  have hVl := hV.len
  have hltm : bm < H6.nx := hnm6.alive.1
  have mok : e.ok (bit bm) 0 H6 := .fresh hltm (by omega)
  refine WK.seq (WK.reg_rr (fun t' => Ke t6 t' ∧ t'.get 17 = .int .i64 (-1)) ?_ ?_)
  · simp (config := { maxSteps := 1000000 }) only [tcy_r29, WOR, wants_none', run, evalO_tmp, evalO_const, Rv_eq, Ro_some, ok_zero, true_and, get_putT (d := 8), Nat.reducePow, Nat.reduceLT, Nat.reduceEqDiff, if_false, reduceIte, and_true]
    intro j hj
    simp (disch := omega) only [putT_ne (d := 8)]
  rintro t7 ⟨ke7, x17⟩
  have x3 := (ke7 3 (by omega)).trans i3
  have x8 := (ke7 8 (by omega)).trans i8
  refine WK.seq (WK.seq (WK.reg_rr (fun t' => Ke t6 t' ∧ t'.get 17 = .int .i64 (-1) ∧ t'.get 106 = V ∧ t'.get 107 = vI (succs ws s).length ∧ t'.get 108 = vI (0 : Nat)) ?_ ?_))
  · simp (config := { maxSteps := 1000000 }) only [tcy_r30, WOR, wants_none', run, evalO_tmp, evalO_const, Rv_eq, Ro_some, ok_zero, true_and, get_putT (d := 8), x3, x8, x17, lks, hVl, mok, Nat.reducePow, Nat.reduceLT, Nat.reduceEqDiff, if_false, reduceIte, and_true]
    refine ⟨fun j hj => ?_, rfl⟩
    simp (disch := omega) only [putT_ne (d := 8)]
    exact ke7 j hj
  rintro t8 ⟨ke8, y17, y106, y107, y108⟩
  refine loop37_ok (t0 := t6) hV (by have := sucs_le ws s; omega) hm6 hF6 (by omega) i9 ke8 y17 y106 y107 y108 ?_
  intro t9 w ke9 z17 hW
  refine WK.seq (WK.seq (WK.reg_rr (fun t' => Ke t6 t' ∧ t'.get 17 = .int .i64 w ∧ t'.get 131 = .bool (decide (w < 0))) ?_ ?_))
  · simp (config := { maxSteps := 1000000 }) only [tcy_r38, WOR, wants_none', run, evalO_tmp, evalO_const, Rv_eq, Ro_some, ok_zero, true_and, get_putT (d := 8), z17, binV_lss, Nat.reducePow, Nat.reduceLT, Nat.reduceEqDiff, if_false, reduceIte, and_true]
    intro j hj
    simp (disch := omega) only [putT_ne (d := 8)]
    exact ke9 j hj
  rintro t10 ⟨ke10, w17, w131⟩
  have base10 : ∀ j, j < 8 ∨ 57 ≤ j ∧ j < 60 → t10.get j = t1.get j := fun j hj => (ke10 j (by omega)).trans (base6 j hj)
  rcases hW with ⟨rfl, hW⟩ | ⟨d, rfl, ⟨x, hx1, hx2⟩, hW⟩
  · refine WK.cond (v := true) (by rw [evalO_tmp, w131]; rfl) (WK.exit ?_)
    exact nxt t10 H6 hk6 (base10 0 (by omega)) (base10 3 (by omega)) (base10 57 (by omega)) (base10 58 (by omega)) (base10 59 (by omega)) (hFar.none fun v hv => hW v (mem_succs.2 hv))
  refine WK.cond (v := false) (by rw [evalO_tmp, w131, decide_eq_false (by omega)]; rfl) (WK.skip ?_)
  have hd : d ≤ ws.length := hF6.lt hx2
  -- the list that is returned
  have hf6 := hk6.fn
  have hn6 := hk6.nx
  have w8 : t10.get 8 = vI s := (ke10 8 (by omega)).trans i8
  have hrow7 : Row (H6.push (blkL [vI s] 3 0)) H6.nx 3 0 [vI s] := row_push (fn_room hf6) _ _ _
  have hf7 : (H6.push (blkL [vI s] 3 0)).isFn = true := by rw [isFn_push]; exact hf6
  have hnx7 : (H6.push (blkL [vI s] 3 0)).nx = H6.nx + 1 := nx_push _ _
  have hold7 : ∀ c, c < H6.nx → (H6.push (blkL [vI s] 3 0)).blk c = H6.blk c := fun c hc => blk_push_old (fn_room hf6) _ hc
  have hal7 : alloc1 (blkL [vI s] 3 0) H6 (fun i => mkSlV (some (i, 0)) 1 1 false) 0 0 = .val (.slice (some ⟨H6.nx, 0, none⟩) 1 (2 * 1)) (H6.push (blkL [vI s] 3 0)) 0 0 := alloc_bsl hf6 _ 3 1
  revert hrow7 hf7 hnx7 hold7 hal7
  generalize H6.push (blkL [vI s] 3 0) = H7
  intro hrow7 hf7 hnx7 hold7 hal7
  have hfil : ∀ (t' : T Value), t'.get 132 = .int .i64 s → fillL t' [.int .i64 0] [(0, 1, .tmp 132)] = some [.int .i64 s] := fun t' h => fillL_one (by rw [evalO_tmp, h]; rfl)
  refine WK.seq (WK.reg_gg (fun t' H' => H7 = H' ∧ Ke t6 t' ∧ t'.get 17 = vI d ∧ t'.get 22 = .slice (some ⟨H6.nx, 0, none⟩) 1 (2 * 1)) ?_ ?_)
  · simp (config := { maxSteps := 1000000 }) only [tcy_r39, WOG, wants_none', run, evalO_tmp, evalO_const, Rv_eq, Ro_some, ok_zero, true_and, putT_none, get_putT (d := 8), w8, w17, hfil, exFill_some, hal7, Nat.reducePow, Nat.reduceLT, Nat.reduceEqDiff, reduceIte, Nat.le_refl, and_true]
    refine ⟨by omega, fun j hj => ?_⟩
    simp (disch := omega) only [putT_ne (d := 8)]
    exact ke10 j hj
  rintro t11 HH ⟨rfl, ke11, v17, v22⟩
  have v8 : t11.get 8 = vI s := (ke11 8 (by omega)).trans i8
  refine WK.seq (WK.seq (WK.reg_rr (fun t' => Ke t6 t' ∧ t'.get 17 = vI d ∧ t'.get 22 = .slice (some ⟨H6.nx, 0, none⟩) 1 (2 * 1) ∧ t'.get 23 = vI s) ?_ ?_))
  · simp (config := { maxSteps := 1000000 }) only [tcy_r40, WOR, wants_none', run, evalO_tmp, evalO_const, Rv_eq, Ro_some, ok_zero, true_and, get_putT (d := 8), v8, v17, v22, Nat.reducePow, Nat.reduceLT, Nat.reduceEqDiff, if_false, reduceIte, and_true]
    intro j hj
    simp (disch := omega) only [putT_ne (d := 8)]
    exact ke11 j hj
  rintro t12 ⟨ke12, u17, u22, u23⟩
  have hk7 : Kept H H7 := ⟨hf7, by omega, fun c hc => (hold7 c (by omega)).trans (hk6.old c hc)⟩
  have hltf : H.nx < H6.nx := hm6.alive.1
  refine loop54_ok (H0 := H) (t0 := t6) (bf := H.nx) (bm := bm) (d := d) (esn := esn) (F := F) (ws := ws) (s := s) (by omega) hwl (Nat.le_refl _) (by omega) i3 i9 hnm hnx hFar hd
    ⟨ke12, u17, hk7, ⟨es6, hm6.of_blk (hold7 _ hltf), hF6⟩, s, [], H6.nx, u23, by simp, ?_, ⟨x, mem_succs.1 hx1, hx2⟩, fun l hl => by simpa using hl⟩ ?_
  · rw [u22]
    exact .inr ⟨_, rfl, ⟨by omega, .inl ⟨hrow7, rfl⟩⟩⟩
  intro t13 H13 b done ke13 hk13 hown hG
  refine WK.seq (WK.reg_rr (fun t' => t'.get 2 = t13.get 22) ?_ ?_)
  · simp (config := { maxSteps := 1000000 }) only [tcy_r55, WOR, wants_none', run, evalO_tmp, evalO_const, Rv_eq, Ro_some, ok_zero, true_and, get_putT (d := 8), Nat.reducePow, Nat.reduceLT, Nat.reduceEqDiff, if_false, reduceIte]
  intro t14 h2
  have hres : IsCyc ws (s :: done) := hFar.isCyc (fun s' l hc => by
      obtain ⟨y, hy⟩ := clo_head hc
      obtain ⟨k, hk, ek⟩ := List.mem_iff_getElem.1 ((hcs s').2 ⟨y, hy⟩)
      have hsi : cs[i] = s := by have := hs; rw [List.getElem?_eq_getElem hlt] at this; exact Option.some.inj this
      rcases Nat.lt_trichotomy k i with h | h | h
      · exact absurd hc (hno k s' h (by rw [List.getElem?_eq_getElem hk, ek]) l)
      · subst h; rw [← ek, ← hsi]; exact Int.le_refl _
      · have := List.pairwise_iff_getElem.1 hsort i k hlt hk h
        rw [hsi, ek] at this; exact this) ⟨x, mem_succs.1 hx1, hx2⟩ (fun v m hv hm => hW v (mem_succs.2 hv) m hm) hG
  refine WK.ret (hret t14 H13 (t13.get 22) (s :: done) h2 (hkept.trans hk13) ?_ hres (by have := hG.length; simp only [List.length_cons]; omega))
  rcases hown with ⟨h, _⟩ | ⟨b', _, ho⟩
  · cases h
  · obtain ⟨op, c, h1, h2'⟩ := ho.row
    rw [List.length_map] at h2'
    exact ⟨.inr ⟨b', op, c, h2', h1, by have := ho.ge; omega⟩⟩
end
end Go.Proofs.K25
end
