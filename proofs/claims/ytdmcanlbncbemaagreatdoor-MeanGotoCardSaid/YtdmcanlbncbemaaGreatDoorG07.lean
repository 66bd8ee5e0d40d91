/-
  A part of the reckoner for the statements of a Go program: what it answers, the model answers. Holds for every program whose tables are as given.
-/
import Derived.CheckFast
import Derived.Test.YtdmcanlbncbemaaGreatDoorG00
import Derived.Test.YtdmcanlbncbemaaGreatDoorG06
set_option linter.unusedSimpArgs false
set_option linter.unusedVariables false
set_option linter.unusedSectionVars false
noncomputable section
namespace Go.Ev
variable [SyQ]
section
variable {tb : Tb} {sp : Nat → List Value → Hp → Option (Value × Hp × Nat × Nat)} {e : Env}
def cxOf (fn : Func) : Cx := ⟨dep fn.ntmps, fn.ntmps, none, false⟩
def Leaves (tb : Tb) (e : Env) (fn : Func) (K : Value → Hp → Prop) : Ex → T Value → List Deferred → Hp → Prop := fun x t ds H =>
  (x = .normal ∨ x = .ret) ∧ ds = [] ∧ ∃ l r, resL tb fn.ntmps t H fn.results.toList = some (l, r) ∧ e.ok r 0 H ∧ K (resV l) H
theorem EC.intro {f : FuncId} {fn : Func} {c : Code} {k : KC} {args : List Value} {H : Hp} {K : Value → Hp → Prop} (hs : sp f args H = none) (hf : tb.fn f = some fn) (hb : fn.body = some c) (hk : kcomp tb fn.ntmps c = k) (hn : args.length ≤ fn.ntmps)
    (h : WK tb sp e (cxOf fn) k (enterT fn args) [] H (Leaves tb e fn K)) : EC tb sp e f args H K := by
  obtain ⟨N, x, t, ds, H', r, w, h1, h2, h3, hx, rfl, l, r2, h4, h5, h6⟩ := h c hk
  refine ⟨max N 1 + 1, resV l, H', Nat.lor r r2, Nat.lor w 0, ?_, h2.lor h5 (Nat.le_refl _), h3, h6⟩
  show evTask tb sp (ev tb sp (max N 1)) (.call f args) H = _
  simp only [evTask, hs, evCall, hf, hb]
  have hn' := (ble_iff args.length fn.ntmps).2 hn
  rw [hn', Bc_t]
  have hu : ev tb sp (max N 1) (.unwind fn.ntmps fn.results.toList t [] .returning) H' = .k (.ret (resV l) H' r2 0) := by
    refine ev_up (Nat.le_max_right N 1) ?_ (fun h => h)
    show evUnwind tb (ev tb sp 0) fn.ntmps fn.results.toList t [] .returning H' = _
    simp only [evUnwind, h4]
  have h1' := evCC_up (Nat.le_max_left N 1) h1
  show afterBody (ev tb sp (max N 1)) fn (evCC tb (ev tb sp (max N 1)) (cxOf fn) c (enterT fn args) [] H) = _
  rw [h1']
  rcases hx with rfl | rfl
  · simp only [afterBody, hu, KR.join, Fz_eq]
  · simp only [afterBody, hu, KR.join, Fz_eq]
structure En where
  i : Nat
  R : Nat → Prop
  W : Nat → Prop
def Chk (B : Array Nat) (i : Nat) (R W : Nat → Prop) (A : List En) : Prop :=
  ∀ en ∈ A, (B.getD i 0).testBit en.i = true ∨ ((∀ b, en.W b → ¬ R b ∧ ¬ W b) ∧ ∀ b, W b → ¬ en.R b)
def Rz (A : List En) (acc : Acc) : Prop :=
  ∀ x ∈ acc, (x.2.1 = 0 ∧ x.2.2 = 0) ∨ ∃ en ∈ A, en.i = x.1 ∧ (∀ b, x.2.1.testBit b = true → en.R b) ∧ (∀ b, x.2.2.testBit b = true → en.W b)
theorem land_eq_zero {x y : Nat} (h : ∀ b, x.testBit b = true → y.testBit b = false) : Nat.land x y = 0 := by
  apply Nat.eq_of_testBit_eq
  intro b
  show (x &&& y).testBit b = _
  rw [Nat.testBit_and, Nat.zero_testBit]
  cases hx : x.testBit b with
  | false => rfl
  | true => rw [h b hx]; rfl
theorem okOne_of {B : Array Nat} {i : Nat} {R W : Nat → Prop} {A : List En} {acc : Acc} {r w : Nat} (hc : Chk B i R W A) (hz : Rz A acc) (hr : ∀ b, r.testBit b = true → R b) (hw : ∀ b, w.testBit b = true → W b) : okOne (B.getD i 0) r w acc = true := by
  induction acc with
  | nil => rfl
  | cons x acc ih =>
    obtain ⟨j, rj, wj⟩ := x
    have ih' := ih fun y hy => hz y (by simp [hy])
    simp only [okOne]
    cases ht : Nat.testBit (B.getD i 0) j with
    | true => rw [Bc_t]; exact ih'
    | false =>
      rw [Bc_f]
      have key : (∀ b, wj.testBit b = true → (Nat.lor r w).testBit b = false) ∧ (∀ b, w.testBit b = true → rj.testBit b = false) := by
        rcases hz (j, rj, wj) (by simp) with ⟨h1, h2⟩ | ⟨en, hen, h1, h2, h3⟩
        · simp only at h1 h2; subst h1 h2
          exact ⟨fun b h => by simp at h, fun b _ => by simp⟩
        · simp only at h1 h2 h3
          subst h1
          rcases hc en hen with h4 | ⟨h4, h5⟩
          · rw [ht] at h4; cases h4
          · refine ⟨fun b hb => ?_, fun b hb => ?_⟩
            · have := h4 b (h3 b hb)
              rw [lor_bit]
              cases h6 : r.testBit b with
              | true => exact absurd (hr b h6) this.1
              | false => cases h7 : w.testBit b with
                | true => exact absurd (hw b h7) this.2
                | false => rfl
            · cases h6 : rj.testBit b with
              | false => rfl
              | true => exact absurd (h2 b h6) (h5 b (hw b hb))
      rw [land_eq_zero key.1, land_eq_zero key.2]
      exact ih'
def WD (tb : Tb) (sp : Nat → List Value → Hp → Option (Value × Hp × Nat × Nat)) (e : Env) (cx : Cx) (B : Array Nat) (cos : List CO) (i : Nat) (t : T Value) (ds : List Deferred) (H : Hp) (A : List En) (K : T Value → List Deferred → Hp → Prop) : Prop :=
  ∃ N t' ds' H' r w, (∀ acc r0 w0, Rz A acc → okPair B acc = true → ∃ acc', okPair B acc' = true ∧ evOps (ev tb sp N) ⟨cx.d, cx.nt, cx.rnd, true⟩ cos i t ds H acc r0 w0 = .mk .normal t' ds' H' acc' (Nat.lor r0 r) (Nat.lor w0 w)) ∧ e.ok r w H' ∧ H.nx ≤ H'.nx ∧ K t' ds' H'
def WRd (tb : Tb) (sp : Nat → List Value → Hp → Option (Value × Hp × Nat × Nat)) (e : Env) (B : Array Nat) (i : Nat) (x : R) (H : Hp) (A : List En) (K : Value → Hp → List En → Prop) : Prop := match x with
  | .val v H' r w => e.ok r w H' ∧ H.nx ≤ H'.nx ∧
      ((r = 0 ∧ w = 0 ∧ H'.nx = H.nx ∧ K v H' A) ∨ ∃ R W : Nat → Prop, (∀ b, r.testBit b = true → R b) ∧ (∀ b, w.testBit b = true ∨ (H.nx ≤ b ∧ b < H'.nx) → W b) ∧ Chk B i R W A ∧ K v H' (⟨i, R, W⟩ :: A))
  | .call f args => ∃ e' : Env, e.n0 ≤ e'.n0 ∧ e'.n0 = H.nx ∧ (∀ b, b < e.n0 → e'.Rd b → e.Rd b) ∧ (∀ b, b < e.n0 → e'.Wr b → e.Wr b) ∧
      EC tb sp e' f args H fun v H' => ∀ R W : Nat → Prop, (∀ b, R b ↔ (b < H.nx ∧ e'.Rd b) ∨ (H.nx ≤ b ∧ b < H'.nx)) → (∀ b, W b ↔ (b < H.nx ∧ e'.Wr b) ∨ (H.nx ≤ b ∧ b < H'.nx)) → Chk B i R W A ∧ K v H' (⟨i, R, W⟩ :: A)
  | _ => False
theorem WD.nil {cx : Cx} {B : Array Nat} {i : Nat} {t : T Value} {ds : List Deferred} {H : Hp} {A : List En} {K : T Value → List Deferred → Hp → Prop} (h : K t ds H) : WD tb sp e cx B [] i t ds H A K :=
  ⟨0, t, ds, H, 0, 0, fun acc r0 w0 _ ho => ⟨acc, ho, by rw [lor_zero', lor_zero']; rfl⟩, .zero e H, Nat.le_refl _, h⟩
theorem WD.skip {cx : Cx} {B : Array Nat} {o : CO} {cos : List CO} {i : Nat} {t : T Value} {ds : List Deferred} {H : Hp} {A : List En} {K : T Value → List Deferred → Hp → Prop} (hg : wants t o.guard = false) (h : WD tb sp e cx B cos (i + 1) (putT cx.d t o.dst U) ds H A K) :
    WD tb sp e cx B (o :: cos) i t ds H A K := by
  obtain ⟨N, t', ds', H', r, w, h1, h2, h3, h4⟩ := h
  refine ⟨N, t', ds', H', r, w, fun acc r0 w0 hz ho => ?_, h2, h3, h4⟩
  simp only [evOps, hg, Bc_f]
  exact h1 _ _ _ hz ho
theorem rng_none {H H' : Hp} (h : H'.nx = H.nx) : rng H H' = 0 := by unfold rng; rw [h]; exact Nat.sub_self _
theorem Rz.cons {A : List En} {acc : Acc} {i r a : Nat} {R W : Nat → Prop} (hz : Rz A acc) (hr : ∀ b, r.testBit b = true → R b) (hw : ∀ b, a.testBit b = true → W b) : Rz (⟨i, R, W⟩ :: A) ((i, r, a) :: acc) := by
  intro x hx
  rcases List.mem_cons.1 hx with rfl | hx
  · exact .inr ⟨⟨i, R, W⟩, by simp, rfl, hr, hw⟩
  · rcases hz x hx with h | ⟨en, h1, h2⟩
    · exact .inl h
    · exact .inr ⟨en, List.mem_cons.2 (.inr h1), h2⟩
theorem WD.cons {cx : Cx} {B : Array Nat} {o : CO} {cos : List CO} {i : Nat} {t : T Value} {ds : List Deferred} {H : Hp} {A : List En} {K : T Value → List Deferred → Hp → Prop} (hg : wants t o.guard = true)
    (h : WRd tb sp e B i (run o.op t H) H A fun v H1 A1 => WD tb sp e cx B cos (i + 1) (putT cx.d t o.dst v) ds H1 A1 K) : WD tb sp e cx B (o :: cos) i t ds H A K := by
  cases hr : run o.op t H with
  | val v H1 r1 w1 =>
    rw [hr] at h
    obtain ⟨a1, a2, h⟩ := h
    rcases h with ⟨rfl, rfl, hn, N, t', ds', H', r, w, h1, h2, h3, h4⟩ | ⟨R, W, hR, hW, hc, N, t', ds', H', r, w, h1, h2, h3, h4⟩
    · refine ⟨N, t', ds', H', r, w, fun acc r0 w0 hz ho => ?_, h2, Nat.le_trans a2 h3, h4⟩
      simp only [evOps, hg, Bc_t, hr, stepR]
      rw [rng_none hn]
      obtain ⟨acc', h5, h6⟩ := h1 ((i, 0, Nat.lor 0 0) :: acc) (Nat.lor r0 0) (Nat.lor w0 0) (fun x hx => by
          rcases List.mem_cons.1 hx with rfl | hx
          · exact .inl ⟨rfl, rfl⟩
          · exact hz x hx) (by
          simp only [okPair, Bool.and_eq_true]
          exact ⟨okOne_of (R := fun _ => False) (W := fun _ => False) (A := A) (fun en _ => .inr ⟨fun b _ => ⟨id, id⟩, fun b h => h.elim⟩) hz (fun b h => by simp at h) (fun b h => by rw [lor_zero'] at h; simp at h), ho⟩)
      exact ⟨acc', h5, by rw [h6, lor_zero', lor_zero']⟩
    · refine ⟨N, t', ds', H', Nat.lor r1 r, Nat.lor w1 w, fun acc r0 w0 hz ho => ?_, a1.lor h2 h3, Nat.le_trans a2 h3, h4⟩
      simp only [evOps, hg, Bc_t, hr, stepR]
      have hWa : ∀ b, (Nat.lor w1 (rng H H1)).testBit b = true → W b := fun b hb => by
        rw [lor_bit] at hb; simp only [Bool.or_eq_true] at hb
        rcases hb with hb | hb
        · exact hW b (.inl hb)
        · exact hW b (.inr ((rng_bit a2 b).1 hb))
      obtain ⟨acc', h5, h6⟩ := h1 ((i, r1, Nat.lor w1 (rng H H1)) :: acc) (Nat.lor r0 r1) (Nat.lor w0 w1) (hz.cons hR hWa) (by
          simp only [okPair, Bool.and_eq_true]
          exact ⟨okOne_of hc hz hR hWa, ho⟩)
      exact ⟨acc', h5, by rw [h6, lor_assoc', lor_assoc']⟩
  | call f args =>
    rw [hr] at h
    obtain ⟨e', q1, q2, q3, q4, N1, v, H1, r1, w1, b1, a1, a2, h⟩ := h
    obtain ⟨hc, N, t', ds', H', r, w, h1, h2, h3, h4⟩ := h _ _ (fun b => Iff.rfl) (fun b => Iff.rfl)
    have hR : ∀ b, r1.testBit b = true → (b < H.nx ∧ e'.Rd b) ∨ (H.nx ≤ b ∧ b < H1.nx) := fun b hb => by
      rcases Nat.lt_or_ge b H.nx with hlt | hge
      · exact .inl ⟨hlt, a1.rd b (by omega) hb⟩
      · exact .inr ⟨hge, a1.lt b (.inl hb)⟩
    have hW : ∀ b, (Nat.lor w1 (rng H H1)).testBit b = true → (b < H.nx ∧ e'.Wr b) ∨ (H.nx ≤ b ∧ b < H1.nx) := fun b hb => by
      rw [lor_bit] at hb; simp only [Bool.or_eq_true] at hb
      rcases hb with hb | hb
      · rcases Nat.lt_or_ge b H.nx with hlt | hge
        · exact .inl ⟨hlt, a1.wr b (by omega) hb⟩
        · exact .inr ⟨hge, a1.lt b (.inr hb)⟩
      · exact .inr ((rng_bit a2 b).1 hb)
    have a1' : e.ok r1 w1 H1 := ⟨fun b hb hh => q3 b hb (a1.rd b (Nat.lt_of_lt_of_le hb q1) hh), fun b hb hh => q4 b hb (a1.wr b (Nat.lt_of_lt_of_le hb q1) hh), a1.lt⟩
    refine ⟨max N1 N, t', ds', H', Nat.lor r1 r, Nat.lor w1 w, fun acc r0 w0 hz ho => ?_, a1'.lor h2 h3, Nat.le_trans a2 h3, h4⟩
    simp only [evOps, hg, Bc_t, hr, stepR]
    rw [ev_up (Nat.le_max_left N1 N) b1 (fun h => h)]
    simp only [afterCall]
    obtain ⟨acc', h5, h6⟩ := h1 ((i, r1, Nat.lor w1 (rng H H1)) :: acc) (Nat.lor r0 r1) (Nat.lor w0 w1) (hz.cons hR hW) (by
        simp only [okPair, Bool.and_eq_true]
        exact ⟨okOne_of hc hz hR hW, ho⟩)
    exact ⟨acc', h5, by rw [evOps_up (Nat.le_max_right N1 N) h6, lor_assoc', lor_assoc']⟩
  | fail => rw [hr] at h; exact h.elim
  | round l args => rw [hr] at h; exact h.elim
  | panic v => rw [hr] at h; exact h.elim
  | defer d => rw [hr] at h; exact h.elim
  | recover => rw [hr] at h; exact h.elim
theorem kcomp_draw {c : Code} {nt : Nat} {B : Array Nat} {cos : List CO} (hc : kcomp tb nt c = .draw B cos) : ∃ id ops, c = .region id ops true ∧ compOs tb nt ops ops.toList = cos ∧ Region.before ops = B ∧ drawOk ops (Region.before ops) = true := by
  cases c <;> simp only [kcomp, reduceCtorEq] at hc
  all_goals first
    | (exfalso; revert hc; generalize okO tb nt _ = b; cases b <;> intro hc <;> cases hc; done)
    | (exfalso; revert hc; generalize tb.hk nt _ = b; cases b <;> intro hc <;> cases hc; done)
    | skip
  rename_i id ops draw
  cases draw with
  | false => simp only [reduceCtorEq] at hc
  | true =>
    simp only at hc
    cases h : drawOk ops (Region.before ops) with
    | false => rw [h, Bc_f] at hc; cases hc
    | true => rw [h, Bc_t] at hc; cases hc; exact ⟨id, ops, rfl, rfl, rfl, h⟩
theorem WK.draw {cx : Cx} {B : Array Nat} {cos : List CO} {t : T Value} {ds : List Deferred} {H : Hp} {K : Ex → T Value → List Deferred → Hp → Prop} (h : WD tb sp e cx B cos 0 t ds H [] (K .normal)) : WK tb sp e cx (.draw B cos) t ds H K := by
  intro c hc
  obtain ⟨id, ops, rfl, hcos, rfl, hdo⟩ := kcomp_draw hc
  obtain ⟨N, t', ds', H', r, w, h1, h2, h3, h4⟩ := h
  obtain ⟨acc', h5, h6⟩ := h1 [] 0 0 (fun x hx => by cases hx) rfl
  refine ⟨N, .normal, t', ds', H', r, w, ?_, h2, h3, h4⟩
  simp only [evCC, hdo, Bc_t, hcos, h6, ofORd, h5, zero_lor']
end
end Go.Ev
end
noncomputable section
namespace Go.Ev
variable [SyQ]
section
theorem evalO_tmp (t : T Value) (i : Nat) : evalO t (.tmp i) = t.get i := rfl
theorem evalO_const (t : T Value) (v : Value) : evalO t (.const v) = v := rfl
theorem evalO_global (t : T Value) (g : Nat) : evalO t (.global g) = .pointer (some ⟨g, 0, none⟩) := rfl
theorem evalO_func (t : T Value) (f : FuncId) : evalO t (.func f) = .func (.func f) #[] #[] := rfl
theorem get_putT {d i j : Nat} (hi : i < 8 ^ d) (hj : j < 8 ^ d) (t : T Value) (v : Value) : (putT d t (some i) v).get j = if j = i then v else t.get j := T.get_set d t i j v hi hj
theorem putT_none (d : Nat) (t : T Value) (v : Value) : putT d t none v = t := rfl
theorem enterT_get {fn : Func} {args : List Value} (hn : args.length ≤ fn.ntmps) {i : Nat} (hi : i < fn.ntmps) : (enterT fn args).get i = args.getD i U := by
  unfold enterT
  have hd := lt_dep fn.ntmps
  rw [wrL_get (dep fn.ntmps) args 0 _ i (by omega) (by omega)]
  by_cases h : i < args.length
  · rw [if_pos ⟨Nat.zero_le _, by omega⟩]; simp
  · rw [if_neg (by omega), fullU_get]
    simp [List.getD, List.getElem?_eq_none (Nat.le_of_not_lt h)]
theorem ltI_dec (x y : Int) : ltI x y = decide (x < y) := ltI_eq x y
theorem eqI_dec (x y : Int) : eqI x y = decide (x = y) := by rw [eqI_eq]; rfl
theorem wrapF_i64 {n : Int} (h1 : -9223372036854775808 ≤ n) (h2 : n ≤ 9223372036854775807) : wrapF .i64 n = n := by
  cases n with
  | ofNat m =>
    show Bc (Nat.ble m 9223372036854775807) _ _ = _
    have h3 : (m : Int) ≤ 9223372036854775807 := h2
    rw [(ble_iff m 9223372036854775807).2 (by omega)]; rfl
  | negSucc m =>
    show Bc (IntKind.i64.signed && Nat.ble m 9223372036854775807) _ _ = _
    rw [(ble_iff m 9223372036854775807).2 (by omega)]; rfl
theorem binV_add (a b : Int) : binV .add (.int .i64 a) (.int .i64 b) = some (.int .i64 (wrapF .i64 (a + b))) := rfl
theorem binV_sub (a b : Int) : binV .sub (.int .i64 a) (.int .i64 b) = some (.int .i64 (wrapF .i64 (a - b))) := rfl
theorem binV_lss (a b : Int) : binV .lss (.int .i64 a) (.int .i64 b) = some (.bool (decide (a < b))) := by rw [← ltI_dec]; rfl
theorem binV_gtr (a b : Int) : binV .gtr (.int .i64 a) (.int .i64 b) = some (.bool (decide (b < a))) := by rw [← ltI_dec]; rfl
theorem binV_leq (a b : Int) : binV .leq (.int .i64 a) (.int .i64 b) = some (.bool (!decide (b < a))) := by rw [← ltI_dec]; rfl
theorem binV_geq (a b : Int) : binV .geq (.int .i64 a) (.int .i64 b) = some (.bool (!decide (a < b))) := by rw [← ltI_dec]; rfl
theorem exEq_int (neg : Bool) (a b : Int) (H : Hp) : exEq neg (.one .i) (.int .i64 a) (.int .i64 b) H = .val (.bool (Bc neg (!decide (a = b)) (decide (a = b)))) H 0 0 := by rw [← eqI_dec]; rfl
theorem Ro_some (v : Value) (H : Hp) : R.o (some v) H = .val v H 0 0 := rfl
theorem Rv_eq (v : Value) (H : Hp) : R.v v H = .val v H 0 0 := rfl
def Row (H : Hp) (b : Nat) (ty op : Nat) (L : List Value) : Prop := ∃ t, H.blk b = .cells t L.length ty op 0 0 ∧ ∀ (i : Nat) v, L[i]? = some v → t.get i = v
theorem Row.alive {H : Hp} {b ty op : Nat} {L : List Value} (h : Row H b ty op L) : alive H b := by
  obtain ⟨t, h, _⟩ := h; exact (alive_iff H b).2 (by rw [h]; simp)
theorem Row.lt {H : Hp} {b ty op : Nat} {L : List Value} (h : Row H b ty op L) : b < H.nx := h.alive.1
theorem Row.of_blk {H H' : Hp} {b ty op : Nat} {L : List Value} (h : Row H b ty op L) (e : H'.blk b = H.blk b) : Row H' b ty op L := by
  obtain ⟨t, h1, h2⟩ := h; exact ⟨t, e.trans h1, h2⟩
theorem exLd1_row {H : Hp} {b ty op o : Nat} {L : List Value} {v : Value} (h : Row H b ty op L) (hv : L[o]? = some v) : exLd1 (.pointer (some ⟨b, o, none⟩)) H = .val v H (bit b) 0 := by
  obtain ⟨t, h1, h2⟩ := h
  have hlt : o < L.length := by
    rcases Nat.lt_or_ge o L.length with h' | h'
    · exact h'
    · rw [List.getElem?_eq_none h'] at hv; cases hv
  show (match rd1 H b o with | some x => R.val x H (bit b) 0 | none => .fail) = _
  have : rd1 H b o = some v := by
    unfold rd1; rw [h1]; simp only []
    rw [(blt_iff o L.length).2 hlt, Bc_t, h2 o v hv]
  rw [this]
theorem rdL_list {t : T Value} {L : List Value} (h : ∀ (i : Nat) v, L[i]? = some v → t.get i = v) : ∀ (k o : Nat), o + k ≤ L.length → rdL t k o = (L.drop o).take k := by
  intro k o hle
  apply List.ext_getElem?
  intro i
  by_cases hi : i < k
  · rw [rdL_get t k o i hi, List.getElem?_take_of_lt hi, List.getElem?_drop]
    have : o + i < L.length := by omega
    rw [h (o + i) L[o + i] (by simp [this])]
    simp [this]
  · rw [List.getElem?_eq_none (by rw [rdL_len]; omega), List.getElem?_eq_none (by simp; omega)]
theorem rdN_row {H : Hp} {b ty op o k : Nat} {L : List Value} (h : Row H b ty op L) (hle : o + k ≤ L.length) : rdN H b o k = some ((L.drop o).take k) := by
  obtain ⟨t, h1, h2⟩ := h
  unfold rdN; rw [h1]; simp only []
  rw [(ble_iff _ _).2 hle, Bc_t, rdL_list h2 k o hle]
theorem exLdN_row {H : Hp} {b ty op o k : Nat} {L : List Value} (h : Row H b ty op L) (hle : o + k ≤ L.length) : exLdN k (.pointer (some ⟨b, o, none⟩)) H = .val (.agg ⟨(L.drop o).take k⟩) H (bit b) 0 := by
  show (match rdN H b o k with | some l => R.val (.agg ⟨l⟩) H (bit b) 0 | none => .fail) = _
  rw [rdN_row h hle]
theorem exFa_ptr (off b o : Nat) (H : Hp) : exFa off (.pointer (some ⟨b, o, none⟩)) H = .val (.pointer (some ⟨b, o + off, none⟩)) H 0 0 := rfl
theorem idx_int {i : Int} {n : Nat} (h1 : 0 ≤ i) (h2 : i < n) : idx (.int .i64 i) n = some i.toNat := by
  obtain ⟨m, rfl⟩ := Int.eq_ofNat_of_zero_le h1
  show (match natI (Int.ofNat m) with | some m => Bc (Nat.blt m n) (some m) none | none => none) = _
  simp only [natI]
  rw [(blt_iff m n).2 (by omega), Bc_t]; rfl
theorem exIaS_int {sz b o n c : Nat} {i : Int} {H : Hp} (h1 : 0 ≤ i) (h2 : i < n) : exIaS sz (.slice (some ⟨b, o, none⟩) n c) (.int .i64 i) H = .val (.pointer (some ⟨b, o + i.toNat * sz, none⟩)) H 0 0 := by
  unfold exIaS asSl
  simp only [idx_int h1 h2]; rfl
theorem exIaA_int {n sz b o : Nat} {i : Int} {H : Hp} (h1 : 0 ≤ i) (h2 : i < n) : exIaA n sz (.pointer (some ⟨b, o, none⟩)) (.int .i64 i) H = .val (.pointer (some ⟨b, o + i.toNat * sz, none⟩)) H 0 0 := by
  show (match idx (.int .i64 i) n with | some m => R.pt b (o + m * sz) H 0 0 | none => .fail) = _
  rw [idx_int h1 h2]; rfl
theorem exLen_slice (a : Option Addr) (n c : Nat) (H : Hp) : exLen 1 (.slice a n c) H = .val (.int .i64 n) H 0 0 := rfl
theorem exLen_string (s : ByteArray) (H : Hp) : exLen 0 (.string s) H = .val (.int .i64 (s.data.toList.length : Nat)) H 0 0 := rfl
theorem row_push {H : Hp} (hr : H.room = true) (L : List Value) (ty op : Nat) : Row (H.push (blkL L ty op)) H.nx ty op L := by
  obtain ⟨t, h1, h2⟩ := blkL_eq L ty op
  exact ⟨t, by rw [blk_push _ hr, if_pos rfl, h1], h2⟩
theorem alloc1_room {H : Hp} (hr : H.room = true) (x : Blk) (f : Nat → Value) (r w : Nat) : alloc1 x H f r w = .val (f H.nx) (H.push x) r w := by rw [alloc1_eq, if_pos hr]
theorem blk_push_old {H : Hp} (hr : H.room = true) (x : Blk) {c : Nat} (h : c < H.nx) : (H.push x).blk c = H.blk c := by rw [blk_push _ hr, if_neg (by omega)]
theorem blk_put_ne {H : Hp} (hw : H.wf) (x : Blk) {b c : Nat} (hb : b < H.nx) (h : c ≠ b) : (H.put b x).blk c = H.blk c := by rw [blk_put _ hw hb, if_neg h]
theorem asSl_open (b o l c : Nat) : asSl (.slice (some ⟨b, o, none⟩) l (2 * c + 1)) = some (some (b, o), l, c, true) := by
  show some (some (b, o), l, Nat.div (2 * c + 1) 2, Nat.beq (Nat.mod (2 * c + 1) 2) 1) = _
  have h1 : Nat.div (2 * c + 1) 2 = c := by show (2 * c + 1) / 2 = c; omega
  have h2 : Nat.mod (2 * c + 1) 2 = 1 := by show (2 * c + 1) % 2 = 1; omega
  rw [h1, h2]; rfl
theorem asSl_shut (b o l c : Nat) : asSl (.slice (some ⟨b, o, none⟩) l (2 * c)) = some (some (b, o), l, c, false) := by
  show some (some (b, o), l, Nat.div (2 * c) 2, Nat.beq (Nat.mod (2 * c) 2) 1) = _
  have h1 : Nat.div (2 * c) 2 = c := by show (2 * c) / 2 = c; omega
  have h2 : Nat.mod (2 * c) 2 = 0 := by show (2 * c) % 2 = 0; omega
  rw [h1, h2]; rfl
inductive Full (H : Hp) (ty sz : Nat) : Value → List Value → Prop
  | nil : Full H ty sz (.slice none 0 0) []
  | shut (b n : Nat) (L : List Value) (h : Row H b ty 0 L) (hl : L.length = n * sz) : Full H ty sz (.slice (some ⟨b, 0, none⟩) n (2 * n)) L
  | open_ (b n : Nat) (L : List Value) (h : Row H b ty (sz + 1) L) (hl : L.length = n * sz) : Full H ty sz (.slice (some ⟨b, 0, none⟩) n (2 * n + 1)) L
end
end Go.Ev
end
noncomputable section
namespace Go.Ev
variable [SyQ]
section
theorem okBytes_of {need bytes : Nat} (h1 : (2 * need + 768) * bytes ≤ 140737488355328) (h2 : need ≤ 140737488355328) : okBytes need bytes = true := by
  unfold okBytes
  rw [(ble_iff _ _).2 h1, (ble_iff _ _).2 h2]; rfl
theorem rdN_all {H : Hp} {b ty op : Nat} {L : List Value} (h : Row H b ty op L) : rdN H b 0 L.length = some L := by
  rw [rdN_row h (by omega)]; simp
theorem cellsOf_slice {H : Hp} {b ty op o n sz c : Nat} {L : List Value} (h : Row H b ty op L) (hle : o + n * sz ≤ L.length) : cellsOfV H sz n (.slice (some ⟨b, o, none⟩) n c) = some ((L.drop o).take (n * sz), bit b) := by
  unfold cellsOfV
  simp only [rdN_row h hle]
theorem exApp_nil {H : Hp} (hr : H.room = true) {ty sz by_ n r : Nat} {x : Value} {new : List Value} (hl : lenV x = some n) (hn : 0 < n) (hc : cellsOfV H sz n x = some (new, r)) (hb : okBytes n by_ = true) :
    exApp ty sz by_ (.slice none 0 0) x H = .val (.slice (some ⟨H.nx, 0, none⟩) n (2 * n + 1)) (H.push (blkL new ty (sz + 1))) r 0 := by
  unfold exApp
  simp only [hl, hc, asSl, Nat.zero_add]
  have h1 : Nat.ble n 0 = false := by rw [ble_f]; exact hn
  rw [h1, Bc_f, hb, Bc_t]
  show Bc (Nat.beq 0 0) _ _ = _
  rw [show Nat.beq 0 0 = true from rfl, Bc_t, alloc1_room hr]
  rfl
theorem exApp_shut {H : Hp} (hr : H.room = true) {ty sz by_ n m r b : Nat} {L : List Value} {x : Value} {new : List Value} (h : Row H b ty 0 L) (hL : L.length = m * sz) (hl : lenV x = some n) (hn : 0 < n) (hc : cellsOfV H sz n x = some (new, r)) (hb : okBytes (m + n) by_ = true) :
    exApp ty sz by_ (.slice (some ⟨b, 0, none⟩) m (2 * m)) x H = .val (.slice (some ⟨H.nx, 0, none⟩) (m + n) (2 * (m + n) + 1)) (H.push (blkL (L ++ new) ty (sz + 1))) (Nat.lor r (bit b)) 0 := by
  unfold exApp
  simp only [hl, hc, asSl_shut]
  have h1 : Nat.ble (m + n) m = false := by rw [ble_f]; omega
  rw [h1, Bc_f, hb, Bc_t, ← hL, rdN_all h]
  simp only []
  rw [Bc_f, alloc1_room hr]
  rfl
theorem thawed_zero (o k : Nat) : thawed o k 0 0 = true := by
  unfold thawed
  rw [show Nat.ble 0 0 = true from rfl]; rfl
theorem exApp_open {H : Hp} (hr : H.room = true) {ty sz by_ n m r b : Nat} {L : List Value} {x : Value} {new : List Value} (h : Row H b ty (sz + 1) L) (hL : L.length = m * sz) (hl : lenV x = some n) (hn : 0 < n) (hc : cellsOfV H sz n x = some (new, r)) (hb : okBytes (m + n) by_ = true) :
    exApp ty sz by_ (.slice (some ⟨b, 0, none⟩) m (2 * m + 1)) x H = .val (.slice (some ⟨H.nx, 0, none⟩) (m + n) (2 * (m + n) + 1)) ((H.put b .no).push (blkL (L ++ new) ty (sz + 1))) r (bit b) := by
  obtain ⟨t, h1, h2⟩ := h
  have hrow : Row H b ty (sz + 1) L := ⟨t, h1, h2⟩
  unfold exApp
  simp only [hl, hc, asSl_open]
  have h3 : Nat.ble (m + n) m = false := by rw [ble_f]; omega
  rw [h3, Bc_f, hb, Bc_t, ← hL, rdN_all hrow]
  simp only [h1]
  rw [Bc_t]
  have hcond : (Nat.beq (sz + 1) (Nat.succ sz) && Nat.beq (0 + L.length) L.length && Nat.beq ty ty && (Nat.ble 0 0 || Nat.ble 0 0) && thawed (0 + L.length) (n * sz) 0 0) = true := by
    rw [thawed_zero, (beq_iff (sz + 1) (Nat.succ sz)).2 rfl, (beq_iff (0 + L.length) L.length).2 (by omega), (beq_iff ty ty).2 rfl]; rfl
  rw [hcond, Bc_t, alloc1_room (by rw [room_put]; exact hr), nx_put]
  have hfr : frB (Nat.blt 0 0) (0 - 0) (0 - 0) (blkL (L ++ new) ty (Nat.succ sz)) = blkL (L ++ new) ty (sz + 1) := by
    obtain ⟨t2, e2, _⟩ := blkL_eq (L ++ new) ty (sz + 1)
    show frB (Nat.blt 0 0) (0 - 0) (0 - 0) (blkL (L ++ new) ty (sz + 1)) = _
    rw [e2]; rfl
  rw [hfr]
  rfl
end
section
def keyI : Value → Option Int
  | .int .i64 z => some z
  | _ => none
def posK (k : Int) : List MapEntry → Nat → Option (Nat × Value)
  | [], _ => none
  | e :: es, i => if keyI e.key = some k then some (i, e.val) else posK k es (i + 1)
def intKeys (es : List MapEntry) : Prop := ∀ e ∈ es, ∃ z, e.key = .int .i64 z
theorem findK_int (k : Int) : ∀ (es : List MapEntry) (i : Nat), intKeys es → findK (.one .i) (.int .i64 k) es i = some (posK k es i) := by
  intro es
  induction es with
  | nil => intro i _; rfl
  | cons e es ih =>
    intro i h
    obtain ⟨z, hz⟩ := h e (by simp)
    have ih' := ih (i + 1) fun x hx => h x (by simp [hx])
    simp only [findK, posK, hz, keyI]
    have he : eqV (.one .i) (.int .i64 k) (.int .i64 z) = some (decide (k = z)) := by rw [← eqI_dec]; rfl
    rw [he]
    by_cases hkz : k = z
    · subst hkz; simp
    · rw [decide_eq_false hkz]
      have : ¬ (some z = some k) := fun h => hkz (by cases h; rfl)
      rw [if_neg this]; exact ih'
def mapF (es : List MapEntry) (k : Int) : Option Value := (posK k es 0).map (·.2)
theorem posK_shift (k : Int) : ∀ (es : List MapEntry) (i : Nat), posK k es i = (posK k es 0).map fun x => (x.1 + i, x.2) := by
  intro es
  induction es with
  | nil => intro i; rfl
  | cons e es ih =>
    intro i
    simp only [posK]
    split
    · simp
    · rw [ih (i + 1), ih (0 + 1)]
      simp only [Option.map_map]
      congr 1
      funext x
      simp; omega
theorem mapF_nil (k : Int) : mapF [] k = none := rfl
theorem mapF_cons (e : MapEntry) (es : List MapEntry) (k : Int) : mapF (e :: es) k = if keyI e.key = some k then some e.val else mapF es k := by
  unfold mapF
  simp only [posK]
  split
  · rfl
  · rw [posK_shift k es (0 + 1)]; simp [Function.comp_def]
theorem mapF_append (a b : List MapEntry) (k : Int) : mapF (a ++ b) k = (mapF a k).or (mapF b k) := by
  induction a with
  | nil => rfl
  | cons e a ih =>
    rw [List.cons_append, mapF_cons, mapF_cons]
    split
    · rfl
    · exact ih
theorem posK_key {k : Int} : ∀ {es : List MapEntry} {n i : Nat} {v : Value}, posK k es n = some (i, v) → ∃ e, es[i - n]? = some e ∧ keyI e.key = some k ∧ n ≤ i := by
  intro es
  induction es with
  | nil => intro n i v h; cases h
  | cons e es ih =>
    intro n i v h
    simp only [posK] at h
    split at h
    · rename_i he; cases h; exact ⟨e, by simp, he, Nat.le_refl _⟩
    · obtain ⟨e', h1, h2, h3⟩ := ih h
      exact ⟨e', by rw [show i - n = (i - (n + 1)) + 1 from by omega]; simpa using h1, h2, by omega⟩
theorem mapF_modify (k : Int) (x : Value) : ∀ (es : List MapEntry) (i : Nat) (v : Value), posK k es 0 = some (i, v) → ∀ j, mapF (es.modify i fun e => { e with key := .int .i64 k, val := x }) j = if j = k then some x else mapF es j := by
  intro es
  induction es with
  | nil => intro i v h; cases h
  | cons e es ih =>
    intro i v h j
    simp only [posK] at h
    split at h
    · rename_i he
      simp only [Option.some.injEq, Prod.mk.injEq] at h
      obtain ⟨rfl, _⟩ := h
      simp only [List.modify_zero_cons, mapF_cons]
      by_cases hj : j = k
      · subst hj
        rw [if_pos (show keyI (.int .i64 j) = some j from rfl), if_pos rfl]
      · have : ¬ (some k = some j) := fun h => hj (by cases h; rfl)
        rw [if_neg (show ¬ keyI (.int .i64 k) = some j from this), if_neg hj, he, if_neg this]
    · rename_i he
      rw [posK_shift] at h
      cases hp : posK k es 0 with
      | none => rw [hp] at h; cases h
      | some y =>
        obtain ⟨i', v'⟩ := y
        rw [hp] at h
        simp only [Option.map_some, Option.some.injEq, Prod.mk.injEq] at h
        obtain ⟨rfl, rfl⟩ := h
        rw [show i' + (0 + 1) = Nat.succ i' from rfl, List.modify_succ_cons, mapF_cons, mapF_cons, ih i' v' hp j]
        by_cases hj : j = k
        · subst hj; rw [if_neg he, if_pos rfl, if_pos rfl]
        · rw [if_neg hj, if_neg hj]
theorem posK_none {k : Int} {es : List MapEntry} (h : posK k es 0 = none) : mapF es k = none := by unfold mapF; rw [h]; rfl
def MapI (H : Hp) (b : Nat) (es : List MapEntry) : Prop := ∃ c, H.blk b = .obj (.map ⟨es⟩ c) ∧ intKeys es
theorem MapI.alive {H : Hp} {b : Nat} {es : List MapEntry} (h : MapI H b es) : alive H b := by obtain ⟨c, h, _⟩ := h; exact (alive_iff H b).2 (by rw [h]; simp)
theorem MapI.of_blk {H H' : Hp} {b : Nat} {es : List MapEntry} (h : MapI H b es) (e : H'.blk b = H.blk b) : MapI H' b es := by obtain ⟨c, h1, h2⟩ := h; exact ⟨c, e.trans h1, h2⟩
theorem exLkp_map {H : Hp} {b : Nat} {es : List MapEntry} (h : MapI H b es) (z : Value) (ok : Bool) (k : Int) :
    exLkp z ok (.one .i) (.map (some b)) (.int .i64 k) H = .val (match mapF es k with | some x => Bc ok (.tuple #[x, .bool true]) x | none => Bc ok (.tuple #[z, .bool false]) z) H (bit b) 0 := by
  obtain ⟨c, h1, h2⟩ := h
  have hm : mapOf H b = some (⟨es⟩, c) := by unfold mapOf; rw [h1]
  show (match mapOf H b with | none => R.fail | some (es, _) => _) = _
  rw [hm]
  simp only [findK_int k es 0 h2, mapF]
  cases posK k es 0 with
  | none => rfl
  | some y => rfl
theorem exMup_map {H : Hp} {b : Nat} {es : List MapEntry} (h : MapI H b es) (k : Int) (x : Value) :
    ∃ es' c', exMup (.one .i) (.map (some b)) (.int .i64 k) x H = .val U (H.put b (.obj (.map ⟨es'⟩ c'))) 0 (bit b) ∧ intKeys es' ∧
      (∀ j, mapF es' j = if j = k then some x else mapF es j) ∧ es'.map (fun e => keyI e.key) = (if (mapF es k).isSome then es.map (fun e => keyI e.key) else es.map (fun e => keyI e.key) ++ [some k]) := by
  obtain ⟨c, h1, h2⟩ := h
  have hm : mapOf H b = some (⟨es⟩, c) := by unfold mapOf; rw [h1]
  cases hp : posK k es 0 with
  | some y =>
    obtain ⟨i, v⟩ := y
    refine ⟨es.modify i fun e => { e with key := .int .i64 k, val := x }, c, ?_, fun e he => ?_, mapF_modify k x es i v hp, ?_⟩
    · simp only [exMup, asM, hm, findK_int k es 0 h2, hp]
    · rw [List.mem_iff_getElem?] at he
      obtain ⟨j, hj⟩ := he
      rw [List.getElem?_modify] at hj
      cases hej : es[j]? with
      | none => rw [hej] at hj; simp at hj
      | some e0 =>
        rw [hej] at hj
        have hk0 := h2 e0 (List.mem_of_getElem? hej)
        have hj' : (if i = j then ({ e0 with key := .int .i64 k, val := x } : MapEntry) else e0) = e := Option.some.inj hj
        rw [← hj']
        split
        · exact ⟨k, rfl⟩
        · exact hk0
    · have hs : (mapF es k).isSome = true := by unfold mapF; rw [hp]; rfl
      rw [if_pos hs]
      obtain ⟨e, g1, g2, _⟩ := posK_key hp
      have g3 : es[i]? = some e := by simpa using g1
      apply List.ext_getElem?
      intro j
      rw [List.getElem?_map, List.getElem?_map, List.getElem?_modify]
      by_cases hij : i = j
      · subst hij
        rw [g3]
        show some (keyI (if i = i then ({ e with key := .int .i64 k, val := x } : MapEntry) else e).key) = some (keyI e.key)
        rw [if_pos rfl]
        exact congrArg some g2.symm
      · simp [hij]
  | none =>
    refine ⟨es ++ [{ key := .int .i64 k, val := x, born := c }], Nat.succ c, ?_, fun e he => ?_, fun j => ?_, ?_⟩
    · simp only [exMup, asM, hm, findK_int k es 0 h2, hp]
    · rcases List.mem_append.1 he with he | he
      · exact h2 e he
      · simp at he; subst he; exact ⟨k, rfl⟩
    · rw [mapF_append, mapF_cons, mapF_nil]
      by_cases hj : j = k
      · subst hj; rw [posK_none hp]; simp [keyI]
      · have : ¬ (some k = some j) := fun h => hj (by cases h; rfl)
        simp [hj, keyI, this]
    · have hs : ¬ ((mapF es k).isSome = true) := by rw [posK_none hp]; simp
      rw [if_neg hs]; simp [keyI]
end
end Go.Ev
end
noncomputable section
namespace Go.Ev
variable [SyQ]
section
variable (tb : Tb) (sp : Nat → List Value → Hp → Option (Value × Hp × Nat × Nat)) (e : Env)
def WOR (d : Nat) (H : Hp) (K : T Value → Prop) : List CO → T Value → Prop
  | [], t => K t
  | o :: cos, t => (match wants t o.guard with
    | true => (match run o.op t H with
      | .val v H' r w => H' = H ∧ w = 0 ∧ e.ok r 0 H ∧ WOR d H K cos (putT d t o.dst v)
      | _ => False)
    | false => WOR d H K cos (putT d t o.dst U))
mutual
def WOG (d : Nat) (K : T Value → Hp → Prop) : List CO → T Value → Hp → Prop
  | [], t, H => K t H
  | o :: cos, t, H => (match wants t o.guard with
    | true => (match run o.op t H with
      | .val v H1 r w => e.ok r w H1 ∧ H.nx ≤ H1.nx ∧ WOG d K cos (putT d t o.dst v) H1
      | .call f args => EC tb sp e f args H (WOGk d K cos t o.dst)
      | _ => False)
    | false => WOG d K cos (putT d t o.dst U) H)
def WOGk (d : Nat) (K : T Value → Hp → Prop) (cos : List CO) (t : T Value) (dst : Option Tmp) : Value → Hp → Prop := fun v H1 => WOG d K cos (putT d t dst v) H1
end
end
section
variable {tb : Tb} {sp : Nat → List Value → Hp → Option (Value × Hp × Nat × Nat)} {e : Env}
theorem WO.of_wog {cx : Cx} {K : T Value → Hp → Prop} {ds : List Deferred} : ∀ {cos : List CO} {t : T Value} {H : Hp}, WOG tb sp e cx.d K cos t H → WO tb sp e cx cos t ds H (fun t' ds' H' => ds' = ds ∧ K t' H') := by
  intro cos
  induction cos with
  | nil => intro t H h; rw [WOG] at h; exact WO.nil ⟨rfl, h⟩
  | cons o cos ih =>
    intro t H h
    rw [WOG] at h
    cases hg : wants t o.guard with
    | true =>
      rw [hg] at h
      refine WO.cons hg ?_
      revert h
      cases run o.op t H with
      | val v H1 r w => exact fun h => ⟨h.1, h.2.1, ih h.2.2⟩
      | call f args => exact fun h => EC.mono h fun v H1 _ hk => ih (by rw [WOGk] at hk; exact hk)
      | _ => exact fun h => h.elim
    | false =>
      rw [hg] at h
      exact WO.skip hg (ih h)
theorem okPair_reads (B : Array Nat) : ∀ {acc : Acc}, (∀ x ∈ acc, x.2.2 = 0) → okPair B acc = true := by
  have one : ∀ (b rj : Nat) (acc : Acc), (∀ x ∈ acc, x.2.2 = 0) → okOne b rj 0 acc = true := by
    intro b rj acc
    induction acc with
    | nil => intro _; rfl
    | cons x acc ih =>
      intro h
      obtain ⟨i, ri, wi⟩ := x
      have h0 : wi = 0 := h (i, ri, wi) (by simp)
      subst h0
      have ih' := ih fun y hy => h y (by simp [hy])
      simp only [okOne]
      cases Nat.testBit b i with
      | true => rw [Bc_t]; exact ih'
      | false =>
        rw [Bc_f]
        have e1 : Nat.land 0 (Nat.lor rj 0) = 0 := Nat.zero_and _
        have e2 : Nat.land 0 ri = 0 := Nat.zero_and _
        rw [e1, e2]; exact ih'
  intro acc
  induction acc with
  | nil => intro _; rfl
  | cons x acc ih =>
    intro h
    obtain ⟨i, ri, wi⟩ := x
    have h0 : wi = 0 := h (i, ri, wi) (by simp)
    subst h0
    simp only [okPair, Bool.and_eq_true]
    exact ⟨one _ _ _ fun y hy => h y (by simp [hy]), ih fun y hy => h y (by simp [hy])⟩
theorem wor_run {d : Nat} {H : Hp} {K : T Value → Prop} : ∀ {cos : List CO} {t : T Value}, WOR e d H K cos t →
    ∃ t' r, (∀ (rec : Rec) (cx : Cx) i ds acc r0 w0, cx.d = d → (∀ x ∈ acc, x.2.2 = 0) → ∃ acc', (∀ x ∈ acc', x.2.2 = 0) ∧ evOps rec cx cos i t ds H acc r0 w0 = .mk .normal t' ds H acc' (Nat.lor r0 r) (Nat.lor w0 0)) ∧ e.ok r 0 H ∧ K t' := by
  intro cos
  induction cos with
  | nil => intro t h; exact ⟨t, 0, fun rec cx i ds acc r0 w0 _ ha => ⟨acc, ha, by rw [lor_zero', lor_zero']; rfl⟩, .zero e H, h⟩
  | cons o cos ih =>
    intro t h
    rw [WOR] at h
    cases hg : wants t o.guard with
    | true =>
      rw [hg] at h
      simp only [] at h
      cases hr : run o.op t H with
      | val v H1 r w =>
        rw [hr] at h
        obtain ⟨rfl, rfl, h1, h2⟩ := h
        obtain ⟨t', r2, h3, h4, h5⟩ := ih h2
        refine ⟨t', Nat.lor r r2, fun rec cx i ds acc r0 w0 hd ha => ?_, by have := h1.lor h4 (Nat.le_refl _); rwa [lor_zero'] at this, h5⟩
        obtain ⟨acc', h6, h7⟩ := h3 rec cx (Nat.succ i) ds ((i, r, Nat.lor 0 (rng H1 H1)) :: acc) (Nat.lor r0 r) (Nat.lor w0 0) hd (fun x hx => by
          rcases List.mem_cons.1 hx with rfl | hx
          · show Nat.lor 0 (rng H1 H1) = 0
            rw [rng_none rfl]; rfl
          · exact ha x hx)
        refine ⟨acc', h6, ?_⟩
        subst hd
        simp only [evOps, hg, Bc_t, hr, stepR]
        rw [h7, lor_assoc', lor_assoc', lor_zero' 0]
      | _ => rw [hr] at h; exact h.elim
    | false =>
      rw [hg] at h
      obtain ⟨t', r2, h3, h4, h5⟩ := ih h
      refine ⟨t', r2, fun rec cx i ds acc r0 w0 hd ha => ?_, h4, h5⟩
      obtain ⟨acc', h6, h7⟩ := h3 rec cx (Nat.succ i) ds acc r0 w0 hd ha
      refine ⟨acc', h6, ?_⟩
      subst hd
      simp only [evOps, hg, Bc_f]
      exact h7
variable {cx : Cx} {t : T Value} {ds : List Deferred} {H : Hp} {K : Ex → T Value → List Deferred → Hp → Prop}
theorem WK.reg_r {cos : List CO} (h : WOR e cx.d H (fun t' => K .normal t' ds H) cos t) : WK tb sp e cx (.reg cos) t ds H K := by
  obtain ⟨t', r, h1, h2, h3⟩ := wor_run h
  intro c hc
  obtain ⟨id, ops, rfl, hcos⟩ := kcomp_reg hc
  obtain ⟨acc', _, h5⟩ := h1 (ev tb sp 0) cx 0 ds [] 0 0 rfl (fun x hx => by cases hx)
  refine ⟨0, .normal, t', ds, H, r, 0, ?_, h2, Nat.le_refl _, h3⟩
  simp only [evCC, hcos, h5, ofOR, zero_lor']
theorem WK.draw_r {B : Array Nat} {cos : List CO} (h : WOR e cx.d H (fun t' => K .normal t' ds H) cos t) : WK tb sp e cx (.draw B cos) t ds H K := by
  obtain ⟨t', r, h1, h2, h3⟩ := wor_run h
  intro c hc
  obtain ⟨id, ops, rfl, hcos, rfl, hdo⟩ := kcomp_draw hc
  obtain ⟨acc', h4, h5⟩ := h1 (ev tb sp 0) ⟨cx.d, cx.nt, cx.rnd, true⟩ 0 ds [] 0 0 rfl (fun x hx => by cases hx)
  refine ⟨0, .normal, t', ds, H, r, 0, ?_, h2, Nat.le_refl _, h3⟩
  simp only [evCC, hdo, Bc_t, hcos, h5, ofORd, okPair_reads _ h4, zero_lor']
theorem WK.reg_g {cos : List CO} (h : WOG tb sp e cx.d (fun t' H' => K .normal t' ds H') cos t H) : WK tb sp e cx (.reg cos) t ds H K :=
  WK.reg ((WO.of_wog h).mono fun t' ds' H' _ hk => by obtain ⟨rfl, hk⟩ := hk; exact hk)
theorem ok_zero : e.ok 0 0 H ↔ True := by simp [Env.ok.zero]
theorem wants_none' (t : T Value) : wants t none = true := rfl
def wantsV (v : Value) (w : Bool) : Bool := match asB v with | some b => Bc b w (!w) | none => false
theorem wants_some (t : T Value) (i : Nat) (w : Bool) : wants t (some (i, w)) = wantsV (t.get i) w := rfl
theorem wantsV_U (w : Bool) : wantsV U w = false := rfl
theorem wantsV_tt : wantsV (.bool true) true = true := rfl
theorem wantsV_tf : wantsV (.bool true) false = false := rfl
theorem wantsV_ft : wantsV (.bool false) true = false := rfl
theorem wantsV_ff : wantsV (.bool false) false = true := rfl
theorem exPick_t (x y : Value) (H : Hp) : exPick (.bool true) x y H = .val x H 0 0 := rfl
theorem exPick_f (x y : Value) (H : Hp) : exPick (.bool false) x y H = .val y H 0 0 := rfl
theorem wants_get {t : T Value} {i : Nat} {b w : Bool} (h : t.get i = .bool b) : wants t (some (i, w)) = (b == w) := by
  show (match asB (t.get i) with | some b => Bc b w (!w) | none => false) = _
  rw [h]
  cases b <;> cases w <;> rfl
theorem exPick_b (b : Bool) (x y : Value) (H : Hp) : exPick (.bool b) x y H = .val (if b then x else y) H 0 0 := by cases b <;> rfl
end
end Go.Ev
end
noncomputable section
namespace Go.Ev.F
inductive RF where
  | pv (v : Value)
  | r (x : R)
structure MS where
  acc : Acc
  r : Nat
  w : Nat
abbrev RK := Task → Hp → Nat → Nat → (TR → TR) → TR
structure OX where
  re : RK
  cx : Cx
  K : OR → TR
abbrev OPK := OX → Nat → T Value → List Deferred → Hp → MS → TR
abbrev SK := CO → OPK → OPK
abbrev CK := Tb → RK → Cx → T Value → List Deferred → Hp → Nat → Nat → (CR → TR) → TR
noncomputable def evO : Operand → T Value → Value := @Operand.rec (fun _ => T Value → Value) (fun i t => T.get t i) (fun v _ => v) (fun g _ => .pointer (some ⟨g, 0, none⟩)) (fun f _ => .func (.func f) #[] #[])
noncomputable def evL (l : List Operand) (t : T Value) : List Value := @List.rec Operand (fun _ => List Value) [] (fun x _ ih => evO x t :: ih) l
noncomputable def pvO : Option Value → RF := @Option.rec Value (fun _ => RF) (.r .fail) (fun v => .pv v)
noncomputable def r_mv (x : Operand) (t : T Value) (H : Hp) : RF := .pv (evO x t)
noncomputable def pickB (b : Bool) (x y : Value) : RF := @Bool.rec (fun _ => Value → Value → RF) (fun _ y => .pv y) (fun x _ => .pv x) b x y
noncomputable def pickV : Value → Value → Value → RF := @Value.rec (fun _ => Value → Value → RF) (fun _ => PUnit) (fun _ => PUnit) pickB (fun _ _ => fun _ _ => .r .fail) (fun _ _ => fun _ _ => .r .fail) (fun _ _ _ => fun _ _ => .r .fail) (fun _ => fun _ _ => .r .fail) (fun _ => fun _ _ => .r .fail) (fun _ _ _ => fun _ _ => .r .fail) (fun _ => fun _ _ => .r .fail) (fun _ => fun _ _ => .r .fail) (fun _ _ _ _ _ => fun _ _ => .r .fail) (fun _ _ => .r .fail) (fun _ _ _ => fun _ _ => .r .fail) (fun _ _ => .r .fail) (fun _ _ => fun _ _ => .r .fail) (fun _ _ => fun _ _ => .r .fail) (fun _ _ => ⟨⟩) ⟨⟩ (fun _ _ _ _ => ⟨⟩)
noncomputable def r_pick (c a b : Operand) (t : T Value) (H : Hp) : RF := pickV (evO c t) (evO a t) (evO b t)
noncomputable def r_build (z : List Value) (ps : List (Nat × Nat × Operand)) (t : T Value) (H : Hp) : RF := @Option.rec (List Value) (fun _ => RF) (.r .fail) (fun l => .pv (.agg ⟨l⟩)) (fillL t z ps)
noncomputable def r_bin (op : BinOp) (x y : Operand) (t : T Value) (H : Hp) : RF := pvO (binV op (evO x t) (evO y t))
noncomputable def r_eq (neg : Bool) (p : Eqp) (x y : Operand) (t : T Value) (H : Hp) : RF := @Option.rec Bool (fun _ => Bool → RF) (fun _ => .r .fail) (fun b neg => .pv (.bool (Bc neg (!b) b))) (eqV p (evO x t) (evO y t)) neg
noncomputable def r_un (op : UnOp) (x : Operand) (t : T Value) (H : Hp) : RF := .r (exUn op (evO x t) H)
noncomputable def cIntI (n : Int) (k : IntKind) : RF := .pv (.int k (wrapF k n))
noncomputable def cIntV : Value → IntKind → RF := @Value.rec (fun _ => IntKind → RF) (fun _ => PUnit) (fun _ => PUnit) (fun _ => fun _ => .r .fail) (fun _ n k => cIntI n k) (fun _ _ => fun _ => .r .fail) (fun _ _ _ => fun _ => .r .fail) (fun _ => fun _ => .r .fail) (fun _ => fun _ => .r .fail) (fun _ _ _ => fun _ => .r .fail) (fun _ => fun _ => .r .fail) (fun _ => fun _ => .r .fail) (fun _ _ _ _ _ => fun _ => .r .fail) (fun _ => .r .fail) (fun _ _ _ => fun _ => .r .fail) (fun _ => .r .fail) (fun _ _ => fun _ => .r .fail) (fun _ _ => fun _ => .r .fail) (fun _ _ => ⟨⟩) ⟨⟩ (fun _ _ _ _ => ⟨⟩)
noncomputable def r_cInt (k : IntKind) (x : Operand) (t : T Value) (H : Hp) : RF := cIntV (evO x t) k
noncomputable def faA : Option Addr → Nat → RF := @Option.rec Addr (fun _ => Nat → RF) (fun _ => .r .fail) (fun a off => @Option.rec Nat (fun _ => Nat → Nat → Nat → RF) (fun b o off => .pv (.pointer (some ⟨b, Nat.add o off, none⟩))) (fun _ _ _ _ => .r .fail) a.spot a.block a.off off)
noncomputable def faV : Value → Nat → RF := @Value.rec (fun _ => Nat → RF) (fun _ => PUnit) (fun _ => PUnit) (fun _ => fun _ => .r .fail) (fun _ _ => fun _ => .r .fail) (fun _ _ => fun _ => .r .fail) (fun _ _ _ => fun _ => .r .fail) (fun _ => fun _ => .r .fail) faA (fun _ _ _ => fun _ => .r .fail) (fun _ => fun _ => .r .fail) (fun _ => fun _ => .r .fail) (fun _ _ _ _ _ => fun _ => .r .fail) (fun _ => .r .fail) (fun _ _ _ => fun _ => .r .fail) (fun _ => .r .fail) (fun _ _ => fun _ => .r .fail) (fun _ _ => fun _ => .r .fail) (fun _ _ => ⟨⟩) ⟨⟩ (fun _ _ _ _ => ⟨⟩)
noncomputable def r_fa (off : Nat) (x : Operand) (t : T Value) (H : Hp) : RF := faV (evO x t) off
noncomputable def r_fld (agg : Bool) (sz off : Nat) (x : Operand) (t : T Value) (H : Hp) : RF := .r (exFld agg sz off (evO x t) H)
noncomputable def r_iaA (n sz : Nat) (x i : Operand) (t : T Value) (H : Hp) : RF := .r (exIaA n sz (evO x t) (evO i t) H)
noncomputable def r_iaS (sz : Nat) (x i : Operand) (t : T Value) (H : Hp) : RF := .r (exIaS sz (evO x t) (evO i t) H)
noncomputable def r_ixA (agg : Bool) (n sz : Nat) (x i : Operand) (t : T Value) (H : Hp) : RF := .r (exIxA agg n sz (evO x t) (evO i t) H)
noncomputable def r_ixS (x i : Operand) (t : T Value) (H : Hp) : RF := .r (exIxS (evO x t) (evO i t) H)
noncomputable def r_ext (x : Operand) (i : Nat) (t : T Value) (H : Hp) : RF := .r (exExt (evO x t) i H)
noncomputable def r_mkI (ty : Nat) (x : Operand) (t : T Value) (H : Hp) : RF := .pv (.iface ty (evO x t))
noncomputable def ldB : Blk → Nat → Nat → Hp → RF := @Blk.rec (fun _ => Nat → Nat → Hp → RF) (fun _ _ _ => .r .fail) (fun t n _ _ _ _ b o H => Bc (Nat.blt o n) (.r (.val (T.get t o) H (bit b) 0)) (.r .fail)) (fun _ _ _ _ => .r .fail) (fun _ _ _ _ _ _ _ _ _ _ _ => .r .fail)
noncomputable def ldA : Option Addr → Hp → RF := @Option.rec Addr (fun _ => Hp → RF) (fun _ => .r .fail) (fun a H => @Option.rec Nat (fun _ => Nat → Nat → Hp → RF) (fun b o H => ldB (H.blk b) b o H) (fun _ _ _ _ => .r .fail) a.spot a.block a.off H)
noncomputable def ldV : Value → Hp → RF := @Value.rec (fun _ => Hp → RF) (fun _ => PUnit) (fun _ => PUnit) (fun _ => fun _ => .r .fail) (fun _ _ => fun _ => .r .fail) (fun _ _ => fun _ => .r .fail) (fun _ _ _ => fun _ => .r .fail) (fun _ => fun _ => .r .fail) ldA (fun _ _ _ => fun _ => .r .fail) (fun _ => fun _ => .r .fail) (fun _ => fun _ => .r .fail) (fun _ _ _ _ _ => fun _ => .r .fail) (fun _ => .r .fail) (fun _ _ _ => fun _ => .r .fail) (fun _ => .r .fail) (fun _ _ => fun _ => .r .fail) (fun _ _ => fun _ => .r .fail) (fun _ _ => ⟨⟩) ⟨⟩ (fun _ _ _ _ => ⟨⟩)
noncomputable def r_ld1 (a : Operand) (t : T Value) (H : Hp) : RF := ldV (evO a t) H
noncomputable def r_ldN (n : Nat) (a : Operand) (t : T Value) (H : Hp) : RF := .r (exLdN n (evO a t) H)
noncomputable def r_st (n : Nat) (a x : Operand) (t : T Value) (H : Hp) : RF := .r (exSt n (evO a t) (evO x t) H)
noncomputable def r_alloc (z : Blk) (t : T Value) (H : Hp) : RF := .r (alloc1 z H ptrTo 0 0)
noncomputable def r_box (ty : Nat) (x : Operand) (t : T Value) (H : Hp) : RF := .r (exFill (cellsO (evO x t)) fun l => alloc1 (blkL l ty 0) H ptrTo 0 0)
noncomputable def r_call (f : Operand) (args : List Operand) (t : T Value) (H : Hp) : RF := .r (callV (evO f t) (evL args t))
noncomputable def r_len (k : Nat) (x : Operand) (t : T Value) (H : Hp) : RF := .r (exLen k (evO x t) H)
noncomputable def r_nilc (x : Operand) (t : T Value) (H : Hp) : RF := .r (exNil (evO x t) H)
noncomputable def r_slow (o : COp) (t : T Value) (H : Hp) : RF := .r (Go.Ev.run o t H)
noncomputable def runF : COp → T Value → Hp → RF :=
  @COp.rec (fun _ => T Value → Hp → RF)
    (r_slow .bad) r_mv r_pick r_alloc r_box r_build (fun a b c d => r_slow (.bslice a b c d)) r_ld1 r_ldN r_st r_nilc r_bin r_eq r_un r_cInt
    (fun x => r_slow (.cChr x)) (fun a b => r_slow (.cToB a b)) (fun a => r_slow (.cToS a)) (fun a => r_slow (.cSS a)) (fun a => r_slow (.toU a)) (fun a b => r_slow (.frU a b)) (fun a => r_slow (.usd a)) (fun a b c => r_slow (.ustr a b c)) r_mkI (fun a b c => r_slow (.mkF a b c)) (r_slow .mkM) (fun a b c d e => r_slow (.mkSl a b c d e))
    (fun a b c => r_slow (.slS a b c)) (fun a b c d e => r_slow (.slL a b c d e)) (fun a b c d e f => r_slow (.slA a b c d e f))
    r_fa r_fld r_iaA r_iaS r_ixA r_ixS (fun a b c d e => r_slow (.lkp a b c d e)) (fun a b c d => r_slow (.mup a b c d)) (fun a => r_slow (.rngS a)) (fun a => r_slow (.rngM a)) (fun a => r_slow (.nxtS a)) (fun a => r_slow (.nxtM a)) (fun a b c d => r_slow (.tas a b c d)) r_ext r_len
    (fun a => r_slow (.lenA a)) (fun a => r_slow (.cap a)) (fun a b c d e => r_slow (.app a b c d e)) (fun a b c => r_slow (.copy a b c)) (fun a b => r_slow (.clear a b)) (fun a b => r_slow (.min a b)) (fun a b => r_slow (.max a b)) (fun a b c => r_slow (.min3 a b c)) (fun a b c => r_slow (.max3 a b c)) (fun a b c => r_slow (.del a b c))
    r_call (fun a b c => r_slow (.inv a b c)) (fun a b => r_slow (.defer a b)) (r_slow .recover) (fun a => r_slow (.panic a))
noncomputable def putF : Option Tmp → Nat → T Value → Value → T Value := @Option.rec Tmp (fun _ => Nat → T Value → Value → T Value) (fun _ t _ => t) (fun i d t v => T.set d t i v)
noncomputable def goPv (v : Value) (o : CO) (ih : OPK) : OPK := fun e i t ds H m => ih e (Nat.succ i) (putF o.dst e.cx.d t v) ds H m
noncomputable def goM (m : MS) (r w : Nat) (ih : MS → TR) : TR := Fz r (Fz w (ih m))
noncomputable def onVal (v : Value) (H' : Hp) (r' w' : Nat) (o : CO) (ih : OPK) : OPK := fun e i t ds H m =>
  goM ⟨(i, r', Nat.lor w' (rng H H')) :: m.acc, Nat.lor m.r r', Nat.lor m.w w'⟩ (Nat.lor m.r r') (Nat.lor m.w w') (ih e (Nat.succ i) (putF o.dst e.cx.d t v) ds H')
noncomputable def failO : OPK := fun e _ _ _ _ _ => e.K .fail
noncomputable def onPan (H' : Hp) (v : Value) (r' w' : Nat) : OPK := fun e i t ds H m => e.K (.mk (.panic v) t ds H' ((i, 0, 0) :: m.acc) (Nat.lor m.r r') (Nat.lor m.w w'))
noncomputable def aftKR : KR → SK := @KR.rec (fun _ => SK) (fun _ _ _ => failO) onVal (fun v H' r' w' _ _ => onPan H' v r' w') (fun _ _ _ _ _ _ => failO) (fun _ _ _ _ _ _ => failO)
noncomputable def aftTR : TR → SK := @TR.rec (fun _ => SK) aftKR (fun _ _ _ => failO)
noncomputable def aftKR2 : KR → SK := @KR.rec (fun _ => SK) (fun _ _ _ => failO) onVal (fun v H' r' w' _ _ => failO) (fun _ _ _ _ _ _ => failO) (fun _ _ _ _ _ _ => failO)
noncomputable def aftTR2 : TR → SK := @TR.rec (fun _ => SK) aftKR2 (fun _ _ _ => failO)
noncomputable def defK (d : Deferred) (o : CO) (ih : OPK) : OPK := fun e i t ds H m =>
  match e.cx.rnd, e.cx.drw with
  | none, false => ih e (Nat.succ i) (putF o.dst e.cx.d t U) (d :: ds) H m
  | _, _ => e.K .fail
noncomputable def onR : R → SK := @R.rec (fun _ => SK)
  (fun _ _ => failO)
  onVal
  (fun f args o ih e i t ds H m => e.re (.call f args) H 0 0 fun x => aftTR x o ih e i t ds H m)
  (fun l args o ih e i t ds H m => e.re (.round l args) H 0 0 fun x => aftTR2 x o ih e i t ds H m)
  (fun v _ _ e i t ds H m => onPan H v 0 0 e i t ds H m)
  defK
  (fun _ _ => failO)
noncomputable def onRF : RF → SK := @RF.rec (fun _ => SK) goPv onR
noncomputable def wantB : Value → Bool → Bool := @Value.rec (fun _ => Bool → Bool) (fun _ => PUnit) (fun _ => PUnit) (fun b w => @Bool.rec (fun _ => Bool → Bool) (fun w => !w) (fun w => w) b w) (fun _ _ => fun _ => false) (fun _ _ => fun _ => false) (fun _ _ _ => fun _ => false) (fun _ => fun _ => false) (fun _ => fun _ => false) (fun _ _ _ => fun _ => false) (fun _ => fun _ => false) (fun _ => fun _ => false) (fun _ _ _ _ _ => fun _ => false) (fun _ => false) (fun _ _ _ => fun _ => false) (fun _ => false) (fun _ _ => fun _ => false) (fun _ _ => fun _ => false) (fun _ _ => ⟨⟩) ⟨⟩ (fun _ _ _ _ => ⟨⟩)
noncomputable def wantP (p : Tmp × Bool) (t : T Value) : Bool := wantB (T.get t p.1) p.2
noncomputable def wantK : Option (Tmp × Bool) → T Value → Bool := @Option.rec _ (fun _ => T Value → Bool) (fun _ => true) wantP
noncomputable def skipOp (o : CO) (ih : OPK) : OPK := fun e i t ds H m => ih e (Nat.succ i) (putF o.dst e.cx.d t U) ds H m
noncomputable def doOp (o : CO) (ih : OPK) : OPK := fun e i t ds H m => onRF (runF o.op t H) o ih e i t ds H m
noncomputable def selOp : Bool → SK := @Bool.rec (fun _ => SK) skipOp doOp
noncomputable def opNil : OPK := fun e _ t ds H m => e.K (.mk .normal t ds H m.acc m.r m.w)
noncomputable def opG (g : Option (Tmp × Bool)) : SK := @Option.rec (Tmp × Bool) (fun _ => SK) doOp (fun p o ih e i t ds H m => selOp (wantP p t) o ih e i t ds H m) g
noncomputable def opCons (o : CO) (_ : List CO) (ih : OPK) : OPK := opG o.guard o ih
noncomputable def opsK : List CO → OPK := @List.rec CO (fun _ => OPK) opNil opCons
noncomputable def compOsF (tb : Tb) (nt : Nat) (ops : Array Oper) (l : List Oper) : List CO := @List.rec Oper (fun _ => List CO) [] (fun o _ ih => compO tb nt ops o :: ih) l
noncomputable def endOR : OR → (CR → TR) → TR := @OR.rec (fun _ => (CR → TR) → TR) (fun K => K .fail) (fun x t ds H _ r w K => K (.mk x t ds H r w))
noncomputable def okOneF (b rj wj : Nat) (l : Acc) : Bool := @List.rec (Nat × Nat × Nat) (fun _ => Bool) true (fun x _ ih => Bc (Nat.testBit b x.1) ih (Bc (Nat.beq (Nat.land x.2.2 (Nat.lor rj wj)) 0) (Bc (Nat.beq (Nat.land wj x.2.1) 0) ih false) false)) l
noncomputable def bT (l : List Nat) : T Nat := @List.rec Nat (fun _ => Nat → T Nat → T Nat) (fun _ t => t) (fun b _ ih i t => ih (Nat.succ i) (T.set 3 t i b)) l 0 (T.e 0)
noncomputable def okPairF (B : T Nat) (l : Acc) : Bool := @List.rec (Nat × Nat × Nat) (fun _ => Bool) true (fun x l ih => Bc (okOneF (Bc (Nat.blt x.1 512) (T.get B x.1) 0) x.2.1 x.2.2 l) ih false) l
noncomputable def filtF (l : Acc) : Acc := @List.rec (Nat × Nat × Nat) (fun _ => Acc) [] (fun x _ ih => Bc (Nat.beq (Nat.lor x.2.1 x.2.2) 0) ih (x :: ih)) l
noncomputable def okDraw (B : T Nat) (l : Acc) (x : CR) : CR := Bc (okPairF B (filtF l)) x .fail
noncomputable def endORd (tb : Tb) (nt d : Nat) (ops : Array Oper) : OR → CR := @OR.rec (fun _ => CR) .fail (fun x t ds H acc r w => match x with
    | .normal => Bc (Nat.ble (Go.CheckFast.beforeF ops).toList.length 512) (okDraw (bT (Go.CheckFast.beforeF ops).toList) acc (.mk .normal t ds H r w)) (ofORd tb nt d ops (Go.CheckFast.beforeF ops) (.mk .normal t ds H acc r w))
    | x => ofORd tb nt d ops (Go.CheckFast.beforeF ops) (.mk x t ds H acc r w))
noncomputable def c_regB : Bool → Array Oper → CK := @Bool.rec (fun _ => Array Oper → CK)
  (fun ops tb rec cx t ds H r w K => opsK (compOsF tb cx.nt ops ops.toList) ⟨rec, cx, fun x => endOR x K⟩ 0 t ds H ⟨[], r, w⟩)
  (fun ops tb rec cx t ds H r w K => opsK (compOsF tb cx.nt ops ops.toList) ⟨rec, ⟨cx.d, cx.nt, cx.rnd, true⟩, fun x => K (CR.join r w (endORd tb cx.nt cx.d ops x))⟩ 0 t ds H ⟨[], 0, 0⟩)
noncomputable def c_region (id : Nat) (ops : Array Oper) (draw : Bool) : CK := c_regB draw ops
noncomputable def exGo : Ex → CK → CK := @Ex.rec (fun _ => CK → CK) (fun k => k)
  (fun _ tb rec cx t ds H r w K => K (.mk .ret t ds H r w))
  (fun id _ tb rec cx t ds H r w K => K (.mk (.exit id) t ds H r w))
  (fun id _ tb rec cx t ds H r w K => K (.mk (.goto id) t ds H r w))
  (fun v _ tb rec cx t ds H r w K => K (.mk (.panic v) t ds H r w))
noncomputable def crGo : CR → CK → Tb → RK → Cx → (CR → TR) → TR := @CR.rec (fun _ => CK → Tb → RK → Cx → (CR → TR) → TR) (fun _ _ _ _ K => K .fail) (fun x t ds H r w k tb rec cx K => exGo x k tb rec cx t ds H r w K)
noncomputable def c_seq (a b : Code) (iha ihb : CK) : CK := fun tb rec cx t ds H r w K => iha tb rec cx t ds H r w fun x => crGo x ihb tb rec cx K
noncomputable def c_fail : CK := fun tb rec cx t ds H r w K => K .fail
noncomputable def condB : Bool → CK → CK → CK := @Bool.rec (fun _ => CK → CK → CK) (fun _ b => b) (fun a _ => a)
noncomputable def condV : Value → CK → CK → CK := @Value.rec (fun _ => CK → CK → CK) (fun _ => PUnit) (fun _ => PUnit) condB (fun _ _ => fun _ _ => c_fail) (fun _ _ => fun _ _ => c_fail) (fun _ _ _ => fun _ _ => c_fail) (fun _ => fun _ _ => c_fail) (fun _ => fun _ _ => c_fail) (fun _ _ _ => fun _ _ => c_fail) (fun _ => fun _ _ => c_fail) (fun _ => fun _ _ => c_fail) (fun _ _ _ _ _ => fun _ _ => c_fail) (fun _ _ => c_fail) (fun _ _ _ => fun _ _ => c_fail) (fun _ _ => c_fail) (fun _ _ => fun _ _ => c_fail) (fun _ _ => fun _ _ => c_fail) (fun _ _ => ⟨⟩) ⟨⟩ (fun _ _ _ _ => ⟨⟩)
noncomputable def c_cond (c : Operand) (a b : Code) (iha ihb : CK) : CK := fun tb rec cx t ds H r w K => Bc (okO tb cx.nt c) (condV (evO c t) iha ihb tb rec cx t ds H r w K) (K .fail)
noncomputable def outEx : Ex → Nat → T Value → List Deferred → Hp → Nat → Nat → (CR → TR) → TR := @Ex.rec (fun _ => Nat → T Value → List Deferred → Hp → Nat → Nat → (CR → TR) → TR)
  (fun _ t ds H r w K => K (.mk .normal t ds H r w)) (fun _ t ds H r w K => K (.mk .ret t ds H r w))
  (fun j id t ds H r w K => Bc (Nat.beq j id) (K (.mk .normal t ds H r w)) (K (.mk (.exit j) t ds H r w)))
  (fun j _ t ds H r w K => K (.mk (.goto j) t ds H r w)) (fun v _ t ds H r w K => K (.mk (.panic v) t ds H r w))
noncomputable def outK : CR → Nat → (CR → TR) → TR := @CR.rec (fun _ => Nat → (CR → TR) → TR) (fun _ K => K .fail) (fun x t ds H r w id K => outEx x id t ds H r w K)
noncomputable def c_block (id : Nat) (b : Code) (ih : CK) : CK := fun tb rec cx t ds H r w K => ih tb rec cx t ds H r w fun x => outK x id K
noncomputable def ofTRK : TR → (CR → TR) → TR := @TR.rec (fun _ => (CR → TR) → TR) (fun _ K => K .fail) (fun y K => K y)
noncomputable def againK (b : Code) : CK := fun tb rec cx t ds H r w K => rec (.loop b cx t ds) H r w fun x => ofTRK x K
noncomputable def sumK (b : Code) : CK := fun tb rec cx t ds H r w K => K (CR.join r w (sumUp tb b t ds H))
noncomputable def loopK (b : Code) (ih : CK) : CK := fun tb rec cx t ds H r w K => ih tb rec cx t ds H r w fun x => crGo x (againK b) tb rec cx K
noncomputable def c_loop (b : Code) (ih : CK) : CK := fun tb rec cx => condB (tb.hk cx.nt b) (sumK b) (loopK b ih) tb rec cx
noncomputable def c_range (f : Operand) (ps : Array Tmp) (a b : Code) : CK := fun tb rec cx t ds H r w K =>
  match cx.rnd with
  | some _ => K .fail
  | none => Bc (okO tb cx.nt f && ps.toList.all (fun p => Nat.blt p cx.nt))
      (match alloc1 (.obj (.deferred (some []))) H (fun i => .int .i64 (.ofNat i)) 0 0 with
        | .val (.int _ (.ofNat db)) H1 _ _ => (match alloc1 (.loop true none cx.nt t ps.toList a b db) H1 (fun i => .int .i64 (.ofNat i)) 0 0 with
          | .val (.int _ (.ofNat l)) H2 _ _ => (match callV (evalO t f) [.func (.yield l) #[] #[]] with
            | .call g args => Bc (hasBody tb g) (rec (.call g args) H2 0 0 fun x => K (CR.join r w (afterRange l t ({ target := .collected db, args := #[] } :: ds) x))) (K .fail)
            | _ => K .fail)
          | _ => K .fail)
        | _ => K .fail) (K .fail)
noncomputable def c_norm : CK := fun tb rec cx t ds H r w K => K (.mk .normal t ds H r w)
noncomputable def codeK : Code → CK := @Code.rec (fun _ => CK) c_norm c_region c_seq c_cond c_block c_loop (fun f ps a b _ _ => c_range f ps a b)
  (fun id tb rec cx t ds H r w K => K (.mk (.exit id) t ds H r w)) (fun _ _ => c_fail) (fun _ => c_norm)
  (fun id tb rec cx t ds H r w K => K (.mk (.goto id) t ds H r w)) (fun tb rec cx t ds H r w K => K (.mk .ret t ds H r w)) (fun _ => c_fail)
noncomputable def drAll : Code → Bool := @Code.rec (fun _ => Bool) true (fun _ ops d => @Bool.rec (fun _ => Bool) true (drawOk ops (Region.before ops)) d) (fun _ _ a b => Bc a b false) (fun _ _ _ a b => Bc a b false) (fun _ _ a => a) (fun _ a => a) (fun _ _ _ _ a b => Bc a b false) (fun _ => true) (fun _ _ => true) (fun _ => true) (fun _ => true) true (fun _ => true)
abbrev UK := Func → Tb → RK → T Value → List Deferred → Hp → Nat → Nat → (TR → TR) → TR
noncomputable def unwK (m : FrameMode) : UK := fun fn tb rec t ds H r w K => rec (.unwind fn.ntmps fn.results.toList t ds m) H r w K
noncomputable def unw2 : UK := fun fn tb rec t ds H r w K => K (.k (.fail 2))
noncomputable def bodyEx : Ex → UK := @Ex.rec (fun _ => UK) (unwK .returning) (unwK .returning) (fun _ => unw2) (fun _ => unw2) (fun v => unwK (.panicking [{ v, recovered := false }]))
noncomputable def bodyK : CR → Func → Tb → RK → (TR → TR) → TR := @CR.rec (fun _ => Func → Tb → RK → (TR → TR) → TR) (fun _ _ _ K => K (.k (.fail 1))) (fun x t ds H r w fn tb rec K => bodyEx x fn tb rec t ds H r w K)
abbrev FK := Tb → RK → List Value → Hp → Nat → Nat → (TR → TR) → TR
noncomputable def callC (c : Code) (fn : Func) : FK := fun tb rec args H r w K =>
  Bc (Nat.ble args.length fn.ntmps) (codeK c tb rec ⟨dep fn.ntmps, fn.ntmps, none, false⟩ (enterT fn args) [] H r w fun x => bodyK x fn tb rec K) (K (.k (.fail 14)))
noncomputable def callB : Option Code → Func → FK := @Option.rec Code (fun _ => Func → FK) (fun _ _ _ _ _ _ _ K => K (.k (.fail 4))) callC
noncomputable def callF : Option Func → FK := @Option.rec Func (fun _ => FK) (fun _ _ _ _ _ _ K => K (.k (.fail 3))) (fun fn => callB fn.body fn)
noncomputable def unwRet (l : List Value) (H : Hp) (r w : Nat) (K : TR → TR) : TR := Fz r (K (.k (.ret (resV l) H r w)))
noncomputable def unwEnd (m : FrameMode) (x : Option (List Value × Nat)) (H : Hp) (r w : Nat) (K : TR → TR) : TR := match m with
    | .returning => (match x with
      | some (l, r') => unwRet l H (Nat.lor r r') w K
      | none => K (.k (.fail 6)))
    | .panicking [{ v, recovered := false, goexit := false }] => K (.k (.panic v H r w))
    | _ => K (.k (.fail 7))
noncomputable def aftDefK (nt : Nat) (res : List ResultVar) (t : T Value) (ds : List Deferred) (rec : RK) (K : TR → TR) (x : TR) : TR := match x with
      | .k (.drop m H r w) => (match settleM m with
        | .run => K (.k (.fail 21))
        | m' => rec (.unwind nt res t ds m') H r w K)
      | .k (.dpan v H r w) => rec (.unwind nt res t ds (.panicking [{ v, recovered := false }])) H r w K
      | _ => K (.k (.fail 5))
noncomputable def unwindK (nt : Nat) (res : List ResultVar) (t : T Value) (ds : List Deferred) (m : FrameMode) (tb : Tb) (rec : RK) (H : Hp) (r w : Nat) (K : TR → TR) : TR := match ds with
  | [] => unwEnd m (resL tb nt t H res) H r w K
  | d :: ds => (match d.target with
    | .collected b => (match H.blk b with
      | .obj (.deferred (some [])) => rec (.unwind nt res t ds m) (H.put b .no) r (Nat.lor w (bit b)) K
      | _ => K (.k (.fail 17)))
    | .fn (.func f) cap => rec (.dcall f (d.args.toList ++ cap.toList) m) H r w (aftDefK nt res t ds rec K)
    | _ => K (.k (.fail 8)))
abbrev Sp := Nat → List Value → Hp → Option (Value × Hp × Nat × Nat)
abbrev TK := Tb → Sp → RK → Hp → Nat → Nat → (TR → TR) → TR
abbrev SPK := FuncId → FK
noncomputable def spS (x : Value × Hp × Nat × Nat) : SPK := fun _ _ _ _ _ r w K => Fz (Nat.lor r x.2.2.1) (Fz (Nat.lor w x.2.2.2) (K (.k (spKR x.1 x.2.1 (Nat.lor r x.2.2.1) (Nat.lor w x.2.2.2)))))
noncomputable def spN : SPK := fun f tb rec args H r w K => callF (tb.fn f) tb rec args H r w K
noncomputable def spK : Option (Value × Hp × Nat × Nat) → SPK := @Option.rec _ (fun _ => SPK) spN spS
noncomputable def t_dcall (f : FuncId) (args : List Value) (um : FrameMode) : TK := fun tb sp rec H r w K => K (match evDCall tb f args um H with
  | .k (.drop m H' r' w') => .k (.drop m H' (Nat.lor r r') (Nat.lor w w'))
  | .k (.dpan v H' r' w') => .k (.dpan v H' (Nat.lor r r') (Nat.lor w w'))
  | _ => .k (.fail 22))
noncomputable def rnd2 (l nt : Nat) (b : Code) (tb : Tb) (rec : RK) (K : TR → TR) (x : CR) : TR := match x with
      | .mk .normal t [] H1 r w => (match H1.blk l with
        | .loop true none nt2 lt2 ps2 a2 b2 db2 => codeK b tb rec ⟨dep nt, nt, some l, false⟩ t [] (H1.put l (.loop false none nt2 lt2 ps2 a2 b2 db2)) r w fun x => K (endRound l (bit l) (bit l) x)
        | _ => K (.k (.fail 15)))
      | _ => K (.k (.fail 12))
noncomputable def t_round (l : Nat) (args : List Value) : TK := fun tb sp rec H r w K => match H.blk l with
  | .loop true none nt lt ps a b db => (match setPs (dep nt) nt ps args lt with
    | none => K (.k (.fail 11))
    | some t => Bc (drAll a && drAll b) (codeK a tb rec ⟨dep nt, nt, some l, false⟩ t [] H r w (rnd2 l nt b tb rec K)) (K (.k (.fail 24))))
  | _ => K (.k (.fail 13))
noncomputable def taskK : Task → TK := @Task.rec (fun _ => TK)
  (fun f args tb sp rec H r w K => spK (sp f args H) f tb rec args H r w K)
  t_dcall t_round
  (fun b cx t ds tb sp rec H r w K => c_loop b (codeK b) tb rec cx t ds H r w fun x => K (.c x))
  (fun nt res t ds m tb sp rec H r w K => unwindK nt res t ds m tb rec H r w K)
noncomputable def stepK (tb : Tb) (sp : Sp) (ih : RK) : RK := fun tk H r w K => taskK tk tb sp ih H r w K
noncomputable def evK (tb : Tb) (sp : Sp) (n : Nat) : RK :=
  @Nat.rec (fun _ => RK) (fun _ _ _ _ K => K (.k (.fail 0))) (fun _ ih => stepK tb sp ih) n
end Go.Ev.F
end
noncomputable section
namespace Go.Ev.F
variable [SyQ]
theorem evO_eq (x : Operand) (t : T Value) : evO x t = evalO t x := by cases x <;> rfl
theorem evL_eq (t : T Value) : ∀ l, evL l t = evalL t l
  | [] => rfl
  | x :: l => by
    show evO x t :: evL l t = evalO t x :: evalL t l
    rw [evO_eq, evL_eq t l]
def RFRel (H : Hp) (f : RF) (x : R) : Prop := match f with
  | .pv v => x = .val v H 0 0
  | .r y => y = .fail ∨ y = x
theorem pvO_rel (H : Hp) (x : Option Value) : RFRel H (pvO x) (R.o x H) := by
  cases x with
  | none => exact .inl rfl
  | some v => rfl
theorem fa_rel (H : Hp) (off : Nat) (v : Value) : RFRel H (faV v off) (exFa off v H) := by
  cases v with
  | pointer a =>
    cases a with
    | none => exact .inl rfl
    | some a =>
      obtain ⟨b, o, s⟩ := a
      cases s with
      | none => rfl
      | some s => exact .inl rfl
  | _ => exact .inl rfl
theorem ld_rel (H : Hp) (v : Value) : RFRel H (ldV v H) (exLd1 v H) := by
  cases v with
  | pointer a =>
    cases a with
    | none => exact .inl rfl
    | some a =>
      obtain ⟨b, o, s⟩ := a
      cases s with
      | some s => exact .inl rfl
      | none =>
        show RFRel H (ldB (H.blk b) b o H) (match rd1 H b o with | some x => .val x H (bit b) 0 | none => .fail)
        unfold rd1
        cases H.blk b with
        | cells t n ty op lo hi =>
          show RFRel H (Bc (Nat.blt o n) (.r (.val (T.get t o) H (bit b) 0)) (.r .fail)) _
          simp only
          cases Nat.blt o n with
          | true => exact .inr rfl
          | false => exact .inl rfl
        | _ => exact .inl rfl
  | _ => exact .inl rfl
theorem pick_rel (H : Hp) (c a b : Value) : RFRel H (pickV c a b) (exPick c a b H) := by
  cases c with
  | bool x => cases x <;> rfl
  | _ => exact .inl rfl
theorem cInt_rel (H : Hp) (k : IntKind) (v : Value) : RFRel H (cIntV v k) (exCInt k v H) := by
  cases v with
  | int k' n => rfl
  | _ => exact .inl rfl
theorem runF_ok (op : COp) (t : T Value) (H : Hp) : RFRel H (runF op t H) (run op t H) := by
  cases op with
  | mv x => show RFRel H (.pv (evO x t)) _; rw [evO_eq]; rfl
  | pick c a b => show RFRel H (pickV (evO c t) (evO a t) (evO b t)) _; rw [evO_eq, evO_eq, evO_eq]; exact pick_rel _ _ _ _
  | build z ps =>
    show RFRel H (@Option.rec (List Value) (fun _ => RF) (.r .fail) (fun l => .pv (.agg ⟨l⟩)) (fillL t z ps)) (exFill (fillL t z ps) fun l => R.v (.agg ⟨l⟩) H)
    cases fillL t z ps with
    | none => exact .inl rfl
    | some l => rfl
  | bin op x y => show RFRel H (pvO (binV op (evO x t) (evO y t))) _; rw [evO_eq, evO_eq]; exact pvO_rel _ _
  | eq neg p x y =>
    show RFRel H (@Option.rec Bool (fun _ => Bool → RF) (fun _ => .r .fail) (fun b neg => .pv (.bool (Bc neg (!b) b))) (eqV p (evO x t) (evO y t)) neg) (exEq neg p (evalO t x) (evalO t y) H)
    rw [evO_eq, evO_eq]
    unfold exEq
    cases eqV p (evalO t x) (evalO t y) with
    | none => exact .inl rfl
    | some b => rfl
  | cInt k x => show RFRel H (cIntV (evO x t) k) _; rw [evO_eq]; exact cInt_rel _ _ _
  | fa off x => show RFRel H (faV (evO x t) off) _; rw [evO_eq]; exact fa_rel _ _ _
  | mkI ty x => show RFRel H (.pv (.iface ty (evO x t))) _; rw [evO_eq]; rfl
  | ld1 a => show RFRel H (ldV (evO a t) H) _; rw [evO_eq]; exact ld_rel _ _
  | un op x => show RFRel H (.r (exUn op (evO x t) H)) _; rw [evO_eq]; exact .inr rfl
  | fld agg sz off x => show RFRel H (.r (exFld agg sz off (evO x t) H)) _; rw [evO_eq]; exact .inr rfl
  | iaA n sz x i => show RFRel H (.r (exIaA n sz (evO x t) (evO i t) H)) _; rw [evO_eq, evO_eq]; exact .inr rfl
  | iaS sz x i => show RFRel H (.r (exIaS sz (evO x t) (evO i t) H)) _; rw [evO_eq, evO_eq]; exact .inr rfl
  | ixA agg n sz x i => show RFRel H (.r (exIxA agg n sz (evO x t) (evO i t) H)) _; rw [evO_eq, evO_eq]; exact .inr rfl
  | ixS x i => show RFRel H (.r (exIxS (evO x t) (evO i t) H)) _; rw [evO_eq, evO_eq]; exact .inr rfl
  | ext x i => show RFRel H (.r (exExt (evO x t) i H)) _; rw [evO_eq]; exact .inr rfl
  | ldN n a => show RFRel H (.r (exLdN n (evO a t) H)) _; rw [evO_eq]; exact .inr rfl
  | st n a x => show RFRel H (.r (exSt n (evO a t) (evO x t) H)) _; rw [evO_eq, evO_eq]; exact .inr rfl
  | alloc z => exact .inr rfl
  | box ty x => show RFRel H (.r (exFill (cellsO (evO x t)) fun l => alloc1 (blkL l ty 0) H ptrTo 0 0)) _; rw [evO_eq]; exact .inr rfl
  | call f args => show RFRel H (.r (callV (evO f t) (evL args t))) _; rw [evO_eq, evL_eq]; exact .inr rfl
  | len k x => show RFRel H (.r (exLen k (evO x t) H)) _; rw [evO_eq]; exact .inr rfl
  | nilc x => show RFRel H (.r (exNil (evO x t) H)) _; rw [evO_eq]; exact .inr rfl
  | _ => exact .inr rfl
theorem putF_eq (o : Option Tmp) (d : Nat) (t : T Value) (v : Value) : putF o d t v = putT d t o v := by cases o <;> rfl
theorem wantP_eq (p : Tmp × Bool) (t : T Value) : wantP p t = wants t (some p) := by
  obtain ⟨d, w⟩ := p
  show wantB (T.get t d) w = (match asB (t.get d) with | some b => Bc b w (!w) | none => false)
  cases T.get t d with
  | bool b => cases b <;> rfl
  | _ => rfl
theorem compOsF_eq (tb : Tb) (nt : Nat) (ops : Array Oper) : ∀ l, compOsF tb nt ops l = compOs tb nt ops l
  | [] => rfl
  | x :: l => by
    show compO tb nt ops x :: compOsF tb nt ops l = _
    rw [compOsF_eq tb nt ops l]; rfl
theorem okOneF_eq (b rj wj : Nat) : ∀ l, okOneF b rj wj l = okOne b rj wj l
  | [] => rfl
  | (i, ri, wi) :: l => by
    show Bc (Nat.testBit b i) (okOneF b rj wj l) (Bc (Nat.beq (Nat.land wi (Nat.lor rj wj)) 0) (Bc (Nat.beq (Nat.land wj ri) 0) (okOneF b rj wj l) false) false) = _
    rw [okOneF_eq b rj wj l]; rfl
noncomputable def bTg (l : List Nat) : Nat → T Nat → T Nat := @List.rec Nat (fun _ => Nat → T Nat → T Nat) (fun _ t => t) (fun b _ ih i t => ih (Nat.succ i) (T.set 3 t i b)) l
theorem bTg_get : ∀ (l : List Nat) (i : Nat) (t : T Nat) (j : Nat), i + l.length ≤ 512 → j < 512 → (bTg l i t).get j = if i ≤ j ∧ j < i + l.length then l.getD (j - i) 0 else t.get j
  | [], i, t, j, _, _ => by show t.get j = _; rw [if_neg (by simp only [List.length_nil]; omega)]
  | b :: l, i, t, j, h, hj => by
    simp only [List.length_cons] at h ⊢
    show (bTg l (i + 1) (T.set 3 t i b)).get j = _
    rw [bTg_get l (i + 1) _ j (by omega) hj, T.get_set 3 t i j b (by omega) (by omega)]
    by_cases h1 : i + 1 ≤ j ∧ j < i + 1 + l.length
    · rw [if_pos h1, if_pos (by omega), show j - i = (j - (i + 1)) + 1 from by omega, List.getD_cons_succ]
    · rw [if_neg h1]
      by_cases h2 : j = i
      · subst h2; rw [if_pos rfl, if_pos (by omega)]; simp
      · rw [if_neg h2, if_neg (by omega)]
theorem bT_get (B : Array Nat) (h : B.toList.length ≤ 512) (j : Nat) : Bc (Nat.blt j 512) (T.get (bT B.toList) j) 0 = B.getD j 0 := by
  have hl : B.toList.length = B.size := by simp
  cases e : Nat.blt j 512 with
  | true =>
    rw [Bc_t]
    have := bTg_get B.toList 0 (T.e 0) j (by omega) ((blt_iff _ _).1 e)
    show (bTg B.toList 0 (T.e 0)).get j = _
    rw [this]
    by_cases hj : j < B.size
    · rw [if_pos (by omega)]; simp [Array.getD, hj]
    · rw [if_neg (by omega)]; simp [Array.getD, hj]; rfl
  | false =>
    rw [Bc_f]
    have hj : ¬ j < B.size := fun h' => by
      have : Nat.blt j 512 = true := (blt_iff _ _).2 (by omega)
      rw [e] at this; cases this
    simp [Array.getD, hj]
theorem okPairF_eq (B : Array Nat) (h : B.toList.length ≤ 512) : ∀ l, okPairF (bT B.toList) l = okPair B l
  | [] => rfl
  | (j, rj, wj) :: l => by
    show Bc (okOneF (Bc (Nat.blt j 512) (T.get (bT B.toList) j) 0) rj wj l) (okPairF (bT B.toList) l) false = (okOne (B.getD j 0) rj wj l && okPair B l)
    rw [bT_get B h, okOneF_eq, okPairF_eq B h l]
    cases okOne (B.getD j 0) rj wj l <;> rfl
theorem filtF_cons (i r w : Nat) (l : Acc) : filtF ((i, r, w) :: l) = Bc (Nat.beq (Nat.lor r w) 0) (filtF l) ((i, r, w) :: filtF l) := rfl
theorem lor_z {r w : Nat} (h : Nat.lor r w = 0) : r = 0 ∧ w = 0 := by
  have h' : r ||| w = 0 := h
  exact Nat.or_eq_zero_iff.1 h'
theorem filtF_triv (i : Nat) (l : Acc) : filtF ((i, 0, 0) :: l) = filtF l := by
  rw [filtF_cons]
  have : Nat.beq (Nat.lor 0 0) 0 = true := by decide
  rw [this, Bc_t]
theorem okOne_filt (b rj wj : Nat) : ∀ l, okOne b rj wj (filtF l) = okOne b rj wj l
  | [] => rfl
  | (i, ri, wi) :: l => by
    rw [filtF_cons]
    cases h : Nat.beq (Nat.lor ri wi) 0 with
    | false =>
      rw [Bc_f]
      simp only [okOne]
      rw [okOne_filt b rj wj l]
    | true =>
      rw [Bc_t, okOne_filt b rj wj l]
      obtain ⟨rfl, rfl⟩ := lor_z ((beq_iff _ _).1 h)
      simp only [okOne]
      have e1 : Nat.land 0 (Nat.lor rj wj) = 0 := Nat.zero_and _
      have e2 : Nat.land wj 0 = 0 := Nat.and_zero _
      rw [e1, e2]
      cases Nat.testBit b i <;> rfl
theorem okOne_triv (b : Nat) : ∀ l, okOne b 0 0 l = true
  | [] => rfl
  | (i, ri, wi) :: l => by
    simp only [okOne]
    have e1 : Nat.land wi (Nat.lor 0 0) = 0 := Nat.and_zero _
    have e2 : Nat.land 0 ri = 0 := Nat.zero_and _
    rw [e1, e2, okOne_triv b l]
    cases Nat.testBit b i <;> rfl
theorem okPair_filt (B : Array Nat) : ∀ l, okPair B (filtF l) = okPair B l
  | [] => rfl
  | (j, rj, wj) :: l => by
    rw [filtF_cons]
    cases h : Nat.beq (Nat.lor rj wj) 0 with
    | false =>
      rw [Bc_f]
      simp only [okPair]
      rw [okOne_filt, okPair_filt B l]
    | true =>
      rw [Bc_t, okPair_filt B l]
      obtain ⟨rfl, rfl⟩ := lor_z ((beq_iff _ _).1 h)
      simp only [okPair]
      rw [okOne_triv, Bool.true_and]
def joinT (r w : Nat) : TR → TR
  | .k (.ret v H r' w') => .k (.ret v H (Nat.lor r r') (Nat.lor w w'))
  | .k (.panic v H r' w') => .k (.panic v H (Nat.lor r r') (Nat.lor w w'))
  | .k (.drop m H r' w') => .k (.drop m H (Nat.lor r r') (Nat.lor w w'))
  | .k (.dpan v H r' w') => .k (.dpan v H (Nat.lor r r') (Nat.lor w w'))
  | .k (.fail n) => .k (.fail n)
  | .c x => .c (CR.join r w x)
def isF : TR → Prop
  | .k (.fail _) => True
  | .c .fail => True
  | _ => False
def TaskDr : Task → Prop
  | .loop b _ _ _ => drAll b = true
  | _ => True
def RecF (rec : RK) (rec' : Rec) : Prop := ∀ tk H r w K, TaskDr tk → ∃ y, rec tk H r w K = K y ∧ (isF y ∨ y = joinT r w (rec' tk H))
def AccRel : Ex → Acc → Acc → Prop
  | .panic _, a, b => ∃ j rest rest', a = (j, 0, 0) :: rest ∧ b = (j, 0, 0) :: rest' ∧ filtF rest = filtF rest'
  | _, a, b => filtF a = filtF b
def OpsRel (rec' : Rec) (cx : Cx) (l : List CO) (i : Nat) (t : T Value) (ds : List Deferred) (H : Hp) (acc : Acc) (r w r0 w0 : Nat) (z : OR) : Prop :=
  z = .fail ∨ ∃ x t' ds' H' a a' r' w', z = .mk x t' ds' H' a (Nat.lor r0 r') (Nat.lor w0 w') ∧ evOps rec' cx l i t ds H acc r w = .mk x t' ds' H' a' r' w' ∧ AccRel x a a'
theorem opsK_cons (o : CO) (l : List CO) (e : OX) (i : Nat) (t : T Value) (ds : List Deferred) (H : Hp) (m : MS) : opsK (o :: l) e i t ds H m = opG o.guard o (opsK l) e i t ds H m := rfl
theorem opsK_nil (rec : RK) (cx : Cx) (K : OR → TR) (i : Nat) (t : T Value) (ds : List Deferred) (H : Hp) (m : MS) : opsK [] ⟨rec, cx, K⟩ i t ds H m = K (.mk .normal t ds H m.acc m.r m.w) := rfl
theorem goM_eq (m : MS) (r w : Nat) (ih : MS → TR) : goM m r w ih = ih m := by unfold goM; rw [Fz_eq, Fz_eq]
theorem failO_eq (rec : RK) (cx : Cx) (K : OR → TR) (i : Nat) (t : T Value) (ds : List Deferred) (H : Hp) (m : MS) : failO ⟨rec, cx, K⟩ i t ds H m = K .fail := rfl
theorem onVal_eq (v : Value) (H1 : Hp) (r1 w1 : Nat) (o : CO) (ih : OPK) (rec : RK) (cx : Cx) (K : OR → TR) (i : Nat) (t : T Value) (ds : List Deferred) (H : Hp) (m : MS) :
    onVal v H1 r1 w1 o ih ⟨rec, cx, K⟩ i t ds H m = ih ⟨rec, cx, K⟩ (Nat.succ i) (putF o.dst cx.d t v) ds H1 ⟨(i, r1, Nat.lor w1 (rng H H1)) :: m.acc, Nat.lor m.r r1, Nat.lor m.w w1⟩ := by
  unfold onVal; rw [goM_eq]
theorem onPan_eq (H1 : Hp) (v : Value) (r1 w1 : Nat) (rec : RK) (cx : Cx) (K : OR → TR) (i : Nat) (t : T Value) (ds : List Deferred) (H : Hp) (m : MS) :
    onPan H1 v r1 w1 ⟨rec, cx, K⟩ i t ds H m = K (.mk (.panic v) t ds H1 ((i, 0, 0) :: m.acc) (Nat.lor m.r r1) (Nat.lor m.w w1)) := rfl
theorem aftTR_ret (v : Value) (H1 : Hp) (r1 w1 : Nat) (o : CO) (ih : OPK) : aftTR (.k (.ret v H1 r1 w1)) o ih = onVal v H1 r1 w1 o ih := rfl
theorem aftTR_pan (v : Value) (H1 : Hp) (r1 w1 : Nat) (o : CO) (ih : OPK) : aftTR (.k (.panic v H1 r1 w1)) o ih = onPan H1 v r1 w1 := rfl
theorem aftTR_fail (n : Nat) (o : CO) (ih : OPK) : aftTR (.k (.fail n)) o ih = failO := rfl
theorem aftTR_drop (m : FrameMode) (H1 : Hp) (r1 w1 : Nat) (o : CO) (ih : OPK) : aftTR (.k (.drop m H1 r1 w1)) o ih = failO := rfl
theorem aftTR_dpan (v : Value) (H1 : Hp) (r1 w1 : Nat) (o : CO) (ih : OPK) : aftTR (.k (.dpan v H1 r1 w1)) o ih = failO := rfl
theorem aftTR_c (x : CR) (o : CO) (ih : OPK) : aftTR (.c x) o ih = failO := rfl
theorem aftTR2_ret (v : Value) (H1 : Hp) (r1 w1 : Nat) (o : CO) (ih : OPK) : aftTR2 (.k (.ret v H1 r1 w1)) o ih = onVal v H1 r1 w1 o ih := rfl
theorem aftTR2_pan (v : Value) (H1 : Hp) (r1 w1 : Nat) (o : CO) (ih : OPK) : aftTR2 (.k (.panic v H1 r1 w1)) o ih = failO := rfl
theorem aftTR2_fail (n : Nat) (o : CO) (ih : OPK) : aftTR2 (.k (.fail n)) o ih = failO := rfl
theorem aftTR2_drop (m : FrameMode) (H1 : Hp) (r1 w1 : Nat) (o : CO) (ih : OPK) : aftTR2 (.k (.drop m H1 r1 w1)) o ih = failO := rfl
theorem aftTR2_dpan (v : Value) (H1 : Hp) (r1 w1 : Nat) (o : CO) (ih : OPK) : aftTR2 (.k (.dpan v H1 r1 w1)) o ih = failO := rfl
theorem aftTR2_c (x : CR) (o : CO) (ih : OPK) : aftTR2 (.c x) o ih = failO := rfl
theorem onR_fail (o : CO) (ih : OPK) : onR .fail o ih = failO := rfl
theorem onR_rec (o : CO) (ih : OPK) : onR .recover o ih = failO := rfl
theorem onR_val (v : Value) (H1 : Hp) (r1 w1 : Nat) (o : CO) (ih : OPK) : onR (.val v H1 r1 w1) o ih = onVal v H1 r1 w1 o ih := rfl
theorem onR_pan (v : Value) (o : CO) (ih : OPK) (e : OX) (i : Nat) (t : T Value) (ds : List Deferred) (H : Hp) (m : MS) : onR (.panic v) o ih e i t ds H m = onPan H v 0 0 e i t ds H m := rfl
theorem onR_call (f : FuncId) (args : List Value) (o : CO) (ih : OPK) (rec : RK) (cx : Cx) (K : OR → TR) (i : Nat) (t : T Value) (ds : List Deferred) (H : Hp) (m : MS) :
    onR (.call f args) o ih ⟨rec, cx, K⟩ i t ds H m = rec (.call f args) H 0 0 fun x => aftTR x o ih ⟨rec, cx, K⟩ i t ds H m := rfl
theorem onR_round (f : Nat) (args : List Value) (o : CO) (ih : OPK) (rec : RK) (cx : Cx) (K : OR → TR) (i : Nat) (t : T Value) (ds : List Deferred) (H : Hp) (m : MS) :
    onR (.round f args) o ih ⟨rec, cx, K⟩ i t ds H m = rec (.round f args) H 0 0 fun x => aftTR2 x o ih ⟨rec, cx, K⟩ i t ds H m := rfl
theorem onR_def (d : Deferred) (o : CO) (ih : OPK) : onR (.defer d) o ih = defK d o ih := rfl
theorem onRF_pv (v : Value) (o : CO) (ih : OPK) (rec : RK) (cx : Cx) (K : OR → TR) (i : Nat) (t : T Value) (ds : List Deferred) (H : Hp) (m : MS) : onRF (.pv v) o ih ⟨rec, cx, K⟩ i t ds H m = ih ⟨rec, cx, K⟩ (Nat.succ i) (putF o.dst cx.d t v) ds H m := rfl
theorem onRF_r (x : R) (o : CO) (ih : OPK) : onRF (.r x) o ih = onR x o ih := rfl
theorem doOp_eq (o : CO) (ih : OPK) (e : OX) (i : Nat) (t : T Value) (ds : List Deferred) (H : Hp) (m : MS) : doOp o ih e i t ds H m = onRF (runF o.op t H) o ih e i t ds H m := rfl
theorem skipOp_eq (o : CO) (ih : OPK) (rec : RK) (cx : Cx) (K : OR → TR) (i : Nat) (t : T Value) (ds : List Deferred) (H : Hp) (m : MS) : skipOp o ih ⟨rec, cx, K⟩ i t ds H m = ih ⟨rec, cx, K⟩ (Nat.succ i) (putF o.dst cx.d t U) ds H m := rfl
theorem opG_none (o : CO) (ih : OPK) : opG none o ih = doOp o ih := rfl
theorem opG_some (p : Tmp × Bool) (o : CO) (ih : OPK) (e : OX) (i : Nat) (t : T Value) (ds : List Deferred) (H : Hp) (m : MS) : opG (some p) o ih e i t ds H m = selOp (wantP p t) o ih e i t ds H m := rfl
theorem isF_inv {y : TR} (h : isF y) : (∃ n, y = .k (.fail n)) ∨ y = .c .fail := by
  cases y with
  | k x => cases x with
    | fail n => exact .inl ⟨n, rfl⟩
    | _ => exact h.elim
  | c x => cases x with
    | fail => exact .inr rfl
    | mk => exact h.elim
section
variable {rec : RK} {rec' : Rec} (hrec : RecF rec rec') {cx : Cx}
include hrec
theorem opsK_ok : ∀ (l : List CO) (K : OR → TR) (i : Nat) (t : T Value) (ds : List Deferred) (H : Hp) (m : MS) (acc : Acc) (r w r0 w0 : Nat), filtF m.acc = filtF acc → m.r = Nat.lor r0 r → m.w = Nat.lor w0 w →
    ∃ z, opsK l ⟨rec, cx, K⟩ i t ds H m = K z ∧ OpsRel rec' cx l i t ds H acc r w r0 w0 z := by
  intro l
  induction l with
  | nil =>
    intro K i t ds H m acc r w r0 w0 h1 h2 h3
    exact ⟨.mk .normal t ds H m.acc m.r m.w, opsK_nil _ _ _ _ _ _ _ _, .inr ⟨.normal, t, ds, H, m.acc, acc, r, w, by rw [h2, h3], rfl, h1⟩⟩
  | cons o l ih =>
    intro K i t ds H m acc r w r0 w0 h1 h2 h3
    have failing : ∀ {x : TR}, x = K .fail → ∃ z, x = K z ∧ OpsRel rec' cx (o :: l) i t ds H acc r w r0 w0 z := fun h => ⟨.fail, h, .inl rfl⟩
    have val : ∀ (v : Value) (H1 : Hp) (r1 w1 : Nat) (ds1 : List Deferred) (mm : MS) (acc1 : Acc), filtF mm.acc = filtF acc1 → mm.r = Nat.lor r0 (Nat.lor r r1) → mm.w = Nat.lor w0 (Nat.lor w w1) →
        evOps rec' cx (o :: l) i t ds H acc r w = evOps rec' cx l (Nat.succ i) (putT cx.d t o.dst v) ds1 H1 acc1 (Nat.lor r r1) (Nat.lor w w1) →
        ∃ z, opsK l ⟨rec, cx, K⟩ (Nat.succ i) (putF o.dst cx.d t v) ds1 H1 mm = K z ∧ OpsRel rec' cx (o :: l) i t ds H acc r w r0 w0 z := by
      intro v H1 r1 w1 ds1 mm acc1 g1 g2 g3 hev
      rw [putF_eq]
      obtain ⟨z, e, hz⟩ := ih K (Nat.succ i) (putT cx.d t o.dst v) ds1 H1 mm acc1 (Nat.lor r r1) (Nat.lor w w1) r0 w0 g1 g2 g3
      refine ⟨z, e, ?_⟩
      rcases hz with hz | ⟨x, t', ds', H', a, a', r', w', e1, e2, e3⟩
      · exact .inl hz
      · exact .inr ⟨x, t', ds', H', a, a', r', w', e1, by rw [hev]; exact e2, e3⟩
    have onV : ∀ (v : Value) (H1 : Hp) (r1 w1 : Nat), evOps rec' cx (o :: l) i t ds H acc r w = evOps rec' cx l (Nat.succ i) (putT cx.d t o.dst v) ds H1 ((i, r1, Nat.lor w1 (rng H H1)) :: acc) (Nat.lor r r1) (Nat.lor w w1) →
        ∃ z, onVal v H1 r1 w1 o (opsK l) ⟨rec, cx, K⟩ i t ds H m = K z ∧ OpsRel rec' cx (o :: l) i t ds H acc r w r0 w0 z := by
      intro v H1 r1 w1 hev
      rw [onVal_eq]
      exact val v H1 r1 w1 ds _ _ (by rw [filtF_cons, filtF_cons, h1]) (by show Nat.lor m.r r1 = _; rw [h2, lor_assoc']) (by show Nat.lor m.w w1 = _; rw [h3, lor_assoc']) hev
    have onP : ∀ (v : Value) (H1 : Hp) (r1 w1 : Nat), evOps rec' cx (o :: l) i t ds H acc r w = .mk (.panic v) t ds H1 ((i, 0, 0) :: acc) (Nat.lor r r1) (Nat.lor w w1) →
        ∃ z, onPan H1 v r1 w1 ⟨rec, cx, K⟩ i t ds H m = K z ∧ OpsRel rec' cx (o :: l) i t ds H acc r w r0 w0 z := by
      intro v H1 r1 w1 hev
      rw [onPan_eq]
      exact ⟨_, rfl, .inr ⟨.panic v, t, ds, H1, (i, 0, 0) :: m.acc, (i, 0, 0) :: acc, Nat.lor r r1, Nat.lor w w1, by rw [h2, h3, lor_assoc', lor_assoc'], hev, i, m.acc, acc, rfl, rfl, h1⟩⟩
    have main : wants t o.guard = true → ∃ z, doOp o (opsK l) ⟨rec, cx, K⟩ i t ds H m = K z ∧ OpsRel rec' cx (o :: l) i t ds H acc r w r0 w0 z := by
      intro hwt
      have hr := runF_ok o.op t H
      rw [doOp_eq]
      generalize runF o.op t H = fx at hr
      cases fx with
      | pv v =>
        have hr : run o.op t H = .val v H 0 0 := hr
        rw [onRF_pv]
        have e : rng H H = 0 := Nat.sub_self _
        have e2 : Nat.lor 0 (rng H H) = 0 := by rw [e]; decide
        refine val v H 0 0 ds m ((i, 0, Nat.lor 0 (rng H H)) :: acc) (by rw [e2, filtF_triv, h1]) (by rw [h2, lor_zero']) (by rw [h3, lor_zero']) ?_
        simp only [evOps, hwt, Bc_t, hr, stepR]
      | r x =>
        rw [onRF_r]
        rcases hr with rfl | hr
        · rw [onR_fail]; exact failing (failO_eq _ _ _ _ _ _ _ _)
        · cases hx : run o.op t H with
          | fail => rw [hr, hx, onR_fail]; exact failing (failO_eq _ _ _ _ _ _ _ _)
          | recover => rw [hr, hx, onR_rec]; exact failing (failO_eq _ _ _ _ _ _ _ _)
          | val v H1 r1 w1 =>
            rw [hr, hx, onR_val]
            exact onV v H1 r1 w1 (by simp only [evOps, hwt, Bc_t, hx, stepR])
          | panic v =>
            rw [hr, hx, onR_pan]
            exact onP v H 0 0 (by simp only [evOps, hwt, Bc_t, hx, stepR])
          | call f args =>
            rw [hr, hx, onR_call]
            obtain ⟨y, e, hy⟩ := hrec (.call f args) H 0 0 (fun x => aftTR x o (opsK l) ⟨rec, cx, K⟩ i t ds H m) trivial
            rw [e]
            clear e
            rcases hy with hy | hy
            · rcases isF_inv hy with ⟨n, rfl⟩ | rfl
              · rw [aftTR_fail]; exact failing (failO_eq _ _ _ _ _ _ _ _)
              · rw [aftTR_c]; exact failing (failO_eq _ _ _ _ _ _ _ _)
            · subst hy
              cases hrr : rec' (.call f args) H with
              | c x => simp only [joinT, aftTR_c]; exact failing (failO_eq _ _ _ _ _ _ _ _)
              | k x =>
                cases x with
                | fail n => simp only [joinT, aftTR_fail]; exact failing (failO_eq _ _ _ _ _ _ _ _)
                | drop m' H' r' w' => simp only [joinT, aftTR_drop]; exact failing (failO_eq _ _ _ _ _ _ _ _)
                | dpan v H' r' w' => simp only [joinT, aftTR_dpan]; exact failing (failO_eq _ _ _ _ _ _ _ _)
                | ret v H1 r1 w1 =>
                  simp only [joinT, aftTR_ret, zero_lor']
                  exact onV v H1 r1 w1 (by simp only [evOps, hwt, Bc_t, hx, stepR, afterCall, hrr])
                | panic v H1 r1 w1 =>
                  simp only [joinT, aftTR_pan, zero_lor']
                  exact onP v H1 r1 w1 (by simp only [evOps, hwt, Bc_t, hx, stepR, afterCall, hrr])
          | round f args =>
            rw [hr, hx, onR_round]
            obtain ⟨y, e, hy⟩ := hrec (.round f args) H 0 0 (fun x => aftTR2 x o (opsK l) ⟨rec, cx, K⟩ i t ds H m) trivial
            rw [e]
            clear e
            rcases hy with hy | hy
            · rcases isF_inv hy with ⟨n, rfl⟩ | rfl
              · rw [aftTR2_fail]; exact failing (failO_eq _ _ _ _ _ _ _ _)
              · rw [aftTR2_c]; exact failing (failO_eq _ _ _ _ _ _ _ _)
            · subst hy
              cases hrr : rec' (.round f args) H with
              | c x => simp only [joinT, aftTR2_c]; exact failing (failO_eq _ _ _ _ _ _ _ _)
              | k x =>
                cases x with
                | fail n => simp only [joinT, aftTR2_fail]; exact failing (failO_eq _ _ _ _ _ _ _ _)
                | drop m' H' r' w' => simp only [joinT, aftTR2_drop]; exact failing (failO_eq _ _ _ _ _ _ _ _)
                | dpan v H' r' w' => simp only [joinT, aftTR2_dpan]; exact failing (failO_eq _ _ _ _ _ _ _ _)
                | panic v H1 r1 w1 => simp only [joinT, aftTR2_pan]; exact failing (failO_eq _ _ _ _ _ _ _ _)
                | ret v H1 r1 w1 =>
                  simp only [joinT, aftTR2_ret, zero_lor']
                  exact onV v H1 r1 w1 (by simp only [evOps, hwt, Bc_t, hx, stepR, afterCall, hrr])
          | defer d =>
            rw [hr, hx, onR_def]
            unfold defK
            cases hc1 : cx.rnd with
            | some l => simp only [hc1]; exact failing rfl
            | none =>
              cases hc2 : cx.drw with
              | true => simp only [hc1, hc2]; exact failing rfl
              | false =>
                simp only [hc1, hc2]
                exact val U H 0 0 (d :: ds) m acc h1 (by rw [h2, lor_zero']) (by rw [h3, lor_zero']) (by simp only [evOps, hwt, Bc_t, hx, stepR, hc1, hc2, lor_zero'])
    rw [opsK_cons]
    cases hg : o.guard with
    | none =>
      rw [opG_none]
      exact main (by rw [hg]; rfl)
    | some p =>
      rw [opG_some, wantP_eq, ← hg]
      cases hwt : wants t o.guard with
      | true => exact main hwt
      | false =>
        show ∃ z, skipOp o (opsK l) ⟨rec, cx, K⟩ i t ds H m = K z ∧ _
        rw [skipOp_eq]
        exact val U H 0 0 ds m acc h1 (by rw [h2, lor_zero']) (by rw [h3, lor_zero']) (by simp only [evOps, hwt, Bc_f, lor_zero'])
end
end Go.Ev.F
end
