/-
  A part of the reckoner for the statements of a Go program: what it answers, the model answers. Holds for every program whose tables are as given.
-/
import Derived.KernelRfl
import Derived.Test.YtgdejggelcpokaaGreatDoorG00
import Derived.Test.YtgdejggelcpokaaGreatDoorG10
import Derived.Test.YtgdejggelcpokaaGreatDoorG11
set_option linter.unusedSimpArgs false
set_option linter.unusedVariables false
set_option linter.unusedSectionVars false

noncomputable section
namespace Go.Ev
section
variable (tb : Tb) (sp : Nat → List Value → Hp → Option (Value × Hp × Nat × Nat)) (e : Env)
def WOR (d : Nat) (H : Hp) (K : T Value → Prop) : List CO → T Value → Prop
  | [], t => K t
  | o :: cos, t => (match wants t o.guard with
    | true => (match run o.op t H with
      | .val v H' r w => H' = H ∧ w = 0 ∧ e.ok r 0 H ∧ WOR d H K cos (putT d t o.dst v)
      | _ => False)
    | false => WOR d H K cos (putT d t o.dst U))
mutual
def WOG (d : Nat) (K : T Value → Hp → Prop) : List CO → T Value → Hp → Prop
  | [], t, H => K t H
  | o :: cos, t, H => (match wants t o.guard with
    | true => (match run o.op t H with
      | .val v H1 r w => e.ok r w H1 ∧ H.nx ≤ H1.nx ∧ WOG d K cos (putT d t o.dst v) H1
      | .call f args => EC tb sp e f args H (WOGk d K cos t o.dst)
      | _ => False)
    | false => WOG d K cos (putT d t o.dst U) H)
def WOGk (d : Nat) (K : T Value → Hp → Prop) (cos : List CO) (t : T Value) (dst : Option Tmp) : Value → Hp → Prop := fun v H1 => WOG d K cos (putT d t dst v) H1
end
end
section
variable {tb : Tb} {sp : Nat → List Value → Hp → Option (Value × Hp × Nat × Nat)} {e : Env}
theorem WO.of_wog {cx : Cx} {K : T Value → Hp → Prop} {ds : List Deferred} : ∀ {cos : List CO} {t : T Value} {H : Hp}, WOG tb sp e cx.d K cos t H → WO tb sp e cx cos t ds H (fun t' ds' H' => ds' = ds ∧ K t' H') := by
  intro cos
  induction cos with
  | nil => intro t H h; rw [WOG] at h; exact WO.nil ⟨rfl, h⟩
  | cons o cos ih =>
    intro t H h
    rw [WOG] at h
    cases hg : wants t o.guard with
    | true =>
      rw [hg] at h
      refine WO.cons hg ?_
      revert h
      cases run o.op t H with
      | val v H1 r w => exact fun h => ⟨h.1, h.2.1, ih h.2.2⟩
      | call f args => exact fun h => EC.mono h fun v H1 _ hk => ih (by rw [WOGk] at hk; exact hk)
      | _ => exact fun h => h.elim
    | false =>
      rw [hg] at h
      exact WO.skip hg (ih h)
theorem okPair_reads (B : Array Nat) : ∀ {acc : Acc}, (∀ x ∈ acc, x.2.2 = 0) → okPair B acc = true := by
  have one : ∀ (b rj : Nat) (acc : Acc), (∀ x ∈ acc, x.2.2 = 0) → okOne b rj 0 acc = true := by
    intro b rj acc
    induction acc with
    | nil => intro _; rfl
    | cons x acc ih =>
      intro h
      obtain ⟨i, ri, wi⟩ := x
      have h0 : wi = 0 := h (i, ri, wi) (by simp)
      subst h0
      have ih' := ih fun y hy => h y (by simp [hy])
      simp only [okOne]
      cases Nat.testBit b i with
      | true => rw [Bc_t]; exact ih'
      | false =>
        rw [Bc_f]
        have e1 : Nat.land 0 (Nat.lor rj 0) = 0 := Nat.zero_and _
        have e2 : Nat.land 0 ri = 0 := Nat.zero_and _
        rw [e1, e2]; exact ih'
  intro acc
  induction acc with
  | nil => intro _; rfl
  | cons x acc ih =>
    intro h
    obtain ⟨i, ri, wi⟩ := x
    have h0 : wi = 0 := h (i, ri, wi) (by simp)
    subst h0
    simp only [okPair, Bool.and_eq_true]
    exact ⟨one _ _ _ fun y hy => h y (by simp [hy]), ih fun y hy => h y (by simp [hy])⟩
theorem wor_run {d : Nat} {H : Hp} {K : T Value → Prop} : ∀ {cos : List CO} {t : T Value}, WOR e d H K cos t →
    ∃ t' r, (∀ (rec : Rec) (cx : Cx) i ds acc r0 w0, cx.d = d → (∀ x ∈ acc, x.2.2 = 0) → ∃ acc', (∀ x ∈ acc', x.2.2 = 0) ∧ evOps rec cx cos i t ds H acc r0 w0 = .mk .normal t' ds H acc' (Nat.lor r0 r) (Nat.lor w0 0)) ∧ e.ok r 0 H ∧ K t' := by
  intro cos
  induction cos with
  | nil => intro t h; exact ⟨t, 0, fun rec cx i ds acc r0 w0 _ ha => ⟨acc, ha, by rw [lor_zero', lor_zero']; rfl⟩, .zero e H, h⟩
  | cons o cos ih =>
    intro t h
    rw [WOR] at h
    cases hg : wants t o.guard with
    | true =>
      rw [hg] at h
      simp only [] at h
      cases hr : run o.op t H with
      | val v H1 r w =>
        rw [hr] at h
        obtain ⟨rfl, rfl, h1, h2⟩ := h
        obtain ⟨t', r2, h3, h4, h5⟩ := ih h2
        refine ⟨t', Nat.lor r r2, fun rec cx i ds acc r0 w0 hd ha => ?_, by have := h1.lor h4 (Nat.le_refl _); rwa [lor_zero'] at this, h5⟩
        obtain ⟨acc', h6, h7⟩ := h3 rec cx (Nat.succ i) ds ((i, r, Nat.lor 0 (rng H1 H1)) :: acc) (Nat.lor r0 r) (Nat.lor w0 0) hd (fun x hx => by
          rcases List.mem_cons.1 hx with rfl | hx
          · show Nat.lor 0 (rng H1 H1) = 0
            rw [rng_none rfl]; rfl
          · exact ha x hx)
        refine ⟨acc', h6, ?_⟩
        subst hd
        simp only [evOps, hg, Bc_t, hr, stepR]
        rw [h7, lor_assoc', lor_assoc', lor_zero' 0]
      | _ => rw [hr] at h; exact h.elim
    | false =>
      rw [hg] at h
      obtain ⟨t', r2, h3, h4, h5⟩ := ih h
      refine ⟨t', r2, fun rec cx i ds acc r0 w0 hd ha => ?_, h4, h5⟩
      obtain ⟨acc', h6, h7⟩ := h3 rec cx (Nat.succ i) ds acc r0 w0 hd ha
      refine ⟨acc', h6, ?_⟩
      subst hd
      simp only [evOps, hg, Bc_f]
      exact h7
variable {cx : Cx} {t : T Value} {ds : List Deferred} {H : Hp} {K : Ex → T Value → List Deferred → Hp → Prop}
theorem WK.reg_r {cos : List CO} (h : WOR e cx.d H (fun t' => K .normal t' ds H) cos t) : WK tb sp e cx (.reg cos) t ds H K := by
  obtain ⟨t', r, h1, h2, h3⟩ := wor_run h
  intro c hc
  obtain ⟨id, ops, rfl, hcos⟩ := kcomp_reg hc
  obtain ⟨acc', _, h5⟩ := h1 (ev tb sp 0) cx 0 ds [] 0 0 rfl (fun x hx => by cases hx)
  refine ⟨0, .normal, t', ds, H, r, 0, ?_, h2, Nat.le_refl _, h3⟩
  simp only [evCC, hcos, h5, ofOR, zero_lor']
theorem WK.draw_r {B : Array Nat} {cos : List CO} (h : WOR e cx.d H (fun t' => K .normal t' ds H) cos t) : WK tb sp e cx (.draw B cos) t ds H K := by
  obtain ⟨t', r, h1, h2, h3⟩ := wor_run h
  intro c hc
  obtain ⟨id, ops, rfl, hcos, rfl, hdo⟩ := kcomp_draw hc
  obtain ⟨acc', h4, h5⟩ := h1 (ev tb sp 0) ⟨cx.d, cx.nt, cx.rnd, true⟩ 0 ds [] 0 0 rfl (fun x hx => by cases hx)
  refine ⟨0, .normal, t', ds, H, r, 0, ?_, h2, Nat.le_refl _, h3⟩
  simp only [evCC, hdo, Bc_t, hcos, h5, ofORd, okPair_reads _ h4, zero_lor']
theorem WK.reg_g {cos : List CO} (h : WOG tb sp e cx.d (fun t' H' => K .normal t' ds H') cos t H) : WK tb sp e cx (.reg cos) t ds H K :=
  WK.reg ((WO.of_wog h).mono fun t' ds' H' _ hk => by obtain ⟨rfl, hk⟩ := hk; exact hk)
theorem ok_zero : e.ok 0 0 H ↔ True := by simp [Env.ok.zero]
theorem wants_none' (t : T Value) : wants t none = true := rfl
def wantsV (v : Value) (w : Bool) : Bool := match asB v with | some b => Bc b w (!w) | none => false
theorem wants_some (t : T Value) (i : Nat) (w : Bool) : wants t (some (i, w)) = wantsV (t.get i) w := rfl
theorem wantsV_U (w : Bool) : wantsV U w = false := rfl
theorem wantsV_tt : wantsV (.bool true) true = true := rfl
theorem wantsV_tf : wantsV (.bool true) false = false := rfl
theorem wantsV_ft : wantsV (.bool false) true = false := rfl
theorem wantsV_ff : wantsV (.bool false) false = true := rfl
theorem exPick_t (x y : Value) (H : Hp) : exPick (.bool true) x y H = .val x H 0 0 := rfl
theorem exPick_f (x y : Value) (H : Hp) : exPick (.bool false) x y H = .val y H 0 0 := rfl
end
end Go.Ev
end

noncomputable section
namespace Go.Proofs.RS
open Go Go.Ev Go.Proofs
noncomputable def isk_body : Code := (Tryz.f119.body).getD .skip
def isk_r0 : List CO := [
    ⟨(some 2), none, .mv (.const (.bool false))⟩]
def isk_r1 : List CO := [
    ⟨(some 3), none, .mv (.tmp 0)⟩,
    ⟨(some 4), none, .len 0 (.tmp 3)⟩,
    ⟨(some 5), none, .bin .geq (.tmp 4) (.const (.int .i64 (1)))⟩,
    ⟨(some 6), none, .mv (.tmp 5)⟩,
    ⟨(some 7), (some (6, true)), .mv (.tmp 0)⟩,
    ⟨(some 8), (some (6, true)), .len 0 (.tmp 7)⟩,
    ⟨(some 9), (some (6, true)), .bin .leq (.tmp 8) (.const (.int .i64 (16)))⟩,
    ⟨(some 10), none, .pick (.tmp 6) (.tmp 9) (.const (.bool false))⟩,
    ⟨(some 2), none, .mv (.tmp 10)⟩]
noncomputable def isk_k : KC :=
  (.seq (.reg isk_r0)
  (.seq (.reg isk_r1)
  .ret))
theorem isk_comp : kcomp Tb0 Tryz.f119.ntmps isk_body = isk_k := by kernel_rfl
theorem isk_some : Tryz.f119.body = some isk_body := rfl
noncomputable def isd_body : Code := (Tryz.f157.body).getD .skip
def isd_r0 : List CO := [
    ⟨(some 2), none, .mv (.const (.bool false))⟩]
def isd_r1 : List CO := [
    ⟨(some 3), none, .mv (.tmp 0)⟩,
    ⟨(some 4), none, .len 0 (.tmp 3)⟩,
    ⟨(some 5), none, .bin .leq (.tmp 4) (.const (.int .i64 (255)))⟩,
    ⟨(some 2), none, .mv (.tmp 5)⟩]
noncomputable def isd_k : KC :=
  (.seq (.reg isd_r0)
  (.seq (.reg isd_r1)
  .ret))
theorem isd_comp : kcomp Tb0 Tryz.f157.ntmps isd_body = isd_k := by kernel_rfl
theorem isd_some : Tryz.f157.body = some isd_body := rfl
noncomputable def isr_body : Code := (Tryz.f116.body).getD .skip
def isr_r0 : List CO := [
    ⟨(some 1), none, .box 77 (.tmp 0)⟩,
    ⟨(some 2), none, .mv (.const (.bool false))⟩]
def isr_r1 : List CO := [
    ⟨(some 3), none, .fa 0 (.tmp 1)⟩,
    ⟨(some 4), none, .ld1 (.tmp 3)⟩,
    ⟨(some 5), none, .call (.func 119) [(.tmp 4)]⟩,
    ⟨(some 6), none, .mv (.tmp 5)⟩,
    ⟨(some 7), (some (6, true)), .fa 1 (.tmp 1)⟩,
    ⟨(some 8), (some (6, true)), .ld1 (.tmp 7)⟩,
    ⟨(some 9), (some (6, true)), .call (.func 157) [(.tmp 8)]⟩,
    ⟨(some 10), none, .pick (.tmp 6) (.tmp 9) (.const (.bool false))⟩,
    ⟨(some 2), none, .mv (.tmp 10)⟩]
noncomputable def isr_k : KC :=
  (.seq (.reg isr_r0)
  (.seq (.reg isr_r1)
  .ret))
theorem isr_comp : kcomp Tb0 Tryz.f116.ntmps isr_body = isr_k := by kernel_rfl
theorem isr_some : Tryz.f116.body = some isr_body := rfl
end Go.Proofs.RS
end

noncomputable section
namespace Go.Ev
section
def Hp.isFn : Hp → Bool | .fn _ _ => true | .mk _ _ => false
theorem fn_room {H : Hp} (h : H.isFn = true) : H.room = true := by cases H with | mk => cases h | fn => rfl
theorem fn_wf {H : Hp} (h : H.isFn = true) : H.wf := by cases H with | mk => cases h | fn => trivial
theorem isFn_push (H : Hp) (x : Blk) : (H.push x).isFn = H.isFn := by cases H <;> rfl
theorem isFn_put (H : Hp) (b : Nat) (x : Blk) : (H.put b x).isFn = H.isFn := by cases H <;> rfl
structure Own (n ty : Nat) (H : Hp) (b : Nat) (v : Value) (L : List Value) : Prop where
  ge : n ≤ b
  form : (Row H b ty 0 L ∧ v = .slice (some ⟨b, 0, none⟩) L.length (2 * L.length)) ∨ (Row H b ty 2 L ∧ v = .slice (some ⟨b, 0, none⟩) L.length (2 * L.length + 1))
theorem Own.row {n ty : Nat} {H : Hp} {b : Nat} {v : Value} {L : List Value} (h : Own n ty H b v L) : ∃ op c, Row H b ty op L ∧ v = .slice (some ⟨b, 0, none⟩) L.length c := by
  rcases h.form with ⟨h1, h2⟩ | ⟨h1, h2⟩
  · exact ⟨_, _, h1, h2⟩
  · exact ⟨_, _, h1, h2⟩
theorem Own.lt {n ty : Nat} {H : Hp} {b : Nat} {v : Value} {L : List Value} (h : Own n ty H b v L) : b < H.nx := by obtain ⟨_, _, h, _⟩ := h.row; exact h.lt
theorem Own.of_blk {n ty : Nat} {H H' : Hp} {b : Nat} {v : Value} {L : List Value} (h : Own n ty H b v L) (e : H'.blk b = H.blk b) : Own n ty H' b v L :=
  ⟨h.ge, h.form.imp (fun ⟨a, c⟩ => ⟨a.of_blk e, c⟩) (fun ⟨a, c⟩ => ⟨a.of_blk e, c⟩)⟩
theorem alloc_bsl {H : Hp} (hf : H.isFn = true) (L : List Value) (ty len : Nat) : alloc1 (blkL L ty 0) H (fun i => mkSlV (some (i, 0)) len len false) 0 0 = .val (.slice (some ⟨H.nx, 0, none⟩) len (2 * len)) (H.push (blkL L ty 0)) 0 0 := by
  rw [alloc1_room (fn_room hf)]; rfl
theorem exFill_some (l : List Value) (k : List Value → R) : exFill (some l) k = k l := rfl
theorem fillL_nil (t : T Value) (c : List Value) : fillL t c [] = some c := rfl
theorem fillL_one {t : T Value} {z w : Value} {o : Operand} (h : cellsO (evalO t o) = some [w]) : fillL t [z] [(0, 1, o)] = some [w] := by
  simp only [fillL, h]; rfl
theorem Env.ok.fresh {e : Env} {H : Hp} {b : Nat} (hb : b < H.nx) (hn : e.n0 ≤ b) : e.ok (bit b) 0 H := .read hb fun h => absurd h (by omega)
end
end Go.Ev
end

noncomputable section
namespace Go.Ds
open Go.Ev
abbrev Str := List UInt8
abbrev Entry := Str × Str
abbrev DS := List Entry
theorem eqBs_iff : ∀ {a b : Str}, eqBs a b = true ↔ a = b
  | [], [] => by simp [eqBs]
  | [], _ :: _ => by simp [eqBs]
  | _ :: _, [] => by simp [eqBs]
  | a :: x, b :: y => by
    unfold eqBs
    cases h : Nat.beq a.toNat b.toNat with
    | true =>
      have hab : a = b := UInt8.toNat_inj.1 (Nat.eq_of_beq_eq_true h)
      show eqBs x y = true ↔ _
      rw [eqBs_iff, hab]; simp
    | false =>
      have hab : a ≠ b := fun e => by rw [e] at h; simp at h
      show false = true ↔ _
      simp [hab]
theorem eqBs_ne {a b : Str} (h : a ≠ b) : eqBs a b = false := by
  cases hb : eqBs a b with
  | false => rfl
  | true => exact absurd (eqBs_iff.1 hb) h
theorem eqBs_self (a : Str) : eqBs a a = true := eqBs_iff.2 rfl
theorem ltBs_cons (a b : UInt8) (x y : Str) : ltBs (a :: x) (b :: y) = true ↔ a.toNat < b.toNat ∨ a = b ∧ ltBs x y = true := by
  show Bc (Nat.blt a.toNat b.toNat) true (Bc (Nat.beq a.toNat b.toNat) (ltBs x y) false) = true ↔ _
  cases h : Nat.blt a.toNat b.toNat with
  | true =>
    have h1 : a.toNat < b.toNat := by rw [Nat.blt_eq] at h; exact h
    show true = true ↔ _
    simp [h1]
  | false =>
    have h1 : ¬ a.toNat < b.toNat := fun g => by rw [← Nat.blt_eq, h] at g; cases g
    cases h2 : Nat.beq a.toNat b.toNat with
    | true =>
      have hab : a = b := UInt8.toNat_inj.1 (Nat.eq_of_beq_eq_true h2)
      show ltBs x y = true ↔ _
      simp [hab]
    | false =>
      have hab : a ≠ b := fun e => by rw [e] at h2; simp at h2
      show false = true ↔ _
      simp [h1, hab]
theorem ltBs_irr : ∀ a : Str, ltBs a a = false
  | [] => rfl
  | a :: x => by
    cases h : ltBs (a :: x) (a :: x) with
    | false => rfl
    | true =>
      rcases (ltBs_cons _ _ _ _).1 h with h | ⟨_, h⟩
      · omega
      · rw [ltBs_irr x] at h; cases h
theorem ltBs_trans : ∀ {a b c : Str}, ltBs a b = true → ltBs b c = true → ltBs a c = true
  | [], _ :: _, _ :: _, _, _ => rfl
  | [], [], _, h, _ => by simp [ltBs] at h
  | _ :: _, [], _, h, _ => by simp [ltBs] at h
  | _, _ :: _, [], _, h => by simp [ltBs] at h
  | a :: x, b :: y, c :: z, h, g => by
    rw [ltBs_cons] at h g ⊢
    rcases h with h | ⟨rfl, h⟩ <;> rcases g with g | ⟨rfl, g⟩
    · exact .inl (by omega)
    · exact .inl h
    · exact .inl g
    · exact .inr ⟨rfl, ltBs_trans h g⟩
theorem ltBs_tri : ∀ a b : Str, ltBs a b = true ∨ a = b ∨ ltBs b a = true
  | [], [] => .inr (.inl rfl)
  | [], _ :: _ => .inl rfl
  | _ :: _, [] => .inr (.inr rfl)
  | a :: x, b :: y => by
    rw [ltBs_cons, ltBs_cons]
    rcases Nat.lt_trichotomy a.toNat b.toNat with h | h | h
    · exact .inl (.inl h)
    · have hab : a = b := UInt8.toNat_inj.1 h
      subst hab
      rcases ltBs_tri x y with h | h | h
      · exact .inl (.inr ⟨rfl, h⟩)
      · exact .inr (.inl (by rw [h]))
      · exact .inr (.inr (.inr ⟨rfl, h⟩))
    · exact .inr (.inr (.inl h))
theorem ltBs_asymm {a b : Str} (h : ltBs a b = true) : ltBs b a = false := by
  cases hb : ltBs b a with
  | false => rfl
  | true => have := ltBs_trans h hb; rw [ltBs_irr] at this; cases this
theorem ltBs_ne {a b : Str} (h : ltBs a b = true) : a ≠ b := fun e => by rw [e, ltBs_irr] at h; cases h
def keyB (s : Str) : Bool := decide (1 ≤ s.length) && decide (s.length ≤ 16)
def dataB (s : Str) : Bool := decide (s.length ≤ 255)
def recB (r : Entry) : Bool := keyB r.1 && dataB r.2
def okAt (d : DS) (i : Nat) : Bool := match d[i]? with
  | none => true
  | some r => recB r && (match i with | 0 => true | j + 1 => (match d[j]? with | none => true | some q => ltBs q.1 r.1))
def checkB (d : DS) : Bool := decide (d.length ≤ 64) && (List.range d.length).all (okAt d)
def Sorted (d : DS) : Prop := d.Pairwise fun a b => ltBs a.1 b.1 = true
theorem okAt_of_check {d : DS} (h : checkB d = true) (i : Nat) : okAt d i = true := by
  unfold checkB at h
  rw [Bool.and_eq_true, List.all_eq_true] at h
  rcases Nat.lt_or_ge i d.length with hi | hi
  · exact h.2 i (List.mem_range.2 hi)
  · unfold okAt; rw [List.getElem?_eq_none hi]
def pos : DS → Str → Nat
  | [], _ => 0
  | r :: d, k => if ltBs r.1 k then pos d k + 1 else 0
def isAt (d : DS) (k : Str) : Bool := match d[pos d k]? with | some r => eqBs r.1 k | none => false
def without (d : DS) (k : Str) : DS := d.filter fun r => !eqBs r.1 k
theorem split {k : Str} : ∀ {d : DS}, Sorted d → ∃ L R, d = L ++ R ∧ pos d k = L.length ∧ (∀ r ∈ L, ltBs r.1 k = true) ∧
    ((∃ r R', R = r :: R' ∧ r.1 = k ∧ ∀ x ∈ R', ltBs k x.1 = true) ∨ ∀ x ∈ R, ltBs k x.1 = true)
  | [], _ => ⟨[], [], rfl, rfl, fun r h => by simp at h, .inr fun x h => by simp at h⟩
  | r :: d, h => by
    have hr := (List.pairwise_cons.1 h).1
    obtain ⟨L, R, h1, h2, h3, h4⟩ := split (k := k) (List.pairwise_cons.1 h).2
    cases hk : ltBs r.1 k with
    | true =>
      refine ⟨r :: L, R, by rw [h1]; rfl, ?_, ?_, h4⟩
      · unfold pos; rw [if_pos hk, h2]; rfl
      · intro x hx
        rcases List.mem_cons.1 hx with rfl | hx
        · exact hk
        · exact h3 x hx
    | false =>
      refine ⟨[], r :: d, rfl, ?_, fun x hx => by simp at hx, ?_⟩
      · unfold pos; rw [hk]; rfl
      · rcases ltBs_tri r.1 k with g | g | g
        · rw [g] at hk; cases hk
        · exact .inl ⟨r, d, rfl, g, fun x hx => g ▸ hr x hx⟩
        · refine .inr fun x hx => ?_
          rcases List.mem_cons.1 hx with rfl | hx
          · exact g
          · exact ltBs_trans g (hr x hx)
end Go.Ds
end

noncomputable section
namespace Go.Ev
open Go.Ds
abbrev vN (z : Int) : Value := .int .i64 z
abbrev vS (s : List UInt8) : Value := .string ⟨⟨s⟩⟩
def RowG (H : Hp) (b ty op : Nat) (L : List Value) : Prop := ∃ t lo hi, H.blk b = .cells t L.length ty op lo hi ∧ ∀ (i : Nat) v, L[i]? = some v → t.get i = v
theorem Row.rowG {H : Hp} {b ty op : Nat} {L : List Value} (h : Row H b ty op L) : RowG H b ty op L := by
  obtain ⟨t, h1, h2⟩ := h; exact ⟨t, 0, 0, h1, h2⟩
theorem RowG.alive {H : Hp} {b ty op : Nat} {L : List Value} (h : RowG H b ty op L) : alive H b := by
  obtain ⟨t, lo, hi, h, _⟩ := h; exact (alive_iff H b).2 (by rw [h]; simp)
theorem RowG.lt {H : Hp} {b ty op : Nat} {L : List Value} (h : RowG H b ty op L) : b < H.nx := h.alive.1
theorem RowG.of_blk {H H' : Hp} {b ty op : Nat} {L : List Value} (h : RowG H b ty op L) (e : H'.blk b = H.blk b) : RowG H' b ty op L := by
  obtain ⟨t, lo, hi, h1, h2⟩ := h; exact ⟨t, lo, hi, e.trans h1, h2⟩
theorem exLd1_rowG {H : Hp} {b ty op o : Nat} {L : List Value} {v : Value} (h : RowG H b ty op L) (hv : L[o]? = some v) : exLd1 (.pointer (some ⟨b, o, none⟩)) H = .val v H (bit b) 0 := by
  obtain ⟨t, lo, hi, h1, h2⟩ := h
  have hlt : o < L.length := by
    rcases Nat.lt_or_ge o L.length with h' | h'
    · exact h'
    · rw [List.getElem?_eq_none h'] at hv; cases hv
  show (match rd1 H b o with | some x => R.val x H (bit b) 0 | none => .fail) = _
  have : rd1 H b o = some v := by
    unfold rd1; rw [h1]; simp only []
    rw [(blt_iff o L.length).2 hlt, Bc_t, h2 o v hv]
  rw [this]
theorem exLdN_rowG {H : Hp} {b ty op o k : Nat} {L : List Value} (h : RowG H b ty op L) (hle : o + k ≤ L.length) : exLdN k (.pointer (some ⟨b, o, none⟩)) H = .val (.agg ⟨(L.drop o).take k⟩) H (bit b) 0 := by
  obtain ⟨t, lo, hi, h1, h2⟩ := h
  have : rdN H b o k = some ((L.drop o).take k) := by
    unfold rdN; rw [h1]; simp only []
    rw [(ble_iff _ _).2 hle, Bc_t, rdL_list h2 k o hle]
  show (match rdN H b o k with | some l => R.val (.agg ⟨l⟩) H (bit b) 0 | none => .fail) = _
  rw [this]
inductive RowR (e : Env) (H : Hp) (w : Nat) {α : Type} (Q : α → List Value → Prop) : Value → List α → Prop
  | nil (c : Nat) : RowR e H w Q (.slice none 0 c) []
  | odd (b o s : Nat) : RowR e H w Q (.slice (some ⟨b, o, some s⟩) 0 0) []
  | inRow (b o c ty op : Nat) (l : List α) (cells : List Value) (h : RowG H b ty op cells) (hr : b < e.n0 → e.Rd b) (hb : o + l.length * w ≤ cells.length)
      (hc : ∀ (i : Nat) x, l[i]? = some x → o + i * w + w ≤ cells.length ∧ Q x ((cells.drop (o + i * w)).take w)) : RowR e H w Q (.slice (some ⟨b, o, none⟩) l.length c) l
theorem RowR.len {e : Env} {H : Hp} {w : Nat} {α : Type} {Q : α → List Value → Prop} {v : Value} {l : List α} (h : RowR e H w Q v l) : exLen 1 v H = .val (vN l.length) H 0 0 := by cases h <;> rfl
theorem RowR.lenV {e : Env} {H : Hp} {w : Nat} {α : Type} {Q : α → List Value → Prop} {v : Value} {l : List α} (h : RowR e H w Q v l) : lenV v = some l.length := by cases h <;> rfl
structure ElR (e : Env) (H : Hp) (w : Nat) (v : Value) (i b o : Nat) (vs : List Value) : Prop where
  addr : exIaS w v (vN i) H = .val (.pointer (some ⟨b, o, none⟩)) H 0 0
  ld : exLdN w (.pointer (some ⟨b, o, none⟩)) H = .val (.agg ⟨vs⟩) H (bit b) 0
  ld1 : ∀ (j : Nat) x, vs[j]? = some x → exLd1 (.pointer (some ⟨b, o + j, none⟩)) H = .val x H (bit b) 0
  len : vs.length = w
  ok : e.ok (bit b) 0 H
theorem RowR.el {e : Env} {H : Hp} {w : Nat} {α : Type} {Q : α → List Value → Prop} {v : Value} {l : List α} (h : RowR e H w Q v l) {i : Nat} {x : α} (hx : l[i]? = some x) :
    ∃ b o vs, ElR e H w v i b o vs ∧ Q x vs := by
  cases h with
  | nil => simp at hx
  | odd => simp at hx
  | inRow b o c ty op l cells h hr hbd hc =>
    have hlt : i < l.length := by
      rcases Nat.lt_or_ge i l.length with h' | h'
      · exact h'
      · rw [List.getElem?_eq_none h'] at hx; cases hx
    obtain ⟨h1, h2⟩ := hc i x hx
    refine ⟨b, o + i * w, (cells.drop (o + i * w)).take w, ⟨?_, exLdN_rowG h h1, fun j y hy => ?_, ?_, .read h.lt hr⟩, h2⟩
    · rw [exIaS_int (by omega) (by omega)]; simp
    · refine exLd1_rowG h ?_
      rw [List.getElem?_take] at hy
      split at hy
      · rw [List.getElem?_drop] at hy; exact hy
      · cases hy
    · rw [List.length_take, List.length_drop]; omega
theorem RowR.mono {e : Env} {H H' : Hp} {w : Nat} {α : Type} {Q Q' : α → List Value → Prop} {v : Value} {l : List α} (h : RowR e H w Q v l) (hb : ∀ b, b < H.nx → H'.blk b = H.blk b) (hq : ∀ x vs, Q x vs → Q' x vs) : RowR e H' w Q' v l := by
  cases h with
  | nil => exact .nil _
  | odd => exact .odd _ _ _
  | inRow b o c ty op l cells h hr hbd hc => exact .inRow b o c ty op l cells (h.of_blk (hb b h.lt)) hr hbd fun i x hx => ⟨(hc i x hx).1, hq _ _ (hc i x hx).2⟩
theorem RowR.env {e e' : Env} {H : Hp} {w : Nat} {α : Type} {Q Q' : α → List Value → Prop} {v : Value} {l : List α} (h : RowR e H w Q v l) (hq : ∀ x vs, Q x vs → Q' x vs) (he : ∀ b, b < H.nx → (b < e.n0 → e.Rd b) → b < e'.n0 → e'.Rd b) : RowR e' H w Q' v l := by
  cases h with
  | nil => exact .nil _
  | odd => exact .odd _ _ _
  | inRow b o c ty op l cells h hr hbd hc => exact .inRow b o c ty op l cells h (he b h.lt hr) hbd fun i x hx => ⟨(hc i x hx).1, hq _ _ (hc i x hx).2⟩
theorem RowR.own {e : Env} {H : Hp} {w N b ty op c : Nat} {α : Type} {Q : α → List Value → Prop} {l : List α} {cells : List Value} (h : Row H b ty op cells) (hN : N ≤ b) (he : e.n0 ≤ N) (hb : l.length * w ≤ cells.length)
    (hc : ∀ (i : Nat) x, l[i]? = some x → i * w + w ≤ cells.length ∧ Q x ((cells.drop (i * w)).take w)) : RowR e H w Q (.slice (some ⟨b, 0, none⟩) l.length c) l :=
  .inRow b 0 c ty op l cells h.rowG (fun hlt => absurd hlt (by omega)) (by omega) fun i x hx => by rw [Nat.zero_add]; exact hc i x hx
def recQ (r : Entry) (vs : List Value) : Prop := vs = [vS r.1, vS r.2]
abbrev DsR (e : Env) (H : Hp) : Value → DS → Prop := RowR e H 2 recQ
theorem DsR.later {e : Env} {H H' : Hp} {v : Value} {d : DS} (h : DsR e H v d) (hb : ∀ b, b < H.nx → H'.blk b = H.blk b) : DsR e H' v d := RowR.mono h hb fun _ _ h => h
theorem exLen_str (s : List UInt8) (H : Hp) : exLen 0 (vS s) H = .val (vN s.length) H 0 0 := rfl
end Go.Ev
end

noncomputable section
namespace Go.Ev
def Lo (k : Nat) (t t' : T Value) : Prop := ∀ j, j < k → t'.get j = t.get j
theorem putT_lo {d i j : Nat} (hj : j < i) (hi : i < 2 ^ d) (t : T Value) (v : Value) : (putT d t (some i) v).get j = t.get j := by
  rw [get_putT hi (by omega), if_neg (by omega)]
theorem exUn_not (b : Bool) (H : Hp) : exUn .not (.bool b) H = .val (.bool (!b)) H 0 0 := by cases b <;> rfl
theorem callV_func (f : FuncId) (args : List Value) : callV (.func (.func f) #[] #[]) args = .call f args := by
  show R.call f ([] ++ (args ++ [])) = _
  simp
theorem alloc_ptr {H : Hp} (hf : H.isFn = true) (x : Blk) : alloc1 x H ptrTo 0 0 = .val (.pointer (some ⟨H.nx, 0, none⟩)) (H.push x) 0 0 := by rw [alloc1_room (fn_room hf)]; rfl
section
variable {tb : Tb} {sp : Nat → List Value → Hp → Option (Value × Hp × Nat × Nat)} {e : Env}
theorem WOR.mono {d : Nat} {H : Hp} {K K' : T Value → Prop} (hk : ∀ t', K' t' → K t') : ∀ {cos : List CO} {t : T Value}, WOR e d H K' cos t → WOR e d H K cos t := by
  intro cos
  induction cos with
  | nil => intro t h; exact hk t h
  | cons o cos ih =>
    intro t h
    rw [WOR] at h ⊢
    cases hg : wants t o.guard with
    | true =>
      rw [hg] at h
      revert h
      cases run o.op t H with
      | val v H' r w => exact fun h => ⟨h.1, h.2.1, h.2.2.1, ih h.2.2.2⟩
      | _ => exact fun h => h.elim
    | false => rw [hg] at h; exact ih h
theorem WK.reg_rr {cx : Cx} {cos : List CO} {t : T Value} {ds : List Deferred} {H : Hp} {K : Ex → T Value → List Deferred → Hp → Prop} (K' : T Value → Prop) (h : WOR e cx.d H K' cos t) (hk : ∀ t', K' t' → K .normal t' ds H) : WK tb sp e cx (.reg cos) t ds H K := WK.reg_r (h.mono hk)
theorem WK.draw_rr {cx : Cx} {B : Array Nat} {cos : List CO} {t : T Value} {ds : List Deferred} {H : Hp} {K : Ex → T Value → List Deferred → Hp → Prop} (K' : T Value → Prop) (h : WOR e cx.d H K' cos t) (hk : ∀ t', K' t' → K .normal t' ds H) : WK tb sp e cx (.draw B cos) t ds H K := WK.draw_r (h.mono hk)
theorem WOG.mono {tb : Tb} {d : Nat} {K K' : T Value → Hp → Prop} (hk : ∀ t' H', K' t' H' → K t' H') : ∀ {cos : List CO} {t : T Value} {H : Hp}, WOG tb sp e d K' cos t H → WOG tb sp e d K cos t H := by
  intro cos
  induction cos with
  | nil => intro t H h; rw [WOG] at *; exact hk t H h
  | cons o cos ih =>
    intro t H h
    rw [WOG] at h ⊢
    cases hg : wants t o.guard with
    | true =>
      rw [hg] at h
      revert h
      cases run o.op t H with
      | val v H' r w => exact fun h => ⟨h.1, h.2.1, ih h.2.2⟩
      | call f args => exact fun h => h.mono fun v H1 _ hh => by rw [WOGk] at *; exact ih hh
      | _ => exact fun h => h.elim
    | false => rw [hg] at h; exact ih h
theorem WK.reg_gg {tb : Tb} {cx : Cx} {cos : List CO} {t : T Value} {ds : List Deferred} {H : Hp} {K : Ex → T Value → List Deferred → Hp → Prop} (K' : T Value → Hp → Prop) (h : WOG tb sp e cx.d K' cos t H) (hk : ∀ t' H', K' t' H' → K .normal t' ds H') : WK tb sp e cx (.reg cos) t ds H K := WK.reg_g (h.mono hk)
structure Kept (H H' : Hp) : Prop where
  fn : H'.isFn = true
  nx : H.nx ≤ H'.nx
  old : ∀ b, b < H.nx → H'.blk b = H.blk b
theorem Kept.refl {H : Hp} (h : H.isFn = true) : Kept H H := ⟨h, Nat.le_refl _, fun _ _ => rfl⟩
theorem Kept.trans {H H1 H2 : Hp} (h : Kept H H1) (g : Kept H1 H2) : Kept H H2 := ⟨g.fn, Nat.le_trans h.nx g.nx, fun b hb => (g.old b (Nat.lt_of_lt_of_le hb h.nx)).trans (h.old b hb)⟩
end
section
variable {tb : Tb} {sp : Nat → List Value → Hp → Option (Value × Hp × Nat × Nat)} {e : Env}
variable {cx : Cx} {B : Array Nat} {o : CO} {cos : List CO} {i : Nat} {t : T Value} {ds : List Deferred} {H : Hp} {A : List En} {K : T Value → List Deferred → Hp → Prop}
theorem WD.pure {v : Value} (hg : o.guard = none) (hr : run o.op t H = .val v H 0 0) (hk : WD tb sp e cx B cos (i + 1) (putT cx.d t o.dst v) ds H A K) : WD tb sp e cx B (o :: cos) i t ds H A K := by
  refine WD.cons (by rw [hg]; rfl) ?_
  rw [hr]
  exact ⟨.zero e H, Nat.le_refl _, .inl ⟨rfl, rfl, rfl, hk⟩⟩
theorem WD.val {v : Value} {H1 : Hp} {r w : Nat} (R W : Nat → Prop) (hg : o.guard = none) (hr : run o.op t H = .val v H1 r w) (h1 : e.ok r w H1) (h2 : H.nx ≤ H1.nx) (hR : ∀ b, r.testBit b = true → R b) (hW : ∀ b, w.testBit b = true ∨ (H.nx ≤ b ∧ b < H1.nx) → W b) (hc : Chk B i R W A)
    (hk : WD tb sp e cx B cos (i + 1) (putT cx.d t o.dst v) ds H1 (⟨i, R, W⟩ :: A) K) : WD tb sp e cx B (o :: cos) i t ds H A K := by
  refine WD.cons (by rw [hg]; rfl) ?_
  rw [hr]
  exact ⟨h1, h2, .inr ⟨R, W, hR, hW, hc, hk⟩⟩
theorem _root_.Go.Ev.Chk.nil {R W : Nat → Prop} : Chk B i R W [] := fun en h => absurd h (by simp)
theorem _root_.Go.Ev.Chk.bit {R W : Nat → Prop} {en : En} (h : (B.getD i 0).testBit en.i = true) (hc : Chk B i R W A) : Chk B i R W (en :: A) := fun x hx => by
  rcases List.mem_cons.1 hx with rfl | hx
  · exact .inl h
  · exact hc x hx
theorem _root_.Go.Ev.Chk.apart {R W : Nat → Prop} {en : En} (h1 : ∀ b, en.W b → ¬ R b ∧ ¬ W b) (h2 : ∀ b, W b → ¬ en.R b) (hc : Chk B i R W A) : Chk B i R W (en :: A) := fun x hx => by
  rcases List.mem_cons.1 hx with rfl | hx
  · exact .inr ⟨h1, h2⟩
  · exact hc x hx
end
section
variable {tb : Tb} {sp : Nat → List Value → Hp → Option (Value × Hp × Nat × Nat)} {e : Env}
theorem WD.read {tb : Tb} {cx : Cx} {B : Array Nat} {o : CO} {cos : List CO} {i : Nat} {t : T Value} {ds : List Deferred} {H : Hp} {A : List En} {K : T Value → List Deferred → Hp → Prop} {v : Value} (b : Nat) (hg : o.guard = none) (hr : run o.op t H = .val v H (bit b) 0) (hok : e.ok (bit b) 0 H) (hc : Chk B i (fun c => c = b) (fun _ => False) A)
    (hk : WD tb sp e cx B cos (i + 1) (putT cx.d t o.dst v) ds H (⟨i, fun c => c = b, fun _ => False⟩ :: A) K) : WD tb sp e cx B (o :: cos) i t ds H A K :=
  WD.val _ _ hg hr hok (Nat.le_refl _) (fun c hc => (bit_iff _ _).1 hc) (fun c hc => by rcases hc with hc | hc <;> first | (simp at hc; done) | omega) hc hk
def OwnO (N ty : Nat) (H : Hp) (bo : Option Nat) (v : Value) (L : List Value) : Prop :=
  (bo = none ∧ v = .slice none 0 0 ∧ L = []) ∨ ∃ b, bo = some b ∧ Own N ty H b v L
theorem OwnO.lt {N ty : Nat} {H : Hp} {b : Nat} {v : Value} {L : List Value} (h : OwnO N ty H (some b) v L) : b < H.nx := by
  rcases h with ⟨h, _⟩ | ⟨b', h1, h2⟩
  · cases h
  · cases h1; exact h2.lt
theorem OwnO.of_blk {N ty : Nat} {H H' : Hp} {bo : Option Nat} {v : Value} {L : List Value} (h : OwnO N ty H bo v L) (e : ∀ b, bo = some b → b < H.nx → H'.blk b = H.blk b) : OwnO N ty H' bo v L := by
  rcases h with h | ⟨b, h1, h2⟩
  · exact .inl h
  · exact .inr ⟨b, h1, h2.of_blk (e b h1 h2.lt)⟩
theorem OwnO.nil (N ty : Nat) (H : Hp) : OwnO N ty H none (.slice none 0 0) [] := .inl ⟨rfl, rfl, rfl⟩
theorem appO {e : Env} {N ty by_ b2 : Nat} {bo : Option Nat} {H : Hp} {v w : Value} {L : List Value} (ho : OwnO N ty H bo v L) (hrow : Row H b2 ty 0 [w]) (he : e.n0 ≤ N) (hb2 : N ≤ b2) (hf : H.isFn = true) (hby : by_ ≤ 24) (hlen : L.length < 2199023255552) :
    ∃ v' H3 r w', exApp ty 1 by_ v (.slice (some ⟨b2, 0, none⟩) 1 (2 * 1)) H = .val v' H3 r w' ∧ e.ok r w' H3 ∧ H3.nx = H.nx + 1 ∧ Own N ty H3 H.nx v' (L ++ [w]) ∧ H3.isFn = true ∧ (∀ c, c < H.nx → bo ≠ some c → H3.blk c = H.blk c) ∧
      (∀ b, r.testBit b = true → b = b2 ∨ bo = some b) ∧ ∀ b, w'.testBit b = true → bo = some b := by
  have hlt2 := hrow.lt
  have hb : (2 * (L.length + 1) + 768) * by_ ≤ 140737488355328 := by
    have h1 : (2 * (L.length + 1) + 768) * by_ ≤ (2 * 2199023255552 + 768) * 24 := Nat.mul_le_mul (by omega) hby
    omega
  have hok : okBytes (L.length + 1) by_ = true := okBytes_of hb (by omega)
  have hc : cellsOfV H 1 1 (.slice (some ⟨b2, 0, none⟩) 1 (2 * 1)) = some ([w], bit b2) := cellsOf_slice hrow (by simp)
  have hr0 : e.ok (bit b2) 0 H := .fresh hlt2 (by omega)
  rcases ho with ⟨rfl, rfl, rfl⟩ | ⟨b, rfl, ho⟩
  · refine ⟨_, _, _, _, exApp_nil (fn_room hf) (n := 1) (new := [w]) rfl (by omega) hc hok, ⟨hr0.rd, hr0.wr, fun c hcc => by rw [nx_push]; have := hr0.lt c hcc; omega⟩, by rw [nx_push], ⟨by omega, .inr ⟨row_push (fn_room hf) _ ty 2, rfl⟩⟩, by rw [isFn_push]; exact hf,
      fun c hc _ => blk_push_old (fn_room hf) _ hc, fun b hb => .inl ((bit_iff _ _).1 hb), fun b hb => by simp at hb⟩
  · have hlt := ho.lt
    have hge := ho.ge
    have hlen2 : (L ++ [w]).length = L.length + 1 := by simp
    rcases ho.form with ⟨h1, rfl⟩ | ⟨h1, rfl⟩
    · refine ⟨_, _, _, _, exApp_shut (fn_room hf) h1 (m := L.length) (by omega) rfl (by omega) hc hok, ?_, by rw [nx_push], ⟨by omega, .inr ⟨row_push (fn_room hf) (L ++ [w]) ty 2, by rw [hlen2]⟩⟩, by rw [isFn_push]; exact hf,
        fun c hc _ => blk_push_old (fn_room hf) _ hc, fun c hcc => ?_, fun c hcc => by simp at hcc⟩
      · have h2 := hr0.lor (Env.ok.fresh (e := e) (b := b) hlt (by omega)) (Nat.le_refl _)
        rw [lor_zero'] at h2
        exact ⟨h2.rd, h2.wr, fun c hcc => by rw [nx_push]; have := h2.lt c hcc; omega⟩
      · rw [lor_bit, Bool.or_eq_true] at hcc
        rcases hcc with hcc | hcc
        · exact .inl ((bit_iff _ _).1 hcc)
        · exact .inr (by rw [(bit_iff _ _).1 hcc])
    · refine ⟨_, _, _, _, exApp_open (fn_room hf) h1 (m := L.length) (by omega) rfl (by omega) hc hok, ?_, by rw [nx_push, nx_put], ⟨by omega, .inr ⟨?_, by rw [hlen2]⟩⟩, by rw [isFn_push, isFn_put]; exact hf,
        fun c hcl hcb => ?_, fun c hcc => .inl ((bit_iff _ _).1 hcc), fun c hcc => by rw [(bit_iff _ _).1 hcc]⟩
      · have h2 := hr0.lor (Env.ok.write (e := e) (b := b) hlt (fun h => absurd h (by omega))) (Nat.le_refl _)
        rw [lor_zero', zero_lor'] at h2
        exact ⟨h2.rd, h2.wr, fun c hcc => by rw [nx_push, nx_put]; have := h2.lt c hcc; omega⟩
      · have := row_push (H := H.put b .no) (by rw [room_put]; exact (fn_room hf)) (L ++ [w]) ty 2
        rwa [nx_put] at this
      · rw [blk_push_old (by rw [room_put]; exact (fn_room hf)) _ (by rw [nx_put]; exact hcl), blk_put_ne (fn_wf hf) _ hlt (fun e => hcb (by rw [e]))]
theorem exSt_row {H : Hp} {b ty op : Nat} {L vs : List Value} (hf : H.isFn = true) (h : Row H b ty op L) (hl : vs.length = L.length) :
    ∃ H', exSt L.length (.pointer (some ⟨b, 0, none⟩)) (.agg ⟨vs⟩) H = .val U H' 0 (bit b) ∧ Row H' b ty op vs ∧ H'.nx = H.nx ∧ H'.isFn = true ∧ ∀ c, c ≠ b → H'.blk c = H.blk c := by
  have hlt := h.lt
  obtain ⟨t, h1, h2⟩ := h
  refine ⟨H.put b (.cells (wrL (dep L.length) vs 0 t) L.length ty op 0 0), ?_, ⟨wrL (dep L.length) vs 0 t, ?_, fun i v hv => ?_⟩, nx_put _ _ _, by rw [isFn_put]; exact hf, fun c hc => blk_put_ne (fn_wf hf) _ hlt hc⟩
  · have e1 : wrN H b 0 vs = some (H.put b (.cells (wrL (dep L.length) vs 0 t) L.length ty op 0 0)) := by
      unfold wrN; rw [h1]; simp only []
      rw [(ble_iff _ _).2 (by omega), thawed_zero]; rfl
    show (match some vs with | some vs => Bc (Nat.beq vs.length L.length) (match wrN H b 0 vs with | some H' => R.val U H' 0 (bit b) | none => .fail) .fail | none => .fail) = _
    simp only [e1, (beq_iff _ _).2 hl, Bc_t]
  · rw [blk_put _ (fn_wf hf) hlt, if_pos rfl, hl]
  · have hd := lt_dep L.length
    have hi : i < vs.length := by
      rcases Nat.lt_or_ge i vs.length with h' | h'
      · exact h'
      · rw [List.getElem?_eq_none h'] at hv; cases hv
    rw [wrL_get _ _ _ _ _ (by omega) (by omega), if_pos ⟨by omega, by omega⟩]
    simp [List.getD, hv]
end
end Go.Ev
end

noncomputable section
namespace Go.Proofs.RS
open Go Go.Ev Go.Proofs Go.Ds
theorem exEq_str (neg : Bool) (a b : Str) (H : Hp) : exEq neg (.one .s) (vS a) (vS b) H = .val (.bool (Bc neg (!eqBs a b) (eqBs a b))) H 0 0 := rfl
abbrev cx11 : Cx := ⟨4, 11, none, false⟩
section
variable {sp : Nat → List Value → Hp → Option (Value × Hp × Nat × Nat)} {e : Env}
set_option maxRecDepth 10000 in
theorem isk_ok (hs : ∀ args H, sp 119 args H = none) {H : Hp} (s : Str) : EC Tb0 sp e 119 [vS s] H fun v H' => v = .bool (keyB s) ∧ H' = H := by
  refine EC.intro (fn := Tryz.f119) (c := isk_body) (hs _ _) (by rfl) isk_some isk_comp (by show 1 ≤ 11; decide) ?_
  have g0 : (enterT Tryz.f119 [vS s]).get 0 = vS s := by rw [enterT_get (by show 1 ≤ 11; decide) (by show 0 < 11; decide)]; rfl
  revert g0
  generalize enterT Tryz.f119 [vS s] = t0
  intro g0
  show WK Tb0 sp e cx11 isk_k t0 [] H _
  unfold isk_k
  refine WK.seq (WK.reg_rr (fun t' => t'.get 0 = vS s) ?_ ?_)
  · simp (config := { maxSteps := 1000000 }) only [isk_r0, WOR, wants_none', run, evalO_const, Rv_eq, ok_zero, true_and, get_putT (d := 4), g0, Nat.reducePow, Nat.reduceLT, Nat.reduceEqDiff, reduceIte]
  intro t1 g0
  refine WK.seq (WK.reg_rr (fun t' => t'.get 2 = .bool (keyB s)) ?_ ?_)
  · by_cases h : 1 ≤ s.length
    · have e1 : decide ((s.length : Int) < 1) = false := decide_eq_false (by omega)
      have e2 : keyB s = !decide ((16 : Int) < (s.length : Int)) := by
        unfold keyB; rw [decide_eq_true h, Bool.true_and, ← decide_not]; exact decide_eq_decide.2 (by omega)
      simp (config := { maxSteps := 1000000 }) only [isk_r1, WOR, wants_none', wants_some, wantsV_tt, run, evalO_tmp, evalO_const, Rv_eq, Ro_some, ok_zero, true_and, get_putT (d := 4), g0, exLen_str, binV_geq, binV_leq, e1, e2, Bool.not_false, exPick_t, Nat.reducePow, Nat.reduceLT, Nat.reduceEqDiff, if_false, reduceIte]
    · have e1 : decide ((s.length : Int) < 1) = true := decide_eq_true (by omega)
      have e2 : keyB s = false := by unfold keyB; rw [decide_eq_false h, Bool.false_and]
      simp (config := { maxSteps := 1000000 }) only [isk_r1, WOR, wants_none', wants_some, wantsV_ft, run, evalO_tmp, evalO_const, Rv_eq, Ro_some, ok_zero, true_and, get_putT (d := 4), g0, exLen_str, binV_geq, binV_leq, e1, e2, Bool.not_true, exPick_f, Nat.reducePow, Nat.reduceLT, Nat.reduceEqDiff, if_false, reduceIte]
  intro t2 h2
  refine WK.ret ⟨.inr rfl, rfl, [.bool (keyB s)], 0, ?_, .zero _ _, rfl, rfl⟩
  show resL Tb0 11 t2 H [.tmp 2] = _
  simp only [resL, h2]; rfl
end
end Go.Proofs.RS
end

noncomputable section
namespace Go.Proofs.RS
open Go Go.Ev Go.Proofs Go.Ds
theorem box_agg {H : Hp} (hf : H.isFn = true) (vs : List Value) (ty : Nat) : exFill (cellsO (.agg ⟨vs⟩)) (fun l => alloc1 (blkL l ty 0) H ptrTo 0 0) = .val (.pointer (some ⟨H.nx, 0, none⟩)) (H.push (blkL vs ty 0)) 0 0 := alloc_ptr hf _
section
variable {sp : Nat → List Value → Hp → Option (Value × Hp × Nat × Nat)} {e : Env}
set_option maxRecDepth 10000 in
set_option maxHeartbeats 2000000 in
theorem isd_ok (hs : ∀ args H, sp 157 args H = none) {H : Hp} (s : Str) : EC Tb0 sp e 157 [vS s] H fun v H' => v = .bool (dataB s) ∧ H' = H := by
  refine EC.intro (fn := Tryz.f157) (c := isd_body) (hs _ _) (by rfl) isd_some isd_comp (by show 1 ≤ 6; decide) ?_
  have g0 : (enterT Tryz.f157 [vS s]).get 0 = vS s := by rw [enterT_get (by show 1 ≤ 6; decide) (by show 0 < 6; decide)]; rfl
  revert g0
  generalize enterT Tryz.f157 [vS s] = t0
  intro g0
  show WK Tb0 sp e ⟨3, 6, none, false⟩ isd_k t0 [] H _
  unfold isd_k
  refine WK.seq (WK.reg_rr (fun t' => t'.get 0 = vS s) ?_ ?_)
  · simp (config := { maxSteps := 1000000 }) only [isd_r0, WOR, WOG, wants_none', wants_some, wantsV_tt, wantsV_tf, wantsV_ft, wantsV_ff, run, evalO_tmp, evalO_const, evalO_func, evalL, callV_func, Rv_eq, Ro_some, ok_zero, true_and, get_putT (d := 3), exLen_str, binV_geq, binV_leq, binV_lss, binV_gtr, exEq_int, exEq_str, exPick_t, exPick_f, Bool.not_true, Bool.not_false, Bc_t, Bc_f, Nat.reducePow, Nat.reduceLT, Nat.reduceEqDiff, Nat.reduceAdd, if_false, reduceIte, and_self, g0]
  intro t1 g0
  have e2 : dataB s = !decide ((255 : Int) < (s.length : Int)) := by unfold dataB; rw [← decide_not]; exact decide_eq_decide.2 (by omega)
  refine WK.seq (WK.reg_rr (fun t' => t'.get 2 = .bool (dataB s)) ?_ ?_)
  · simp (config := { maxSteps := 1000000 }) only [isd_r1, WOR, WOG, wants_none', wants_some, wantsV_tt, wantsV_tf, wantsV_ft, wantsV_ff, run, evalO_tmp, evalO_const, evalO_func, evalL, callV_func, Rv_eq, Ro_some, ok_zero, true_and, get_putT (d := 3), exLen_str, binV_geq, binV_leq, binV_lss, binV_gtr, exEq_int, exEq_str, exPick_t, exPick_f, Bool.not_true, Bool.not_false, Bc_t, Bc_f, Nat.reducePow, Nat.reduceLT, Nat.reduceEqDiff, Nat.reduceAdd, if_false, reduceIte, and_self, g0, e2]
  intro t2 h2
  refine WK.ret ⟨.inr rfl, rfl, [.bool (dataB s)], 0, ?_, .zero _ _, rfl, rfl⟩
  show resL Tb0 6 t2 H [.tmp 2] = _
  simp only [resL, h2]; rfl
set_option maxRecDepth 10000 in
set_option maxHeartbeats 2000000 in
theorem isr_ok (hs : ∀ args H, sp 116 args H = none) (h1 : ∀ args H, sp 119 args H = none) (h2 : ∀ args H, sp 157 args H = none) {H : Hp} (hf : H.isFn = true) (he : e.n0 ≤ H.nx) (r : Entry) : EC Tb0 sp e 116 [.agg ⟨[vS r.1, vS r.2]⟩] H fun v H' => v = .bool (recB r) ∧ Kept H H' := by
  refine EC.intro (fn := Tryz.f116) (c := isr_body) (hs _ _) (by rfl) isr_some isr_comp (by show 1 ≤ 11; decide) ?_
  have g0 : (enterT Tryz.f116 [.agg ⟨[vS r.1, vS r.2]⟩]).get 0 = .agg ⟨[vS r.1, vS r.2]⟩ := by rw [enterT_get (by show 1 ≤ 11; decide) (by show 0 < 11; decide)]; rfl
  revert g0
  generalize enterT Tryz.f116 [.agg ⟨[vS r.1, vS r.2]⟩] = t0
  intro g0
  show WK Tb0 sp e ⟨4, 11, none, false⟩ isr_k t0 [] H _
  unfold isr_k
  have hrow : Row (H.push (blkL [vS r.1, vS r.2] 77 0)) H.nx 77 0 [vS r.1, vS r.2] := row_push (fn_room hf) _ _ _
  have hk1 : Kept H (H.push (blkL [vS r.1, vS r.2] 77 0)) := ⟨by rw [isFn_push]; exact hf, by rw [nx_push]; omega, fun b hb => blk_push_old (fn_room hf) _ hb⟩
  have hbox := box_agg hf [vS r.1, vS r.2] 77
  have hnx1 : (H.push (blkL [vS r.1, vS r.2] 77 0)).nx = H.nx + 1 := nx_push _ _
  revert hrow hk1 hbox hnx1
  generalize H.push (blkL [vS r.1, vS r.2] 77 0) = H1
  intro hrow hk1 hbox hnx1
  have q1 : exLd1 (.pointer (some ⟨H.nx, 0, none⟩)) H1 = .val (vS r.1) H1 (bit H.nx) 0 := exLd1_row hrow rfl
  have q2 : exLd1 (.pointer (some ⟨H.nx, 1, none⟩)) H1 = .val (vS r.2) H1 (bit H.nx) 0 := exLd1_row hrow rfl
  have q3 : e.ok (bit H.nx) 0 H1 := .fresh hrow.lt he
  have q4 : H.nx ≤ H1.nx := by omega
  refine WK.seq (WK.reg_gg (fun t' H' => t'.get 1 = .pointer (some ⟨H.nx, 0, none⟩) ∧ H' = H1) ?_ ?_)
  · simp (config := { maxSteps := 1000000 }) only [isr_r0, WOR, WOG, wants_none', wants_some, wantsV_tt, wantsV_tf, wantsV_ft, wantsV_ff, run, evalO_tmp, evalO_const, evalO_func, evalL, callV_func, Rv_eq, Ro_some, ok_zero, true_and, get_putT (d := 4), exLen_str, binV_geq, binV_leq, binV_lss, binV_gtr, exEq_int, exEq_str, exPick_t, exPick_f, Bool.not_true, Bool.not_false, Bc_t, Bc_f, Nat.reducePow, Nat.reduceLT, Nat.reduceEqDiff, Nat.reduceAdd, if_false, reduceIte, and_self, g0, hbox, q4, Nat.le_refl]
  rintro t1 H1' ⟨g1, rfl⟩
  refine WK.seq (WK.reg_gg (fun t' H' => t'.get 2 = .bool (recB r) ∧ H' = H1') ?_ ?_)
  · simp (config := { maxSteps := 1000000 }) only [isr_r1, WOR, WOG, wants_none', wants_some, wantsV_tt, wantsV_tf, wantsV_ft, wantsV_ff, run, evalO_tmp, evalO_const, evalO_func, evalL, callV_func, Rv_eq, Ro_some, ok_zero, true_and, get_putT (d := 4), exLen_str, binV_geq, binV_leq, binV_lss, binV_gtr, exEq_int, exEq_str, exPick_t, exPick_f, Bool.not_true, Bool.not_false, Bc_t, Bc_f, Nat.reducePow, Nat.reduceLT, Nat.reduceEqDiff, Nat.reduceAdd, if_false, reduceIte, and_self, g1, exFa_ptr, q1, q2, q3, Nat.le_refl, Nat.zero_add]
    refine (isk_ok h1 r.1).mono fun v H2 _ hv => ?_
    obtain ⟨rfl, rfl⟩ := hv
    rw [WOGk]
    cases hkb : keyB r.1 with
    | false =>
      have e2 : recB r = false := by unfold recB; rw [hkb, Bool.false_and]
      simp (config := { maxSteps := 1000000 }) only [e2, WOR, WOG, wants_none', wants_some, wantsV_tt, wantsV_tf, wantsV_ft, wantsV_ff, run, evalO_tmp, evalO_const, evalO_func, evalL, callV_func, Rv_eq, Ro_some, ok_zero, true_and, get_putT (d := 4), exLen_str, binV_geq, binV_leq, binV_lss, binV_gtr, exEq_int, exEq_str, exPick_t, exPick_f, Bool.not_true, Bool.not_false, Bc_t, Bc_f, Nat.reducePow, Nat.reduceLT, Nat.reduceEqDiff, Nat.reduceAdd, if_false, reduceIte, and_self, g1, exFa_ptr, q1, q2, q3, Nat.le_refl, Nat.zero_add]
    | true =>
      have e2 : recB r = dataB r.2 := by unfold recB; rw [hkb, Bool.true_and]
      simp (config := { maxSteps := 1000000 }) only [e2, WOR, WOG, wants_none', wants_some, wantsV_tt, wantsV_tf, wantsV_ft, wantsV_ff, run, evalO_tmp, evalO_const, evalO_func, evalL, callV_func, Rv_eq, Ro_some, ok_zero, true_and, get_putT (d := 4), exLen_str, binV_geq, binV_leq, binV_lss, binV_gtr, exEq_int, exEq_str, exPick_t, exPick_f, Bool.not_true, Bool.not_false, Bc_t, Bc_f, Nat.reducePow, Nat.reduceLT, Nat.reduceEqDiff, Nat.reduceAdd, if_false, reduceIte, and_self, g1, exFa_ptr, q1, q2, q3, Nat.le_refl, Nat.zero_add]
      refine (isd_ok h2 r.2).mono fun v H3 _ hv => ?_
      obtain ⟨rfl, rfl⟩ := hv
      rw [WOGk]
      simp (config := { maxSteps := 1000000 }) only [e2, WOR, WOG, wants_none', wants_some, wantsV_tt, wantsV_tf, wantsV_ft, wantsV_ff, run, evalO_tmp, evalO_const, evalO_func, evalL, callV_func, Rv_eq, Ro_some, ok_zero, true_and, get_putT (d := 4), exLen_str, binV_geq, binV_leq, binV_lss, binV_gtr, exEq_int, exEq_str, exPick_t, exPick_f, Bool.not_true, Bool.not_false, Bc_t, Bc_f, Nat.reducePow, Nat.reduceLT, Nat.reduceEqDiff, Nat.reduceAdd, if_false, reduceIte, and_self, g1, exFa_ptr, q1, q2, q3, Nat.le_refl, Nat.zero_add]
  rintro t2 H2 ⟨h2, rfl⟩
  refine WK.ret ⟨.inr rfl, rfl, [.bool (recB r)], 0, ?_, .zero _ _, rfl, hk1⟩
  show resL Tb0 11 t2 _ [.tmp 2] = _
  simp only [resL, h2]; rfl
end
end Go.Proofs.RS
end

noncomputable section
namespace Go.Proofs.RS
open Go Go.Ev Go.Proofs Go.Ds
theorem exEq_mt (neg : Bool) (a : Str) (H : Hp) : exEq neg (.one .s) (vS a) (.string ⟨#[]⟩) H = .val (.bool (Bc neg (!eqBs a []) (eqBs a []))) H 0 0 := rfl
structure Boxed (e : Env) (H : Hp) (ty : Nat) (vs : List Value) (H1 : Hp) : Prop where
  row : Row H1 H.nx ty 0 vs
  kept : Kept H H1
  nx : H1.nx = H.nx + 1
  box : exFill (cellsO (.agg ⟨vs⟩)) (fun l => alloc1 (blkL l ty 0) H ptrTo 0 0) = .val (.pointer (some ⟨H.nx, 0, none⟩)) H1 0 0
theorem boxed (e : Env) {H : Hp} (hf : H.isFn = true) (ty : Nat) (vs : List Value) : ∃ H1, Boxed e H ty vs H1 :=
  ⟨_, row_push (fn_room hf) _ _ _, ⟨by rw [isFn_push]; exact hf, by rw [nx_push]; omega, fun b hb => blk_push_old (fn_room hf) _ hb⟩, nx_push _ _, box_agg hf vs ty⟩
section
variable {sp : Nat → List Value → Hp → Option (Value × Hp × Nat × Nat)} {e : Env}
end
end Go.Proofs.RS
end

noncomputable section
namespace Go.Ev
def Env.sub (e : Env) (N0 nx : Nat) : Env := ⟨nx, fun b => b < N0 ∧ (b < e.n0 → e.Rd b), fun _ => False⟩
section
variable (tb : Tb) (sp : Nat → List Value → Hp → Option (Value × Hp × Nat × Nat)) (e : Env) (N0 : Nat)
mutual
def WOQ (d : Nat) (K : T Value → Hp → Prop) : List CO → T Value → Hp → Prop
  | [], t, H => K t H
  | o :: cos, t, H => (match wants t o.guard with
    | true => (match run o.op t H with
      | .val v H1 r w => e.ok r 0 H1 ∧ w = 0 ∧ H.nx ≤ H1.nx ∧ (∀ b, r.testBit b = true → b < N0) ∧ WOQ d K cos (putT d t o.dst v) H1
      | .call f args => EC tb sp (e.sub N0 H.nx) f args H (WOQk d K cos t o.dst)
      | _ => False)
    | false => WOQ d K cos (putT d t o.dst U) H)
def WOQk (d : Nat) (K : T Value → Hp → Prop) (cos : List CO) (t : T Value) (dst : Option Tmp) : Value → Hp → Prop := fun v H1 => WOQ d K cos (putT d t dst v) H1
end
end
section
variable {tb : Tb} {sp : Nat → List Value → Hp → Option (Value × Hp × Nat × Nat)} {e : Env} {N0 : Nat}
def Tame (N0 nx : Nat) (A : List En) : Prop := ∀ en ∈ A, (∀ b, en.W b → N0 ≤ b ∧ b < nx) ∧ ∀ b, en.R b → b < nx
theorem Tame.mono {N0 nx nx' : Nat} {A : List En} (h : Tame N0 nx A) (hn : nx ≤ nx') : Tame N0 nx' A := fun en hm =>
  ⟨fun b hb => ⟨((h en hm).1 b hb).1, Nat.lt_of_lt_of_le ((h en hm).1 b hb).2 hn⟩, fun b hb => Nat.lt_of_lt_of_le ((h en hm).2 b hb) hn⟩
theorem Tame.chk {nx : Nat} {A : List En} {B : Array Nat} {i : Nat} {R W : Nat → Prop} (h : Tame N0 nx A) (hN : N0 ≤ nx) (hR : ∀ b, R b → b < N0 ∨ nx ≤ b) (hW : ∀ b, W b → nx ≤ b) : Chk B i R W A := by
  intro en hm
  obtain ⟨h1, h2⟩ := h en hm
  refine .inr ⟨fun b hb => ⟨fun hr => ?_, fun hw => ?_⟩, fun b hw hr => ?_⟩
  · have := h1 b hb
    rcases hR b hr with h | h <;> omega
  · have := h1 b hb; have := hW b hw; omega
  · have := h2 b hr; have := hW b hw; omega
theorem Tame.cons {nx nx' : Nat} {A : List En} {i : Nat} {R W : Nat → Prop} (h : Tame N0 nx A) (hn : nx ≤ nx') (hN : N0 ≤ nx) (hR : ∀ b, R b → b < nx') (hW : ∀ b, W b → nx ≤ b ∧ b < nx') : Tame N0 nx' (⟨i, R, W⟩ :: A) := by
  intro en hm
  rcases List.mem_cons.1 hm with rfl | hm
  · exact ⟨fun b hb => ⟨Nat.le_trans hN (hW b hb).1, (hW b hb).2⟩, hR⟩
  · exact h.mono hn en hm
theorem WD.of_woq {cx : Cx} {B : Array Nat} {K : T Value → Hp → Prop} {ds : List Deferred} (he : e.n0 ≤ N0) : ∀ {cos : List CO} {i : Nat} {t : T Value} {H : Hp} {A : List En}, N0 ≤ H.nx → Tame N0 H.nx A → WOQ tb sp e N0 cx.d K cos t H →
    WD tb sp e cx B cos i t ds H A (fun t' ds' H' => ds' = ds ∧ K t' H') := by
  intro cos
  induction cos with
  | nil => intro i t H A _ _ h; rw [WOQ] at h; exact WD.nil ⟨rfl, h⟩
  | cons o cos ih =>
    intro i t H A hN hA h
    rw [WOQ] at h
    cases hg : wants t o.guard with
    | false =>
      rw [hg] at h
      exact WD.skip hg (ih hN hA h)
    | true =>
      rw [hg] at h
      refine WD.cons hg ?_
      revert h
      cases run o.op t H with
      | val v H1 r w =>
        rintro ⟨h1, rfl, h2, h3, h4⟩
        refine ⟨h1, h2, .inr ⟨fun b => b < N0, fun b => H.nx ≤ b ∧ b < H1.nx, h3, fun b hb => ?_, hA.chk hN (fun b hb => .inl hb) (fun b hb => hb.1), ih (Nat.le_trans hN h2) (hA.cons h2 hN (fun b hb => ?_) fun b hb => hb) h4⟩⟩
        · rcases hb with hb | hb
          · simp at hb
          · exact hb
        · exact Nat.lt_of_lt_of_le hb (Nat.le_trans hN h2)
      | call f args =>
        intro h
        refine ⟨e.sub N0 H.nx, Nat.le_trans he hN, rfl, fun b hb hr => hr.2 hb, fun b _ hw => hw.elim, EC.mono h fun v H1 hle hk R W hR hW => ?_⟩
        rw [WOQk] at hk
        have hR' : ∀ b, R b → b < N0 ∨ H.nx ≤ b := fun b hb => by
          rcases (hR b).1 hb with h | h
          · exact .inl h.2.1
          · exact .inr h.1
        have hW' : ∀ b, W b → H.nx ≤ b ∧ b < H1.nx := fun b hb => by
          rcases (hW b).1 hb with h | h
          · exact h.2.elim
          · exact h
        refine ⟨hA.chk hN hR' (fun b hb => (hW' b hb).1), ih (Nat.le_trans hN hle) (hA.cons hle hN (fun b hb => ?_) hW') hk⟩
        rcases (hR b).1 hb with h | h
        · exact Nat.lt_of_lt_of_le h.1 hle
        · exact h.2
      | _ => exact fun h => h.elim
theorem WK.draw_q {cx : Cx} {B : Array Nat} {cos : List CO} {t : T Value} {ds : List Deferred} {H : Hp} {K : Ex → T Value → List Deferred → Hp → Prop} (K' : T Value → Hp → Prop) (he : e.n0 ≤ H.nx)
    (h : WOQ tb sp e H.nx cx.d K' cos t H) (hk : ∀ t' H', K' t' H' → K .normal t' ds H') : WK tb sp e cx (.draw B cos) t ds H K := by
  refine WK.draw ?_
  obtain ⟨N, t', ds', H', r, w, h1, h2, h3, rfl, h4⟩ := WD.of_woq (B := B) (ds := ds) (i := 0) (A := []) he (Nat.le_refl _) (fun en hm => by cases hm) h
  exact ⟨N, t', _, H', r, w, h1, h2, h3, hk _ _ h4⟩
theorem bit_lt {b N0 : Nat} (h : b < N0) : ∀ c, (bit b).testBit c = true → c < N0 := fun c hc => by rw [(bit_iff b c).1 hc]; exact h
theorem zero_bit {N0 : Nat} : ∀ c, Nat.testBit 0 c = true → c < N0 := fun c hc => by simp at hc
end
end Go.Ev
end

noncomputable section
namespace Go.Proofs.RS
open Go Go.Ev Go.Proofs
noncomputable def chk_body : Code := (Tryz.f83.body).getD .skip
def chk_r0 : List CO := [
    ⟨(some 2), none, .mv (.const (.int .i64 (0)))⟩]
def chk_r1 : List CO := [
    ⟨(some 5), none, .mv (.tmp 0)⟩,
    ⟨(some 6), none, .len 1 (.tmp 5)⟩,
    ⟨(some 7), none, .bin .gtr (.tmp 6) (.const (.int .i64 (64)))⟩]
def chk_r2 : List CO := [
    ⟨(some 2), none, .mv (.const (.int .i64 (140)))⟩]
def chk_r3 : List CO := [
    ⟨(some 8), none, .mv (.tmp 0)⟩,
    ⟨(some 9), none, .len 1 (.tmp 8)⟩,
    ⟨(some 10), none, .mv (.const (.int .i64 (0)))⟩]
def chk_r4 : List CO := [
    ⟨(some 11), none, .bin .lss (.tmp 10) (.tmp 9)⟩]
def chk_r5 : List CO := [
    ⟨(some 12), none, .mv (.tmp 10)⟩,
    ⟨(some 13), none, .iaS 2 (.tmp 8) (.tmp 10)⟩,
    ⟨(some 14), none, .ldN 2 (.tmp 13)⟩,
    ⟨(some 4), none, .alloc (blkL [.string ⟨#[]⟩, .string ⟨#[]⟩] 77 0)⟩,
    ⟨(some 3), none, .mv (.tmp 12)⟩,
    ⟨none, none, .st 2 (.tmp 4) (.tmp 14)⟩]
def chk_r6 : List CO := [
    ⟨(some 15), none, .ldN 2 (.tmp 4)⟩,
    ⟨(some 16), none, .call (.func 116) [(.tmp 15)]⟩,
    ⟨(some 17), none, .un .not (.tmp 16)⟩,
    ⟨(some 18), none, .mv (.tmp 17)⟩,
    ⟨(some 19), (some (18, false)), .mv (.tmp 3)⟩,
    ⟨(some 20), (some (18, false)), .bin .gtr (.tmp 19) (.const (.int .i64 (0)))⟩,
    ⟨(some 21), (some (18, false)), .mv (.tmp 20)⟩,
    ⟨(some 22), (some (21, true)), .mv (.tmp 0)⟩,
    ⟨(some 23), (some (21, true)), .mv (.tmp 3)⟩,
    ⟨(some 24), (some (21, true)), .bin .sub (.tmp 23) (.const (.int .i64 (1)))⟩,
    ⟨(some 25), (some (21, true)), .iaS 2 (.tmp 22) (.tmp 24)⟩,
    ⟨(some 26), (some (21, true)), .fa 0 (.tmp 25)⟩,
    ⟨(some 27), (some (21, true)), .ld1 (.tmp 26)⟩,
    ⟨(some 28), (some (21, true)), .fa 0 (.tmp 4)⟩,
    ⟨(some 29), (some (21, true)), .ld1 (.tmp 28)⟩,
    ⟨(some 30), (some (21, true)), .bin .geq (.tmp 27) (.tmp 29)⟩,
    ⟨(some 31), (some (18, false)), .pick (.tmp 21) (.tmp 30) (.const (.bool false))⟩,
    ⟨(some 32), none, .pick (.tmp 18) (.const (.bool true)) (.tmp 31)⟩]
def chk_r7 : List CO := [
    ⟨(some 2), none, .mv (.const (.int .i64 (140)))⟩]
def chk_r8 : List CO := [
    ⟨(some 33), none, .bin .add (.tmp 10) (.const (.int .i64 (1)))⟩,
    ⟨(some 10), none, .mv (.tmp 33)⟩]
noncomputable def chk_l9 : KC :=
  (.seq (.reg chk_r4)
  (.seq (.cond (.tmp 11) .skip
   (.exit 0))
  (.seq (.block 1 (.seq (.reg chk_r5)
   (.seq (.draw #[0, 1, 3, 7, 15, 31, 63, 127, 127, 383, 1023, 2047, 4095, 127, 8319, 32767, 65535, 131071] chk_r6)
   (.cond (.tmp 32) (.seq (.reg chk_r7)
    .ret)
    .skip))))
  (.reg chk_r8))))
def chk_r10 : List CO := [
    ⟨(some 2), none, .mv (.const (.int .i64 (0)))⟩]
noncomputable def chk_k : KC :=
  (.seq (.reg chk_r0)
  (.seq (.seq (.reg chk_r1)
  (.cond (.tmp 7) (.seq (.reg chk_r2)
   .ret)
   .skip))
  (.seq (.seq (.reg chk_r3)
  (.block 0 (.loop chk_body.sr.sr.sl.sr.bl.lp chk_l9)))
  (.seq (.reg chk_r10)
  .ret))))
theorem chk_comp : kcomp Tb0 Tryz.f83.ntmps chk_body = chk_k := by kernel_rfl
theorem chk_some : Tryz.f83.body = some chk_body := rfl
noncomputable def ask_body : Code := (Tryz.f115.body).getD .skip
def ask_r0 : List CO := [
    ⟨(some 4), none, .mv (.const (.int .i64 (0)))⟩]
def ask_r1 : List CO := [
    ⟨(some 6), none, .mv (.tmp 0)⟩,
    ⟨(some 7), none, .call (.func 83) [(.tmp 6)]⟩,
    ⟨(some 5), none, .mv (.tmp 7)⟩]
def ask_r2 : List CO := [
    ⟨(some 8), none, .mv (.tmp 5)⟩,
    ⟨(some 9), none, .eq true (.one .i) (.tmp 8) (.const (.int .i64 (0)))⟩]
def ask_r3 : List CO := [
    ⟨(some 10), none, .mv (.tmp 5)⟩,
    ⟨(some 4), none, .mv (.tmp 10)⟩]
def ask_r4 : List CO := [
    ⟨(some 11), none, .mv (.tmp 1)⟩,
    ⟨(some 12), none, .un .not (.tmp 11)⟩]
def ask_r5 : List CO := [
    ⟨(some 4), none, .mv (.const (.int .i64 (1)))⟩]
def ask_r6 : List CO := [
    ⟨(some 4), none, .mv (.const (.int .i64 (0)))⟩]
noncomputable def ask_k : KC :=
  (.seq (.reg ask_r0)
  (.seq (.seq (.reg ask_r1)
  (.seq (.reg ask_r2)
  (.cond (.tmp 9) (.seq (.reg ask_r3)
   .ret)
   .skip)))
  (.seq (.seq (.reg ask_r4)
  (.cond (.tmp 12) (.seq (.reg ask_r5)
   .ret)
   .skip))
  (.seq (.reg ask_r6)
  .ret))))
theorem ask_comp : kcomp Tb0 Tryz.f115.ntmps ask_body = ask_k := by kernel_rfl
theorem ask_some : Tryz.f115.body = some ask_body := rfl
noncomputable def at_body : Code := (Tryz.f117.body).getD .skip
def at_r0 : List CO := [
    ⟨(some 3), none, .box 9 (.tmp 1)⟩,
    ⟨(some 4), none, .mv (.const (.int .i64 (0)))⟩,
    ⟨(some 5), none, .mv (.const (.bool false))⟩]
def at_r1 : List CO := [
    ⟨(some 7), none, .mv (.tmp 0)⟩,
    ⟨(some 8), none, .mkF (.func 159) [] [(.tmp 3)]⟩,
    ⟨(some 9), none, .call (.func 158) [(.tmp 7), (.tmp 8)]⟩,
    ⟨(some 6), none, .mv (.tmp 9)⟩]
def at_r2 : List CO := [
    ⟨(some 10), none, .mv (.tmp 6)⟩,
    ⟨(some 11), none, .bin .lss (.tmp 10) (.const (.int .i64 (0)))⟩]
def at_r3 : List CO := [
    ⟨(some 12), none, .mv (.tmp 0)⟩,
    ⟨(some 13), none, .len 1 (.tmp 12)⟩,
    ⟨(some 4), none, .mv (.tmp 13)⟩,
    ⟨(some 5), none, .mv (.const (.bool false))⟩]
def at_r4 : List CO := [
    ⟨(some 14), none, .mv (.tmp 6)⟩,
    ⟨(some 15), none, .mv (.tmp 0)⟩,
    ⟨(some 16), none, .mv (.tmp 6)⟩,
    ⟨(some 17), none, .iaS 2 (.tmp 15) (.tmp 16)⟩,
    ⟨(some 18), none, .fa 0 (.tmp 17)⟩,
    ⟨(some 19), none, .ld1 (.tmp 18)⟩,
    ⟨(some 20), none, .ld1 (.tmp 3)⟩,
    ⟨(some 21), none, .eq false (.one .s) (.tmp 19) (.tmp 20)⟩,
    ⟨(some 4), none, .mv (.tmp 14)⟩,
    ⟨(some 5), none, .mv (.tmp 21)⟩]
noncomputable def at_k : KC :=
  (.seq (.reg at_r0)
  (.seq (.reg at_r1)
  (.seq (.seq (.reg at_r2)
  (.cond (.tmp 11) (.seq (.reg at_r3)
   .ret)
   .skip))
  (.seq (.draw #[0, 0, 0, 6, 14, 30, 0, 126, 1, 511] at_r4)
  .ret))))
theorem at_comp : kcomp Tb0 Tryz.f117.ntmps at_body = at_k := by kernel_rfl
theorem at_some : Tryz.f117.body = some at_body := rfl
noncomputable def at1_body : Code := (Tryz.f159.body).getD .skip
def at1_r0 : List CO := [
    ⟨(some 2), none, .box 77 (.tmp 0)⟩,
    ⟨(some 3), none, .mv (.const (.bool false))⟩]
def at1_r1 : List CO := [
    ⟨(some 4), none, .fa 0 (.tmp 2)⟩,
    ⟨(some 5), none, .ld1 (.tmp 4)⟩,
    ⟨(some 6), none, .ld1 (.tmp 1)⟩,
    ⟨(some 7), none, .bin .geq (.tmp 5) (.tmp 6)⟩,
    ⟨(some 3), none, .mv (.tmp 7)⟩]
noncomputable def at1_k : KC :=
  (.seq (.reg at1_r0)
  (.seq (.reg at1_r1)
  .ret))
theorem at1_comp : kcomp Tb0 Tryz.f159.ntmps at1_body = at1_k := by kernel_rfl
theorem at1_some : Tryz.f159.body = some at1_body := rfl
end Go.Proofs.RS
end

noncomputable section
namespace Go.Proofs.RS
open Go Go.Ev Go.Proofs Go.Ds
theorem bit_lt_iff {b N0 : Nat} : (∀ c, (bit b).testBit c = true → c < N0) ↔ b < N0 := ⟨fun h => h b ((bit_iff b b).2 rfl), fun h => bit_lt h⟩
theorem zero_bit_iff {N0 : Nat} : (∀ c, Nat.testBit 0 c = true → c < N0) ↔ True := ⟨fun _ => trivial, fun _ => zero_bit⟩
section
variable {sp : Nat → List Value → Hp → Option (Value × Hp × Nat × Nat)} {e : Env}
end
end Go.Proofs.RS
end
