/-
  A part of the reckoner for the statements of a Go program: what it answers, the model answers. Holds for every program whose tables are as given.
-/
import Derived.Below
import Derived.CheckFast
import Derived.Laws.Externs
import Derived.Lib.MakeNoZero
import Derived.Test.YtdmcanlbncbemaaGreatDoorG00
import Derived.Test.YtdmcanlbncbemaaGreatDoorG06
set_option linter.unusedSimpArgs false
set_option linter.unusedVariables false
set_option linter.unusedSectionVars false
noncomputable section
namespace Go.Ev
variable [SyQ]
section
variable (tb : Tb) (sp : Nat → List Value → Hp → Option (Value × Hp × Nat × Nat)) (e : Env)
def WOR (d : Nat) (H : Hp) (K : T Value → Prop) : List CO → T Value → Prop
  | [], t => K t
  | o :: cos, t => (match wants t o.guard with
    | true => (match run o.op t H with
      | .val v H' r w => H' = H ∧ w = 0 ∧ e.ok r 0 H ∧ WOR d H K cos (putT d t o.dst v)
      | _ => False)
    | false => WOR d H K cos (putT d t o.dst U))
mutual
def WOG (d : Nat) (K : T Value → Hp → Prop) : List CO → T Value → Hp → Prop
  | [], t, H => K t H
  | o :: cos, t, H => (match wants t o.guard with
    | true => (match run o.op t H with
      | .val v H1 r w => e.ok r w H1 ∧ H.nx ≤ H1.nx ∧ WOG d K cos (putT d t o.dst v) H1
      | .call f args => EC tb sp e f args H (WOGk d K cos t o.dst)
      | _ => False)
    | false => WOG d K cos (putT d t o.dst U) H)
def WOGk (d : Nat) (K : T Value → Hp → Prop) (cos : List CO) (t : T Value) (dst : Option Tmp) : Value → Hp → Prop := fun v H1 => WOG d K cos (putT d t dst v) H1
end
end
section
variable {tb : Tb} {sp : Nat → List Value → Hp → Option (Value × Hp × Nat × Nat)} {e : Env}
theorem WO.of_wog {cx : Cx} {K : T Value → Hp → Prop} {ds : List Deferred} : ∀ {cos : List CO} {t : T Value} {H : Hp}, WOG tb sp e cx.d K cos t H → WO tb sp e cx cos t ds H (fun t' ds' H' => ds' = ds ∧ K t' H') := by
  intro cos
  induction cos with
  | nil => intro t H h; rw [WOG] at h; exact WO.nil ⟨rfl, h⟩
  | cons o cos ih =>
    intro t H h
    rw [WOG] at h
    cases hg : wants t o.guard with
    | true =>
      rw [hg] at h
      refine WO.cons hg ?_
      revert h
      cases run o.op t H with
      | val v H1 r w => exact fun h => ⟨h.1, h.2.1, ih h.2.2⟩
      | call f args => exact fun h => EC.mono h fun v H1 _ hk => ih (by rw [WOGk] at hk; exact hk)
      | _ => exact fun h => h.elim
    | false =>
      rw [hg] at h
      exact WO.skip hg (ih h)
theorem wor_run {d : Nat} {H : Hp} {K : T Value → Prop} : ∀ {cos : List CO} {t : T Value}, WOR e d H K cos t →
    ∃ t' r, (∀ (rec : Rec) (cx : Cx) i ds acc r0 w0, cx.d = d → (∀ x ∈ acc, x.2.2 = 0) → ∃ acc', (∀ x ∈ acc', x.2.2 = 0) ∧ evOps rec cx cos i t ds H acc r0 w0 = .mk .normal t' ds H acc' (Nat.lor r0 r) (Nat.lor w0 0)) ∧ e.ok r 0 H ∧ K t' := by
  intro cos
  induction cos with
  | nil => intro t h; exact ⟨t, 0, fun rec cx i ds acc r0 w0 _ ha => ⟨acc, ha, by rw [lor_zero', lor_zero']; rfl⟩, .zero e H, h⟩
  | cons o cos ih =>
    intro t h
    rw [WOR] at h
    cases hg : wants t o.guard with
    | true =>
      rw [hg] at h
      simp only [] at h
      cases hr : run o.op t H with
      | val v H1 r w =>
        rw [hr] at h
        obtain ⟨rfl, rfl, h1, h2⟩ := h
        obtain ⟨t', r2, h3, h4, h5⟩ := ih h2
        refine ⟨t', Nat.lor r r2, fun rec cx i ds acc r0 w0 hd ha => ?_, by have := h1.lor h4 (Nat.le_refl _); rwa [lor_zero'] at this, h5⟩
        obtain ⟨acc', h6, h7⟩ := h3 rec cx (Nat.succ i) ds ((i, r, Nat.lor 0 (rng H1 H1)) :: acc) (Nat.lor r0 r) (Nat.lor w0 0) hd (fun x hx => by
          rcases List.mem_cons.1 hx with rfl | hx
          · show Nat.lor 0 (rng H1 H1) = 0
            rw [rng_none rfl]; rfl
          · exact ha x hx)
        refine ⟨acc', h6, ?_⟩
        subst hd
        simp only [evOps, hg, Bc_t, hr, stepR]
        rw [h7, lor_assoc', lor_assoc', lor_zero' 0]
      | _ => rw [hr] at h; exact h.elim
    | false =>
      rw [hg] at h
      obtain ⟨t', r2, h3, h4, h5⟩ := ih h
      refine ⟨t', r2, fun rec cx i ds acc r0 w0 hd ha => ?_, h4, h5⟩
      obtain ⟨acc', h6, h7⟩ := h3 rec cx (Nat.succ i) ds acc r0 w0 hd ha
      refine ⟨acc', h6, ?_⟩
      subst hd
      simp only [evOps, hg, Bc_f]
      exact h7
variable {cx : Cx} {t : T Value} {ds : List Deferred} {H : Hp} {K : Ex → T Value → List Deferred → Hp → Prop}
theorem WK.reg_r {cos : List CO} (h : WOR e cx.d H (fun t' => K .normal t' ds H) cos t) : WK tb sp e cx (.reg cos) t ds H K := by
  obtain ⟨t', r, h1, h2, h3⟩ := wor_run h
  intro c hc
  obtain ⟨id, ops, rfl, hcos⟩ := kcomp_reg hc
  obtain ⟨acc', _, h5⟩ := h1 (ev tb sp 0) cx 0 ds [] 0 0 rfl (fun x hx => by cases hx)
  refine ⟨0, .normal, t', ds, H, r, 0, ?_, h2, Nat.le_refl _, h3⟩
  simp only [evCC, hcos, h5, ofOR, zero_lor']
theorem WK.reg_g {cos : List CO} (h : WOG tb sp e cx.d (fun t' H' => K .normal t' ds H') cos t H) : WK tb sp e cx (.reg cos) t ds H K :=
  WK.reg ((WO.of_wog h).mono fun t' ds' H' _ hk => by obtain ⟨rfl, hk⟩ := hk; exact hk)
theorem ok_zero : e.ok 0 0 H ↔ True := by simp [Env.ok.zero]
theorem wants_none' (t : T Value) : wants t none = true := rfl
def wantsV (v : Value) (w : Bool) : Bool := match asB v with | some b => Bc b w (!w) | none => false
theorem wants_some (t : T Value) (i : Nat) (w : Bool) : wants t (some (i, w)) = wantsV (t.get i) w := rfl
theorem wantsV_U (w : Bool) : wantsV U w = false := rfl
theorem wantsV_tt : wantsV (.bool true) true = true := rfl
theorem wantsV_tf : wantsV (.bool true) false = false := rfl
theorem wantsV_ft : wantsV (.bool false) true = false := rfl
theorem wantsV_ff : wantsV (.bool false) false = true := rfl
theorem exPick_t (x y : Value) (H : Hp) : exPick (.bool true) x y H = .val x H 0 0 := rfl
theorem exPick_f (x y : Value) (H : Hp) : exPick (.bool false) x y H = .val y H 0 0 := rfl
end
end Go.Ev
end
noncomputable section
namespace Go.Ev.F
variable [SyO]
inductive RF where
  | pv (v : Value)
  | r (x : R)
structure MS where
  acc : Acc
  r : Nat
  w : Nat
abbrev RK := Task → Hp → Nat → Nat → (TR → TR) → TR
structure OX where
  re : RK
  cx : Cx
  K : OR → TR
abbrev OPK := OX → Nat → T Value → List Deferred → Hp → MS → TR
abbrev SK := CO → OPK → OPK
abbrev CK := Tb → RK → Cx → T Value → List Deferred → Hp → Nat → Nat → (CR → TR) → TR
noncomputable def evO : Operand → T Value → Value := @Operand.rec (fun _ => T Value → Value) (fun i t => T.get t i) (fun v _ => v) (fun g _ => .pointer (some ⟨g, 0, none⟩)) (fun f _ => .func (.func f) #[] #[])
noncomputable def evL (l : List Operand) (t : T Value) : List Value := @List.rec Operand (fun _ => List Value) [] (fun x _ ih => evO x t :: ih) l
noncomputable def pvO : Option Value → RF := @Option.rec Value (fun _ => RF) (.r .fail) (fun v => .pv v)
noncomputable def r_mv (x : Operand) (t : T Value) (H : Hp) : RF := .pv (evO x t)
noncomputable def pickB (b : Bool) (x y : Value) : RF := @Bool.rec (fun _ => Value → Value → RF) (fun _ y => .pv y) (fun x _ => .pv x) b x y
noncomputable def pickV : Value → Value → Value → RF := @Value.rec (fun _ => Value → Value → RF) (fun _ => PUnit) (fun _ => PUnit) pickB (fun _ _ => fun _ _ => .r .fail) (fun _ _ => fun _ _ => .r .fail) (fun _ _ _ => fun _ _ => .r .fail) (fun _ => fun _ _ => .r .fail) (fun _ => fun _ _ => .r .fail) (fun _ _ _ => fun _ _ => .r .fail) (fun _ => fun _ _ => .r .fail) (fun _ => fun _ _ => .r .fail) (fun _ _ _ _ _ => fun _ _ => .r .fail) (fun _ _ => .r .fail) (fun _ _ _ => fun _ _ => .r .fail) (fun _ _ => .r .fail) (fun _ _ => fun _ _ => .r .fail) (fun _ _ => fun _ _ => .r .fail) (fun _ _ => ⟨⟩) ⟨⟩ (fun _ _ _ _ => ⟨⟩)
noncomputable def r_pick (c a b : Operand) (t : T Value) (H : Hp) : RF := pickV (evO c t) (evO a t) (evO b t)
noncomputable def r_build (z : List Value) (ps : List (Nat × Nat × Operand)) (t : T Value) (H : Hp) : RF := @Option.rec (List Value) (fun _ => RF) (.r .fail) (fun l => .pv (.agg ⟨l⟩)) (fillL t z ps)
noncomputable def r_bin (op : BinOp) (x y : Operand) (t : T Value) (H : Hp) : RF := pvO (binV op (evO x t) (evO y t))
noncomputable def r_eq (neg : Bool) (p : Eqp) (x y : Operand) (t : T Value) (H : Hp) : RF := @Option.rec Bool (fun _ => Bool → RF) (fun _ => .r .fail) (fun b neg => .pv (.bool (Bc neg (!b) b))) (orE (eqV p (evO x t) (evO y t)) p (evO x t) (evO y t)) neg
noncomputable def r_un (op : UnOp) (x : Operand) (t : T Value) (H : Hp) : RF := .r (exUn op (evO x t) H)
noncomputable def cIntI (n : Int) (k : IntKind) : RF := .pv (.int k (wrapF k n))
noncomputable def cIntV : Value → IntKind → RF := @Value.rec (fun _ => IntKind → RF) (fun _ => PUnit) (fun _ => PUnit) (fun _ => fun _ => .r .fail) (fun _ n k => cIntI n k) (fun _ _ => fun _ => .r .fail) (fun _ _ _ => fun _ => .r .fail) (fun _ => fun _ => .r .fail) (fun _ => fun _ => .r .fail) (fun _ _ _ => fun _ => .r .fail) (fun _ => fun _ => .r .fail) (fun c k => pvO (SyO.hk (.cInt k) [.chan c])) (fun _ _ _ _ _ => fun _ => .r .fail) (fun _ => .r .fail) (fun _ _ _ => fun _ => .r .fail) (fun _ => .r .fail) (fun _ _ => fun _ => .r .fail) (fun _ _ => fun _ => .r .fail) (fun _ _ => ⟨⟩) ⟨⟩ (fun _ _ _ _ => ⟨⟩)
noncomputable def r_cInt (k : IntKind) (x : Operand) (t : T Value) (H : Hp) : RF := cIntV (evO x t) k
noncomputable def faA : Option Addr → Nat → RF := @Option.rec Addr (fun _ => Nat → RF) (fun _ => .r .fail) (fun a off => @Option.rec Nat (fun _ => Nat → Nat → Nat → RF) (fun b o off => .pv (.pointer (some ⟨b, Nat.add o off, none⟩))) (fun _ _ _ _ => .r .fail) a.spot a.block a.off off)
noncomputable def faV : Value → Nat → RF := @Value.rec (fun _ => Nat → RF) (fun _ => PUnit) (fun _ => PUnit) (fun _ => fun _ => .r .fail) (fun _ _ => fun _ => .r .fail) (fun _ _ => fun _ => .r .fail) (fun _ _ _ => fun _ => .r .fail) (fun _ => fun _ => .r .fail) faA (fun _ _ _ => fun _ => .r .fail) (fun _ => fun _ => .r .fail) (fun _ => fun _ => .r .fail) (fun _ _ _ _ _ => fun _ => .r .fail) (fun _ => .r .fail) (fun _ _ _ => fun _ => .r .fail) (fun _ => .r .fail) (fun _ _ => fun _ => .r .fail) (fun _ _ => fun _ => .r .fail) (fun _ _ => ⟨⟩) ⟨⟩ (fun _ _ _ _ => ⟨⟩)
noncomputable def r_fa (off : Nat) (x : Operand) (t : T Value) (H : Hp) : RF := faV (evO x t) off
noncomputable def r_fld (agg : Bool) (sz off : Nat) (x : Operand) (t : T Value) (H : Hp) : RF := .r (exFld agg sz off (evO x t) H)
noncomputable def r_iaA (n sz : Nat) (x i : Operand) (t : T Value) (H : Hp) : RF := .r (exIaA n sz (evO x t) (evO i t) H)
noncomputable def r_iaS (sz : Nat) (x i : Operand) (t : T Value) (H : Hp) : RF := .r (exIaS sz (evO x t) (evO i t) H)
noncomputable def r_ixA (agg : Bool) (n sz : Nat) (x i : Operand) (t : T Value) (H : Hp) : RF := .r (exIxA agg n sz (evO x t) (evO i t) H)
noncomputable def r_ixS (x i : Operand) (t : T Value) (H : Hp) : RF := .r (exIxS (evO x t) (evO i t) H)
noncomputable def r_ext (x : Operand) (i : Nat) (t : T Value) (H : Hp) : RF := .r (exExt (evO x t) i H)
noncomputable def r_mkI (ty : Nat) (x : Operand) (t : T Value) (H : Hp) : RF := .pv (.iface ty (evO x t))
noncomputable def ldB : Blk → Nat → Nat → Hp → RF := @Blk.rec (fun _ => Nat → Nat → Hp → RF) (fun _ _ _ => .r .fail) (fun t n _ _ _ _ b o H => Bc (Nat.blt o n) (.r (.val (T.get t o) H (bit b) 0)) (.r .fail)) (fun _ _ _ _ => .r .fail) (fun _ _ _ _ _ _ _ _ _ _ _ => .r .fail)
noncomputable def ldA : Option Addr → Hp → RF := @Option.rec Addr (fun _ => Hp → RF) (fun _ => .r .fail) (fun a H => @Option.rec Nat (fun _ => Nat → Nat → Hp → RF) (fun b o H => ldB (H.blk b) b o H) (fun _ _ _ _ => .r .fail) a.spot a.block a.off H)
noncomputable def ldV : Value → Hp → RF := @Value.rec (fun _ => Hp → RF) (fun _ => PUnit) (fun _ => PUnit) (fun _ => fun _ => .r .fail) (fun _ _ => fun _ => .r .fail) (fun _ _ => fun _ => .r .fail) (fun _ _ _ => fun _ => .r .fail) (fun _ => fun _ => .r .fail) ldA (fun _ _ _ => fun _ => .r .fail) (fun _ => fun _ => .r .fail) (fun _ => fun _ => .r .fail) (fun _ _ _ _ _ => fun _ => .r .fail) (fun _ => .r .fail) (fun _ _ _ => fun _ => .r .fail) (fun _ => .r .fail) (fun _ _ => fun _ => .r .fail) (fun _ _ => fun _ => .r .fail) (fun _ _ => ⟨⟩) ⟨⟩ (fun _ _ _ _ => ⟨⟩)
noncomputable def r_ld1 (a : Operand) (t : T Value) (H : Hp) : RF := ldV (evO a t) H
noncomputable def r_ldN (n : Nat) (a : Operand) (t : T Value) (H : Hp) : RF := .r (exLdN n (evO a t) H)
noncomputable def r_st (n : Nat) (a x : Operand) (t : T Value) (H : Hp) : RF := .r (exSt n (evO a t) (evO x t) H)
noncomputable def r_alloc (z : Blk) (t : T Value) (H : Hp) : RF := .r (alloc1 z H ptrTo 0 0)
noncomputable def r_box (ty : Nat) (x : Operand) (t : T Value) (H : Hp) : RF := .r (exFill (cellsO (evO x t)) fun l => alloc1 (blkL l ty 0) H ptrTo 0 0)
noncomputable def r_call (f : Operand) (args : List Operand) (t : T Value) (H : Hp) : RF := .r (callV (evO f t) (evL args t))
noncomputable def r_len (k : Nat) (x : Operand) (t : T Value) (H : Hp) : RF := .r (exLen k (evO x t) H)
noncomputable def r_nilc (x : Operand) (t : T Value) (H : Hp) : RF := .r (exNil (evO x t) H)
noncomputable def r_slow (o : COp) (t : T Value) (H : Hp) : RF := .r (Go.Ev.run o t H)
noncomputable def runF : COp → T Value → Hp → RF :=
  @COp.rec (fun _ => T Value → Hp → RF)
    (r_slow .bad) r_mv r_pick r_alloc r_box r_build (fun a b c d => r_slow (.bslice a b c d)) r_ld1 r_ldN r_st r_nilc r_bin r_eq r_un r_cInt
    (fun x => r_slow (.cChr x)) (fun a b => r_slow (.cToB a b)) (fun a => r_slow (.cToS a)) (fun a => r_slow (.cSS a)) (fun a => r_slow (.toU a)) (fun a b => r_slow (.frU a b)) (fun a => r_slow (.usd a)) (fun a b c => r_slow (.ustr a b c)) r_mkI (fun a b c => r_slow (.mkF a b c)) (r_slow .mkM) (fun a b c d e => r_slow (.mkSl a b c d e))
    (fun a b c => r_slow (.slS a b c)) (fun a b c d e => r_slow (.slL a b c d e)) (fun a b c d e f => r_slow (.slA a b c d e f))
    r_fa r_fld r_iaA r_iaS r_ixA r_ixS (fun a b c d e => r_slow (.lkp a b c d e)) (fun a b c d => r_slow (.mup a b c d)) (fun a => r_slow (.rngS a)) (fun a => r_slow (.rngM a)) (fun a => r_slow (.nxtS a)) (fun a => r_slow (.nxtM a)) (fun a b c d => r_slow (.tas a b c d)) r_ext r_len
    (fun a => r_slow (.lenA a)) (fun a => r_slow (.cap a)) (fun a b c d e => r_slow (.app a b c d e)) (fun a b c => r_slow (.copy a b c)) (fun a b => r_slow (.clear a b)) (fun a b => r_slow (.min a b)) (fun a b => r_slow (.max a b)) (fun a b c => r_slow (.min3 a b c)) (fun a b c => r_slow (.max3 a b c)) (fun a b c => r_slow (.del a b c))
    r_call (fun a b c => r_slow (.inv a b c)) (fun a b => r_slow (.defer a b)) (r_slow .recover) (fun a => r_slow (.panic a))
noncomputable def putF : Option Tmp → Nat → T Value → Value → T Value := @Option.rec Tmp (fun _ => Nat → T Value → Value → T Value) (fun _ t _ => t) (fun i d t v => T.set d t i v)
noncomputable def goPv (v : Value) (o : CO) (ih : OPK) : OPK := fun e i t ds H m => ih e (Nat.succ i) (putF o.dst e.cx.d t v) ds H m
noncomputable def goM (m : MS) (r w : Nat) (ih : MS → TR) : TR := Fz r (Fz w (ih m))
noncomputable def onVal (v : Value) (H' : Hp) (r' w' : Nat) (o : CO) (ih : OPK) : OPK := fun e i t ds H m =>
  goM ⟨(i, r', Nat.lor w' (rng H H')) :: m.acc, Nat.lor m.r r', Nat.lor m.w w'⟩ (Nat.lor m.r r') (Nat.lor m.w w') (ih e (Nat.succ i) (putF o.dst e.cx.d t v) ds H')
noncomputable def failO : OPK := fun e _ _ _ _ _ => e.K .fail
noncomputable def onPan (H' : Hp) (v : Value) (r' w' : Nat) : OPK := fun e i t ds H m => e.K (.mk (.panic v) t ds H' ((i, 0, 0) :: m.acc) (Nat.lor m.r r') (Nat.lor m.w w'))
noncomputable def aftKR : KR → SK := @KR.rec (fun _ => SK) (fun _ _ _ => failO) onVal (fun v H' r' w' _ _ => onPan H' v r' w') (fun _ _ _ _ _ _ => failO) (fun _ _ _ _ _ _ => failO)
noncomputable def aftTR : TR → SK := @TR.rec (fun _ => SK) aftKR (fun _ _ _ => failO)
noncomputable def aftKR2 : KR → SK := @KR.rec (fun _ => SK) (fun _ _ _ => failO) onVal (fun v H' r' w' _ _ => failO) (fun _ _ _ _ _ _ => failO) (fun _ _ _ _ _ _ => failO)
noncomputable def aftTR2 : TR → SK := @TR.rec (fun _ => SK) aftKR2 (fun _ _ _ => failO)
noncomputable def defK (d : Deferred) (o : CO) (ih : OPK) : OPK := fun e i t ds H m =>
  match e.cx.rnd, e.cx.drw with
  | none, false => ih e (Nat.succ i) (putF o.dst e.cx.d t U) (d :: ds) H m
  | _, _ => e.K .fail
noncomputable def onR : R → SK := @R.rec (fun _ => SK)
  (fun _ _ => failO)
  onVal
  (fun f args o ih e i t ds H m => e.re (.call f args) H 0 0 fun x => aftTR x o ih e i t ds H m)
  (fun l args o ih e i t ds H m => e.re (.round l args) H 0 0 fun x => aftTR2 x o ih e i t ds H m)
  (fun v _ _ e i t ds H m => onPan H v 0 0 e i t ds H m)
  defK
  (fun _ _ => failO)
noncomputable def onRF : RF → SK := @RF.rec (fun _ => SK) goPv onR
noncomputable def wantB : Value → Bool → Bool := @Value.rec (fun _ => Bool → Bool) (fun _ => PUnit) (fun _ => PUnit) (fun b w => @Bool.rec (fun _ => Bool → Bool) (fun w => !w) (fun w => w) b w) (fun _ _ => fun _ => false) (fun _ _ => fun _ => false) (fun _ _ _ => fun _ => false) (fun _ => fun _ => false) (fun _ => fun _ => false) (fun _ _ _ => fun _ => false) (fun _ => fun _ => false) (fun _ => fun _ => false) (fun _ _ _ _ _ => fun _ => false) (fun _ => false) (fun _ _ _ => fun _ => false) (fun _ => false) (fun _ _ => fun _ => false) (fun _ _ => fun _ => false) (fun _ _ => ⟨⟩) ⟨⟩ (fun _ _ _ _ => ⟨⟩)
noncomputable def wantP (p : Tmp × Bool) (t : T Value) : Bool := wantB (T.get t p.1) p.2
noncomputable def skipOp (o : CO) (ih : OPK) : OPK := fun e i t ds H m => ih e (Nat.succ i) (putF o.dst e.cx.d t U) ds H m
noncomputable def doOp (o : CO) (ih : OPK) : OPK := fun e i t ds H m => onRF (runF o.op t H) o ih e i t ds H m
noncomputable def selOp : Bool → SK := @Bool.rec (fun _ => SK) skipOp doOp
noncomputable def opNil : OPK := fun e _ t ds H m => e.K (.mk .normal t ds H m.acc m.r m.w)
noncomputable def opG (g : Option (Tmp × Bool)) : SK := @Option.rec (Tmp × Bool) (fun _ => SK) doOp (fun p o ih e i t ds H m => selOp (wantP p t) o ih e i t ds H m) g
noncomputable def opCons (o : CO) (_ : List CO) (ih : OPK) : OPK := opG o.guard o ih
noncomputable def opsK : List CO → OPK := @List.rec CO (fun _ => OPK) opNil opCons
noncomputable def compOsF (tb : Tb) (nt : Nat) (ops : Array Oper) (l : List Oper) : List CO := @List.rec Oper (fun _ => List CO) [] (fun o _ ih => compO tb nt ops o :: ih) l
noncomputable def endOR : OR → (CR → TR) → TR := @OR.rec (fun _ => (CR → TR) → TR) (fun K => K .fail) (fun x t ds H _ r w K => K (.mk x t ds H r w))
noncomputable def okOneF (b rj wj : Nat) (l : Acc) : Bool := @List.rec (Nat × Nat × Nat) (fun _ => Bool) true (fun x _ ih => Bc (Nat.testBit b x.1) ih (Bc (Nat.beq (Nat.land x.2.2 (Nat.lor rj wj)) 0) (Bc (Nat.beq (Nat.land wj x.2.1) 0) ih false) false)) l
noncomputable def bT (l : List Nat) : T Nat := @List.rec Nat (fun _ => Nat → T Nat → T Nat) (fun _ t => t) (fun b _ ih i t => ih (Nat.succ i) (T.set 3 t i b)) l 0 (T.e 0)
noncomputable def okPairF (B : T Nat) (l : Acc) : Bool := @List.rec (Nat × Nat × Nat) (fun _ => Bool) true (fun x l ih => Bc (okOneF (Bc (Nat.blt x.1 512) (T.get B x.1) 0) x.2.1 x.2.2 l) ih false) l
noncomputable def filtF (l : Acc) : Acc := @List.rec (Nat × Nat × Nat) (fun _ => Acc) [] (fun x _ ih => Bc (Nat.beq (Nat.lor x.2.1 x.2.2) 0) ih (x :: ih)) l
noncomputable def okDraw (B : T Nat) (l : Acc) (x : CR) : CR := Bc (okPairF B (filtF l)) x .fail
noncomputable def endORd (tb : Tb) (nt d : Nat) (ops : Array Oper) : OR → CR := @OR.rec (fun _ => CR) .fail (fun x t ds H acc r w => match x with
    | .normal => Bc (Nat.ble (Go.CheckFast.beforeF ops).toList.length 512) (okDraw (bT (Go.CheckFast.beforeF ops).toList) acc (.mk .normal t ds H r w)) (ofORd tb nt d ops (Go.CheckFast.beforeF ops) (.mk .normal t ds H acc r w))
    | x => ofORd tb nt d ops (Go.CheckFast.beforeF ops) (.mk x t ds H acc r w))
noncomputable def c_regB : Bool → Array Oper → CK := @Bool.rec (fun _ => Array Oper → CK)
  (fun ops tb rec cx t ds H r w K => opsK (compOsF tb cx.nt ops ops.toList) ⟨rec, cx, fun x => endOR x K⟩ 0 t ds H ⟨[], r, w⟩)
  (fun ops tb rec cx t ds H r w K => opsK (compOsF tb cx.nt ops ops.toList) ⟨rec, ⟨cx.d, cx.nt, cx.rnd, true⟩, fun x => K (CR.join r w (endORd tb cx.nt cx.d ops x))⟩ 0 t ds H ⟨[], 0, 0⟩)
noncomputable def c_region (id : Nat) (ops : Array Oper) (draw : Bool) : CK := c_regB draw ops
noncomputable def exGo : Ex → CK → CK := @Ex.rec (fun _ => CK → CK) (fun k => k)
  (fun _ tb rec cx t ds H r w K => K (.mk .ret t ds H r w))
  (fun id _ tb rec cx t ds H r w K => K (.mk (.exit id) t ds H r w))
  (fun id _ tb rec cx t ds H r w K => K (.mk (.goto id) t ds H r w))
  (fun v _ tb rec cx t ds H r w K => K (.mk (.panic v) t ds H r w))
noncomputable def crGo : CR → CK → Tb → RK → Cx → (CR → TR) → TR := @CR.rec (fun _ => CK → Tb → RK → Cx → (CR → TR) → TR) (fun _ _ _ _ K => K .fail) (fun x t ds H r w k tb rec cx K => exGo x k tb rec cx t ds H r w K)
noncomputable def c_seq (a b : Code) (iha ihb : CK) : CK := fun tb rec cx t ds H r w K => iha tb rec cx t ds H r w fun x => crGo x ihb tb rec cx K
noncomputable def c_fail : CK := fun tb rec cx t ds H r w K => K .fail
noncomputable def condB : Bool → CK → CK → CK := @Bool.rec (fun _ => CK → CK → CK) (fun _ b => b) (fun a _ => a)
noncomputable def condV : Value → CK → CK → CK := @Value.rec (fun _ => CK → CK → CK) (fun _ => PUnit) (fun _ => PUnit) condB (fun _ _ => fun _ _ => c_fail) (fun _ _ => fun _ _ => c_fail) (fun _ _ _ => fun _ _ => c_fail) (fun _ => fun _ _ => c_fail) (fun _ => fun _ _ => c_fail) (fun _ _ _ => fun _ _ => c_fail) (fun _ => fun _ _ => c_fail) (fun _ => fun _ _ => c_fail) (fun _ _ _ _ _ => fun _ _ => c_fail) (fun _ _ => c_fail) (fun _ _ _ => fun _ _ => c_fail) (fun _ _ => c_fail) (fun _ _ => fun _ _ => c_fail) (fun _ _ => fun _ _ => c_fail) (fun _ _ => ⟨⟩) ⟨⟩ (fun _ _ _ _ => ⟨⟩)
noncomputable def c_cond (c : Operand) (a b : Code) (iha ihb : CK) : CK := fun tb rec cx t ds H r w K => Bc (okO tb cx.nt c) (condV (evO c t) iha ihb tb rec cx t ds H r w K) (K .fail)
noncomputable def outEx : Ex → Nat → T Value → List Deferred → Hp → Nat → Nat → (CR → TR) → TR := @Ex.rec (fun _ => Nat → T Value → List Deferred → Hp → Nat → Nat → (CR → TR) → TR)
  (fun _ t ds H r w K => K (.mk .normal t ds H r w)) (fun _ t ds H r w K => K (.mk .ret t ds H r w))
  (fun j id t ds H r w K => Bc (Nat.beq j id) (K (.mk .normal t ds H r w)) (K (.mk (.exit j) t ds H r w)))
  (fun j _ t ds H r w K => K (.mk (.goto j) t ds H r w)) (fun v _ t ds H r w K => K (.mk (.panic v) t ds H r w))
noncomputable def outK : CR → Nat → (CR → TR) → TR := @CR.rec (fun _ => Nat → (CR → TR) → TR) (fun _ K => K .fail) (fun x t ds H r w id K => outEx x id t ds H r w K)
noncomputable def c_block (id : Nat) (b : Code) (ih : CK) : CK := fun tb rec cx t ds H r w K => ih tb rec cx t ds H r w fun x => outK x id K
noncomputable def ofTRK : TR → (CR → TR) → TR := @TR.rec (fun _ => (CR → TR) → TR) (fun _ K => K .fail) (fun y K => K y)
noncomputable def againK (b : Code) : CK := fun tb rec cx t ds H r w K => rec (.loop b cx t ds) H r w fun x => ofTRK x K
noncomputable def sumK (b : Code) : CK := fun tb rec cx t ds H r w K => K (CR.join r w (sumUp tb b t ds H))
noncomputable def loopK (b : Code) (ih : CK) : CK := fun tb rec cx t ds H r w K => ih tb rec cx t ds H r w fun x => crGo x (againK b) tb rec cx K
noncomputable def c_loop (b : Code) (ih : CK) : CK := fun tb rec cx => condB (tb.hk cx.nt b) (sumK b) (loopK b ih) tb rec cx
noncomputable def c_range (f : Operand) (ps : Array Tmp) (a b : Code) : CK := fun tb rec cx t ds H r w K =>
  match cx.rnd with
  | some _ => K .fail
  | none => Bc (okO tb cx.nt f && ps.toList.all (fun p => Nat.blt p cx.nt))
      (match alloc1 (.obj (.deferred (some []))) H (fun i => .int .i64 (.ofNat i)) 0 0 with
        | .val (.int _ (.ofNat db)) H1 _ _ => (match alloc1 (.loop true none cx.nt t ps.toList a b db) H1 (fun i => .int .i64 (.ofNat i)) 0 0 with
          | .val (.int _ (.ofNat l)) H2 _ _ => (match callV (evalO t f) [.func (.yield l) #[] #[]] with
            | .call g args => Bc (hasBody tb g) (rec (.call g args) H2 0 0 fun x => K (CR.join r w (afterRange l t ({ target := .collected db, args := #[] } :: ds) x))) (K .fail)
            | _ => K .fail)
          | _ => K .fail)
        | _ => K .fail) (K .fail)
noncomputable def c_norm : CK := fun tb rec cx t ds H r w K => K (.mk .normal t ds H r w)
noncomputable def codeK : Code → CK := @Code.rec (fun _ => CK) c_norm c_region c_seq c_cond c_block c_loop (fun f ps a b _ _ => c_range f ps a b)
  (fun id tb rec cx t ds H r w K => K (.mk (.exit id) t ds H r w)) (fun _ _ => c_fail) (fun _ => c_norm)
  (fun id tb rec cx t ds H r w K => K (.mk (.goto id) t ds H r w)) (fun tb rec cx t ds H r w K => K (.mk .ret t ds H r w)) (fun _ => c_fail)
noncomputable def drAll : Code → Bool := @Code.rec (fun _ => Bool) true (fun _ ops d => @Bool.rec (fun _ => Bool) true (drawOk ops (Region.before ops)) d) (fun _ _ a b => Bc a b false) (fun _ _ _ a b => Bc a b false) (fun _ _ a => a) (fun _ a => a) (fun _ _ _ _ a b => Bc a b false) (fun _ => true) (fun _ _ => true) (fun _ => true) (fun _ => true) true (fun _ => true)
abbrev UK := Func → Tb → RK → T Value → List Deferred → Hp → Nat → Nat → (TR → TR) → TR
noncomputable def unwK (m : FrameMode) : UK := fun fn tb rec t ds H r w K => rec (.unwind fn.ntmps fn.results.toList t ds m) H r w K
noncomputable def unw2 : UK := fun fn tb rec t ds H r w K => K (.k (.fail 2))
noncomputable def bodyEx : Ex → UK := @Ex.rec (fun _ => UK) (unwK .returning) (unwK .returning) (fun _ => unw2) (fun _ => unw2) (fun v => unwK (.panicking [{ v, recovered := false }]))
noncomputable def bodyK : CR → Func → Tb → RK → (TR → TR) → TR := @CR.rec (fun _ => Func → Tb → RK → (TR → TR) → TR) (fun _ _ _ K => K (.k (.fail 1))) (fun x t ds H r w fn tb rec K => bodyEx x fn tb rec t ds H r w K)
abbrev FK := Tb → RK → List Value → Hp → Nat → Nat → (TR → TR) → TR
noncomputable def callC (c : Code) (fn : Func) : FK := fun tb rec args H r w K =>
  Bc (Nat.ble args.length fn.ntmps) (codeK c tb rec ⟨dep fn.ntmps, fn.ntmps, none, false⟩ (enterT fn args) [] H r w fun x => bodyK x fn tb rec K) (K (.k (.fail 14)))
noncomputable def callB : Option Code → Func → FK := @Option.rec Code (fun _ => Func → FK) (fun _ _ _ _ _ _ _ K => K (.k (.fail 4))) callC
noncomputable def callF : Option Func → FK := @Option.rec Func (fun _ => FK) (fun _ _ _ _ _ _ K => K (.k (.fail 3))) (fun fn => callB fn.body fn)
noncomputable def unwRet (l : List Value) (H : Hp) (r w : Nat) (K : TR → TR) : TR := Fz r (K (.k (.ret (resV l) H r w)))
noncomputable def unwEnd (m : FrameMode) (x : Option (List Value × Nat)) (H : Hp) (r w : Nat) (K : TR → TR) : TR := match m with
    | .returning => (match x with
      | some (l, r') => unwRet l H (Nat.lor r r') w K
      | none => K (.k (.fail 6)))
    | .panicking [{ v, recovered := false, goexit := false }] => K (.k (.panic v H r w))
    | _ => K (.k (.fail 7))
noncomputable def aftDefK (nt : Nat) (res : List ResultVar) (t : T Value) (ds : List Deferred) (rec : RK) (K : TR → TR) (x : TR) : TR := match x with
      | .k (.drop m H r w) => (match settleM m with
        | .run => K (.k (.fail 21))
        | m' => rec (.unwind nt res t ds m') H r w K)
      | .k (.dpan v H r w) => rec (.unwind nt res t ds (.panicking [{ v, recovered := false }])) H r w K
      | _ => K (.k (.fail 5))
noncomputable def unwindK (nt : Nat) (res : List ResultVar) (t : T Value) (ds : List Deferred) (m : FrameMode) (tb : Tb) (rec : RK) (H : Hp) (r w : Nat) (K : TR → TR) : TR := match ds with
  | [] => unwEnd m (resL tb nt t H res) H r w K
  | d :: ds => (match d.target with
    | .collected b => (match H.blk b with
      | .obj (.deferred (some [])) => rec (.unwind nt res t ds m) (H.put b .no) r (Nat.lor w (bit b)) K
      | _ => K (.k (.fail 17)))
    | .fn (.func f) cap => rec (.dcall f (d.args.toList ++ cap.toList) m) H r w (aftDefK nt res t ds rec K)
    | _ => K (.k (.fail 8)))
abbrev Sp := Nat → List Value → Hp → Option (Value × Hp × Nat × Nat)
abbrev TK := Tb → Sp → RK → Hp → Nat → Nat → (TR → TR) → TR
abbrev SPK := FuncId → FK
noncomputable def spS (x : Value × Hp × Nat × Nat) : SPK := fun _ _ _ _ _ r w K => Fz (Nat.lor r x.2.2.1) (Fz (Nat.lor w x.2.2.2) (K (.k (spKR x.1 x.2.1 (Nat.lor r x.2.2.1) (Nat.lor w x.2.2.2)))))
noncomputable def spN : SPK := fun f tb rec args H r w K => callF (tb.fn f) tb rec args H r w K
noncomputable def spK : Option (Value × Hp × Nat × Nat) → SPK := @Option.rec _ (fun _ => SPK) spN spS
noncomputable def t_dcall (f : FuncId) (args : List Value) (um : FrameMode) : TK := fun tb sp rec H r w K => K (match evDCall tb f args um H with
  | .k (.drop m H' r' w') => .k (.drop m H' (Nat.lor r r') (Nat.lor w w'))
  | .k (.dpan v H' r' w') => .k (.dpan v H' (Nat.lor r r') (Nat.lor w w'))
  | _ => .k (.fail 22))
noncomputable def rnd2 (l nt : Nat) (b : Code) (tb : Tb) (rec : RK) (K : TR → TR) (x : CR) : TR := match x with
      | .mk .normal t [] H1 r w => (match H1.blk l with
        | .loop true none nt2 lt2 ps2 a2 b2 db2 => codeK b tb rec ⟨dep nt, nt, some l, false⟩ t [] (H1.put l (.loop false none nt2 lt2 ps2 a2 b2 db2)) r w fun x => K (endRound l (bit l) (bit l) x)
        | _ => K (.k (.fail 15)))
      | _ => K (.k (.fail 12))
noncomputable def t_round (l : Nat) (args : List Value) : TK := fun tb sp rec H r w K => match H.blk l with
  | .loop true none nt lt ps a b db => (match setPs (dep nt) nt ps args lt with
    | none => K (.k (.fail 11))
    | some t => Bc (drAll a && drAll b) (codeK a tb rec ⟨dep nt, nt, some l, false⟩ t [] H r w (rnd2 l nt b tb rec K)) (K (.k (.fail 24))))
  | _ => K (.k (.fail 13))
noncomputable def taskK : Task → TK := @Task.rec (fun _ => TK)
  (fun f args tb sp rec H r w K => spK (sp f args H) f tb rec args H r w K)
  t_dcall t_round
  (fun b cx t ds tb sp rec H r w K => c_loop b (codeK b) tb rec cx t ds H r w fun x => K (.c x))
  (fun nt res t ds m tb sp rec H r w K => unwindK nt res t ds m tb rec H r w K)
noncomputable def stepK (tb : Tb) (sp : Sp) (ih : RK) : RK := fun tk H r w K => taskK tk tb sp ih H r w K
noncomputable def evK (tb : Tb) (sp : Sp) (n : Nat) : RK :=
  @Nat.rec (fun _ => RK) (fun _ _ _ _ K => K (.k (.fail 0))) (fun _ ih => stepK tb sp ih) n
end Go.Ev.F
end
noncomputable section
namespace Go.Ev.F
variable [SyQ]
theorem evO_eq (x : Operand) (t : T Value) : evO x t = evalO t x := by cases x <;> rfl
theorem evL_eq (t : T Value) : ∀ l, evL l t = evalL t l
  | [] => rfl
  | x :: l => by
    show evO x t :: evL l t = evalO t x :: evalL t l
    rw [evO_eq, evL_eq t l]
def RFRel (H : Hp) (f : RF) (x : R) : Prop := match f with
  | .pv v => x = .val v H 0 0
  | .r y => y = .fail ∨ y = x
theorem pvO_rel (H : Hp) (x : Option Value) : RFRel H (pvO x) (R.o x H) := by
  cases x with
  | none => exact .inl rfl
  | some v => rfl
theorem fa_rel (H : Hp) (off : Nat) (v : Value) : RFRel H (faV v off) (exFa off v H) := by
  cases v with
  | pointer a =>
    cases a with
    | none => exact .inl rfl
    | some a =>
      obtain ⟨b, o, s⟩ := a
      cases s with
      | none => rfl
      | some s => exact .inl rfl
  | _ => exact .inl rfl
theorem ld_rel (H : Hp) (v : Value) : RFRel H (ldV v H) (exLd1 v H) := by
  cases v with
  | pointer a =>
    cases a with
    | none => exact .inl rfl
    | some a =>
      obtain ⟨b, o, s⟩ := a
      cases s with
      | some s => exact .inl rfl
      | none =>
        show RFRel H (ldB (H.blk b) b o H) (match rd1 H b o with | some x => .val x H (bit b) 0 | none => .fail)
        unfold rd1
        cases H.blk b with
        | cells t n ty op lo hi =>
          show RFRel H (Bc (Nat.blt o n) (.r (.val (T.get t o) H (bit b) 0)) (.r .fail)) _
          simp only
          cases Nat.blt o n with
          | true => exact .inr rfl
          | false => exact .inl rfl
        | _ => exact .inl rfl
  | _ => exact .inl rfl
theorem pick_rel (H : Hp) (c a b : Value) : RFRel H (pickV c a b) (exPick c a b H) := by
  cases c with
  | bool x => cases x <;> rfl
  | _ => exact .inl rfl
theorem cInt_rel (H : Hp) (k : IntKind) (v : Value) : RFRel H (cIntV v k) (exCInt k v H) := by
  cases v with
  | int k' n => rfl
  | chan c => exact pvO_rel H (SyO.hk (.cInt k) [.chan c])
  | _ => exact .inl rfl
theorem runF_ok (op : COp) (t : T Value) (H : Hp) : RFRel H (runF op t H) (run op t H) := by
  cases op with
  | mv x => show RFRel H (.pv (evO x t)) _; rw [evO_eq]; rfl
  | pick c a b => show RFRel H (pickV (evO c t) (evO a t) (evO b t)) _; rw [evO_eq, evO_eq, evO_eq]; exact pick_rel _ _ _ _
  | build z ps =>
    show RFRel H (@Option.rec (List Value) (fun _ => RF) (.r .fail) (fun l => .pv (.agg ⟨l⟩)) (fillL t z ps)) (exFill (fillL t z ps) fun l => R.v (.agg ⟨l⟩) H)
    cases fillL t z ps with
    | none => exact .inl rfl
    | some l => rfl
  | bin op x y => show RFRel H (pvO (binV op (evO x t) (evO y t))) _; rw [evO_eq, evO_eq]; exact pvO_rel _ _
  | eq neg p x y =>
    show RFRel H (@Option.rec Bool (fun _ => Bool → RF) (fun _ => .r .fail) (fun b neg => .pv (.bool (Bc neg (!b) b))) (orE (eqV p (evO x t) (evO y t)) p (evO x t) (evO y t)) neg) (exEq neg p (evalO t x) (evalO t y) H)
    rw [evO_eq, evO_eq]
    unfold exEq
    cases orE (eqV p (evalO t x) (evalO t y)) p (evalO t x) (evalO t y) with
    | none => exact .inl rfl
    | some b => rfl
  | cInt k x => show RFRel H (cIntV (evO x t) k) _; rw [evO_eq]; exact cInt_rel _ _ _
  | fa off x => show RFRel H (faV (evO x t) off) _; rw [evO_eq]; exact fa_rel _ _ _
  | mkI ty x => show RFRel H (.pv (.iface ty (evO x t))) _; rw [evO_eq]; rfl
  | ld1 a => show RFRel H (ldV (evO a t) H) _; rw [evO_eq]; exact ld_rel _ _
  | un op x => show RFRel H (.r (exUn op (evO x t) H)) _; rw [evO_eq]; exact .inr rfl
  | fld agg sz off x => show RFRel H (.r (exFld agg sz off (evO x t) H)) _; rw [evO_eq]; exact .inr rfl
  | iaA n sz x i => show RFRel H (.r (exIaA n sz (evO x t) (evO i t) H)) _; rw [evO_eq, evO_eq]; exact .inr rfl
  | iaS sz x i => show RFRel H (.r (exIaS sz (evO x t) (evO i t) H)) _; rw [evO_eq, evO_eq]; exact .inr rfl
  | ixA agg n sz x i => show RFRel H (.r (exIxA agg n sz (evO x t) (evO i t) H)) _; rw [evO_eq, evO_eq]; exact .inr rfl
  | ixS x i => show RFRel H (.r (exIxS (evO x t) (evO i t) H)) _; rw [evO_eq, evO_eq]; exact .inr rfl
  | ext x i => show RFRel H (.r (exExt (evO x t) i H)) _; rw [evO_eq]; exact .inr rfl
  | ldN n a => show RFRel H (.r (exLdN n (evO a t) H)) _; rw [evO_eq]; exact .inr rfl
  | st n a x => show RFRel H (.r (exSt n (evO a t) (evO x t) H)) _; rw [evO_eq, evO_eq]; exact .inr rfl
  | alloc z => exact .inr rfl
  | box ty x => show RFRel H (.r (exFill (cellsO (evO x t)) fun l => alloc1 (blkL l ty 0) H ptrTo 0 0)) _; rw [evO_eq]; exact .inr rfl
  | call f args => show RFRel H (.r (callV (evO f t) (evL args t))) _; rw [evO_eq, evL_eq]; exact .inr rfl
  | len k x => show RFRel H (.r (exLen k (evO x t) H)) _; rw [evO_eq]; exact .inr rfl
  | nilc x => show RFRel H (.r (exNil (evO x t) H)) _; rw [evO_eq]; exact .inr rfl
  | _ => exact .inr rfl
theorem putF_eq (o : Option Tmp) (d : Nat) (t : T Value) (v : Value) : putF o d t v = putT d t o v := by cases o <;> rfl
theorem wantP_eq (p : Tmp × Bool) (t : T Value) : wantP p t = wants t (some p) := by
  obtain ⟨d, w⟩ := p
  show wantB (T.get t d) w = (match asB (t.get d) with | some b => Bc b w (!w) | none => false)
  cases T.get t d with
  | bool b => cases b <;> rfl
  | _ => rfl
theorem compOsF_eq (tb : Tb) (nt : Nat) (ops : Array Oper) : ∀ l, compOsF tb nt ops l = compOs tb nt ops l
  | [] => rfl
  | x :: l => by
    show compO tb nt ops x :: compOsF tb nt ops l = _
    rw [compOsF_eq tb nt ops l]; rfl
theorem okOneF_eq (b rj wj : Nat) : ∀ l, okOneF b rj wj l = okOne b rj wj l
  | [] => rfl
  | (i, ri, wi) :: l => by
    show Bc (Nat.testBit b i) (okOneF b rj wj l) (Bc (Nat.beq (Nat.land wi (Nat.lor rj wj)) 0) (Bc (Nat.beq (Nat.land wj ri) 0) (okOneF b rj wj l) false) false) = _
    rw [okOneF_eq b rj wj l]; rfl
noncomputable def bTg (l : List Nat) : Nat → T Nat → T Nat := @List.rec Nat (fun _ => Nat → T Nat → T Nat) (fun _ t => t) (fun b _ ih i t => ih (Nat.succ i) (T.set 3 t i b)) l
theorem bTg_get : ∀ (l : List Nat) (i : Nat) (t : T Nat) (j : Nat), i + l.length ≤ 512 → j < 512 → (bTg l i t).get j = if i ≤ j ∧ j < i + l.length then l.getD (j - i) 0 else t.get j
  | [], i, t, j, _, _ => by show t.get j = _; rw [if_neg (by simp only [List.length_nil]; omega)]
  | b :: l, i, t, j, h, hj => by
    simp only [List.length_cons] at h ⊢
    show (bTg l (i + 1) (T.set 3 t i b)).get j = _
    rw [bTg_get l (i + 1) _ j (by omega) hj, T.get_set 3 t i j b (by omega) (by omega)]
    by_cases h1 : i + 1 ≤ j ∧ j < i + 1 + l.length
    · rw [if_pos h1, if_pos (by omega), show j - i = (j - (i + 1)) + 1 from by omega, List.getD_cons_succ]
    · rw [if_neg h1]
      by_cases h2 : j = i
      · subst h2; rw [if_pos rfl, if_pos (by omega)]; simp
      · rw [if_neg h2, if_neg (by omega)]
theorem bT_get (B : Array Nat) (h : B.toList.length ≤ 512) (j : Nat) : Bc (Nat.blt j 512) (T.get (bT B.toList) j) 0 = B.getD j 0 := by
  have hl : B.toList.length = B.size := by simp
  cases e : Nat.blt j 512 with
  | true =>
    rw [Bc_t]
    have := bTg_get B.toList 0 (T.e 0) j (by omega) ((blt_iff _ _).1 e)
    show (bTg B.toList 0 (T.e 0)).get j = _
    rw [this]
    by_cases hj : j < B.size
    · rw [if_pos (by omega)]; simp [Array.getD, hj]
    · rw [if_neg (by omega)]; simp [Array.getD, hj]; rfl
  | false =>
    rw [Bc_f]
    have hj : ¬ j < B.size := fun h' => by
      have : Nat.blt j 512 = true := (blt_iff _ _).2 (by omega)
      rw [e] at this; cases this
    simp [Array.getD, hj]
theorem okPairF_eq (B : Array Nat) (h : B.toList.length ≤ 512) : ∀ l, okPairF (bT B.toList) l = okPair B l
  | [] => rfl
  | (j, rj, wj) :: l => by
    show Bc (okOneF (Bc (Nat.blt j 512) (T.get (bT B.toList) j) 0) rj wj l) (okPairF (bT B.toList) l) false = (okOne (B.getD j 0) rj wj l && okPair B l)
    rw [bT_get B h, okOneF_eq, okPairF_eq B h l]
    cases okOne (B.getD j 0) rj wj l <;> rfl
theorem filtF_cons (i r w : Nat) (l : Acc) : filtF ((i, r, w) :: l) = Bc (Nat.beq (Nat.lor r w) 0) (filtF l) ((i, r, w) :: filtF l) := rfl
theorem lor_z {r w : Nat} (h : Nat.lor r w = 0) : r = 0 ∧ w = 0 := by
  have h' : r ||| w = 0 := h
  exact Nat.or_eq_zero_iff.1 h'
theorem filtF_triv (i : Nat) (l : Acc) : filtF ((i, 0, 0) :: l) = filtF l := by
  rw [filtF_cons]
  have : Nat.beq (Nat.lor 0 0) 0 = true := by decide
  rw [this, Bc_t]
theorem okOne_filt (b rj wj : Nat) : ∀ l, okOne b rj wj (filtF l) = okOne b rj wj l
  | [] => rfl
  | (i, ri, wi) :: l => by
    rw [filtF_cons]
    cases h : Nat.beq (Nat.lor ri wi) 0 with
    | false =>
      rw [Bc_f]
      simp only [okOne]
      rw [okOne_filt b rj wj l]
    | true =>
      rw [Bc_t, okOne_filt b rj wj l]
      obtain ⟨rfl, rfl⟩ := lor_z ((beq_iff _ _).1 h)
      simp only [okOne]
      have e1 : Nat.land 0 (Nat.lor rj wj) = 0 := Nat.zero_and _
      have e2 : Nat.land wj 0 = 0 := Nat.and_zero _
      rw [e1, e2]
      cases Nat.testBit b i <;> rfl
theorem okOne_triv (b : Nat) : ∀ l, okOne b 0 0 l = true
  | [] => rfl
  | (i, ri, wi) :: l => by
    simp only [okOne]
    have e1 : Nat.land wi (Nat.lor 0 0) = 0 := Nat.and_zero _
    have e2 : Nat.land 0 ri = 0 := Nat.zero_and _
    rw [e1, e2, okOne_triv b l]
    cases Nat.testBit b i <;> rfl
theorem okPair_filt (B : Array Nat) : ∀ l, okPair B (filtF l) = okPair B l
  | [] => rfl
  | (j, rj, wj) :: l => by
    rw [filtF_cons]
    cases h : Nat.beq (Nat.lor rj wj) 0 with
    | false =>
      rw [Bc_f]
      simp only [okPair]
      rw [okOne_filt, okPair_filt B l]
    | true =>
      rw [Bc_t, okPair_filt B l]
      obtain ⟨rfl, rfl⟩ := lor_z ((beq_iff _ _).1 h)
      simp only [okPair]
      rw [okOne_triv, Bool.true_and]
def joinT (r w : Nat) : TR → TR
  | .k (.ret v H r' w') => .k (.ret v H (Nat.lor r r') (Nat.lor w w'))
  | .k (.panic v H r' w') => .k (.panic v H (Nat.lor r r') (Nat.lor w w'))
  | .k (.drop m H r' w') => .k (.drop m H (Nat.lor r r') (Nat.lor w w'))
  | .k (.dpan v H r' w') => .k (.dpan v H (Nat.lor r r') (Nat.lor w w'))
  | .k (.fail n) => .k (.fail n)
  | .c x => .c (CR.join r w x)
def isF : TR → Prop
  | .k (.fail _) => True
  | .c .fail => True
  | _ => False
def TaskDr : Task → Prop
  | .loop b _ _ _ => drAll b = true
  | _ => True
def RecF (rec : RK) (rec' : Rec) : Prop := ∀ tk H r w K, TaskDr tk → ∃ y, rec tk H r w K = K y ∧ (isF y ∨ y = joinT r w (rec' tk H))
def AccRel : Ex → Acc → Acc → Prop
  | .panic _, a, b => ∃ j rest rest', a = (j, 0, 0) :: rest ∧ b = (j, 0, 0) :: rest' ∧ filtF rest = filtF rest'
  | _, a, b => filtF a = filtF b
def OpsRel (rec' : Rec) (cx : Cx) (l : List CO) (i : Nat) (t : T Value) (ds : List Deferred) (H : Hp) (acc : Acc) (r w r0 w0 : Nat) (z : OR) : Prop :=
  z = .fail ∨ ∃ x t' ds' H' a a' r' w', z = .mk x t' ds' H' a (Nat.lor r0 r') (Nat.lor w0 w') ∧ evOps rec' cx l i t ds H acc r w = .mk x t' ds' H' a' r' w' ∧ AccRel x a a'
theorem opsK_cons (o : CO) (l : List CO) (e : OX) (i : Nat) (t : T Value) (ds : List Deferred) (H : Hp) (m : MS) : opsK (o :: l) e i t ds H m = opG o.guard o (opsK l) e i t ds H m := rfl
theorem opsK_nil (rec : RK) (cx : Cx) (K : OR → TR) (i : Nat) (t : T Value) (ds : List Deferred) (H : Hp) (m : MS) : opsK [] ⟨rec, cx, K⟩ i t ds H m = K (.mk .normal t ds H m.acc m.r m.w) := rfl
theorem goM_eq (m : MS) (r w : Nat) (ih : MS → TR) : goM m r w ih = ih m := by unfold goM; rw [Fz_eq, Fz_eq]
theorem failO_eq (rec : RK) (cx : Cx) (K : OR → TR) (i : Nat) (t : T Value) (ds : List Deferred) (H : Hp) (m : MS) : failO ⟨rec, cx, K⟩ i t ds H m = K .fail := rfl
theorem onVal_eq (v : Value) (H1 : Hp) (r1 w1 : Nat) (o : CO) (ih : OPK) (rec : RK) (cx : Cx) (K : OR → TR) (i : Nat) (t : T Value) (ds : List Deferred) (H : Hp) (m : MS) :
    onVal v H1 r1 w1 o ih ⟨rec, cx, K⟩ i t ds H m = ih ⟨rec, cx, K⟩ (Nat.succ i) (putF o.dst cx.d t v) ds H1 ⟨(i, r1, Nat.lor w1 (rng H H1)) :: m.acc, Nat.lor m.r r1, Nat.lor m.w w1⟩ := by
  unfold onVal; rw [goM_eq]
theorem onPan_eq (H1 : Hp) (v : Value) (r1 w1 : Nat) (rec : RK) (cx : Cx) (K : OR → TR) (i : Nat) (t : T Value) (ds : List Deferred) (H : Hp) (m : MS) :
    onPan H1 v r1 w1 ⟨rec, cx, K⟩ i t ds H m = K (.mk (.panic v) t ds H1 ((i, 0, 0) :: m.acc) (Nat.lor m.r r1) (Nat.lor m.w w1)) := rfl
theorem aftTR_ret (v : Value) (H1 : Hp) (r1 w1 : Nat) (o : CO) (ih : OPK) : aftTR (.k (.ret v H1 r1 w1)) o ih = onVal v H1 r1 w1 o ih := rfl
theorem aftTR_pan (v : Value) (H1 : Hp) (r1 w1 : Nat) (o : CO) (ih : OPK) : aftTR (.k (.panic v H1 r1 w1)) o ih = onPan H1 v r1 w1 := rfl
theorem aftTR_fail (n : Nat) (o : CO) (ih : OPK) : aftTR (.k (.fail n)) o ih = failO := rfl
theorem aftTR_drop (m : FrameMode) (H1 : Hp) (r1 w1 : Nat) (o : CO) (ih : OPK) : aftTR (.k (.drop m H1 r1 w1)) o ih = failO := rfl
theorem aftTR_dpan (v : Value) (H1 : Hp) (r1 w1 : Nat) (o : CO) (ih : OPK) : aftTR (.k (.dpan v H1 r1 w1)) o ih = failO := rfl
theorem aftTR_c (x : CR) (o : CO) (ih : OPK) : aftTR (.c x) o ih = failO := rfl
theorem aftTR2_ret (v : Value) (H1 : Hp) (r1 w1 : Nat) (o : CO) (ih : OPK) : aftTR2 (.k (.ret v H1 r1 w1)) o ih = onVal v H1 r1 w1 o ih := rfl
theorem aftTR2_pan (v : Value) (H1 : Hp) (r1 w1 : Nat) (o : CO) (ih : OPK) : aftTR2 (.k (.panic v H1 r1 w1)) o ih = failO := rfl
theorem aftTR2_fail (n : Nat) (o : CO) (ih : OPK) : aftTR2 (.k (.fail n)) o ih = failO := rfl
theorem aftTR2_drop (m : FrameMode) (H1 : Hp) (r1 w1 : Nat) (o : CO) (ih : OPK) : aftTR2 (.k (.drop m H1 r1 w1)) o ih = failO := rfl
theorem aftTR2_dpan (v : Value) (H1 : Hp) (r1 w1 : Nat) (o : CO) (ih : OPK) : aftTR2 (.k (.dpan v H1 r1 w1)) o ih = failO := rfl
theorem aftTR2_c (x : CR) (o : CO) (ih : OPK) : aftTR2 (.c x) o ih = failO := rfl
theorem onR_fail (o : CO) (ih : OPK) : onR .fail o ih = failO := rfl
theorem onR_rec (o : CO) (ih : OPK) : onR .recover o ih = failO := rfl
theorem onR_val (v : Value) (H1 : Hp) (r1 w1 : Nat) (o : CO) (ih : OPK) : onR (.val v H1 r1 w1) o ih = onVal v H1 r1 w1 o ih := rfl
theorem onR_pan (v : Value) (o : CO) (ih : OPK) (e : OX) (i : Nat) (t : T Value) (ds : List Deferred) (H : Hp) (m : MS) : onR (.panic v) o ih e i t ds H m = onPan H v 0 0 e i t ds H m := rfl
theorem onR_call (f : FuncId) (args : List Value) (o : CO) (ih : OPK) (rec : RK) (cx : Cx) (K : OR → TR) (i : Nat) (t : T Value) (ds : List Deferred) (H : Hp) (m : MS) :
    onR (.call f args) o ih ⟨rec, cx, K⟩ i t ds H m = rec (.call f args) H 0 0 fun x => aftTR x o ih ⟨rec, cx, K⟩ i t ds H m := rfl
theorem onR_round (f : Nat) (args : List Value) (o : CO) (ih : OPK) (rec : RK) (cx : Cx) (K : OR → TR) (i : Nat) (t : T Value) (ds : List Deferred) (H : Hp) (m : MS) :
    onR (.round f args) o ih ⟨rec, cx, K⟩ i t ds H m = rec (.round f args) H 0 0 fun x => aftTR2 x o ih ⟨rec, cx, K⟩ i t ds H m := rfl
theorem onR_def (d : Deferred) (o : CO) (ih : OPK) : onR (.defer d) o ih = defK d o ih := rfl
theorem onRF_pv (v : Value) (o : CO) (ih : OPK) (rec : RK) (cx : Cx) (K : OR → TR) (i : Nat) (t : T Value) (ds : List Deferred) (H : Hp) (m : MS) : onRF (.pv v) o ih ⟨rec, cx, K⟩ i t ds H m = ih ⟨rec, cx, K⟩ (Nat.succ i) (putF o.dst cx.d t v) ds H m := rfl
theorem onRF_r (x : R) (o : CO) (ih : OPK) : onRF (.r x) o ih = onR x o ih := rfl
theorem doOp_eq (o : CO) (ih : OPK) (e : OX) (i : Nat) (t : T Value) (ds : List Deferred) (H : Hp) (m : MS) : doOp o ih e i t ds H m = onRF (runF o.op t H) o ih e i t ds H m := rfl
theorem skipOp_eq (o : CO) (ih : OPK) (rec : RK) (cx : Cx) (K : OR → TR) (i : Nat) (t : T Value) (ds : List Deferred) (H : Hp) (m : MS) : skipOp o ih ⟨rec, cx, K⟩ i t ds H m = ih ⟨rec, cx, K⟩ (Nat.succ i) (putF o.dst cx.d t U) ds H m := rfl
theorem opG_none (o : CO) (ih : OPK) : opG none o ih = doOp o ih := rfl
theorem opG_some (p : Tmp × Bool) (o : CO) (ih : OPK) (e : OX) (i : Nat) (t : T Value) (ds : List Deferred) (H : Hp) (m : MS) : opG (some p) o ih e i t ds H m = selOp (wantP p t) o ih e i t ds H m := rfl
theorem isF_inv {y : TR} (h : isF y) : (∃ n, y = .k (.fail n)) ∨ y = .c .fail := by
  cases y with
  | k x => cases x with
    | fail n => exact .inl ⟨n, rfl⟩
    | _ => exact h.elim
  | c x => cases x with
    | fail => exact .inr rfl
    | mk => exact h.elim
section
variable {rec : RK} {rec' : Rec} (hrec : RecF rec rec') {cx : Cx}
include hrec
theorem opsK_ok : ∀ (l : List CO) (K : OR → TR) (i : Nat) (t : T Value) (ds : List Deferred) (H : Hp) (m : MS) (acc : Acc) (r w r0 w0 : Nat), filtF m.acc = filtF acc → m.r = Nat.lor r0 r → m.w = Nat.lor w0 w →
    ∃ z, opsK l ⟨rec, cx, K⟩ i t ds H m = K z ∧ OpsRel rec' cx l i t ds H acc r w r0 w0 z := by
  intro l
  induction l with
  | nil =>
    intro K i t ds H m acc r w r0 w0 h1 h2 h3
    exact ⟨.mk .normal t ds H m.acc m.r m.w, opsK_nil _ _ _ _ _ _ _ _, .inr ⟨.normal, t, ds, H, m.acc, acc, r, w, by rw [h2, h3], rfl, h1⟩⟩
  | cons o l ih =>
    intro K i t ds H m acc r w r0 w0 h1 h2 h3
    have failing : ∀ {x : TR}, x = K .fail → ∃ z, x = K z ∧ OpsRel rec' cx (o :: l) i t ds H acc r w r0 w0 z := fun h => ⟨.fail, h, .inl rfl⟩
    have val : ∀ (v : Value) (H1 : Hp) (r1 w1 : Nat) (ds1 : List Deferred) (mm : MS) (acc1 : Acc), filtF mm.acc = filtF acc1 → mm.r = Nat.lor r0 (Nat.lor r r1) → mm.w = Nat.lor w0 (Nat.lor w w1) →
        evOps rec' cx (o :: l) i t ds H acc r w = evOps rec' cx l (Nat.succ i) (putT cx.d t o.dst v) ds1 H1 acc1 (Nat.lor r r1) (Nat.lor w w1) →
        ∃ z, opsK l ⟨rec, cx, K⟩ (Nat.succ i) (putF o.dst cx.d t v) ds1 H1 mm = K z ∧ OpsRel rec' cx (o :: l) i t ds H acc r w r0 w0 z := by
      intro v H1 r1 w1 ds1 mm acc1 g1 g2 g3 hev
      rw [putF_eq]
      obtain ⟨z, e, hz⟩ := ih K (Nat.succ i) (putT cx.d t o.dst v) ds1 H1 mm acc1 (Nat.lor r r1) (Nat.lor w w1) r0 w0 g1 g2 g3
      refine ⟨z, e, ?_⟩
      rcases hz with hz | ⟨x, t', ds', H', a, a', r', w', e1, e2, e3⟩
      · exact .inl hz
      · exact .inr ⟨x, t', ds', H', a, a', r', w', e1, by rw [hev]; exact e2, e3⟩
    have onV : ∀ (v : Value) (H1 : Hp) (r1 w1 : Nat), evOps rec' cx (o :: l) i t ds H acc r w = evOps rec' cx l (Nat.succ i) (putT cx.d t o.dst v) ds H1 ((i, r1, Nat.lor w1 (rng H H1)) :: acc) (Nat.lor r r1) (Nat.lor w w1) →
        ∃ z, onVal v H1 r1 w1 o (opsK l) ⟨rec, cx, K⟩ i t ds H m = K z ∧ OpsRel rec' cx (o :: l) i t ds H acc r w r0 w0 z := by
      intro v H1 r1 w1 hev
      rw [onVal_eq]
      exact val v H1 r1 w1 ds _ _ (by rw [filtF_cons, filtF_cons, h1]) (by show Nat.lor m.r r1 = _; rw [h2, lor_assoc']) (by show Nat.lor m.w w1 = _; rw [h3, lor_assoc']) hev
    have onP : ∀ (v : Value) (H1 : Hp) (r1 w1 : Nat), evOps rec' cx (o :: l) i t ds H acc r w = .mk (.panic v) t ds H1 ((i, 0, 0) :: acc) (Nat.lor r r1) (Nat.lor w w1) →
        ∃ z, onPan H1 v r1 w1 ⟨rec, cx, K⟩ i t ds H m = K z ∧ OpsRel rec' cx (o :: l) i t ds H acc r w r0 w0 z := by
      intro v H1 r1 w1 hev
      rw [onPan_eq]
      exact ⟨_, rfl, .inr ⟨.panic v, t, ds, H1, (i, 0, 0) :: m.acc, (i, 0, 0) :: acc, Nat.lor r r1, Nat.lor w w1, by rw [h2, h3, lor_assoc', lor_assoc'], hev, i, m.acc, acc, rfl, rfl, h1⟩⟩
    have main : wants t o.guard = true → ∃ z, doOp o (opsK l) ⟨rec, cx, K⟩ i t ds H m = K z ∧ OpsRel rec' cx (o :: l) i t ds H acc r w r0 w0 z := by
      intro hwt
      have hr := runF_ok o.op t H
      rw [doOp_eq]
      generalize runF o.op t H = fx at hr
      cases fx with
      | pv v =>
        have hr : run o.op t H = .val v H 0 0 := hr
        rw [onRF_pv]
        have e : rng H H = 0 := Nat.sub_self _
        have e2 : Nat.lor 0 (rng H H) = 0 := by rw [e]; decide
        refine val v H 0 0 ds m ((i, 0, Nat.lor 0 (rng H H)) :: acc) (by rw [e2, filtF_triv, h1]) (by rw [h2, lor_zero']) (by rw [h3, lor_zero']) ?_
        simp only [evOps, hwt, Bc_t, hr, stepR]
      | r x =>
        rw [onRF_r]
        rcases hr with rfl | hr
        · rw [onR_fail]; exact failing (failO_eq _ _ _ _ _ _ _ _)
        · cases hx : run o.op t H with
          | fail => rw [hr, hx, onR_fail]; exact failing (failO_eq _ _ _ _ _ _ _ _)
          | recover => rw [hr, hx, onR_rec]; exact failing (failO_eq _ _ _ _ _ _ _ _)
          | val v H1 r1 w1 =>
            rw [hr, hx, onR_val]
            exact onV v H1 r1 w1 (by simp only [evOps, hwt, Bc_t, hx, stepR])
          | panic v =>
            rw [hr, hx, onR_pan]
            exact onP v H 0 0 (by simp only [evOps, hwt, Bc_t, hx, stepR])
          | call f args =>
            rw [hr, hx, onR_call]
            obtain ⟨y, e, hy⟩ := hrec (.call f args) H 0 0 (fun x => aftTR x o (opsK l) ⟨rec, cx, K⟩ i t ds H m) trivial
            rw [e]
            clear e
            rcases hy with hy | hy
            · rcases isF_inv hy with ⟨n, rfl⟩ | rfl
              · rw [aftTR_fail]; exact failing (failO_eq _ _ _ _ _ _ _ _)
              · rw [aftTR_c]; exact failing (failO_eq _ _ _ _ _ _ _ _)
            · subst hy
              cases hrr : rec' (.call f args) H with
              | c x => simp only [joinT, aftTR_c]; exact failing (failO_eq _ _ _ _ _ _ _ _)
              | k x =>
                cases x with
                | fail n => simp only [joinT, aftTR_fail]; exact failing (failO_eq _ _ _ _ _ _ _ _)
                | drop m' H' r' w' => simp only [joinT, aftTR_drop]; exact failing (failO_eq _ _ _ _ _ _ _ _)
                | dpan v H' r' w' => simp only [joinT, aftTR_dpan]; exact failing (failO_eq _ _ _ _ _ _ _ _)
                | ret v H1 r1 w1 =>
                  simp only [joinT, aftTR_ret, zero_lor']
                  exact onV v H1 r1 w1 (by simp only [evOps, hwt, Bc_t, hx, stepR, afterCall, hrr])
                | panic v H1 r1 w1 =>
                  simp only [joinT, aftTR_pan, zero_lor']
                  exact onP v H1 r1 w1 (by simp only [evOps, hwt, Bc_t, hx, stepR, afterCall, hrr])
          | round f args =>
            rw [hr, hx, onR_round]
            obtain ⟨y, e, hy⟩ := hrec (.round f args) H 0 0 (fun x => aftTR2 x o (opsK l) ⟨rec, cx, K⟩ i t ds H m) trivial
            rw [e]
            clear e
            rcases hy with hy | hy
            · rcases isF_inv hy with ⟨n, rfl⟩ | rfl
              · rw [aftTR2_fail]; exact failing (failO_eq _ _ _ _ _ _ _ _)
              · rw [aftTR2_c]; exact failing (failO_eq _ _ _ _ _ _ _ _)
            · subst hy
              cases hrr : rec' (.round f args) H with
              | c x => simp only [joinT, aftTR2_c]; exact failing (failO_eq _ _ _ _ _ _ _ _)
              | k x =>
                cases x with
                | fail n => simp only [joinT, aftTR2_fail]; exact failing (failO_eq _ _ _ _ _ _ _ _)
                | drop m' H' r' w' => simp only [joinT, aftTR2_drop]; exact failing (failO_eq _ _ _ _ _ _ _ _)
                | dpan v H' r' w' => simp only [joinT, aftTR2_dpan]; exact failing (failO_eq _ _ _ _ _ _ _ _)
                | panic v H1 r1 w1 => simp only [joinT, aftTR2_pan]; exact failing (failO_eq _ _ _ _ _ _ _ _)
                | ret v H1 r1 w1 =>
                  simp only [joinT, aftTR2_ret, zero_lor']
                  exact onV v H1 r1 w1 (by simp only [evOps, hwt, Bc_t, hx, stepR, afterCall, hrr])
          | defer d =>
            rw [hr, hx, onR_def]
            unfold defK
            cases hc1 : cx.rnd with
            | some l => simp only [hc1]; exact failing rfl
            | none =>
              cases hc2 : cx.drw with
              | true => simp only [hc1, hc2]; exact failing rfl
              | false =>
                simp only [hc1, hc2]
                exact val U H 0 0 (d :: ds) m acc h1 (by rw [h2, lor_zero']) (by rw [h3, lor_zero']) (by simp only [evOps, hwt, Bc_t, hx, stepR, hc1, hc2, lor_zero'])
    rw [opsK_cons]
    cases hg : o.guard with
    | none =>
      rw [opG_none]
      exact main (by rw [hg]; rfl)
    | some p =>
      rw [opG_some, wantP_eq, ← hg]
      cases hwt : wants t o.guard with
      | true => exact main hwt
      | false =>
        show ∃ z, skipOp o (opsK l) ⟨rec, cx, K⟩ i t ds H m = K z ∧ _
        rw [skipOp_eq]
        exact val U H 0 0 ds m acc h1 (by rw [h2, lor_zero']) (by rw [h3, lor_zero']) (by simp only [evOps, hwt, Bc_f, lor_zero'])
end
end Go.Ev.F
end
noncomputable section
namespace Go.Ev.F
variable [SyQ]
theorem join_join (r w r1 w1 : Nat) (x : CR) : CR.join (Nat.lor r r1) (Nat.lor w w1) x = CR.join r w (CR.join r1 w1 x) := by
  cases x with
  | fail => rfl
  | mk x t ds H r' w' => simp only [CR.join, lor_assoc']
theorem endOR_mk (x : Ex) (t : T Value) (ds : List Deferred) (H : Hp) (a : Acc) (r w : Nat) (K : CR → TR) : endOR (.mk x t ds H a r w) K = K (.mk x t ds H r w) := rfl
theorem crGo_fail (k : CK) (tb : Tb) (rec : RK) (cx : Cx) (K : CR → TR) : crGo .fail k tb rec cx K = K .fail := rfl
theorem crGo_norm (t : T Value) (ds : List Deferred) (H : Hp) (r w : Nat) (k : CK) (tb : Tb) (rec : RK) (cx : Cx) (K : CR → TR) : crGo (.mk .normal t ds H r w) k tb rec cx K = k tb rec cx t ds H r w K := rfl
theorem crGo_not {x : Ex} (hx : x ≠ .normal) (t : T Value) (ds : List Deferred) (H : Hp) (r w : Nat) (k : CK) (tb : Tb) (rec : RK) (cx : Cx) (K : CR → TR) : crGo (.mk x t ds H r w) k tb rec cx K = K (.mk x t ds H r w) := by
  cases x with
  | normal => exact absurd rfl hx
  | _ => rfl
theorem outK_eq (x : CR) (id : Nat) (K : CR → TR) : outK x id K = K (outBlock id x) := by
  cases x with
  | fail => rfl
  | mk x t ds H r w =>
    cases x with
    | exit j =>
      show Bc (Nat.beq j id) (K (.mk .normal t ds H r w)) (K (.mk (.exit j) t ds H r w)) = K (Bc (Nat.beq j id) (.mk .normal t ds H r w) (.mk (.exit j) t ds H r w))
      cases Nat.beq j id <;> rfl
    | _ => rfl
theorem outBlock_join (id r w : Nat) (x : CR) : outBlock id (CR.join r w x) = CR.join r w (outBlock id x) := by
  cases x with
  | fail => rfl
  | mk x t ds H r' w' =>
    cases x with
    | exit j =>
      show Bc (Nat.beq j id) _ _ = CR.join r w (Bc (Nat.beq j id) _ _)
      cases Nat.beq j id <;> rfl
    | _ => rfl
theorem ofTRK_c (x : CR) (K : CR → TR) : ofTRK (.c x) K = K x := rfl
theorem ofTRK_k (x : KR) (K : CR → TR) : ofTRK (.k x) K = K .fail := rfl
def CRel (z y : CR) : Prop := z = .fail ∨ z = y
theorem endORd_eq (tb : Tb) (nt d : Nat) (ops : Array Oper) {x : Ex} {t : T Value} {ds : List Deferred} {H : Hp} {a a' : Acc} {r w : Nat} (h : AccRel x a a') :
    endORd tb nt d ops (.mk x t ds H a r w) = ofORd tb nt d ops (Region.before ops) (.mk x t ds H a' r w) := by
  cases x with
  | normal =>
    show Bc (Nat.ble (Go.CheckFast.beforeF ops).toList.length 512) (okDraw (bT (Go.CheckFast.beforeF ops).toList) a (.mk .normal t ds H r w)) (Bc (okPair (Go.CheckFast.beforeF ops) a) (.mk .normal t ds H r w) .fail) = Bc (okPair (Region.before ops) a') (.mk .normal t ds H r w) .fail
    have h : filtF a = filtF a' := h
    cases e : Nat.ble (Go.CheckFast.beforeF ops).toList.length 512 with
    | true =>
      rw [Bc_t]
      unfold okDraw
      rw [okPairF_eq _ ((ble_iff _ _).1 e), h, okPair_filt, Go.CheckFast.beforeF_eq]
    | false => rw [Bc_f, ← okPair_filt _ a, h, okPair_filt, Go.CheckFast.beforeF_eq]
  | panic v =>
    obtain ⟨j, rest, rest', rfl, rfl, h⟩ := h
    show ofORd tb nt d ops (Go.CheckFast.beforeF ops) (.mk (.panic v) t ds H ((j, 0, 0) :: rest) r w) = _
    rw [Go.CheckFast.beforeF_eq]
    simp only [ofORd]
    rw [← okPair_filt _ rest, h, okPair_filt]
  | _ => rfl
theorem drAll_seq {a b : Code} (h : drAll (.seq a b) = true) : drAll a = true ∧ drAll b = true := by
  have h : Bc (drAll a) (drAll b) false = true := h
  cases ha : drAll a with
  | true => rw [ha] at h; exact ⟨rfl, h⟩
  | false => rw [ha] at h; cases h
section
variable {tb : Tb} {rec : RK} {rec' : Rec} (hrec : RecF rec rec')
include hrec
theorem loop_ok {cx : Cx} {b : Code} (hb : drAll b = true) (ih : ∀ (t : T Value) (ds : List Deferred) (H : Hp) (r w : Nat) (K : CR → TR), ∃ z, codeK b tb rec cx t ds H r w K = K z ∧ CRel z (CR.join r w (evCC tb rec' cx b t ds H))) (t : T Value) (ds : List Deferred) (H : Hp) (r w : Nat) (K : CR → TR) :
    ∃ z, c_loop b (codeK b) tb rec cx t ds H r w K = K z ∧ CRel z (CR.join r w (Bc (tb.hk cx.nt b) (sumUp tb b t ds H) (CR.andThen (evCC tb rec' cx b t ds H) fun t ds H => CR.ofTR (rec' (.loop b cx t ds) H)))) := by
  show ∃ z, condB (tb.hk cx.nt b) (sumK b) (loopK b (codeK b)) tb rec cx t ds H r w K = K z ∧ _
  cases tb.hk cx.nt b with
  | true => exact ⟨_, rfl, .inr rfl⟩
  | false =>
    rw [Bc_f]
    show ∃ z, codeK b tb rec cx t ds H r w (fun x => crGo x (againK b) tb rec cx K) = K z ∧ _
    obtain ⟨z, e, hz⟩ := ih t ds H r w (fun x => crGo x (againK b) tb rec cx K)
    rw [e]
    clear e
    rcases hz with rfl | rfl
    · rw [crGo_fail]; exact ⟨_, rfl, .inl rfl⟩
    · cases hev : evCC tb rec' cx b t ds H with
      | fail => exact ⟨_, rfl, .inl rfl⟩
      | mk x t1 ds1 H1 r1 w1 =>
        simp only [CR.join]
        by_cases hx : x = .normal
        · subst hx
          rw [crGo_norm]
          show ∃ z, rec (.loop b cx t1 ds1) H1 (Nat.lor r r1) (Nat.lor w w1) (fun x => ofTRK x K) = K z ∧ _
          obtain ⟨y, e, hy⟩ := hrec (.loop b cx t1 ds1) H1 (Nat.lor r r1) (Nat.lor w w1) (fun x => ofTRK x K) hb
          rw [e]
          clear e
          rcases hy with hy | hy
          · rcases isF_inv hy with ⟨n, rfl⟩ | rfl
            · rw [ofTRK_k]; exact ⟨_, rfl, .inl rfl⟩
            · rw [ofTRK_c]; exact ⟨_, rfl, .inl rfl⟩
          · subst hy
            cases hr : rec' (.loop b cx t1 ds1) H1 with
            | c x =>
              simp only [joinT, ofTRK_c]
              refine ⟨_, rfl, .inr ?_⟩
              simp only [CR.andThen, hr, CR.ofTR]
              exact join_join _ _ _ _ _
            | k x =>
              cases x <;> exact ⟨_, rfl, .inl rfl⟩
        · rw [crGo_not hx]
          refine ⟨_, rfl, .inr ?_⟩
          cases x <;> first | exact absurd rfl hx | rfl
theorem codeK_ok : ∀ (c : Code), drAll c = true → ∀ (cx : Cx) (t : T Value) (ds : List Deferred) (H : Hp) (r w : Nat) (K : CR → TR), ∃ z, codeK c tb rec cx t ds H r w K = K z ∧ CRel z (CR.join r w (evCC tb rec' cx c t ds H)) := by
  intro c
  induction c with
  | skip => intro _ cx t ds H r w K; exact ⟨.mk .normal t ds H r w, rfl, .inr (by simp only [evCC, CR.join, lor_zero'])⟩
  | label l => intro _ cx t ds H r w K; exact ⟨.mk .normal t ds H r w, rfl, .inr (by simp only [evCC, CR.join, lor_zero'])⟩
  | ret => intro _ cx t ds H r w K; exact ⟨.mk .ret t ds H r w, rfl, .inr (by simp only [evCC, CR.join, lor_zero'])⟩
  | exit id => intro _ cx t ds H r w K; exact ⟨.mk (.exit id) t ds H r w, rfl, .inr (by simp only [evCC, CR.join, lor_zero'])⟩
  | goto l => intro _ cx t ds H r w K; exact ⟨.mk (.goto l) t ds H r w, rfl, .inr (by simp only [evCC, CR.join, lor_zero'])⟩
  | refuse y => intro _ cx t ds H r w K; exact ⟨.fail, rfl, .inl rfl⟩
  | scope b ih => intro _ cx t ds H r w K; exact ⟨.fail, rfl, .inl rfl⟩
  | region id ops draw =>
    intro hd cx t ds H r w K
    cases draw with
    | false =>
      show ∃ z, opsK (compOsF tb cx.nt ops ops.toList) ⟨rec, cx, fun x => endOR x K⟩ 0 t ds H ⟨[], r, w⟩ = K z ∧ _
      rw [compOsF_eq]
      obtain ⟨z, e, hz⟩ := opsK_ok hrec (cx := cx) (compOs tb cx.nt ops ops.toList) (fun x => endOR x K) 0 t ds H ⟨[], r, w⟩ [] 0 0 r w rfl (lor_zero' _).symm (lor_zero' _).symm
      rw [e]
      rcases hz with rfl | ⟨x, t', ds', H', a, a', r', w', rfl, e2, e3⟩
      · exact ⟨.fail, rfl, .inl rfl⟩
      · rw [endOR_mk]
        exact ⟨_, rfl, .inr (by simp only [evCC, e2, ofOR, CR.join])⟩
    | true =>
      have hd : drawOk ops (Region.before ops) = true := hd
      show ∃ z, opsK (compOsF tb cx.nt ops ops.toList) ⟨rec, ⟨cx.d, cx.nt, cx.rnd, true⟩, fun x => K (CR.join r w (endORd tb cx.nt cx.d ops x))⟩ 0 t ds H ⟨[], 0, 0⟩ = K z ∧ _
      rw [compOsF_eq]
      obtain ⟨z, e, hz⟩ := opsK_ok hrec (cx := ⟨cx.d, cx.nt, cx.rnd, true⟩) (compOs tb cx.nt ops ops.toList) (fun x => K (CR.join r w (endORd tb cx.nt cx.d ops x))) 0 t ds H ⟨[], 0, 0⟩ [] 0 0 0 0 rfl rfl rfl
      rw [e]
      rcases hz with rfl | ⟨x, t', ds', H', a, a', r', w', rfl, e2, e3⟩
      · exact ⟨.fail, rfl, .inl rfl⟩
      · refine ⟨_, rfl, .inr ?_⟩
        rw [zero_lor', zero_lor', endORd_eq tb cx.nt cx.d ops e3]
        simp only [evCC, hd, Bc_t, e2]
  | seq a b iha ihb =>
    intro hd cx t ds H r w K
    obtain ⟨ha, hb⟩ := drAll_seq hd
    show ∃ z, codeK a tb rec cx t ds H r w (fun x => crGo x (codeK b) tb rec cx K) = K z ∧ _
    obtain ⟨z, e, hz⟩ := iha ha cx t ds H r w (fun x => crGo x (codeK b) tb rec cx K)
    rw [e]
    clear e
    simp only [evCC]
    rcases hz with rfl | rfl
    · rw [crGo_fail]; exact ⟨_, rfl, .inl rfl⟩
    · cases hev : evCC tb rec' cx a t ds H with
      | fail => exact ⟨_, rfl, .inl rfl⟩
      | mk x t1 ds1 H1 r1 w1 =>
        simp only [CR.join]
        by_cases hx : x = .normal
        · subst hx
          rw [crGo_norm]
          obtain ⟨z2, e2, hz2⟩ := ihb hb cx t1 ds1 H1 (Nat.lor r r1) (Nat.lor w w1) K
          rw [e2]
          refine ⟨z2, rfl, hz2.imp id fun h => h.trans ?_⟩
          simp only [CR.andThen]
          exact join_join _ _ _ _ _
        · rw [crGo_not hx]
          refine ⟨_, rfl, .inr ?_⟩
          cases x <;> first | exact absurd rfl hx | rfl
  | cond c a b iha ihb =>
    intro hd cx t ds H r w K
    obtain ⟨ha, hb⟩ := drAll_seq (a := a) (b := b) hd
    show ∃ z, Bc (okO tb cx.nt c) (condV (evO c t) (codeK a) (codeK b) tb rec cx t ds H r w K) (K .fail) = K z ∧ _
    simp only [evCC]
    cases okO tb cx.nt c with
    | false => exact ⟨.fail, rfl, .inl rfl⟩
    | true =>
      rw [Bc_t, Bc_t, evO_eq]
      cases evalO t c with
      | bool x =>
        cases x with
        | true => exact iha ha cx t ds H r w K
        | false => exact ihb hb cx t ds H r w K
      | _ => exact ⟨.fail, rfl, .inl rfl⟩
  | block id b ih =>
    intro hd cx t ds H r w K
    show ∃ z, codeK b tb rec cx t ds H r w (fun x => outK x id K) = K z ∧ _
    obtain ⟨z, e, hz⟩ := ih hd cx t ds H r w (fun x => outK x id K)
    rw [e, outK_eq]
    simp only [evCC]
    refine ⟨_, rfl, ?_⟩
    rcases hz with rfl | rfl
    · exact .inl rfl
    · exact .inr (outBlock_join _ _ _ _)
  | loop b ih =>
    intro hd cx t ds H r w K
    simp only [evCC]
    show ∃ z, c_loop b (codeK b) tb rec cx t ds H r w K = K z ∧ _
    exact loop_ok (tb := tb) (cx := cx) (b := b) hrec hd (fun t ds H r w K => ih hd cx t ds H r w K) t ds H r w K
  | rangeFunc f ps a b _ _ =>
    intro hd cx t ds H r w K
    show ∃ z, c_range f ps a b tb rec cx t ds H r w K = K z ∧ _
    unfold c_range
    simp only [evCC, evRange]
    cases cx.rnd with
    | some l => exact ⟨.fail, rfl, .inl rfl⟩
    | none =>
      simp only
      cases okO tb cx.nt f && ps.toList.all (fun p => Nat.blt p cx.nt) with
      | false => exact ⟨.fail, rfl, .inl rfl⟩
      | true =>
        rw [Bc_t, Bc_t]
        split
        · rename_i k1 db H1 r1 w1 h1
          simp only [h1]
          split
          · rename_i k2 l H2 r2 w2 h2
            simp only [h2]
            split
            · rename_i g args h3
              simp only [h3]
              cases hasBody tb g with
              | false => exact ⟨.fail, rfl, .inl rfl⟩
              | true =>
                rw [Bc_t, Bc_t]
                obtain ⟨y, e, hy⟩ := hrec (.call g args) H2 0 0 (fun x => K (CR.join r w (afterRange l t ({ target := .collected db, args := #[] } :: ds) x))) trivial
                rw [e]
                refine ⟨_, rfl, ?_⟩
                rcases hy with hy | hy
                · rcases isF_inv hy with ⟨n, rfl⟩ | rfl <;> exact .inl rfl
                · right
                  rw [hy]
                  cases rec' (.call g args) H2 with
                  | c x => rfl
                  | k x =>
                    cases x with
                    | ret v H' r' w' => simp only [joinT, zero_lor']
                    | panic v H' r' w' => simp only [joinT, zero_lor']
                    | _ => rfl
            · exact ⟨.fail, rfl, .inl rfl⟩
          · exact ⟨.fail, rfl, .inl rfl⟩
        · exact ⟨.fail, rfl, .inl rfl⟩
end
end Go.Ev.F
end
noncomputable section
namespace Go.Ev.F
variable [SyQ]
def DrOk (tb : Tb) : Prop := ∀ f fn c, tb.fn f = some fn → fn.body = some c → drAll c = true
def Kd : TR → Prop
  | .k (.ret _ _ _ _) => True
  | .k (.panic _ _ _ _) => True
  | _ => False
def Shp : Task → TR → Prop
  | .loop _ _ _ _, _ => True
  | .dcall _ _ _, _ => True
  | _, y => Kd y
def RecS (rec : RK) (rec' : Rec) : Prop := ∀ tk H r w K, TaskDr tk → ∃ y, rec tk H r w K = K y ∧ (isF y ∨ (y = joinT r w (rec' tk H) ∧ Shp tk y))
theorem RecS.f {rec : RK} {rec' : Rec} (h : RecS rec rec') : RecF rec rec' := fun tk H r w K hd => let ⟨y, e, hy⟩ := h tk H r w K hd; ⟨y, e, hy.imp id (·.1)⟩
theorem joinT_join (r w r1 w1 : Nat) (x : TR) : joinT (Nat.lor r r1) (Nat.lor w w1) x = joinT r w (joinT r1 w1 x) := by
  cases x with
  | c x => simp only [joinT, join_join]
  | k x => cases x <;> simp only [joinT, lor_assoc']
theorem joinT_kr {r w r1 w1 : Nat} {x : TR} (h : Kd (joinT r w x)) : joinT r1 w1 x = KR.join r1 w1 x := by
  cases x with
  | c x => exact h.elim
  | k x =>
    cases x with
    | ret v H r' w' => simp only [joinT, KR.join, Fz_eq]
    | panic v H r' w' => rfl
    | fail n => exact h.elim
    | drop m H r' w' => exact h.elim
    | dpan v H r' w' => exact h.elim
theorem lor_ac1 (a r r1 r2 : Nat) : Nat.lor a (Nat.lor (Nat.lor r r1) r2) = Nat.lor r (Nat.lor (Nat.lor a r1) r2) := by
  show a ||| (r ||| r1 ||| r2) = r ||| (a ||| r1 ||| r2)
  ac_rfl
theorem lor_ac2 (a w w1 w2 : Nat) : Nat.lor a (Nat.lor (Nat.lor (Nat.lor w w1) w2) a) = Nat.lor w (Nat.lor (Nat.lor w1 a) (Nat.lor w2 a)) := by
  show a ||| (w ||| w1 ||| w2 ||| a) = w ||| (w1 ||| a ||| (w2 ||| a))
  ac_rfl
theorem endRound_ok (l r w r1 w1 : Nat) (x : CR) : isF (endRound l (bit l) (bit l) (CR.join (Nat.lor r r1) (Nat.lor w w1) x)) ∨ (endRound l (bit l) (bit l) (CR.join (Nat.lor r r1) (Nat.lor w w1) x) = joinT r w (endRound l (Nat.lor (bit l) r1) (Nat.lor w1 (bit l)) x) ∧ Kd (endRound l (bit l) (bit l) (CR.join (Nat.lor r r1) (Nat.lor w w1) x))) := by
  cases x with
  | fail => exact .inl trivial
  | mk x t ds H r2 w2 =>
    simp only [CR.join, endRound]
    split
    · cases x with
      | panic v => exact .inl trivial
      | _ => exact .inr ⟨by simp only [joinT]; rw [lor_ac1, lor_ac2], trivial⟩
    · exact .inl trivial
section
variable {tb : Tb} {sp : Sp} {rec : RK} {rec' : Rec} (hrec : RecS rec rec') (hdr : DrOk tb)
include hrec
theorem unw_ok (nt : Nat) (res : List ResultVar) (m : FrameMode) (t : T Value) (ds : List Deferred) (H : Hp) (r w r1 w1 : Nat) (K : TR → TR) :
    ∃ y, rec (.unwind nt res t ds m) H (Nat.lor r r1) (Nat.lor w w1) K = K y ∧ (isF y ∨ (y = joinT r w (KR.join r1 w1 (rec' (.unwind nt res t ds m) H)) ∧ Kd y)) := by
  obtain ⟨y, e, hy⟩ := hrec (.unwind nt res t ds m) H (Nat.lor r r1) (Nat.lor w w1) K trivial
  refine ⟨y, e, hy.imp id fun ⟨h1, h2⟩ => ⟨?_, h2⟩⟩
  have h2 : Kd y := h2
  rw [h1] at h2 ⊢
  rw [joinT_join, joinT_kr h2]
theorem body_ok (fn : Func) (x : CR) (r w : Nat) (K : TR → TR) : ∃ y, bodyK (CR.join r w x) fn tb rec K = K y ∧ (isF y ∨ (y = joinT r w (afterBody rec' fn x) ∧ Kd y)) := by
  cases x with
  | fail => exact ⟨_, rfl, .inl trivial⟩
  | mk x t ds H r1 w1 =>
    cases x with
    | normal => exact unw_ok hrec fn.ntmps fn.results.toList .returning t ds H r w r1 w1 K
    | ret => exact unw_ok hrec fn.ntmps fn.results.toList .returning t ds H r w r1 w1 K
    | exit id => exact ⟨.k (.fail 2), rfl, .inl trivial⟩
    | goto l => exact ⟨.k (.fail 2), rfl, .inl trivial⟩
    | panic v => exact unw_ok hrec fn.ntmps fn.results.toList (.panicking [{ v, recovered := false }]) t ds H r w r1 w1 K
include hdr
theorem call_ok (f : FuncId) (args : List Value) (H : Hp) (r w : Nat) (K : TR → TR) : ∃ y, callF (tb.fn f) tb rec args H r w K = K y ∧ (isF y ∨ (y = joinT r w (evCall tb rec' f args H) ∧ Kd y)) := by
  unfold evCall
  cases hf : tb.fn f with
  | none => exact ⟨.k (.fail 3), rfl, .inl trivial⟩
  | some fn =>
    show ∃ y, callB fn.body fn tb rec args H r w K = K y ∧ _
    simp only
    cases hb : fn.body with
    | none => exact ⟨.k (.fail 4), rfl, .inl trivial⟩
    | some c =>
      show ∃ y, callC c fn tb rec args H r w K = K y ∧ _
      unfold callC
      simp only
      cases Nat.ble args.length fn.ntmps with
      | false => exact ⟨.k (.fail 14), rfl, .inl trivial⟩
      | true =>
        rw [Bc_t, Bc_t]
        obtain ⟨z, e, hz⟩ := codeK_ok (tb := tb) hrec.f c (hdr f fn c hf hb) ⟨dep fn.ntmps, fn.ntmps, none, false⟩ (enterT fn args) [] H r w (fun x => bodyK x fn tb rec K)
        rw [e]
        rcases hz with rfl | rfl
        · exact ⟨_, rfl, .inl trivial⟩
        · exact body_ok hrec fn _ r w K
omit hdr
theorem unwind_ok (nt : Nat) (res : List ResultVar) (t : T Value) (ds : List Deferred) (m : FrameMode) (H : Hp) (r w : Nat) (K : TR → TR) :
    ∃ y, unwindK nt res t ds m tb rec H r w K = K y ∧ (isF y ∨ (y = joinT r w (evUnwind tb rec' nt res t ds m H) ∧ Kd y)) := by
  unfold unwindK evUnwind
  cases ds with
  | nil =>
    simp only
    unfold unwEnd
    split
    · split
      · rename_i l r' h
        refine ⟨.k (.ret (resV l) H (Nat.lor r r') w), by unfold unwRet; rw [Fz_eq], .inr ⟨?_, trivial⟩⟩
        simp only [joinT, lor_zero', h]
      · exact ⟨_, rfl, .inl trivial⟩
    · rename_i v
      refine ⟨_, rfl, .inr ⟨?_, trivial⟩⟩
      simp only [joinT, lor_zero']
    · exact ⟨_, rfl, .inl trivial⟩
  | cons d ds =>
    simp only
    generalize hd : d.target = tg
    split
    · rename_i b
      simp only
      generalize H.blk b = bk
      split
      · have := unw_ok hrec nt res m t ds (H.put b .no) r w 0 (bit b) K
        rw [lor_zero'] at this
        exact this
      · exact ⟨_, rfl, .inl trivial⟩
    · rename_i f cap
      simp only
      obtain ⟨y, e, hy⟩ := hrec (.dcall f (d.args.toList ++ cap.toList) m) H r w (aftDefK nt res t ds rec K) trivial
      rw [e]
      clear e
      unfold afterDefer
      rcases hy with hy | ⟨hy, _⟩
      · rcases isF_inv hy with ⟨n, rfl⟩ | rfl
        · exact ⟨_, rfl, .inl trivial⟩
        · exact ⟨_, rfl, .inl trivial⟩
      · subst hy
        cases rec' (.dcall f (d.args.toList ++ cap.toList) m) H with
        | c x => exact ⟨.k (.fail 5), rfl, .inl trivial⟩
        | k x =>
          cases x with
          | ret v H' r' w' => exact ⟨.k (.fail 5), rfl, .inl trivial⟩
          | panic v H' r' w' => exact ⟨.k (.fail 5), rfl, .inl trivial⟩
          | fail n => exact ⟨.k (.fail 5), rfl, .inl trivial⟩
          | dpan v H' r' w' => exact unw_ok hrec nt res (.panicking [{ v, recovered := false }]) t ds H' r w r' w' K
          | drop m' H' r' w' =>
            simp only [joinT, aftDefK]
            cases hs : settleM m' with
            | run => exact ⟨_, rfl, .inl trivial⟩
            | returning => exact unw_ok hrec nt res .returning t ds H' r w r' w' K
            | panicking l => exact unw_ok hrec nt res (.panicking l) t ds H' r w r' w' K
    · exact ⟨_, rfl, .inl trivial⟩
theorem round_ok (l : Nat) (args : List Value) (H : Hp) (r w : Nat) (K : TR → TR) : ∃ y, t_round l args tb sp rec H r w K = K y ∧ (isF y ∨ (y = joinT r w (evRound tb rec' l args H) ∧ Kd y)) := by
  unfold t_round
  split
  · rename_i nt lt ps a b db hbk
    split
    · exact ⟨_, rfl, .inl trivial⟩
    · rename_i t hset
      cases hd : drAll a && drAll b with
      | false => exact ⟨.k (.fail 24), rfl, .inl trivial⟩
      | true =>
        rw [Bc_t]
        rw [Bool.and_eq_true] at hd
        obtain ⟨z, e, hz⟩ := codeK_ok (tb := tb) hrec.f a hd.1 ⟨dep nt, nt, some l, false⟩ t [] H r w (rnd2 l nt b tb rec K)
        rw [e]
        clear e
        rcases hz with rfl | rfl
        · exact ⟨_, rfl, .inl trivial⟩
        · cases hev : evCC tb rec' ⟨dep nt, nt, some l, false⟩ a t [] H with
          | fail => exact ⟨.k (.fail 12), rfl, .inl trivial⟩
          | mk x t1 ds1 H1 r1 w1 =>
            cases x with
            | normal =>
              cases ds1 with
              | cons d ds => exact ⟨.k (.fail 12), rfl, .inl trivial⟩
              | nil =>
                simp only [CR.join, rnd2]
                split
                · rename_i nt2 lt2 ps2 a2 b2 db2 hb2
                  obtain ⟨z, e, hz⟩ := codeK_ok (tb := tb) hrec.f b hd.2 ⟨dep nt, nt, some l, false⟩ t1 [] (H1.put l (.loop false none nt2 lt2 ps2 a2 b2 db2)) (Nat.lor r r1) (Nat.lor w w1) (fun x => K (endRound l (bit l) (bit l) x))
                  rw [e]
                  rcases hz with rfl | rfl
                  · exact ⟨_, rfl, .inl trivial⟩
                  · have hev2 : evRound tb rec' l args H = endRound l (Nat.lor (bit l) r1) (Nat.lor w1 (bit l)) (evCC tb rec' ⟨dep nt, nt, some l, false⟩ b t1 [] (H1.put l (.loop false none nt2 lt2 ps2 a2 b2 db2))) := by
                      unfold evRound; simp only [hbk, hset, hev, hb2]
                    rw [hev2]
                    exact ⟨_, rfl, endRound_ok l r w r1 w1 _⟩
                · exact ⟨_, rfl, .inl trivial⟩
            | _ => exact ⟨.k (.fail 12), rfl, .inl trivial⟩
  · exact ⟨_, rfl, .inl trivial⟩
include hdr
theorem stepK_ok : RecS (stepK tb sp rec) (evTask tb sp rec') := by
  intro tk H r w K hd
  cases tk with
  | call f args =>
    show ∃ y, spK (sp f args H) f tb rec args H r w K = K y ∧ _
    simp only [evTask]
    cases hs : sp f args H with
    | some q =>
      obtain ⟨v, H', r', w'⟩ := q
      refine ⟨.k (spKR v H' (Nat.lor r r') (Nat.lor w w')), ?_, .inr ?_⟩
      · show Fz _ (Fz _ _) = _
        rw [Fz_eq, Fz_eq]
      · show TR.k (spKR v H' (Nat.lor r r') (Nat.lor w w')) = joinT r w (.k (spKR v H' r' w')) ∧ _
        unfold spKR
        cases unPan v <;> exact ⟨rfl, trivial⟩
    | none => exact call_ok hrec hdr f args H r w K
  | dcall f args um =>
    refine ⟨_, rfl, ?_⟩
    simp only [evTask]
    cases evDCall tb f args um H with
    | c x => exact .inl trivial
    | k x =>
      cases x with
      | drop m H' r' w' => exact .inr ⟨rfl, trivial⟩
      | dpan v H' r' w' => exact .inr ⟨rfl, trivial⟩
      | _ => exact .inl trivial
  | round l args => exact round_ok (sp := sp) hrec l args H r w K
  | loop b cx t ds =>
    show ∃ y, c_loop b (codeK b) tb rec cx t ds H r w (fun x => K (.c x)) = K y ∧ _
    obtain ⟨z, e, hz⟩ := loop_ok (tb := tb) (cx := cx) (b := b) hrec.f hd (fun t ds H r w K => codeK_ok hrec.f b hd cx t ds H r w K) t ds H r w (fun x => K (.c x))
    refine ⟨.c z, e, ?_⟩
    rcases hz with rfl | rfl
    · exact .inl trivial
    · exact .inr ⟨rfl, trivial⟩
  | unwind nt res t ds m => exact unwind_ok hrec nt res t ds m H r w K
end
theorem evK_ok {tb : Tb} (hdr : DrOk tb) (sp : Sp) : ∀ n, RecS (evK tb sp n) (ev tb sp n)
  | 0 => fun tk H r w K _ => ⟨.k (.fail 0), rfl, .inl trivial⟩
  | n + 1 => stepK_ok (evK_ok hdr sp n) hdr
theorem evK_ret {tb : Tb} (hdr : DrOk tb) {sp : Sp} {n : Nat} {f : FuncId} {args : List Value} {H : Hp} {v : Value} {H' : Hp} {r w : Nat} (h : evK tb sp n (.call f args) H 0 0 (fun x => x) = .k (.ret v H' r w)) :
    ev tb sp n (.call f args) H = .k (.ret v H' r w) := by
  obtain ⟨y, e, hy⟩ := evK_ok hdr sp n (.call f args) H 0 0 (fun x => x) trivial
  have e : evK tb sp n (.call f args) H 0 0 (fun x => x) = y := e
  rw [h] at e
  subst e
  rcases hy with hy | ⟨hy, _⟩
  · exact hy.elim
  · cases hr : ev tb sp n (.call f args) H with
    | c x => rw [hr] at hy; cases hy
    | k x =>
      rw [hr] at hy
      cases x with
      | ret v1 H1 r1 w1 => simp only [joinT, zero_lor'] at hy; exact hy.symm
      | _ => cases hy
theorem evK_panic {tb : Tb} (hdr : DrOk tb) {sp : Sp} {n : Nat} {f : FuncId} {args : List Value} {H : Hp} {v : Value} {H' : Hp} {r w : Nat} (h : evK tb sp n (.call f args) H 0 0 (fun x => x) = .k (.panic v H' r w)) :
    ev tb sp n (.call f args) H = .k (.panic v H' r w) := by
  obtain ⟨y, e, hy⟩ := evK_ok hdr sp n (.call f args) H 0 0 (fun x => x) trivial
  have e : evK tb sp n (.call f args) H 0 0 (fun x => x) = y := e
  rw [h] at e
  subst e
  rcases hy with hy | ⟨hy, _⟩
  · exact hy.elim
  · cases hr : ev tb sp n (.call f args) H with
    | c x => rw [hr] at hy; cases hy
    | k x =>
      rw [hr] at hy
      cases x with
      | panic v1 H1 r1 w1 => simp only [joinT, zero_lor'] at hy; exact hy.symm
      | _ => cases hy
end Go.Ev.F
end
noncomputable section
namespace Go.Ev
def notB (v : Value) : Bool := match v with | .bool _ => false | _ => true
def all2 (f : Value → Value → Bool) : List Value → List Value → Bool
  | [], [] => true
  | x :: xs, y :: ys => f x y && all2 f xs ys
  | _, _ => false
def covV (tab : Nat → Option Value) (pm : Nat → Nat → Bool) : Nat → Value → Value → Bool
  | 0, _, _ => false
  | d + 1, c, v => match c with
    | .bool a => (match v with | .bool b => (a && b) || (!a && !b) | _ => false)
    | .int k x => (match v with | .int j y => eqK k j && eqI x y | .chan (some j) => (match tab j with | some (.int i y) => eqK k i && eqI x y | _ => false) | _ => false)
    | .string s => (match v with | .string s' => eqBs s.data.toList s'.data.toList | _ => false)
    | .pointer a => (match a, v with
      | none, .pointer none => true
      | some ⟨b, o, none⟩, .pointer (some ⟨b', o', none⟩) => pm b b' && Nat.beq o o'
      | _, _ => false)
    | .slice a l k => (match a, v with
      | none, .slice none l' k' => Nat.beq l l' && Nat.beq k k'
      | some ⟨b, o, none⟩, .slice (some ⟨b', o', none⟩) l' k' => pm b b' && Nat.beq o o' && Nat.beq l l' && (Nat.beq k k' || (Nat.beq (k % 2) 1 && Nat.beq (k' % 2) 1 && Nat.ble k k'))
      | _, _ => false)
    | .map a => (match a, v with
      | none, .map none => true
      | some b, .map (some b') => pm b b'
      | _, _ => false)
    | .chan none => notB v
    | .chan (some k) => (match v with
      | .chan (some j) => Nat.beq k j || Nat.beq k 0
      | .int i x => Nat.beq k 0 || (match tab k with | some (.int j y) => eqK j i && eqI y x | _ => false)
      | v => Nat.beq k 0 && oneC v && notB v)
    | .func (.func f) as cs => (match v with | .func (.func f') as' cs' => Nat.beq f f' && all2 (covV tab pm d) as.toList as'.toList && all2 (covV tab pm d) cs.toList cs'.toList | _ => false)
    | .nilFunc => (match v with | .nilFunc => true | _ => false)
    | .iface t x => (match v with | .iface t' y => Nat.beq t t' && covV tab pm d x y | _ => false)
    | .nilIface => (match v with | .nilIface => true | _ => false)
    | .agg a => (match v with | .agg b => a.toList.all oneC && all2 (covV tab pm d) a.toList b.toList | _ => false)
    | .tuple a => (match v with | .tuple b => all2 (covV tab pm d) a.toList b.toList | _ => false)
    | _ => false
def pm0 (n0 b b' : Nat) : Bool := Nat.beq b b' && Nat.blt b n0
def covLf (f : Value → Value → Bool) (c v : Value) : Bool := f c v && (oneC c || !oneC v)
def covO (f : Value → Value → Bool) : (d : Nat) → Oc Value d → Oc Value d → Bool
  | 0, x, y => f x y
  | d + 1, x, y => match (x : N8 (Oc Value d)), (y : N8 (Oc Value d)) with
    | ⟨a, b, c, e, g, h, i, j⟩, ⟨a', b', c', e', g', h', i', j'⟩ => covO f d a a' && (covO f d b b' && (covO f d c c' && (covO f d e e' && (covO f d g g' && (covO f d h h' && (covO f d i i' && covO f d j j'))))))
def covT (f : Value → Value → Bool) (s t : T Value) : Bool := match s, t with
  | .t0 x, .t0 y => f x y
  | .t1 x, .t1 y => covO f 1 x y
  | .t2 x, .t2 y => covO f 2 x y
  | .t3 x, .t3 y => covO f 3 x y
  | .t4 x, .t4 y => covO f 4 x y
  | .t5 x, .t5 y => covO f 5 x y
  | .t6 x, .t6 y => covO f 6 x y
  | _, _ => false
def covI (f : Value → Value → Bool) (s t : T Value) : Nat → Bool
  | 0 => true
  | n + 1 => f (s.get n) (t.get n) && covI f s t n
def covB (f : Value → Value → Bool) (x y : Blk) : Bool := match x with
  | .no => true
  | .cells t n ty op lo hi => (match y with
    | .cells t2 n2 ty2 op2 lo2 hi2 => Nat.beq ty ty2 && (Nat.beq op op2 && (Nat.beq lo lo2 && (Nat.beq hi hi2 && ((Nat.beq n n2 && (Nat.beq n 0 || covT (covLf f) t t2)) || (Nat.blt 0 op && (Nat.ble n n2 && covI (covLf f) t t2 n))))))
    | _ => false)
  | _ => false
def setsT : List (Nat × Blk) → T Blk → T Blk
  | [], t => t
  | (i, B) :: l, t => setsT l (T.set 5 t i B)
def lkB : List (Nat × Blk) → Nat → Option Blk
  | [], _ => none
  | (i, B) :: l, b => match lkB l b with
    | some x => some x
    | none => if b = i then some B else none
structure Clm where
  f : FuncId
  args : List Value
  pre : List (Nat × Blk)
  n0 : Nat
  v : Value
  post : List (Nat × Blk)
  n1 : Nat
  r : Nat
  w : Nat
def Clm.fits (ng : Nat) (c : Clm) : Bool := Nat.ble ng c.n0 && (Nat.ble c.n0 c.n1 && (Nat.ble c.n1 32768 && (Nat.blt c.r (Nat.pow 2 c.n0) && (Nat.blt c.w (Nat.pow 2 c.n0) && (c.pre.all (fun x => Nat.blt x.1 c.n0) &&
  (c.post.all (fun x => Nat.blt x.1 c.n1 && (Nat.ble c.n0 x.1 || Nat.testBit c.w x.1)) && (c.pre.all (fun x => !Nat.testBit c.w x.1 || c.post.any (fun y => Nat.beq y.1 x.1)) &&
    (List.range (c.n1 - c.n0)).all (fun i => c.post.any (fun y => Nat.beq y.1 (c.n0 + i))))))))))
def spC (tab : Nat → Option Value) (c : Clm) (f : Nat) (args : List Value) (H : Hp) : Option (Value × Hp × Nat × Nat) := match H with
  | .mk t nx => Bc (Nat.beq f c.f && (all2 (covV tab (pm0 c.n0) 12) c.args args && ((Nat.beq nx c.n0 || (Nat.beq c.n1 c.n0 && Nat.ble c.n0 nx)) && c.pre.all (fun x => covB (covV tab (pm0 c.n0) 12) x.2 (t.get x.1)))))
    (some (c.v, .mk (setsT c.post t) (Bc (Nat.beq c.n1 c.n0) nx c.n1), c.r, c.w)) none
  | _ => none
def Clm.h0 (c : Clm) : Hp := .mk (setsT c.pre (.e .no)) c.n0
def Clm.h1 (c : Clm) : Hp := .mk (setsT c.post (setsT c.pre (.e .no))) c.n1
def srcOf (n0 : Nat) (src : List Nat) (b : Nat) : Nat := Bc (Nat.blt b n0) b (src.getD (b - n0) 0)
def pmS (n0 n1 : Nat) (src : List Nat) (b b' : Nat) : Bool := Nat.blt b n1 && Nat.beq (srcOf n0 src b) b' && (Nat.blt b n0 || true)
def aliveMask : List (Nat × Blk) → Nat
  | [] => 0
  | (i, B) :: l => match B with | .no => aliveMask l | _ => Nat.lor (bit i) (aliveMask l)
def nodupB : List Nat → Bool
  | [] => true
  | x :: l => !(l.any fun y => Nat.beq x y) && nodupB l
def isCells (B : Blk) : Bool := match B with | .cells .. => true | _ => false
def endB (tab : Nat → Option Value) (c : Clm) (src : List Nat) (v' : Value) (H' : Hp) (r' w' : Nat) : Bool :=
  Nat.beq (Nat.lor (Nat.land r' (2 ^ c.n0 - 1)) c.r) c.r && (Nat.beq (Nat.lor (Nat.land w' (2 ^ c.n0 - 1)) c.w) c.w && (Nat.beq (Nat.lor c.w (aliveMask c.pre)) (aliveMask c.pre) && (c.pre.all (fun x => isCells x.2) &&
  (covV tab (pmS c.n0 c.n1 src) 12 c.v v' && (c.post.all (fun x => covB (covV tab (pmS c.n0 c.n1 src) 12) x.2 (H'.blk (srcOf c.n0 src x.1))) && (Nat.ble H'.nx 32768 && (c.pre.all (fun x => covB (covV tab (pm0 c.n0) 12) x.2 x.2) && (all2 (covV tab (pm0 c.n0) 12) c.args c.args && (src.all (fun s => Nat.blt s 32768) && (Nat.beq src.length (c.n1 - c.n0) && (nodupB src &&
  src.all (fun s => Nat.ble c.n0 s || (Nat.testBit c.w s && (c.post.all (fun y => !Nat.beq y.1 s || (match y.2 with | .no => true | _ => false))))))))))))))))
end Go.Ev
end
noncomputable section
namespace Go.Ev
variable [SyQ]
def spNoEsc (args : List Value) (H : Hp) : Option (Value × Hp × Nat × Nat) := match args with
  | [x] => some (x, H, 0, 0)
  | _ => none
def spMake (u8 : TypeId) (args : List Value) (H : Hp) : Option (Value × Hp × Nat × Nat) := match args with
  | [.int .i64 (.ofNat n)] => Bc (Nat.ble n 1099511627776) (match alloc1 (.cells (.e U) 0 u8 2 0 0) H (fun i => .slice (some ⟨i, 0, none⟩) n 1) 0 0 with
    | .val v H' r w => some (v, H', r, w)
    | _ => none) none
  | _ => none
theorem arr_one {args : Array Value} {x : Value} (h : args.toList = [x]) : args = #[x] := by
  obtain ⟨l⟩ := args
  simp at h; subst h; rfl
theorem spNoEsc_ok {P : Program} {ng : Nat} {f : FuncId} (hf : ∀ (x : Value) (W : World), (callFunc f #[x]).run P W = .ok (.value x) W) {args : List Value} {H : Hp} {v : Value} {H' : Hp} {r w : Nat} (hw : H.wf) (h : spNoEsc args H = some (v, H', r, w)) :
    TaskOk P ng (.call f args) H (.k (.ret v H' r w)) := by
  unfold spNoEsc at h
  split at h
  · rename_i x
    simp only [Option.some.injEq, Prod.mk.injEq] at h
    obtain ⟨rfl, rfl, rfl, rfl⟩ := h
    refine ⟨Can.refl hw, fun β W hg p => ?_⟩
    intro args' hl
    obtain ⟨x', l, e, hx, hl'⟩ := hl.cons_inv
    have := hl'.nil_inv; subst this
    rw [arr_one e]
    exact .inr ⟨x', W, hf x' W, β, x', rfl, hx, Post.refl p.dom⟩
  · cases h
theorem spMake_ok {P : Program} {ng : Nat} {f : FuncId} {fn : Func} {ps : Array TypeId} {t u8 : TypeId} (ht : P.underlying t = some (.slice u8)) (hf : P.funcs[f]? = some fn) (hname : (fn.name == "runtime.NumGoroutine") = false) (hb : fn.body.isNone = true)
    (hn : Extern.findNext fn = none) (he : Extern.find fn = some (Extern.BytealgMakeNoZero.makeNoZero ps #[t])) {args : List Value} {H : Hp} {v : Value} {H' : Hp} {r w : Nat} (h : spMake u8 args H = some (v, H', r, w)) :
    TaskOk P ng (.call f args) H (.k (.ret v H' r w)) := by
  unfold spMake at h
  split at h
  · rename_i n
    cases hle : Nat.ble n 1099511627776 with
    | false => rw [hle, Bc_f] at h; cases h
    | true =>
      rw [hle, Bc_t, alloc1_eq] at h
      have hle' := (ble_iff _ _).1 hle
      by_cases hr : H.room = true
      case neg => rw [if_neg hr] at h; cases h
      rw [if_pos hr] at h
      simp only [Option.some.injEq, Prod.mk.injEq] at h
      obtain ⟨rfl, rfl, rfl, rfl⟩ := h
      refine ⟨can_push hr, fun β W hg p => ?_⟩
      intro args' hl
      obtain ⟨x', l, e, hx, hl'⟩ := hl.cons_inv
      have := hl'.nil_inv; subst this
      rw [arr_one e]
      cases hx
      obtain ⟨cs, hrun, hge, _⟩ := Lib.run_makeNoZero (P := P) W ps t u8 ht n (by omega)
      have hcall := run_callFunc_extern hf hname hb hn he #[.int .i64 n] W
      rw [hrun] at hcall
      simp only [Result.andThen_ok] at hcall
      have f0 : β H.nx = none := p.fresh H.nx (Nat.le_refl _) (by rw [nx_push]; omega)
      let m : Bm := ⟨W.heap.size, 0, cs.size, 1⟩
      have q := post_push (β := β) (H := H) (W := W) (.cells (.e U) 0 u8 2 0 0) (.cells cs u8) m hr rfl f0
        ⟨cs, (0, 0), rfl, rfl, by show 0 + 0 ≤ cs.size; omega, (fun h => by cases h), (fun k h => by show 1 = k; omega), (fun i hi => by omega), .inl ⟨Nat.le_refl _, .inl rfl⟩⟩ p.dom
      have hv : VRel (β.put H.nx m) (.slice (some ⟨H.nx, 0, none⟩) n 1) (.slice (some ⟨W.heap.size, 0, none⟩) n cs.size) :=
        .sl H.nx 0 n 1 cs.size m (Mp.put_same _ _ _) ⟨fun h => absurd h (by decide), fun _ => ⟨by omega, by show 0 + 0 + cs.size * 1 = cs.size; omega⟩⟩
      refine .inr ⟨_, _, hcall, β.put H.nx m, _, rfl, hv, ?_⟩
      exact q.congr rfl ⟨rfl, rfl, rfl⟩
  · cases h
end Go.Ev
end
