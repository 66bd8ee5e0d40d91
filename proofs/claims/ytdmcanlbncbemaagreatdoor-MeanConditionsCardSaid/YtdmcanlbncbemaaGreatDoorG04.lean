/-
  A part of the reckoner for the statements of a Go program: what it answers, the model answers. Holds for every program whose tables are as given.
-/
import Derived.OrdersIn
import Derived.RangeFuncRecord
import Derived.RecoverIn
import GoSem.Dispatch
import Derived.Test.YtdmcanlbncbemaaGreatDoorG03
set_option linter.unusedSimpArgs false
set_option linter.unusedVariables false
set_option linter.unusedSectionVars false
noncomputable section
namespace Go.Ev
variable [SyH]
theorem lrel_eval {β : Mp} {t : T Value} {ρ : Operand → Value} : ∀ {xs : List Operand}, (∀ x ∈ xs, VRel β (evalO t x) (ρ x)) → LRel β (evalL t xs) (xs.map ρ) := by
  intro xs
  induction xs with
  | nil => intro _; exact LRel.nil β
  | cons x xs ih => intro h; exact LRel.cons (h x (by simp)) (ih fun y hy => h y (by simp [hy]))
theorem orl_eval {β : Mp} {t : T Value} {ρ : Operand → Value} {x : Option Operand} (h : ∀ y ∈ x, VRel β (evalO t y) (ρ y)) : ORl β (evalM t x) (x.map ρ) := by
  cases x with
  | none => trivial
  | some y => exact h y rfl
section
variable {P : Program} {tb : Tb} (ok : TbOk P tb) {β : Mp} {H : Hp} {W : World} (hw : H.wf) {ρ : Operand → Value} {t : T Value}
include ok hw
theorem eq_ok {neg : Bool} {ty : TypeId} {x y : Operand} (hq : SyH.Q β) (hx : VRel β (evalO t x) (ρ x)) (hy : VRel β (evalO t y) (ρ y)) :
    OpV P β H W (do eqGuard (if neg then .neq else .eql) ty x y (ρ x) (ρ y); binOp (if neg then .neq else .eql) ty (ρ x) (ρ y)) (run (compEq tb neg ty x y) t H) := by
  obtain ⟨c, hc⟩ : ∃ c, compEq tb neg ty x y = c := ⟨_, rfl⟩
  rw [hc]
  unfold compEq at hc
  split at hc
  · rename_i ms e
    split at hc
    · rename_i hcc
      subst hc
      simp only [Bool.or_eq_true] at hcc
      refine leafEq_ok ok hw hq (d := .interface ms) rfl (ok.und _ _ e) hx hy fun _ => ?_
      rcases hcc with (h | h) | h
      · exact .inl h
      · exact .inr (.inl h)
      · right; right
        rw [ok.und _ _ e]
        have : ms = #[] := Array.isEmpty_iff.1 h
        rw [this]
    · subst hc; trivial
  · rename_i hni
    split at hc
    · rename_i p e
      subst hc
      unfold eqPlan at e
      split at e
      · rename_i fs e1
        split at e
        · rename_i l n e2 e3
          cases e
          exact manyEq_ok ok hw e2 e3 ⟨fs, e1⟩ hx hy
        · cases e
      · cases e
      · rename_i d hd1 hd2 e1
        split at e
        · rename_i l e2
          cases e
          refine leafEq_ok ok hw hq e2 (ok.und _ _ e1) hx hy fun hl => ?_
          subst hl
          exfalso
          unfold leafOf at e2
          split at e2 <;> try (cases e2; done)
          · split at e2 <;> cases e2
          · exact hni _ e1
        · cases e
      · cases e
    · subst hc; trivial
omit hw in
theorem at0_inv {at_ : Array TypeId} {d : TypeDesc} (h : at0 tb at_ = some d) : ∃ ty, at_[0]? = some ty ∧ P.underlying ty = some d := by
  unfold at0 at h
  split at h
  · rename_i ty r e
    exact ⟨ty, by rw [← Array.getElem?_toList, e]; rfl, ok.und _ _ h⟩
  · cases h
omit hw in
theorem at1_inv {at_ : Array TypeId} {d : TypeDesc} (h : at1 tb at_ = some d) : ∃ ty, at_[1]? = some ty ∧ P.underlying ty = some d := by
  unfold at1 at h
  split at h
  · rename_i ty1 ty r e
    exact ⟨ty, by rw [← Array.getElem?_toList, e]; rfl, ok.und _ _ h⟩
  · cases h
omit ok hw in
theorem exec_builtin {b : Builtin} {args : Array Operand} {at_ : Array TypeId} {dst : Option Tmp} {type : TypeId} {pos : String} {after : Array Edge} {guard : Option (Nat × Bool)} :
    (execOp ρ ⟨dst, .call ⟨.builtin b, args, at_⟩, type, pos, after, guard⟩).run P W = (builtin b at_ type (args.map fun | .const _ => true | _ => false) (args.map ρ)).run P W := rfl
theorem builtin_ok {b : Builtin} {args : Array Operand} {at_ : Array TypeId} {dst : Option Tmp} {type : TypeId} {pos : String} {after : Array Edge} {guard : Option (Nat × Bool)} (hq : SyH.Q β) (hv : ∀ x ∈ args.toList, VRel β (evalO t x) (ρ x)) :
    OpS P β H W (execOp ρ ⟨dst, .call ⟨.builtin b, args, at_⟩, type, pos, after, guard⟩) (run (compB tb b at_ args.toList) t H) := by
  refine ops_congr exec_builtin ?_
  obtain ⟨args⟩ := args
  simp only at hv
  obtain ⟨c, hc⟩ : ∃ c, compB tb b at_ args = c := ⟨_, rfl⟩
  show OpS P β H W _ (run (compB tb b at_ args) t H)
  have hm : (⟨args⟩ : Array Operand).map ρ = ⟨args.map ρ⟩ := Array.ext' (by simp)
  rw [hc, hm]
  unfold compB at hc
  split at hc
  · rename_i s x
    have hs := hv s (by simp)
    have hx := hv x (by simp)
    split at hc
    · subst hc; trivial
    · rename_i elem dx hdx e1 e2
      split at hc
      · rename_i i e3
        split at hc
        · rename_i z e4
          split at hc
          · rename_i e5
            subst hc
            obtain ⟨t0, g0, g1⟩ := at0_inv ok e1
            obtain ⟨t1, g2, g3⟩ := at1_inv ok e2
            have := app_ok (P := P) (W := W) (ty := type) hw g0 g2 g1 g3 (fun k h => hdx k h) (ok.info _ _ e3) e4 ((beq_iff _ _).1 e5) hs hx
            exact ops_v this
          · subst hc; trivial
        · subst hc; trivial
      · subst hc; trivial
    · subst hc; trivial
  · rename_i x
    have hx := hv x (by simp)
    split at hc
    · rename_i n elem e1
      subst hc
      obtain ⟨t0, g0, g1⟩ := at0_inv ok e1
      exact ops_v (lenA_ok hw g0 g1)
    · rename_i e1
      subst hc
      obtain ⟨t0, g0, g1⟩ := at0_inv ok e1
      exact ops_v (len_ok hw hq g0 g1 (.inl ⟨rfl, rfl⟩) hx)
    · rename_i e e1
      subst hc
      obtain ⟨t0, g0, g1⟩ := at0_inv ok e1
      exact ops_v (len_ok hw hq g0 g1 (.inr (.inl ⟨rfl, e, rfl⟩)) hx)
    · rename_i a b e1
      subst hc
      obtain ⟨t0, g0, g1⟩ := at0_inv ok e1
      exact ops_v (len_ok hw hq g0 g1 (.inr (.inr ⟨rfl, a, b, rfl⟩)) hx)
    · subst hc; trivial
  · rename_i x
    have hx := hv x (by simp)
    split at hc
    · rename_i e e1
      subst hc
      obtain ⟨t0, g0, g1⟩ := at0_inv ok e1
      exact ops_v (cap_ok hw g0 g1 hx)
    · subst hc; trivial
  · rename_i d x
    have hd := hv d (by simp)
    have hx := hv x (by simp)
    split at hc
    · rename_i elem e1
      split at hc
      · rename_i sz e2
        subst hc
        obtain ⟨i, hi', rfl⟩ := szOf_inv ok e2
        obtain ⟨t0, g0, g1⟩ := at0_inv ok e1
        exact ops_v (copy_ok ok hw g0 g1 hi' hd hx)
      · subst hc; trivial
    · subst hc; trivial
  · rename_i x
    have hx := hv x (by simp)
    split at hc
    · rename_i elem e1
      split at hc
      · rename_i z e2
        subst hc
        obtain ⟨t0, g0, g1⟩ := at0_inv ok e1
        exact ops_v (clear_ok ok hw g0 g1 e2 hx)
      · subst hc; trivial
    · subst hc; trivial
  · rename_i x y
    subst hc
    exact ops_v (min_ok hw hq (hv x (by simp)) (hv y (by simp)))
  · rename_i x y
    subst hc
    exact ops_v (max_ok hw hq (hv x (by simp)) (hv y (by simp)))
  · rename_i x y z
    subst hc
    exact ops_v (min3_ok hw (hv x (by simp)) (hv y (by simp)) (hv z (by simp)))
  · rename_i x y z
    subst hc
    exact ops_v (max3_ok hw (hv x (by simp)) (hv y (by simp)) (hv z (by simp)))
  · subst hc; rfl
  · rename_i x
    subst hc
    exact ops_v (usd_ok hw (hv x (by simp)))
  · rename_i p n
    split at hc
    · rename_i e e1
      split at hc
      · rename_i e2 e3
        subst hc
        obtain ⟨t0, g0, g1⟩ := at0_inv ok e1
        obtain ⟨i, hi', hsz⟩ := szOf_inv ok e3
        exact ops_v (ustr_ok hw hq g0 g1 (by simp [Program.cellsOf, hi', hsz]) (hv p (by simp)) (hv n (by simp)))
      · subst hc; trivial
    · subst hc; trivial
  · rename_i m k
    split at hc
    · rename_i key elem e1
      split at hc
      · rename_i p e2
        subst hc
        obtain ⟨t0, g0, g1⟩ := at0_inv ok e1
        exact ops_v (del_ok ok hw g0 g1 e2 (hv m (by simp)) (hv k (by simp)))
      · subst hc; trivial
    · subst hc; trivial
  · subst hc; trivial
theorem alloc_run_ok {o : Oper} {elem : TypeId} (he : o.op = .alloc elem) : OpS P β H W (execOp ρ o) (run (compOp tb o) t H) := by
  obtain ⟨dst, op, type, pos, after, guard⟩ := o
  simp only at he; subst he
  simp only [compOp]
  split
  · rename_i n v hu; exact ops_v (allocU_ok ok hu)
  · split
    · rename_i z hz; exact ops_v (allocOp_ok ok hz)
    · trivial
theorem run_ok {o : Oper} (hq : SyH.Q β) (hv : ∀ x ∈ o.op.operands.toList, VRel β (evalO t x) (ρ x)) : OpS P β H W (execOp ρ o) (run (compOp tb o) t H) := by
  obtain ⟨dst, op, type, pos, after, guard⟩ := o
  cases op with
  | move x => exact ops_v (opv_pure hw (s := pure (ρ x)) rfl (hv x (by simp [Op.operands])))
  | assign x => exact ops_v (opv_pure hw (s := pure (ρ x)) rfl (hv x (by simp [Op.operands])))
  | pick c a b =>
    have := pick_ok (P := P) (W := W) hw (hv c (by simp [Op.operands])) (hv a (by simp [Op.operands])) (hv b (by simp [Op.operands]))
    exact ops_congr (by simp [execOp]) (ops_v this)
  | alloc elem =>
    simp only [compOp]
    split
    · rename_i n v hu; exact ops_v (allocU_ok ok hu)
    · split
      · rename_i z hz; exact ops_v (allocOp_ok ok hz)
      · trivial
  | box elem x => exact ops_v (box_ok (hv x (by simp [Op.operands])))
  | build ty parts =>
    have hp : ∀ p ∈ parts.toList, VRel β (evalO t p.2) (ρ p.2) := fun p hp => hv p.2 (by simp only [Op.operands]; simp; exact ⟨p.1, by simpa using hp⟩)
    have hm : (parts.map fun (i, x) => (i, ρ x)) = (parts.toList.map fun (i, x) => (i, ρ x)).toArray := by
      apply Array.ext'; simp
    simp only [compOp]
    split
    · rename_i fields z e1 e2
      split
      · rename_i l e3 e4
        have := buildS_ok (W := W) ok hw (ok.und _ _ e1) e2 e3 e4 hp
        rw [← hm] at this
        exact ops_v this
      · trivial
    · rename_i n elem z e1 e2
      split
      · rename_i s e3
        have := buildA_ok (W := W) ok hw (ok.und _ _ e1) e2 e3 hp
        rw [← hm] at this
        exact ops_v this
      · trivial
    · trivial
  | buildSlice ty len parts =>
    have hp : ∀ p ∈ parts.toList, VRel β (evalO t p.2) (ρ p.2) := fun p hp => hv p.2 (by simp only [Op.operands]; simp; exact ⟨p.1, by simpa using hp⟩)
    have hm : (parts.map fun (i, x) => (i, ρ x)) = (parts.toList.map fun (i, x) => (i, ρ x)).toArray := by
      apply Array.ext'; simp
    simp only [compOp]
    split
    · rename_i elem e1
      split
      · rename_i s z e2 e3
        cases e4 : (Nat.beq z.length s && Nat.ble (len * s) 16777216) with
        | false => rw [Bc_f]; trivial
        | true =>
          rw [Bc_t]
          simp only [Bool.and_eq_true, beq_iff, ble_iff] at e4
          have := bslice_ok (H := H) (W := W) ok (ok.und _ _ e1) e3 e2 e4.1 e4.2 hp
          rw [← hm] at this
          exact ops_v this
      · trivial
    · trivial
  | load ty a =>
    have ha := hv a (by simp [Op.operands])
    simp only [compOp]
    split
    · rename_i e1
      split
      · rename_i n e2; exact ops_v (ldN_ok ok hw e1 e2 ha)
      · trivial
    · rename_i e1; exact ops_v (ld1_ok ok hw e1 ha)
    · trivial
  | store ty a x =>
    simp only [compOp]
    split
    · rename_i n e1; exact ops_u (st_ok ok hw e1 (hv a (by simp [Op.operands])) (hv x (by simp [Op.operands])))
    · trivial
  | nilCheck x =>
    have hx := hv x (by simp [Op.operands])
    show OpS P β H W _ (exNil (evalO t x) H)
    generalize hr : ρ x = v' at hx
    generalize evalO t x = v at hx
    have keep := hx
    cases hx <;> first
      | trivial
      | exact ⟨Can.refl hw, fun p => ⟨β, W, _, .inl (by simp [execOp, hr]), keep, Post.refl p.dom⟩⟩
  | binOp op ty x y k =>
    have hx := hv x (by simp [Op.operands])
    have hy := hv y (by simp [Op.operands])
    cases op with
    | eql => exact ops_v (eq_ok ok hw (neg := false) hq hx hy)
    | neq => exact ops_v (eq_ok ok hw (neg := true) hq hx hy)
    | _ => exact ops_v (bin_ok hw hq hx hy)
  | unOp op k x => exact ops_v (un_ok hw hq (hv x (by simp [Op.operands])))
  | convert src dst x =>
    have hx := hv x (by simp [Op.operands])
    simp only [compOp]
    split
    · rename_i k1 k e1 e2; exact ops_v (cInt_ok hw hq (ok.und _ _ e1) (ok.und _ _ e2) hx)
    · rename_i k1 e1 e2; exact ops_v (cChr_ok hw (ok.und _ _ e1) (ok.und _ _ e2) hq hx)
    · rename_i e1 e2; exact ops_v (cSS_ok hw (ok.und _ _ e1) (ok.und _ _ e2) hx)
    · rename_i e e1 e2
      split
      · rename_i k e3; exact ops_v (toU_ok hw (ok.und _ _ e1) (ok.und _ _ e2) (szOf_inv ok e3) hx)
      · trivial
    · rename_i u e1 e2
      split
      · rename_i k e3; exact ops_v (frU_ok ok hw (ok.und _ _ e1) (ok.und _ _ e2) (szOf_inv ok e3) hx)
      · trivial
    · rename_i e e1 e2
      split
      · rename_i e3; exact ops_v (cToB_ok (ok.und _ _ e1) (ok.und _ _ e2) (ok.und _ _ e3) hx)
      · trivial
    · rename_i e e1 e2
      split
      · rename_i e3; exact ops_v (cToS_ok hw hq (ok.und _ _ e1) (ok.und _ _ e3) (ok.und _ _ e2) hx)
      · trivial
    · trivial
  | makeInterface ty x =>
    simp only [compOp]
    split
    · trivial
    · rename_i d hd e1; exact ops_v (mkI_ok hw (ok.und _ _ e1) (fun ms h => hd ms h) (hv x (by simp [Op.operands])))
    · trivial
  | makeFunc fn first captured =>
    simp only [compOp]
    split
    · rename_i f
      have h1 : LRel β (evalL t first.toList) (first.map ρ).toList := by rw [Array.toList_map]; exact lrel_eval fun x hx => hv x (by simp only [Op.operands]; simp; left; simpa using hx)
      have h2 : LRel β (evalL t captured.toList) (captured.map ρ).toList := by rw [Array.toList_map]; exact lrel_eval fun x hx => hv x (by simp only [Op.operands]; simp; right; simpa using hx)
      exact ops_v (mkF_ok hw h1 h2)
    · trivial
  | makeMap ty r =>
    cases r with
    | none => exact ops_v (mkM_ok (.inl rfl))
    | some x =>
      cases x with
      | const v =>
        cases v <;> try trivial
        rename_i k n
        simp only [compOp]
        split
        · rename_i a b e1
          have hx := hv (.const (.int k n)) (by simp [Op.operands])
          refine ops_v (mkM_ok (r := some (ρ (.const (.int k n)))) (.inr ?_))
          generalize ρ (.const (.int k n)) = v' at hx
          simp only [evalO] at hx
          cases hx
          exact ⟨_, _, _, _, rfl, ok.und _ _ e1⟩
        · trivial
      | _ => trivial
  | makeSlice ty l c =>
    simp only [compOp]
    split
    · rename_i elem e1
      split
      · rename_i z ti e2 e3
        cases e4 : Nat.beq z.length ti.size with
        | false => rw [Bc_f]; trivial
        | true =>
          rw [Bc_t]
          exact ops_v (mkSl_ok ok hw (ok.und _ _ e1) e2 e3 ((beq_iff _ _).1 e4) (hv l (by simp [Op.operands])) (hv c (by simp [Op.operands])))
      · trivial
    · trivial
  | slice ty x lo hi mx =>
    have hx := hv x (by simp [Op.operands])
    have r1 : ORl β (evalM t lo) (lo.map ρ) := orl_eval fun y hy => hv y (by simp only [Op.operands]; simp; right; left; simpa using hy)
    have r2 : ORl β (evalM t hi) (hi.map ρ) := orl_eval fun y hy => hv y (by simp only [Op.operands]; simp; right; right; left; simpa using hy)
    have r3 : ORl β (evalM t mx) (mx.map ρ) := orl_eval fun y hy => hv y (by simp only [Op.operands]; simp; right; right; right; simpa using hy)
    simp only [compOp]
    split
    · rename_i e1
      split
      · exact ops_v (slS_ok hw (ok.und _ _ e1) hx r1 r2)
      · trivial
    · rename_i elem e1
      split
      · rename_i sz e2
        obtain ⟨i, hi', rfl⟩ := szOf_inv ok e2
        exact ops_v (slL_ok hw (ok.und _ _ e1) hi' hx r1 r2 r3)
      · trivial
    · rename_i n elem e1
      split
      · rename_i sz e2
        obtain ⟨i, hi', rfl⟩ := szOf_inv ok e2
        exact ops_v (slA_ok hw (ok.und _ _ e1) hi' hx r1 r2 r3)
      · trivial
    · trivial
  | fieldAddr s x f =>
    have hx := hv x (by simp [Op.operands])
    simp only [compOp]
    split
    · rename_i fields e1
      split
      · rename_i fd e2
        split
        · rename_i n e3
          obtain ⟨i, hi', hn⟩ := szOf_inv ok e3
          exact ops_v (fa_ok hw (ok.und _ _ e1) e2 hi' hn hx)
        · trivial
      · trivial
    · trivial
  | field s x f =>
    have hx := hv x (by simp [Op.operands])
    simp only [compOp]
    split
    · rename_i fields e1
      split
      · rename_i fd e2
        split
        · rename_i n ag e3 e4
          obtain ⟨i, hi', rfl⟩ := szOf_inv ok e3
          exact ops_v (fld_ok ok hw (ok.und _ _ e1) e2 hi' e4 hx)
        · trivial
      · trivial
    · trivial
  | indexAddr ty x ix =>
    have hx := hv x (by simp [Op.operands])
    have hi := hv ix (by simp [Op.operands])
    simp only [compOp]
    split
    · rename_i n elem e1
      split
      · rename_i sz e2
        obtain ⟨i, hi', rfl⟩ := szOf_inv ok e2
        exact ops_v (iaA_ok hw (ok.und _ _ e1) hi' hx hi)
      · trivial
    · rename_i elem e1
      split
      · rename_i sz e2
        obtain ⟨i, hi', rfl⟩ := szOf_inv ok e2
        exact ops_v (iaS_ok hw (ok.und _ _ e1) hi' hx hi)
      · trivial
    · trivial
  | index ty x ix =>
    have hx := hv x (by simp [Op.operands])
    have hi := hv ix (by simp [Op.operands])
    simp only [compOp]
    split
    · rename_i n elem e1
      split
      · rename_i sz ag e2 e3
        obtain ⟨i, hi', rfl⟩ := szOf_inv ok e2
        exact ops_v (ixA_ok ok hw (ok.und _ _ e1) hi' e3 hx hi)
      · trivial
    · rename_i e1; exact ops_v (ixS_ok hw hq (ok.und _ _ e1) hx hi)
    · trivial
  | lookup ty m k okb =>
    simp only [compOp]
    split
    · rename_i key elem e1
      split
      · rename_i z p e2 e3
        exact ops_v (lkp_ok ok hw (ok.und _ _ e1) e2 e3 (hv m (by simp [Op.operands])) (hv k (by simp [Op.operands])))
      · trivial
    · trivial
  | mapUpdate ty m k x =>
    simp only [compOp, compMup]
    split
    · rename_i key elem e1
      split
      · rename_i p e2
        exact ops_u (mup_ok ok hw (ok.und _ _ e1) e2 (hv m (by simp [Op.operands])) (hv k (by simp [Op.operands])) (hv x (by simp [Op.operands])))
      · trivial
    · trivial
  | insert ty m k x =>
    simp only [compOp, compMup]
    split
    · rename_i key elem e1
      split
      · rename_i p e2
        exact ops_u (mup_ok ok hw (ok.und _ _ e1) e2 (hv m (by simp [Op.operands])) (hv k (by simp [Op.operands])) (hv x (by simp [Op.operands])))
      · trivial
    · trivial
  | range ty x =>
    have hx := hv x (by simp [Op.operands])
    simp only [compOp]
    split
    · rename_i e1; exact ops_v (rngS_ok (ok.und _ _ e1) hx)
    · rename_i a b e1; exact ops_v (rngM_ok (ok.und _ _ e1) hx)
    · trivial
  | next it b =>
    have hx := hv it (by simp [Op.operands])
    cases b with
    | true => exact ops_v (nxtS_ok hw hx)
    | false => exact ops_v (nxtM_ok hw hx)
  | typeAssert x xt ty okb =>
    have hx := hv x (by simp [Op.operands])
    simp only [compOp]
    split
    · trivial
    · rename_i d hd e1
      split
      · rename_i z e2
        obtain ⟨i, hi', hz, hf⟩ := zeroV_inv ok e2
        exact ops_v (tas_ok hw (ok.und _ _ e1) (fun ms h => hd ms h) hi' hz hf hx)
      · trivial
    · trivial
  | extract x i => exact ops_v (ext_ok hw (hv x (by simp [Op.operands])))
  | call c =>
    obtain ⟨callee, args, at_⟩ := c
    have hargs : ∀ x ∈ args.toList, VRel β (evalO t x) (ρ x) := fun x hx => hv x (by simp only [Op.operands, Call.operands]; simp; right; simpa using hx)
    cases callee with
    | builtin b => exact builtin_ok ok hw hq hargs
    | value f =>
      have hf := hv f (by simp [Op.operands, Call.operands])
      have hl : LRel β (evalL t args.toList) (args.map ρ).toList := by rw [Array.toList_map]; exact lrel_eval hargs
      show OpS P β H W _ (callV (evalO t f) (evalL t args.toList))
      generalize hr : ρ f = f' at hf
      generalize evalO t f = fv at hf
      unfold callV
      cases hf <;> try trivial
      · rename_i f as as' cs cs' h1 h2 h3 h4
        refine ⟨((⟨as'⟩ : Array Value) ++ args.map ρ) ++ (⟨cs'⟩ : Array Value), ?_, ?_⟩
        · simp [execOp, resolve, Deferred.ofValue, hr, invoke]
        · have := LRel.append (a := as) (a' := as') ⟨h1, h2⟩ (LRel.append hl (b := cs) (b' := cs') ⟨h3, h4⟩)
          simpa using this
      · rename_i l m e
        refine ⟨m, args.map ρ, e, ?_, ?_⟩
        · simp [execOp, resolve, Deferred.ofValue, hr, invoke]
        · simpa using hl
    | invoke r n =>
      have hf := hv r (by simp [Op.operands, Call.operands])
      have hl : LRel β (evalL t args.toList) (args.map ρ).toList := by rw [Array.toList_map]; exact lrel_eval hargs
      show OpS P β H W _ (invV (tb.meth n) (evalO t r) (evalL t args.toList))
      generalize hr : ρ r = r' at hf
      generalize evalO t r = rv at hf
      unfold invV
      cases hf <;> try trivial
      rename_i ty v v' hvv
      cases hlk : lkM ty (tb.meth n) with
      | none => simp only [hlk]; trivial
      | some f =>
        simp only [hlk]
        refine ⟨#[v'] ++ args.map ρ, ?_, ?_⟩
        · have e0 : (#[Value.iface ty v'] ++ args.map ρ)[0]? = some (.iface ty v') := by rw [Array.getElem?_append_left (by simp)]; rfl
          have e1 : (#[Value.iface ty v'] ++ args.map ρ).extract 1 (#[Value.iface ty v'] ++ args.map ρ).size = args.map ρ := by
            apply Array.toList_inj.1; simp; exact List.take_of_length_le (by simp)
          have hi : (invoke (.fn (.method n) #[]) (#[Value.iface ty v'] ++ args.map ρ)).run P W = (callFunc f (#[v'] ++ args.map ρ)).run P W := by
            unfold invoke
            simp only [e0, e1, callMethod]
            simp [ok.meth n ty f hlk W v']
          have hx : (execOp ρ ⟨dst, .call ⟨.invoke r n, args, at_⟩, type, pos, after, guard⟩).run P W = (invoke (.fn (.method n) #[]) (#[ρ r] ++ args.map ρ)).run P W := by
            simp [execOp, resolve]
          rw [hx, hr]
          exact hi
        · have := LRel.cons hvv hl
          simpa using this
  | defer c =>
    obtain ⟨callee, args, at_⟩ := c
    have hargs : ∀ x ∈ args.toList, VRel β (evalO t x) (ρ x) := fun x hx => hv x (by simp only [Op.operands, Call.operands]; simp; right; simpa using hx)
    cases callee with
    | value f =>
      have hf := hv f (by simp [Op.operands, Call.operands])
      have hl : LRel β (evalL t args.toList) (args.map ρ).toList := by rw [Array.toList_map]; exact lrel_eval hargs
      show OpS P β H W _ (deferV (evalO t f) (evalL t args.toList))
      generalize hr : ρ f = f' at hf
      generalize evalO t f = fv at hf
      unfold deferV
      cases hf <;> try trivial
      · rename_i f as as' cs cs' h1 h2 h3 h4
        refine ⟨{ target := .fn (.func f) ⟨cs'⟩, args := (⟨as'⟩ : Array Value) ++ args.map ρ }, ?_, ⟨rfl, ⟨h3, h4⟩⟩, ?_⟩
        · simp [execOp, resolve, Deferred.ofValue, hr]
        · have := LRel.append (a := as) (a' := as') ⟨h1, h2⟩ hl
          simpa using this
      · rename_i l m e
        refine ⟨{ target := .fn (.yield m.rb) #[], args := #[] ++ args.map ρ }, ?_, ⟨m, e, rfl⟩, ?_⟩
        · simp [execOp, resolve, Deferred.ofValue, hr]
        · simpa using hl
    | _ => trivial
  | panic x =>
    have hx := hv x (by simp [Op.operands])
    show OpS P β H W _ (exPanic (evalO t x))
    unfold exPanic
    split
    · rename_i e
      rw [e] at hx
      generalize hr : ρ x = v' at hx
      cases hx with | iface _ _ v2 h2 =>
      exact ⟨.iface _ v2, by simp [execOp, Instr.panic, hr], .iface _ _ _ h2⟩
    · trivial
  | _ => trivial
end
end Go.Ev
end
noncomputable section
namespace Go.Ev
abbrev FW : Fence := Fence.wide
def CallOk (P : Program) (f : FuncId) (args : Array Value) (W : World) (R : Ending → World → Prop) : Prop :=
  ((callFunc f args).run P W = .ok (.enter f args) W ∧ CallsIn FW 0 P f args W R) ∨ ∃ v W', (callFunc f args).run P W = .ok (.value v) W' ∧ R (.returned v) W'
def RoundOk (P : Program) (l : Nat) (args : Array Value) (W : World) (R : Ending → World → Prop) : Prop :=
  ∃ fn tmps assign body, (Instr.yield l args).run P W = .ok (.round l fn tmps assign body) W ∧ RoundIn FW 0 P l fn tmps assign body W R
def RetP (β : Mp) (H H' : Hp) (w : Nat) (W : World) (v : Value) : Ending → World → Prop := fun e W' => ∃ β' v', e = .returned v' ∧ VRel β' v v' ∧ Post β β' H H' w W W'
def NoGx (l : List PanicEntry) : Prop := ∀ x, x ∈ l → x.goexit = false
theorem NoGx.nil : NoGx [] := fun _ h => by cases h
def PanP (β : Mp) (H H' : Hp) (w : Nat) (W : World) (v : Value) : Ending → World → Prop := fun e W' => ∃ β' v' old, e = .panicked ({ v := v', recovered := false } :: old) ∧ NoGx old ∧ VRel β' v v' ∧ Post β β' H H' w W W'
class SyQ extends SyH where
  mono : ∀ {β β' : Mp}, Mp.le β β' → Q β → Q β'
  loc : ∀ {β β' : Mp}, (∀ k, SY ≤ k → β' k = β k) → Q β → Q β'
  unk : ∀ {β : Mp}, Q β → ∃ m, β SY = some m ∧ m.esz = 4
variable [SyQ]
def GRel (ng : Nat) (β : Mp) : Prop := (∀ g, g < ng → ∃ m, β g = some m ∧ m.rb = g ∧ m.sh = 0) ∧ SyH.Q β
theorem GRel.mono {ng : Nat} {β β' : Mp} (h : Mp.le β β') (hg : GRel ng β) : GRel ng β' := ⟨fun g hlt => let ⟨m, e, x⟩ := hg.1 g hlt; ⟨m, h _ _ e, x⟩, SyQ.mono h hg.2⟩
def KOk (ng : Nat) (H : Hp) (x : TR) (C : Mp → World → (Ending → World → Prop) → Prop) : Prop := match x with
  | .k (.ret v H' r w) => Can H H' w ∧ ∀ β W, GRel ng β → Pre β H H' r w W → C β W (RetP β H H' w W v)
  | .k (.panic v H' r w) => Can H H' w ∧ ∀ β W, GRel ng β → Pre β H H' r w W → C β W (PanP β H H' w W v)
  | _ => True
def FRel (β : Mp) (rnd : Option Nat) (F : Fence) : Prop := match rnd with
  | none => F = FW
  | some l => ∃ m, β l = some m ∧ F = FW.inRound m.rb
theorem FRel.mono {β β' : Mp} {rnd : Option Nat} {F : Fence} (h : Mp.le β β') (hf : FRel β rnd F) : FRel β' rnd F := by
  cases rnd with
  | none => exact hf
  | some l => obtain ⟨m, e, hF⟩ := hf; exact ⟨m, h _ _ e, hF⟩
def DsRel (β : Mp) (ds ds' : List Deferred) : Prop := ds.length = ds'.length ∧ ∀ (i : Nat) (d d' : Deferred), ds[i]? = some d → ds'[i]? = some d' → DRel β d d'
theorem DRel.mono {β β' : Mp} (h : Mp.le β β') {d d' : Deferred} (hd : DRel β d d') : DRel β' d d' := by
  obtain ⟨t, a⟩ := d
  obtain ⟨t', a'⟩ := d'
  refine ⟨?_, hd.2.mono h⟩
  have h1 := hd.1
  simp only at h1 ⊢
  split at h1
  · exact ⟨h1.1, h1.2.mono h⟩
  · obtain ⟨m, e, h2⟩ := h1; exact ⟨m, h _ _ e, h2⟩
  · obtain ⟨m, e, h2⟩ := h1; exact ⟨m, h _ _ e, h2⟩
  · exact h1.elim
theorem DsRel.mono {β β' : Mp} (h : Mp.le β β') {ds ds' : List Deferred} (hd : DsRel β ds ds') : DsRel β' ds ds' := ⟨hd.1, fun i d d' a b => (hd.2 i d d' a b).mono h⟩
theorem DsRel.nil (β : Mp) : DsRel β [] [] := ⟨rfl, fun i v v' h => by simp at h⟩
theorem DsRel.cons {β : Mp} {d d' : Deferred} {ds ds' : List Deferred} (h : DRel β d d') (hl : DsRel β ds ds') : DsRel β (d :: ds) (d' :: ds') := by
  refine ⟨by simp [hl.1], fun i a b ha hb => ?_⟩
  cases i with
  | zero => simp at ha hb; subst ha hb; exact h
  | succ i => simp at ha hb; exact hl.2 i a b ha hb
theorem DsRel.cons_inv {β : Mp} {d : Deferred} {l ys : List Deferred} (h : DsRel β (d :: l) ys) : ∃ d' l', ys = d' :: l' ∧ DRel β d d' ∧ DsRel β l l' := by
  cases ys with
  | nil => have := h.1; simp at this
  | cons v' l' =>
    refine ⟨v', l', rfl, h.2 0 d v' rfl rfl, ?_, fun i a b ha hb => h.2 (i + 1) a b (by simpa using ha) (by simpa using hb)⟩
    have := h.1; simpa using this
theorem DsRel.nil_inv {β : Mp} {ys : List Deferred} (h : DsRel β [] ys) : ys = [] := by
  have := h.1; cases ys with
  | nil => rfl
  | cons => simp at this
def ARel (β : Mp) (nt : Nat) (t : T Value) (ds : List Deferred) (a : Act) : Prop := TRel β nt t a.tmps ∧ DsRel β ds a.defers
theorem ARel.mono {β β' : Mp} (h : Mp.le β β') {nt : Nat} {t : T Value} {ds : List Deferred} {a : Act} (ha : ARel β nt t ds a) : ARel β' nt t ds a := ⟨ha.1.mono h, ha.2.mono h⟩
def XRel (β : Mp) : Ex → Exit → Prop
  | .normal, .normal => True
  | .ret, .ret => True
  | .exit i, .exit j => i = j
  | .goto i, .goto j => i = j
  | .panic v, .panic ch => ∃ v' old, ch = { v := v', recovered := false } :: old ∧ NoGx old ∧ VRel β v v'
  | _, _ => False
def CPost (β : Mp) (nt : Nat) (H H' : Hp) (w : Nat) (W : World) (x : Ex) (t' : T Value) (ds' : List Deferred) : Exit → Act → World → Prop :=
  fun e a' W' => ∃ β', XRel β' x e ∧ ARel β' nt t' ds' a' ∧ Post β β' H H' w W W'
def loopIn (F : Fence) (n : Nat) (P : Program) (c : Code) (Q : Exit → Act → World → Prop) (a : Act) (w : World) : Prop :=
  ∀ (b : Frame) (k : List Item) (cs : List Frame), b.roundOf = F.round → F.fn b.fn → F.room (cs.length + 1 + n) →
    ∃ e a' w', Q e a' w' ∧ ArrivesIn (Machine.fenced P F) P (lone (b.atR a (.code c :: .inLoop c :: k)) cs w) b k cs e a' w'
def VmRel (β : Mp) : FrameMode → FrameMode → Prop
  | .run, .run => True
  | .returning, .returning => True
  | .panicking c, .panicking c' => ∃ x y old, c = [x] ∧ c' = y :: old ∧ NoGx old ∧ VRel β x.v y.v ∧ x.recovered = y.recovered ∧ x.goexit = false ∧ y.goexit = false
  | _, _ => False
def TaskOk (P : Program) (ng : Nat) (tk : Task) (H : Hp) (x : TR) : Prop := match tk with
  | .call f args => KOk ng H x fun β W R => ∀ args' : Array Value, LRel β args args'.toList → CallOk P f args' W R
  | .round l args => KOk ng H x fun β W R => ∀ (m : Bm) (args' : Array Value), β l = some m → LRel β args args'.toList → RoundOk P m.rb args' W R
  | .loop b cx t ds => match x with
    | .c (.mk e t' ds' H' r w) => cx.nt < 8 ^ cx.d → Can H H' w ∧ ∀ β W a F, GRel ng β → FRel β cx.rnd F → ARel β cx.nt t ds a → Pre β H H' r w W → loopIn F 0 P b (CPost β cx.nt H H' w W e t' ds') a W
    | _ => True
  | .unwind nt res t ds m => KOk ng H x fun β W R => ∀ (fn : Func) (tmps : Array Value) (ds' : List Deferred) (m' : FrameMode), fn.results.toList = res → TRel β nt t tmps → DsRel β ds ds' → VmRel β m m' → m' ≠ .run → LeavesInM FW 0 P fn tmps R ds' m' W
  | .dcall f args um => match x with
    | .k (.drop um' H' r w) => Can H H' w ∧ ∀ β W (args' : Array Value) mm, GRel ng β → LRel β args args'.toList → VmRel β um mm → Pre β H H' r w W →
        (callFunc f args').run P W = .ok (.enter f args') W ∧ CallsDIn FW 0 P f args' mm W fun e u' W' => ∃ β' v, e = .returned v ∧ VmRel β' um' u' ∧ Post β β' H H' w W W'
    | .k (.dpan v H' r w) => Can H H' w ∧ ∀ β W (args' : Array Value) mm, GRel ng β → LRel β args args'.toList → VmRel β um mm → Pre β H H' r w W →
        (callFunc f args').run P W = .ok (.enter f args') W ∧ CallsDIn FW 0 P f args' mm W fun e u' W' => ∃ β' v' old m, e = .panicked ({ v := v', recovered := false } :: old) ∧ NoGx old ∧ VRel β' v v' ∧ VmRel β' m u' ∧ Post β β' H H' w W W'
    | _ => True
def RecOk (P : Program) (ng : Nat) (rec : Rec) : Prop := ∀ tk H, H.wf → TaskOk P ng tk H (rec tk H)
end Go.Ev
end
noncomputable section
namespace Go.Ev
variable [SyQ]
section
variable {P : Program} {tb : Tb} (ok : TbOk P tb) {β : Mp} {H : Hp} {W : World}
theorem trel_get {nt : Nat} {t : T Value} {tmps : Array Value} (h : TRel β nt t tmps) {i : Nat} (hi : i < nt) : VRel β (t.get i) (tmps.getD i undef) := by
  have hs : i < tmps.size := by rw [h.1]; exact hi
  have hv : tmps[i]? = some tmps[i] := by simp [hs]
  have := h.2 i _ hv
  simpa [Array.getD, hs] using this
theorem operand_ok {nt : Nat} {t : T Value} {a : Act} (hg : GRel tb.ng β) (h : TRel β nt t a.tmps) {x : Operand} (hx : okO tb nt x = true) : VRel β (evalO t x) (a.eval x) := by
  cases x with
  | tmp i => exact trel_get h ((blt_iff _ _).1 hx)
  | const v => exact VRel.flat β 10 v hx
  | global g =>
    obtain ⟨m, e, h1, h2⟩ := hg.1 g ((blt_iff _ _).1 hx)
    have := VRel.ptr g 0 m e
    rw [h1, h2] at this; exact this
  | func f => exact .func f [] [] [] [] rfl (fun i v v' h => by simp at h) rfl (fun i v v' h => by simp at h)
theorem trel_put {d nt : Nat} {t : T Value} {a : Act} {dst : Option Tmp} {v v' : Value} (hd : nt < 8 ^ d) (h : TRel β nt t a.tmps) (hdst : ∀ i : Nat, dst = some i → i < nt) (hv : VRel β v v') : TRel β nt (putT d t dst v) (a.put dst v').tmps := by
  cases dst with
  | none => exact h
  | some i =>
    have hi := hdst i rfl
    refine ⟨by simp [Act.put, h.1], fun j x hx => ?_⟩
    have hj : j < nt := by
      have hs : (a.put (some i) v').tmps.size = nt := by simp [Act.put, h.1]
      rcases Nat.lt_or_ge j nt with h' | h'
      · exact h'
      · rw [Array.getElem?_eq_none (by omega)] at hx; cases hx
    show VRel β ((T.set d t i v).get j) x
    rw [T.get_set d t i j v (by omega) (by omega)]
    simp only [Act.put, Array.getElem?_setIfInBounds] at hx
    by_cases hij : i = j
    · subst hij
      have hlt : i < a.tmps.size := by rw [h.1]; exact hi
      simp only [if_true, hlt, Option.some.injEq] at hx
      subst hx; simpa using hv
    · rw [if_neg hij] at hx
      rw [if_neg (fun h => hij h.symm)]
      exact h.2 j x hx
theorem arel_put {d nt : Nat} {t : T Value} {ds : List Deferred} {a : Act} {dst : Option Tmp} {v v' : Value} (hd : nt < 8 ^ d) (h : ARel β nt t ds a) (hdst : ∀ i : Nat, dst = some i → i < nt) (hv : VRel β v v') : ARel β nt (putT d t dst v) ds (a.put dst v') := by
  refine ⟨trel_put hd h.1 hdst hv, ?_⟩
  cases dst <;> exact h.2
structure CompOk (tb : Tb) (nt : Nat) (ops : Array Oper) (o : Oper) (c : CO) : Prop where
  op : c.op = compOp tb o
  dst : c.dst = o.dst
  opnds : ∀ x ∈ o.op.operands.toList, okO tb nt x = true
  dlt : ∀ i : Nat, o.dst = some i → i < nt
  guard : (o.guard = none ∧ c.guard = none) ∨ ∃ (j : Nat) (w : Bool) (d : Nat), o.guard = some (j, w) ∧ c.guard = some (d, w) ∧ (ops[j]?).bind (·.dst) = some d ∧ d < nt
theorem comp_inv {nt : Nat} {ops : Array Oper} {o : Oper} : CompOk tb nt ops o (compO tb nt ops o) ∨ compO tb nt ops o = ⟨none, none, .bad⟩ := by
  unfold compO
  cases hg : cGuard ops o.guard with
  | none => exact .inr rfl
  | some g =>
    simp only []
    cases hk : okOper tb nt o g with
    | false => exact .inr rfl
    | true =>
      left
      simp only [okOper, Bool.and_eq_true, List.all_eq_true] at hk
      obtain ⟨⟨h1, h2⟩, h3⟩ := hk
      refine ⟨rfl, rfl, h1, fun i hi => ?_, ?_⟩
      · rw [hi] at h2; exact (blt_iff _ _).1 h2
      · unfold cGuard at hg
        cases hog : o.guard with
        | none => rw [hog] at hg; cases hg; exact .inl ⟨rfl, rfl⟩
        | some jw =>
          obtain ⟨j, w⟩ := jw
          rw [hog] at hg
          simp only at hg
          cases hd : (ops[j]?).bind (·.dst) with
          | none => simp only [hd] at hg; cases hg
          | some d =>
            simp only [hd] at hg
            cases hg
            exact .inr ⟨j, w, d, rfl, rfl, hd, (blt_iff _ _).1 h3⟩
theorem wants_ok {nt : Nat} {ops : Array Oper} {o : Oper} {c : CO} {t : T Value} {a : Act} (hc : CompOk tb nt ops o c) (h : ∀ (j : Nat) (w : Bool) (d : Nat), o.guard = some (j, w) → (ops[j]?).bind (·.dst) = some d → d < nt → VRel β (t.get d) (a.tmps.getD d undef) ∧ a.tmps.size = nt) :
    Region.wanted o (yielded ops a.tmps) = wants t c.guard := by
  rcases hc.guard with ⟨h1, h2⟩ | ⟨j, w, d, h1, h2, h3, h4⟩
  · rw [h2]; unfold Region.wanted; rw [h1]; rfl
  · obtain ⟨hv, hsz⟩ := h j w d h1 h3 h4
    rw [h2]
    unfold Region.wanted yielded
    rw [h1]
    simp only [h3, Option.bind_some]
    have hlt : d < a.tmps.size := by rw [hsz]; exact h4
    have hget : a.tmps[d]? = some a.tmps[d] := by simp [hlt]
    have hgd : a.tmps.getD d undef = a.tmps[d] := by simp [Array.getD, hlt]
    rw [hgd] at hv
    rw [hget]
    show _ = (match asB (t.get d) with | some b => Bc b w (!w) | none => false)
    generalize t.get d = v at hv
    generalize a.tmps[d] = v' at hv
    cases hv <;> first | (cases w <;> rfl) | (rename_i k m e hs; have hnb := (symR_one hs).1; cases v' <;> first | exact absurd rfl (hnb _) | (cases w <;> rfl)) | skip
    · rename_i b
      cases b <;> cases w <;> rfl
    · rename_i hnb
      cases v' <;> first | exact absurd rfl (hnb _) | (cases w <;> rfl)
end
end Go.Ev
end
noncomputable section
namespace Go.Ev
variable [SyQ]
def RCan (H : Hp) (x : R) : Prop := match x with
  | .val _ H' _ w => Can H H' w
  | _ => True
section
variable {H : Hp} (hw : H.wf)
theorem rcan_bc {c : Bool} {x y : R} (h1 : RCan H x) (h2 : RCan H y) : RCan H (Bc c x y) := by cases c <;> assumption
theorem rcan_alloc (x : Blk) (f : Nat → Value) (r : Nat) : RCan H (alloc1 x H f r 0) := by
  rw [alloc1_eq]; split
  · rename_i h; exact can_push h
  · trivial
theorem rcan_fill {z : Option (List Value)} {k : List Value → R} (h : ∀ l, RCan H (k l)) : RCan H (exFill z k) := by
  cases z with
  | none => trivial
  | some l => exact h l
include hw
theorem rcan_v (v : Value) (r : Nat) : RCan H (.val v H r 0) := Can.refl hw
theorem rcan_rv (v : Value) : RCan H (R.v v H) := Can.refl hw
theorem rcan_o (x : Option Value) : RCan H (R.o x H) := by cases x <;> first | trivial | exact Can.refl hw
theorem rcan_same {v : Value} {r b : Nat} (ha : H.blk b ≠ .no) : RCan H (.val v H r (bit b)) := can_same hw ((alive_iff H b).2 ha)
theorem rcan_put {v : Value} {r b : Nat} {x : Blk} (ha : H.blk b ≠ .no) : RCan H (.val v (H.put b x) r (bit b)) := can_put hw x ((alive_iff H b).2 ha)
theorem rcan_wr {v : Value} {r b o : Nat} {vs : List Value} {H' : Hp} (h : wrN H b o vs = some H') : RCan H (.val v H' r (bit b)) := (can_wr hw h).1
theorem rcan_wrs {v : Value} {r b o : Nat} {vs : List Value} {H' : Hp} (h : wrNs H b o vs = some H') : RCan H (.val v H' r (bit b)) := (can_wrs hw h).1
theorem rcan_exSt (n : Nat) (a x : Value) : RCan H (exSt n a x H) := by
  unfold exSt
  split
  · split
    · refine rcan_bc ?_ trivial
      split
      · rename_i h; exact rcan_wr hw h
      · trivial
    · trivial
  · trivial
theorem rcan_exApp (ty sz by_ : Nat) (s x : Value) : RCan H (exApp ty sz by_ s x H) := by
  unfold exApp
  split
  · split
    · trivial
    · refine rcan_bc ?_ (rcan_bc ?_ trivial)
      · split
        · exact rcan_v hw _ _
        · split
          · rename_i h; exact rcan_wr hw h
          · trivial
      · split
        · exact rcan_bc (rcan_alloc _ _ _) trivial
        · split
          · trivial
          · refine rcan_bc ?_ (rcan_alloc _ _ _)
            split
            · rename_i e
              refine rcan_bc ?_ trivial
              rw [alloc1_eq, nx_put, room_put]
              split
              · rename_i hn; exact can_fork hw ((alive_iff H _).2 (by rw [e]; simp)) hn
              · trivial
            · trivial
  · trivial
theorem rcan_exCopy (sz : Nat) (d x : Value) : RCan H (exCopy sz d x H) := by
  unfold exCopy
  split
  · split
    · trivial
    · split
      · exact rcan_v hw _ _
      · split
        · rename_i h; exact rcan_wrs hw h
        · trivial
  · trivial
theorem rcan_exClear (z : List Value) (x : Value) : RCan H (exClear z x H) := by
  unfold exClear
  split
  · exact rcan_rv hw _
  · split
    · rename_i h; exact rcan_wr hw h
    · trivial
  · trivial
theorem rcan_exMup (p : Eqp) (m k x : Value) : RCan H (exMup p m k x H) := by
  unfold exMup
  split
  · split
    · trivial
    · rename_i e
      have ha := mapOf_inv e
      split
      · exact rcan_put hw (by rw [ha]; simp)
      · exact rcan_put hw (by rw [ha]; simp)
      · trivial
  · trivial
theorem rcan_exDel (p : Eqp) (m k : Value) : RCan H (exDel p m k H) := by
  unfold exDel
  split
  · trivial
  · exact rcan_rv hw _
  · split
    · trivial
    · rename_i e
      have ha := mapOf_inv e
      split
      · exact rcan_put hw (by rw [ha]; simp)
      · exact rcan_same hw (by rw [ha]; simp)
      · trivial
theorem rcan_exNxtS (x : Value) : RCan H (exNxtS x H) := by
  unfold exNxtS
  split
  · split
    · rename_i e
      exact rcan_bc (rcan_put hw (by rw [e]; simp)) (rcan_same hw (by rw [e]; simp))
    · trivial
  · trivial
theorem rcan_exNxtM (x : Value) : RCan H (exNxtM x H) := by
  unfold exNxtM
  split
  · split
    · rename_i e
      exact rcan_same hw (by rw [e]; simp)
    · rename_i e
      split
      · trivial
      · split
        · trivial
        · simp only []
          split
          · trivial
          · split
            · exact rcan_same hw (by rw [e]; simp)
            · exact rcan_put hw (by rw [e]; simp)
            · trivial
    · trivial
  · trivial
theorem rcan_exSlO (sz : Nat) (a : Option (Nat × Nat)) (l h m : Nat) : RCan H (exSlO sz a l h m H) := by
  unfold exSlO
  split
  · trivial
  · split
    · exact rcan_bc (rcan_v hw _ _) trivial
    · trivial
theorem rcan_exFld (agg : Bool) (sz off : Nat) (x : Value) : RCan H (exFld agg sz off x H) := by
  unfold exFld
  split
  · trivial
  · exact rcan_bc (rcan_bc (rcan_rv hw _) trivial) (rcan_o hw _)
theorem can_run (op : COp) (t : T Value) : RCan H (run op t H) := by
  cases op with
  | bad => trivial
  | mv x => exact rcan_rv hw _
  | pick c a b => simp only [run, exPick]; split <;> first | trivial | exact rcan_rv hw _
  | alloc z => exact rcan_alloc _ _ _
  | box ty x => exact rcan_fill fun l => rcan_alloc _ _ _
  | build z ps => exact rcan_fill fun l => rcan_rv hw _
  | bslice len ty z ps => exact rcan_fill fun l => rcan_alloc _ _ _
  | ld1 a =>
    simp only [run, exLd1]
    split
    · split <;> first | trivial | exact rcan_v hw _ _
    · trivial
  | ldN n a =>
    simp only [run, exLdN]
    split
    · split <;> first | trivial | exact rcan_v hw _ _
    · trivial
  | st n a x => exact rcan_exSt hw _ _ _
  | nilc x => simp only [run, exNil]; split <;> first | trivial | exact rcan_rv hw _
  | bin op x y => exact rcan_o hw _
  | eq neg p x y => simp only [run, exEq]; split <;> first | trivial | exact rcan_rv hw _
  | un op x =>
    simp only [run, exUn]
    split
    · exact rcan_o hw _
    · split <;> first | trivial | exact rcan_rv hw _
    · split <;> first | trivial | exact rcan_rv hw _
    · trivial
  | cInt k x => simp only [run, exCInt]; split <;> first | exact rcan_o hw _ | exact rcan_rv hw _
  | cChr x => simp only [run, exChr]; split <;> first | exact rcan_o hw _ | exact rcan_rv hw _
  | cToB ty x => simp only [run, exToB]; split <;> first | trivial | exact rcan_alloc _ _ _
  | cToS x =>
    simp only [run, exToS]
    split
    · exact rcan_rv hw _
    · split
      · split <;> first | trivial | exact rcan_v hw _ _
      · trivial
    · trivial
  | cSS x => simp only [run, exSS]; split <;> first | trivial | exact rcan_rv hw _
  | toU x =>
    simp only [run, exToU]
    split
    · split
      · exact rcan_bc (rcan_v hw _ _) trivial
      · trivial
    · trivial
  | frU l x =>
    simp only [run, exFrU]
    split
    · split
      · exact rcan_bc (rcan_v hw _ _) trivial
      · trivial
    · trivial
  | usd x =>
    simp only [run, exUsd]
    split
    · exact rcan_rv hw _
    · exact rcan_bc trivial (rcan_v hw _ _)
    · trivial
  | ustr e p n =>
    simp only [run, exUstr]
    split
    · split
      · split <;> first | trivial | exact rcan_rv hw _
      · split
        · split
          · rename_i hb
            refine rcan_bc ?_ trivial
            split
            · exact rcan_put hw (by rw [hb]; simp)
            · trivial
          · trivial
        · trivial
      · trivial
    · trivial
  | mkI t x => exact rcan_rv hw _
  | mkF fn first captured => exact rcan_rv hw _
  | mkM => exact rcan_alloc (.obj (.map #[] 0)) (fun i => .map (some i)) 0
  | mkSl ty by_ z l c =>
    simp only [run, exMkSl]
    split
    · split
      · exact rcan_bc (rcan_alloc _ _ _) trivial
      · trivial
    · trivial
  | slS x lo hi =>
    simp only [run, exSlS]
    split
    · trivial
    · split <;> first | trivial | exact rcan_rv hw _
  | slL sz x lo hi mx =>
    simp only [run, exSlL]
    split
    · trivial
    · split
      · trivial
      · exact rcan_bc (rcan_bc (rcan_rv hw _) (rcan_bc trivial (rcan_exSlO hw _ _ _ _ _))) (rcan_bc (rcan_rv hw _) (rcan_rv hw _))
  | slA n sz x lo hi mx =>
    simp only [run, exSlA]
    split
    · trivial
    · split
      · trivial
      · exact rcan_bc (rcan_rv hw _) (rcan_rv hw _)
  | fa off x => simp only [run, exFa]; split <;> first | trivial | exact rcan_v hw _ _
  | fld agg sz off x => exact rcan_exFld hw _ _ _ _
  | iaA n sz x i =>
    simp only [run, exIaA]
    split
    · split <;> first | trivial | exact rcan_v hw _ _
    · trivial
  | iaS sz x i =>
    simp only [run, exIaS]
    split
    · split <;> first | trivial | exact rcan_v hw _ _
    · trivial
  | ixA agg n sz x i =>
    simp only [run, exIxA]
    split
    · exact rcan_exFld hw _ _ _ _
    · trivial
  | ixS x i =>
    simp only [run, exIxS]
    split
    · split
      · split <;> first | trivial | exact rcan_rv hw _
      · trivial
    · exact rcan_o hw _
  | lkp z ok p m k =>
    simp only [run, exLkp]
    split
    · trivial
    · exact rcan_rv hw _
    · split
      · trivial
      · split <;> first | trivial | exact rcan_v hw _ _
  | mup p m k x => exact rcan_exMup hw _ _ _ _
  | rngS x => simp only [run, exRngS]; split <;> first | trivial | exact rcan_alloc _ _ _
  | rngM x =>
    simp only [run, exRngM]
    split
    · trivial
    · exact rcan_alloc _ _ _
    · split <;> first | trivial | exact rcan_alloc _ _ _
  | nxtS it => exact rcan_exNxtS hw _
  | nxtM it => exact rcan_exNxtM hw _
  | tas t z ok x =>
    simp only [run, exTas]
    split
    · exact rcan_bc (rcan_rv hw _) trivial
    · exact rcan_bc (rcan_rv hw _) (rcan_bc (rcan_rv hw _) trivial)
    · trivial
  | ext x i => simp only [run, exExt]; split <;> first | trivial | exact rcan_o hw _
  | len k x =>
    simp only [run, exLen]
    split
    · exact rcan_bc (rcan_rv hw _) trivial
    · exact rcan_bc (rcan_rv hw _) trivial
    · exact rcan_bc (rcan_rv hw _) trivial
    · refine rcan_bc ?_ trivial
      split <;> first | trivial | exact rcan_v hw _ _
    · exact rcan_bc (rcan_o hw _) trivial
    · trivial
  | lenA n => exact rcan_rv hw _
  | cap x => simp only [run, exCap]; split <;> first | trivial | exact rcan_rv hw _
  | app ty sz by_ s x => exact rcan_exApp hw _ _ _ _ _
  | copy sz d x => exact rcan_exCopy hw _ _ _
  | clear z x => exact rcan_exClear hw _ _
  | min x y => simp only [run, exMin]; split <;> first | exact rcan_o hw _ | exact rcan_rv hw _
  | max x y => simp only [run, exMin]; split <;> first | exact rcan_o hw _ | exact rcan_rv hw _
  | min3 x y z => simp only [run, exMin3]; split <;> first | trivial | exact rcan_rv hw _
  | max3 x y z => simp only [run, exMin3]; split <;> first | trivial | exact rcan_rv hw _
  | del p m k => exact rcan_exDel hw _ _ _
  | call f args => simp only [run, callV]; split <;> trivial
  | inv ms r args =>
    simp only [run, invV]
    split
    · split <;> trivial
    · trivial
  | defer f args => simp only [run, deferV]; split <;> trivial
  | recover => trivial
  | panic x => simp only [run, exPanic]; split <;> trivial
end
end Go.Ev
end
noncomputable section
namespace Go.Ev
variable [SyQ]
theorem skip_value {o : Oper} {P : Program} {F : Fence} {n : Nat} {a : Act} {next : Act → World → Prop} {Q : Exit → Act → World → Prop} {W' : World} {v' : Value} {x : Result Next}
    (h : x = .ok (.value v') W' ∨ (x = .ok .skip W' ∧ v' = undef)) (hn : next (a.put o.dst v') W') : o.uponIn F n P a next Q x := by
  rcases h with rfl | ⟨rfl, rfl⟩ <;> exact hn
section
variable {P : Program} {tb : Tb} (ok : TbOk P tb) {β : Mp} {H : Hp} {W : World}
theorem upon_call {F : Fence} {rnd : Option Nat} {o : Oper} {a : Act} {next : Act → World → Prop} {Q : Exit → Act → World → Prop} {f : FuncId} {args : Array Value} {R : Ending → World → Prop} (hF : FRel β rnd F)
    (h : CallOk P f args W R) (h1 : ∀ v W', R (.returned v) W' → next (a.put o.dst v) W') (h2 : ∀ c W', R (.panicked c) W' → Q (.panic c) a W') (h3 : ∀ W', ¬ R .outgrown W') :
    o.uponIn F 0 P a next Q ((callFunc f args).run P W) := by
  have hd : F.depth.isSome = true → 1 ≤ 0 := by
    intro h
    cases rnd with
    | none => rw [hF] at h; cases h
    | some l => obtain ⟨m, _, rfl⟩ := hF; cases h
  rcases h with ⟨h, hc⟩ | ⟨v, W', h, hR⟩
  · rw [h]
    refine ⟨hd, ?_⟩
    have hc' : CallsIn F (0 - 1) P f args W R := by
      cases rnd with
      | none => rw [hF]; exact hc
      | some l => obtain ⟨m, _, rfl⟩ := hF; exact hc
    refine CallsIn.mono hc' fun e W' hR => ?_
    cases e with
    | returned v => exact h1 v W' hR
    | panicked c => exact h2 c W' hR
    | outgrown => exact absurd hR (h3 W')
  · rw [h]; exact h1 v W' hR
theorem upon_round {F : Fence} {rnd : Option Nat} {o : Oper} {a : Act} {next : Act → World → Prop} {Q : Exit → Act → World → Prop} {l : Nat} {args : Array Value} {R : Ending → World → Prop} (hF : FRel β rnd F)
    (h : RoundOk P l args W R) (h1 : ∀ v W', R (.returned v) W' → next (a.put o.dst v) W') (h2 : ∀ c W', ¬ R (.panicked c) W') (h3 : ∀ W', ¬ R .outgrown W') :
    o.uponIn F 0 P a next Q ((Instr.yield l args).run P W) := by
  have hd : F.depth.isSome = true → 1 ≤ 0 := by
    intro h
    cases rnd with
    | none => rw [hF] at h; cases h
    | some l => obtain ⟨m, _, rfl⟩ := hF; cases h
  obtain ⟨fn, tmps, assign, body, h, hc⟩ := h
  rw [h]
  refine ⟨hd, ?_⟩
  have hc' : RoundIn F (0 - 1) P l fn tmps assign body W R := by
    cases rnd with
    | none => rw [hF]; exact hc
    | some l => obtain ⟨m, _, rfl⟩ := hF; exact hc
  refine RoundIn.mono hc' fun e W' hR => ?_
  cases e with
  | returned v => exact h1 v W' hR
  | panicked c => exact absurd hR (h2 c W')
  | outgrown => exact absurd hR (h3 W')
theorem frel_fn {rnd : Option Nat} {F : Fence} (hF : FRel β rnd F) (f : FuncId) : F.fn f := by
  cases rnd with
  | none => rw [hF]; trivial
  | some l => obtain ⟨m, _, rfl⟩ := hF; trivial
theorem frel_none {F : Fence} (hF : FRel β none F) : F.round = none := by rw [hF]; rfl
theorem CPost.comp {β1 : Mp} {nt w1 w2 r1 r2 : Nat} {H1 H2 : Hp} {W1 : World} {x : Ex} {t' : T Value} {ds' : List Deferred} {e : Exit} {a' : Act} {W' : World} (c1 : Can H H1 w1) (c2 : Can H1 H2 w2)
    (p : Pre β H H2 (Nat.lor r1 r2) (Nat.lor w1 w2) W) (q : Post β β1 H H1 w1 W W1) (h : CPost β1 nt H1 H2 w2 W1 x t' ds' e a' W') : CPost β nt H H2 (Nat.lor w1 w2) W x t' ds' e a' W' := by
  obtain ⟨β', h1, h2, h3⟩ := h
  exact ⟨β', h1, h2, Post.comp c1 c2 p q h3⟩
theorem lor_assoc' (a b c : Nat) : Nat.lor (Nat.lor a b) c = Nat.lor a (Nat.lor b c) := Nat.or_assoc a b c
theorem lor_zero' (a : Nat) : Nat.lor a 0 = a := Nat.or_zero a
theorem zero_lor' (a : Nat) : Nat.lor 0 a = a := Nat.zero_or a
include ok
theorem evOps_ok {rec : Rec} (hrec : RecOk P tb.ng rec) {cx : Cx} (hd : cx.nt < 8 ^ cx.d) (ops : Array Oper) : ∀ (l : List Oper) (i : Nat), (∀ k o, l[k]? = some o → ops[i + k]? = some o) → ∀ (t : T Value) (ds : List Deferred) (H : Hp) (acc : Acc) (r w : Nat) (x : Ex)
    (t' : T Value) (ds' : List Deferred) (H' : Hp) (acc' : Acc) (r' w' : Nat), evOps rec cx (compOs tb cx.nt ops l) i t ds H acc r w = .mk x t' ds' H' acc' r' w' → H.wf →
    ∃ r2 w2, r' = Nat.lor r r2 ∧ w' = Nat.lor w w2 ∧ Can H H' w2 ∧ ∀ β W a F, GRel tb.ng β → FRel β cx.rnd F → ARel β cx.nt t ds a → Pre β H H' r2 w2 W → ∀ Q : Exit → Act → World → Prop,
      (∀ e a' W', CPost β cx.nt H H' w2 W x t' ds' e a' W' → Q e a' W') → wpOpsIn F 0 P ops Q (List.range' i l.length) a W := by
  intro l
  induction l with
  | nil =>
    intro i _ t ds H acc r w x t' ds' H' acc' r' w' h hw
    simp only [compOs, evOps, stepR] at h
    cases h
    refine ⟨0, 0, (lor_zero' _).symm, (lor_zero' _).symm, Can.refl hw, fun β W a F _ _ ha p Q hQ => ?_⟩
    exact hQ .normal a W ⟨β, trivial, ha, Post.refl p.dom⟩
  | cons o l ih =>
    intro i hl t ds H acc r w x t' ds' H' acc' r' w' h hw
    have ho : ops[i]? = some o := by simpa using hl 0 o rfl
    have hl' : ∀ k o', l[k]? = some o' → ops[i + 1 + k]? = some o' := fun k o' h => by
      have := hl (k + 1) o' (by simpa using h); rw [← this]; congr 1; omega
    have hrange : List.range' i (o :: l).length = i :: List.range' (i + 1) l.length := by simp [List.range'_succ]
    rw [hrange]
    simp only [compOs, evOps, stepR] at h
    rcases comp_inv (tb := tb) (nt := cx.nt) (ops := ops) (o := o) with hc | hc
    case inr =>
      rw [hc] at h
      have hwt : wants t (none : Option (Tmp × Bool)) = true := rfl
      rw [hwt, Bc_t] at h
      simp only [run] at h
      cases h
    generalize compO tb cx.nt ops o = c at h hc
    have hwanted : ∀ {β a}, ARel β cx.nt t ds a → Region.wanted o (yielded ops a.tmps) = wants t c.guard := fun ha => wants_ok hc fun j w d h1 h2 h3 => ⟨trel_get ha.1 h3, ha.1.1⟩
    cases hwt : wants t c.guard with
    | false =>
      rw [hwt, Bc_f] at h
      obtain ⟨r2, w2, e1, e2, hcan, hrest⟩ := ih (i + 1) hl' _ _ _ _ _ _ _ _ _ _ _ _ _ h hw
      refine ⟨r2, w2, e1, e2, hcan, fun β W a F hg hF ha p Q hQ => ?_⟩
      simp only [wpOpsIn, ho, hwanted ha, hwt]
      refine ⟨fun f _ => frel_fn hF f, ?_⟩
      have ha' := arel_put hd ha hc.dlt (vrel_U β)
      rw [hc.dst] at hrest
      exact hrest β W _ F hg hF ha' p Q hQ
    | true =>
      rw [hwt, Bc_t] at h
      have hrun := fun {β : Mp} {W : World} {a : Act} (hg : GRel tb.ng β) (ha : ARel β cx.nt t ds a) => run_ok (P := P) (W := W) (o := o) (ρ := a.eval) (t := t) ok hw hg.2 (fun y hy => operand_ok hg ha.1 (hc.opnds y hy))
      rw [← hc.op] at hrun
      cases hr : run c.op t H with
      | fail => rw [hr] at h; cases h
      | recover => rw [hr] at h; cases h
      | val v H1 r1 w1 =>
        rw [hr] at h hrun
        simp only at h
        have hH1 : Can H H1 w1 := by have := can_run hw c.op t; rw [hr] at this; exact this
        obtain ⟨r2, w2, e1, e2, hcan, hrest⟩ := ih (i + 1) hl' _ _ _ _ _ _ _ _ _ _ _ _ _ h hH1.wf
        refine ⟨Nat.lor r1 r2, Nat.lor w1 w2, by rw [e1, lor_assoc'], by rw [e2, lor_assoc'], Can.comp hH1 hcan, fun β W a F hg hF ha p Q hQ => ?_⟩
        simp only [wpOpsIn, ho, hwanted ha, hwt, if_true]
        obtain ⟨_, hx⟩ := hrun (W := W) hg ha
        obtain ⟨β1, W1, v', hres, hv, hpost⟩ := hx (p.first hcan)
        have hle := hpost.le
        have hne : ∀ cc, o.op ≠ .defer cc := by
          intro cc hcc
          have := hc.op; unfold compOp at this; rw [hcc] at this
          simp only at this
          split at this
          · rw [this] at hr; simp only [run, deferV] at hr; split at hr <;> cases hr
          · rw [this] at hr; simp only [run] at hr; cases hr
        refine ⟨fun f _ => frel_fn hF f, ?_⟩
        rw [Oper.semAt_eq _ _ _ hne]
        refine skip_value hres ?_
        have ha' := arel_put hd (ha.mono hle) hc.dlt hv
        rw [hc.dst] at hrest
        exact hrest β1 W1 _ F (hg.mono hle) (hF.mono hle) ha' (Pre.second hH1 hcan p hpost) Q fun e a' W' hh => hQ e a' W' (CPost.comp hH1 hcan p hpost hh)
      | call f args =>
        rw [hr] at h hrun
        simp only [afterCall] at h
        have hk := hrec (.call f args) H hw
        have hne : ∀ cc, o.op ≠ .defer cc := by
          intro cc hcc
          have := hc.op; unfold compOp at this; rw [hcc] at this
          simp only at this
          split at this
          · rw [this] at hr; simp only [run, deferV] at hr; split at hr <;> cases hr
          · rw [this] at hr; simp only [run] at hr; cases hr
        split at h
        · rename_i v H1 r1 w1 hx
          rw [hx] at hk
          obtain ⟨hH1, hk⟩ := hk
          obtain ⟨r2, w2, e1, e2, hcan, hrest⟩ := ih (i + 1) hl' _ _ _ _ _ _ _ _ _ _ _ _ _ h hH1.wf
          refine ⟨Nat.lor r1 r2, Nat.lor w1 w2, by rw [e1, lor_assoc'], by rw [e2, lor_assoc'], Can.comp hH1 hcan, fun β W a F hg hF ha p Q hQ => ?_⟩
          simp only [wpOpsIn, ho, hwanted ha, hwt, if_true]
          obtain ⟨args', hs, hl⟩ := hrun (W := W) hg ha
          refine ⟨fun f _ => frel_fn hF f, ?_⟩
          rw [Oper.semAt_eq _ _ _ hne, hs]
          refine upon_call hF (hk β W hg (p.first hcan) args' hl) (fun v' W1 hR => ?_) (fun ch W1 hR => ?_) (fun W1 hR => ?_)
          · obtain ⟨β1, v'', he, hv, hpost⟩ := hR
            cases he
            have hle := hpost.le
            have ha' := arel_put hd (ha.mono hle) hc.dlt hv
            rw [hc.dst] at hrest
            exact hrest β1 W1 _ F (hg.mono hle) (hF.mono hle) ha' (Pre.second hH1 hcan p hpost) Q fun e a' W' hh => hQ e a' W' (CPost.comp hH1 hcan p hpost hh)
          · obtain ⟨_, _, he, _⟩ := hR; cases he
          · obtain ⟨_, _, he, _⟩ := hR; cases he
        · rename_i v H1 r1 w1 hx
          rw [hx] at hk
          obtain ⟨hH1, hk⟩ := hk
          cases h
          refine ⟨r1, w1, rfl, rfl, hH1, fun β W a F hg hF ha p Q hQ => ?_⟩
          simp only [wpOpsIn, ho, hwanted ha, hwt, if_true]
          obtain ⟨args', hs, hl⟩ := hrun (W := W) hg ha
          refine ⟨fun f _ => frel_fn hF f, ?_⟩
          rw [Oper.semAt_eq _ _ _ hne, hs]
          refine upon_call hF (hk β W hg p args' hl) (fun v' W1 hR => ?_) (fun ch W1 hR => ?_) (fun W1 hR => ?_)
          · obtain ⟨_, _, _, he, _⟩ := hR; cases he
          · obtain ⟨β1, v'', old, he, hno, hv, hpost⟩ := hR
            cases he
            exact hQ _ _ _ ⟨β1, ⟨v'', old, rfl, hno, hv⟩, ha.mono hpost.le, hpost⟩
          · obtain ⟨_, _, _, he, _⟩ := hR; cases he
        · cases h
      | round m args =>
        rw [hr] at h hrun
        simp only [afterCall] at h
        have hk := hrec (.round m args) H hw
        have hne : ∀ cc, o.op ≠ .defer cc := by
          intro cc hcc
          have := hc.op; unfold compOp at this; rw [hcc] at this
          simp only at this
          split at this
          · rw [this] at hr; simp only [run, deferV] at hr; split at hr <;> cases hr
          · rw [this] at hr; simp only [run] at hr; cases hr
        split at h
        · rename_i v H1 r1 w1 hx
          rw [hx] at hk
          obtain ⟨hH1, hk⟩ := hk
          obtain ⟨r2, w2, e1, e2, hcan, hrest⟩ := ih (i + 1) hl' _ _ _ _ _ _ _ _ _ _ _ _ _ h hH1.wf
          refine ⟨Nat.lor r1 r2, Nat.lor w1 w2, by rw [e1, lor_assoc'], by rw [e2, lor_assoc'], Can.comp hH1 hcan, fun β W a F hg hF ha p Q hQ => ?_⟩
          simp only [wpOpsIn, ho, hwanted ha, hwt, if_true]
          obtain ⟨m', args', em, hs, hl⟩ := hrun (W := W) hg ha
          refine ⟨fun f _ => frel_fn hF f, ?_⟩
          rw [Oper.semAt_eq _ _ _ hne, hs]
          refine upon_round hF (hk β W hg (p.first hcan) m' args' em hl) (fun v' W1 hR => ?_) (fun ch W1 hR => ?_) (fun W1 hR => ?_)
          · obtain ⟨β1, v'', he, hv, hpost⟩ := hR
            cases he
            have hle := hpost.le
            have ha' := arel_put hd (ha.mono hle) hc.dlt hv
            rw [hc.dst] at hrest
            exact hrest β1 W1 _ F (hg.mono hle) (hF.mono hle) ha' (Pre.second hH1 hcan p hpost) Q fun e a' W' hh => hQ e a' W' (CPost.comp hH1 hcan p hpost hh)
          · obtain ⟨_, _, he, _⟩ := hR; cases he
          · obtain ⟨_, _, he, _⟩ := hR; cases he
        · cases h
        · cases h
      | panic v =>
        rw [hr] at h hrun
        simp only at h
        cases h
        refine ⟨0, 0, rfl, rfl, Can.refl hw, fun β W a F hg hF ha p Q hQ => ?_⟩
        simp only [wpOpsIn, ho, hwanted ha, hwt, if_true]
        obtain ⟨v', hs, hv⟩ := hrun (W := W) hg ha
        have hne : ∀ cc, o.op ≠ .defer cc := by
          intro cc hcc
          have := hc.op; unfold compOp at this; rw [hcc] at this
          simp only at this
          split at this
          · rw [this] at hr; simp only [run, deferV] at hr; split at hr <;> cases hr
          · rw [this] at hr; simp only [run] at hr; cases hr
        refine ⟨fun f _ => frel_fn hF f, ?_⟩
        rw [Oper.semAt_eq _ _ _ hne, hs]
        exact hQ _ _ _ ⟨β, ⟨v', [], rfl, .nil, hv⟩, ha, Post.refl p.dom⟩
      | defer d =>
        rw [hr] at h hrun
        simp only at h
        cases hrnd : cx.rnd with
        | some l => rw [hrnd] at h; cases h
        | none =>
          cases hdrw : cx.drw with
          | true => rw [hrnd, hdrw] at h; cases h
          | false =>
          rw [hrnd, hdrw] at h
          simp only at h
          obtain ⟨r2, w2, e1, e2, hcan, hrest⟩ := ih (i + 1) hl' _ _ _ _ _ _ _ _ _ _ _ _ _ h hw
          refine ⟨r2, w2, e1, e2, hcan, fun β W a F hg hF ha p Q hQ => ?_⟩
          simp only [wpOpsIn, ho, hwanted ha, hwt, if_true]
          obtain ⟨d', hs, hdr⟩ := hrun (W := W) hg ha
          refine ⟨fun f _ => frel_fn hF f, ?_⟩
          rw [frel_none hF, Oper.semAt_none, hs]
          have ha2 : ARel β cx.nt t (d :: ds) { a with defers := d' :: a.defers } := ⟨ha.1, DsRel.cons hdr ha.2⟩
          have ha' := arel_put hd ha2 hc.dlt (vrel_U β)
          rw [hc.dst] at hrest
          rw [hrnd] at hrest
          exact hrest β W _ F hg hF ha' p Q hQ
end
end Go.Ev
end
noncomputable section
namespace Go.Ev
variable [SyQ]
section
variable (P : Program) (tb : Tb) (nt : Nat) (rnd : Option Nat) (ops : Array Oper)
structure StepR (i : Nat) (o : Oper) (t : T Value) (H : Hp) (v : Value) (H' : Hp) (r w : Nat) : Prop where
  can : Can H H' w
  opnds : ∀ x ∈ o.op.operands.toList, okO tb nt x = true
  dlt : ∀ i : Nat, o.dst = some i → i < nt
  run : ∀ (β : Mp) (W : World) (a : Act) (F : Fence) (K : Act → World → Prop) (Q : Exit → Act → World → Prop), GRel tb.ng β → FRel β rnd F → (∀ x ∈ o.op.operands.toList, VRel β (evalO t x) (a.eval x)) →
    (∀ (j : Nat) (w : Bool) (d : Nat), o.guard = some (j, w) → (ops[j]?).bind (·.dst) = some d → d < nt → VRel β (t.get d) (a.tmps.getD d undef) ∧ a.tmps.size = nt) → Pre β H H' r w W →
    (∀ β' v' W', VRel β' v v' → Post β β' H H' w W W' → K (a.put o.dst v') W') → wpOpIn F 0 P ops Q i K a W
end
structure Ent where
  t : T Value
  H : Hp
  v : Value
  H' : Hp
  r : Nat
  w : Nat
def Triv (e : Ent) : Prop := e.r = 0 ∧ e.w = 0 ∧ e.H' = e.H
def sub (x y : Nat) : Prop := ∀ b, x.testBit b = true → y.testBit b = true
theorem sub_refl (x : Nat) : sub x x := fun _ h => h
def okP (B : Array Nat) (x y : Nat × Nat × Nat) : Prop := (B.getD x.1 0).testBit y.1 = true ∨ (Nat.land y.2.2 (Nat.lor x.2.1 x.2.2) = 0 ∧ Nat.land x.2.2 y.2.1 = 0)
theorem okOne_iff (b rj wj : Nat) (l : Acc) (h : okOne b rj wj l = true) : ∀ y ∈ l, b.testBit y.1 = true ∨ (Nat.land y.2.2 (Nat.lor rj wj) = 0 ∧ Nat.land wj y.2.1 = 0) := by
  induction l with
  | nil => intro y hy; cases hy
  | cons z l ih =>
    obtain ⟨i, ri, wi⟩ := z
    simp only [okOne] at h
    intro y hy
    cases hb : Nat.testBit b i with
    | true =>
      rw [hb, Bc_t] at h
      rcases List.mem_cons.1 hy with rfl | hy
      · exact .inl hb
      · exact ih h y hy
    | false =>
      rw [hb, Bc_f] at h
      cases h1 : Nat.beq (Nat.land wi (Nat.lor rj wj)) 0 with
      | false => rw [h1, Bc_f] at h; cases h
      | true =>
        rw [h1, Bc_t] at h
        cases h2 : Nat.beq (Nat.land wj ri) 0 with
        | false => rw [h2, Bc_f] at h; cases h
        | true =>
          rw [h2, Bc_t] at h
          rcases List.mem_cons.1 hy with rfl | hy
          · exact .inr ⟨(beq_iff _ _).1 h1, (beq_iff _ _).1 h2⟩
          · exact ih h y hy
theorem okPair_iff (B : Array Nat) : ∀ (l : Acc), okPair B l = true → l.Pairwise (okP B) := by
  intro l
  induction l with
  | nil => intro _; exact List.Pairwise.nil
  | cons x l ih =>
    obtain ⟨j, rj, wj⟩ := x
    intro h
    simp only [okPair, Bool.and_eq_true] at h
    exact List.Pairwise.cons (fun y hy => okOne_iff _ _ _ _ h.1 y hy) (ih h.2)
section
variable {P : Program} {tb : Tb} (ok : TbOk P tb)
def Chain (P : Program) (tb : Tb) (d nt : Nat) (rnd : Option Nat) (ops : Array Oper) : Nat → List Oper → T Value → Hp → List Ent → T Value → Hp → Prop
  | _, [], t, H, es, t', H' => es = [] ∧ t' = t ∧ H' = H
  | i, o :: l, t, H, es, t', H' => ∃ e es', es = e :: es' ∧ e.t = t ∧ e.H = H ∧ StepR P tb nt rnd ops i o t H e.v e.H' e.r e.w ∧ Chain P tb d nt rnd ops (i + 1) l (putT d t o.dst e.v) e.H' es' t' H'
theorem evOps_cut {rec : Rec} {cx : Cx} : ∀ (l : List CO) (i : Nat) (t : T Value) (ds : List Deferred) (H : Hp) (acc : Acc) (r w : Nat) (v : Value) (t' : T Value) (ds' : List Deferred) (H' : Hp) (acc' : Acc) (r' w' : Nat),
    evOps rec cx l i t ds H acc r w = .mk (.panic v) t' ds' H' acc' r' w' →
    ∃ (k : Nat) (o : CO) (t1 : T Value) (ds1 : List Deferred) (H1 : Hp) (acc1 : Acc) (r1 w1 : Nat), l[k]? = some o ∧ evOps rec cx (l.take k) i t ds H acc r w = .mk .normal t1 ds1 H1 acc1 r1 w1 ∧
      evOps rec cx [o] (i + k) t1 ds1 H1 acc1 r1 w1 = .mk (.panic v) t' ds' H' acc' r' w' ∧ acc' = (i + k, 0, 0) :: acc1 := by
  intro l
  induction l with
  | nil => intro i t ds H acc r w v t' ds' H' acc' r' w' h; simp only [evOps] at h; cases h
  | cons o l ih =>
    intro i t ds H acc r w v t' ds' H' acc' r' w' h
    have step : ∀ (t0 : T Value) (ds0 : List Deferred) (H0 : Hp) (acc0 : Acc) (r0 w0 : Nat), evOps rec cx l (Nat.succ i) t0 ds0 H0 acc0 r0 w0 = .mk (.panic v) t' ds' H' acc' r' w' →
        (∀ l2, evOps rec cx (o :: l2) i t ds H acc r w = evOps rec cx l2 (Nat.succ i) t0 ds0 H0 acc0 r0 w0) →
        ∃ (k : Nat) (o1 : CO) (t1 : T Value) (ds1 : List Deferred) (H1 : Hp) (acc1 : Acc) (r1 w1 : Nat), (o :: l)[k]? = some o1 ∧ evOps rec cx ((o :: l).take k) i t ds H acc r w = .mk .normal t1 ds1 H1 acc1 r1 w1 ∧
          evOps rec cx [o1] (i + k) t1 ds1 H1 acc1 r1 w1 = .mk (.panic v) t' ds' H' acc' r' w' ∧ acc' = (i + k, 0, 0) :: acc1 := by
      intro t0 ds0 H0 acc0 r0 w0 h0 hl
      obtain ⟨k, o1, t1, ds1, H1, acc1, r1, w1, a1, a2, a3, a4⟩ := ih _ _ _ _ _ _ _ _ _ _ _ _ _ _ h0
      have e : Nat.succ i + k = i + (k + 1) := by omega
      rw [e] at a3 a4
      exact ⟨k + 1, o1, t1, ds1, H1, acc1, r1, w1, by simpa using a1, by rw [List.take_succ_cons, hl]; exact a2, a3, a4⟩
    simp only [evOps] at h
    cases hwt : wants t o.guard with
    | false =>
      rw [hwt, Bc_f] at h
      exact step _ _ _ _ _ _ h fun l2 => by simp only [evOps, hwt, Bc_f]
    | true =>
      rw [hwt, Bc_t] at h
      cases hr : run o.op t H with
      | fail => rw [hr] at h; simp only [stepR] at h; cases h
      | recover => rw [hr] at h; simp only [stepR] at h; cases h
      | val v1 H1 r1 w1 =>
        rw [hr] at h
        simp only [stepR] at h
        exact step _ _ _ _ _ _ h fun l2 => by simp only [evOps, hwt, Bc_t, hr, stepR]
      | defer d =>
        rw [hr] at h
        simp only [stepR] at h
        cases hc1 : cx.rnd with
        | some _ => rw [hc1] at h; cases h
        | none =>
          cases hc2 : cx.drw with
          | true => rw [hc1, hc2] at h; cases h
          | false =>
            rw [hc1, hc2] at h
            exact step _ _ _ _ _ _ h fun l2 => by simp only [evOps, hwt, Bc_t, hr, stepR, hc1, hc2]
      | panic v1 =>
        rw [hr] at h
        simp only [stepR] at h
        cases h
        exact ⟨0, o, t, ds, H, acc, r, w, rfl, by simp only [List.take_zero, evOps], by simp only [evOps, hwt, Bc_t, hr, stepR, Nat.add_zero], rfl⟩
      | call f args =>
        rw [hr] at h
        simp only [stepR] at h
        cases hx : rec (.call f args) H with
        | c y => rw [hx] at h; simp only [afterCall] at h; cases h
        | k y =>
          rw [hx] at h
          cases y with
          | ret v1 H1 r1 w1 =>
            simp only [afterCall] at h
            exact step _ _ _ _ _ _ h fun l2 => by simp only [evOps, hwt, Bc_t, hr, stepR, hx, afterCall]
          | panic v1 H1 r1 w1 =>
            simp only [afterCall] at h
            cases h
            exact ⟨0, o, t, ds, H, acc, r, w, rfl, by simp only [List.take_zero, evOps], by simp only [evOps, hwt, Bc_t, hr, stepR, hx, afterCall, Nat.add_zero], rfl⟩
          | _ => simp only [afterCall] at h; cases h
      | round m args =>
        rw [hr] at h
        simp only [stepR] at h
        cases hx : rec (.round m args) H with
        | c y => rw [hx] at h; simp only [afterCall] at h; cases h
        | k y =>
          rw [hx] at h
          cases y with
          | ret v1 H1 r1 w1 =>
            simp only [afterCall] at h
            exact step _ _ _ _ _ _ h fun l2 => by simp only [evOps, hwt, Bc_t, hr, stepR, hx, afterCall]
          | _ => simp only [afterCall] at h; cases h
include ok
theorem evOps_chain {rec : Rec} (hrec : RecOk P tb.ng rec) {cx : Cx} (hdrw : cx.drw = true) (ops : Array Oper) (B : Array Nat) : ∀ (l : List Oper) (i : Nat), (∀ k o, l[k]? = some o → ops[i + k]? = some o) → (∀ o ∈ l, noDef o = true) → ∀ (t : T Value) (ds : List Deferred) (H : Hp) (acc : Acc) (r w : Nat)
    (t' : T Value) (ds' : List Deferred) (H' : Hp) (acc' : Acc) (r' w' : Nat), evOps rec cx (compOs tb cx.nt ops l) i t ds H acc r w = .mk .normal t' ds' H' acc' r' w' → H.wf → acc'.Pairwise (okP B) →
    ∃ es, Chain P tb cx.d cx.nt cx.rnd ops i l t H es t' H' ∧ ds' = ds ∧ sub r r' ∧ sub w w' ∧ (∀ e ∈ es, sub e.r r' ∧ sub e.w w') ∧ acc.Pairwise (okP B) ∧
      (∀ (k : Nat) e, es[k]? = some e → Triv e ∨ ∀ y ∈ acc, okP B (i + k, e.r, Nat.lor e.w (rng e.H e.H')) y) ∧
      (∀ (k1 k2 : Nat) e1 e2, k1 < k2 → es[k1]? = some e1 → es[k2]? = some e2 → Triv e1 ∨ Triv e2 ∨ okP B (i + k2, e2.r, Nat.lor e2.w (rng e2.H e2.H')) (i + k1, e1.r, Nat.lor e1.w (rng e1.H e1.H'))) := by
  intro l
  induction l with
  | nil =>
    intro i _ _ t ds H acc r w t' ds' H' acc' r' w' h hw hp
    simp only [compOs, evOps, stepR] at h
    cases h
    exact ⟨[], ⟨rfl, rfl, rfl⟩, rfl, sub_refl _, sub_refl _, (fun e he => by cases he), hp, (fun k e h => by simp at h), (fun k1 k2 e1 e2 _ h => by simp at h)⟩
  | cons o l ih =>
    intro i hl hnd t ds H acc r w t' ds' H' acc' r' w' h hw hp
    have ho : ops[i]? = some o := by simpa using hl 0 o rfl
    have hl' : ∀ k o', l[k]? = some o' → ops[i + 1 + k]? = some o' := fun k o' h => by
      have := hl (k + 1) o' (by simpa using h); rw [← this]; congr 1; omega
    have hnd' : ∀ o ∈ l, noDef o = true := fun o ho => hnd o (by simp [ho])
    have hndo := hnd o (by simp)
    have hne : ∀ cc, o.op ≠ .defer cc := fun cc hcc => by unfold noDef at hndo; rw [hcc] at hndo; cases hndo
    have join : ∀ (e : Ent) (acc1 : Acc) (r1 w1 : Nat), e.t = t → e.H = H → StepR P tb cx.nt cx.rnd ops i o t H e.v e.H' e.r e.w → (acc1 = (i, e.r, Nat.lor e.w (rng e.H e.H')) :: acc ∨ (acc1 = acc ∧ Triv e)) →
        sub r r1 → sub w w1 → sub e.r r1 → sub e.w w1 → evOps rec cx (compOs tb cx.nt ops l) (i + 1) (putT cx.d t o.dst e.v) ds e.H' acc1 r1 w1 = .mk .normal t' ds' H' acc' r' w' →
        ∃ es, Chain P tb cx.d cx.nt cx.rnd ops i (o :: l) t H es t' H' ∧ ds' = ds ∧ sub r r' ∧ sub w w' ∧ (∀ e ∈ es, sub e.r r' ∧ sub e.w w') ∧ acc.Pairwise (okP B) ∧
          (∀ (k : Nat) e, es[k]? = some e → Triv e ∨ ∀ y ∈ acc, okP B (i + k, e.r, Nat.lor e.w (rng e.H e.H')) y) ∧
          (∀ (k1 k2 : Nat) e1 e2, k1 < k2 → es[k1]? = some e1 → es[k2]? = some e2 → Triv e1 ∨ Triv e2 ∨ okP B (i + k2, e2.r, Nat.lor e2.w (rng e2.H e2.H')) (i + k1, e1.r, Nat.lor e1.w (rng e1.H e1.H'))) := by
      intro e acc1 r1 w1 he1 he2 hst hacc hr hw' hr1 hw1 hev
      obtain ⟨es, c1, c2, c3, c4, c5, c6, c7, c8⟩ := ih (i + 1) hl' hnd' _ _ _ _ _ _ _ _ _ _ _ _ hev hst.can.wf hp
      refine ⟨e :: es, ⟨e, es, rfl, he1, he2, hst, c1⟩, c2, fun b hb => c3 b (hr b hb), fun b hb => c4 b (hw' b hb), ?_, ?_, ?_, ?_⟩
      · intro x hx
        rcases List.mem_cons.1 hx with rfl | hx
        · exact ⟨fun b hb => c3 b (hr1 b hb), fun b hb => c4 b (hw1 b hb)⟩
        · exact c5 x hx
      · rcases hacc with rfl | ⟨rfl, _⟩
        · exact (List.pairwise_cons.1 c6).2
        · exact c6
      · intro k x hx
        cases k with
        | zero =>
          simp at hx; subst hx
          rcases hacc with rfl | ⟨rfl, ht⟩
          · exact .inr fun y hy => (List.pairwise_cons.1 c6).1 y hy
          · exact .inl ht
        | succ k =>
          simp at hx
          rcases c7 k x hx with h | h
          · exact .inl h
          · refine .inr fun y hy => ?_
            rw [show i + (k + 1) = i + 1 + k from by omega]
            refine h y ?_
            rcases hacc with rfl | ⟨rfl, _⟩
            · simp [hy]
            · exact hy
      · intro k1 k2 e1 e2 hk h1 h2
        cases k2 with
        | zero => omega
        | succ k2 =>
          simp at h2
          cases k1 with
          | zero =>
            simp at h1; subst h1
            rcases hacc with rfl | ⟨rfl, ht⟩
            · rcases c7 k2 e2 h2 with h | h
              · exact .inr (.inl h)
              · right; right
                rw [show i + (k2 + 1) = i + 1 + k2 from by omega]
                exact h _ (by simp)
            · exact .inl ht
          | succ k1 =>
            simp at h1
            have := c8 k1 k2 e1 e2 (by omega) h1 h2
            rw [show i + (k2 + 1) = i + 1 + k2 from by omega, show i + (k1 + 1) = i + 1 + k1 from by omega]
            exact this
    simp only [compOs, evOps, stepR] at h
    rcases comp_inv (tb := tb) (nt := cx.nt) (ops := ops) (o := o) with hc | hc
    case inr =>
      rw [hc] at h
      have hwt : wants t (none : Option (Tmp × Bool)) = true := rfl
      rw [hwt, Bc_t] at h
      simp only [run] at h
      cases h
    generalize compO tb cx.nt ops o = c at h hc
    rw [hc.dst] at h
    have hwanted := fun {β : Mp} {a : Act} => wants_ok (β := β) (t := t) (a := a) hc
    cases hwt : wants t c.guard with
    | false =>
      rw [hwt, Bc_f] at h
      refine join ⟨t, H, U, H, 0, 0⟩ acc r w rfl rfl ⟨Can.refl hw, hc.opnds, hc.dlt, fun β W a F K Q hg hF hop hgd p hK => ?_⟩ (.inr ⟨rfl, rfl, rfl, rfl⟩) (sub_refl _) (sub_refl _) (fun b hb => by simp at hb) (fun b hb => by simp at hb) h
      simp only [wpOpIn, ho, hwanted hgd, hwt]
      exact ⟨fun f _ => frel_fn hF f, hK β undef W (vrel_U β) (Post.refl p.dom)⟩
    | true =>
      rw [hwt, Bc_t] at h
      have hrun := fun {β : Mp} {W : World} {a : Act} (hgr : GRel tb.ng β) (hop : ∀ x ∈ o.op.operands.toList, VRel β (evalO t x) (a.eval x)) => run_ok (P := P) (W := W) (o := o) (ρ := a.eval) (t := t) ok hw hgr.2 hop
      rw [← hc.op] at hrun
      cases hr : run c.op t H with
      | fail => rw [hr] at h; cases h
      | recover => rw [hr] at h; cases h
      | panic v => rw [hr] at h; cases h
      | defer d =>
        rw [hr] at h
        simp only [hdrw] at h
        cases hrnd : cx.rnd <;> rw [hrnd] at h <;> cases h
      | val v H1 r1 w1 =>
        rw [hr] at h hrun
        simp only at h
        have hH1 : Can H H1 w1 := by have := can_run hw c.op t; rw [hr] at this; exact this
        refine join ⟨t, H, v, H1, r1, w1⟩ _ _ _ rfl rfl ⟨hH1, hc.opnds, hc.dlt, fun β W a F K Q hg hF hop hgd p hK => ?_⟩ (.inl rfl) (fun b hb => by rw [lor_bit]; simp [hb]) (fun b hb => by rw [lor_bit]; simp [hb]) (fun b hb => by rw [lor_bit]; simp [hb]) (fun b hb => by rw [lor_bit]; simp [hb]) h
        simp only [wpOpIn, ho, hwanted hgd, hwt, if_true]
        obtain ⟨_, hx⟩ := hrun (W := W) hg hop
        obtain ⟨β1, W1, v', hres, hv, hpost⟩ := hx p
        refine ⟨fun f _ => frel_fn hF f, ?_⟩
        rw [Oper.semAt_eq _ _ _ hne]
        exact skip_value hres (hK β1 v' W1 hv hpost)
      | call f args =>
        rw [hr] at h hrun
        simp only [afterCall] at h
        have hk := hrec (.call f args) H hw
        split at h
        · rename_i v H1 r1 w1 hx
          rw [hx] at hk
          obtain ⟨hH1, hk⟩ := hk
          refine join ⟨t, H, v, H1, r1, w1⟩ _ _ _ rfl rfl ⟨hH1, hc.opnds, hc.dlt, fun β W a F K Q hg hF hop hgd p hK => ?_⟩ (.inl rfl) (fun b hb => by rw [lor_bit]; simp [hb]) (fun b hb => by rw [lor_bit]; simp [hb]) (fun b hb => by rw [lor_bit]; simp [hb]) (fun b hb => by rw [lor_bit]; simp [hb]) h
          simp only [wpOpIn, ho, hwanted hgd, hwt, if_true]
          obtain ⟨args', hs, hl⟩ := hrun (W := W) hg hop
          refine ⟨fun f _ => frel_fn hF f, ?_⟩
          rw [Oper.semAt_eq _ _ _ hne, hs]
          refine upon_call hF (hk β W hg p args' hl) (fun v' W1 hR => ?_) (fun ch W1 hR => ?_) (fun W1 hR => ?_)
          · obtain ⟨β1, v'', he, hv, hpost⟩ := hR
            cases he
            exact hK β1 _ W1 hv hpost
          · obtain ⟨_, _, he, _⟩ := hR; cases he
          · obtain ⟨_, _, he, _⟩ := hR; cases he
        · cases h
        · cases h
      | round m args =>
        rw [hr] at h hrun
        simp only [afterCall] at h
        have hk := hrec (.round m args) H hw
        split at h
        · rename_i v H1 r1 w1 hx
          rw [hx] at hk
          obtain ⟨hH1, hk⟩ := hk
          refine join ⟨t, H, v, H1, r1, w1⟩ _ _ _ rfl rfl ⟨hH1, hc.opnds, hc.dlt, fun β W a F K Q hg hF hop hgd p hK => ?_⟩ (.inl rfl) (fun b hb => by rw [lor_bit]; simp [hb]) (fun b hb => by rw [lor_bit]; simp [hb]) (fun b hb => by rw [lor_bit]; simp [hb]) (fun b hb => by rw [lor_bit]; simp [hb]) h
          simp only [wpOpIn, ho, hwanted hgd, hwt, if_true]
          obtain ⟨m', args', em, hs, hl⟩ := hrun (W := W) hg hop
          refine ⟨fun f _ => frel_fn hF f, ?_⟩
          rw [Oper.semAt_eq _ _ _ hne, hs]
          refine upon_round hF (hk β W hg p m' args' em hl) (fun v' W1 hR => ?_) (fun ch W1 hR => ?_) (fun W1 hR => ?_)
          · obtain ⟨β1, v'', he, hv, hpost⟩ := hR
            cases he
            exact hK β1 _ W1 hv hpost
          · obtain ⟨_, _, he, _⟩ := hR; cases he
          · obtain ⟨_, _, he, _⟩ := hR; cases he
        · cases h
        · cases h
end
end Go.Ev
end
noncomputable section
namespace Go.Ev
variable [SyQ]
theorem rng_bit {H H' : Hp} (h : H.nx ≤ H'.nx) (b : Nat) : (rng H H').testBit b = true ↔ H.nx ≤ b ∧ b < H'.nx := by
  have e : ∀ n, bit n = 2 ^ n := fun n => by show (1 : Nat) <<< n = _; exact Nat.one_shiftLeft n
  have : rng H H' = 2 ^ H.nx * (2 ^ (H'.nx - H.nx) - 1) := by
    show bit H'.nx - bit H.nx = _
    rw [e, e, Nat.mul_sub_one, ← Nat.pow_add, show H.nx + (H'.nx - H.nx) = H'.nx from by omega]
  rw [this, Nat.testBit_two_pow_mul, Nat.testBit_two_pow_sub_one]
  simp only [Bool.and_eq_true, decide_eq_true_eq]
  omega
theorem land_zero {x y b : Nat} (h : Nat.land x y = 0) (hx : x.testBit b = true) : y.testBit b = false := by
  have : (x &&& y).testBit b = false := by
    show (Nat.land x y).testBit b = false
    rw [h]; simp
  rw [Nat.testBit_and, hx] at this
  simpa using this
structure Dr (P : Program) (tb : Tb) (d nt : Nat) (rnd : Option Nat) (ops : Array Oper) (B : Array Nat) (n : Nat) where
  le : n ≤ ops.size
  t : Nat → T Value
  H : Nat → Hp
  v : Nat → Value
  r : Nat → Nat
  w : Nat → Nat
  step : ∀ i o, i < n → ops[i]? = some o → StepR P tb nt rnd ops i o (t i) (H i) (v i) (H (i + 1)) (r i) (w i)
  tput : ∀ i o, i < n → ops[i]? = some o → t (i + 1) = putT d (t i) o.dst (v i)
  ind : ∀ i j, i < j → j < n → (B.getD j 0).testBit i = true ∨ ((∀ b, ((w i).testBit b = true ∨ ((H i).nx ≤ b ∧ b < (H (i + 1)).nx)) → (r j).testBit b = false ∧ (w j).testBit b = false ∧ ¬ ((H j).nx ≤ b ∧ b < (H (j + 1)).nx)) ∧ ∀ b, (w j).testBit b = true → (r i).testBit b = false)
theorem chain_at {P : Program} {tb : Tb} {d nt : Nat} {rnd : Option Nat} {ops : Array Oper} : ∀ (l : List Oper) (i0 : Nat) (t : T Value) (H : Hp) (es : List Ent) (t' : T Value) (H' : Hp), Chain P tb d nt rnd ops i0 l t H es t' H' →
    es.length = l.length ∧ ((es[0]?).map (·.t)).getD t' = t ∧ ((es[0]?).map (·.H)).getD H' = H ∧
    ∀ (i : Nat) o e, l[i]? = some o → es[i]? = some e → StepR P tb nt rnd ops (i0 + i) o e.t e.H e.v e.H' e.r e.w ∧ ((es[i + 1]?).map (·.t)).getD t' = putT d e.t o.dst e.v ∧ ((es[i + 1]?).map (·.H)).getD H' = e.H' := by
  intro l
  induction l with
  | nil =>
    intro i0 t H es t' H' h
    obtain ⟨rfl, rfl, rfl⟩ := h
    exact ⟨rfl, rfl, rfl, fun i o e h => by simp at h⟩
  | cons o l ih =>
    intro i0 t H es t' H' h
    obtain ⟨e, es', rfl, rfl, rfl, hs, hc⟩ := h
    obtain ⟨h1, h2, h3, h4⟩ := ih _ _ _ _ _ _ hc
    refine ⟨by simp [h1], rfl, rfl, fun i o1 e1 ho he => ?_⟩
    cases i with
    | zero =>
      simp at ho he; subst ho he
      exact ⟨hs, by simpa using h2, by simpa using h3⟩
    | succ i =>
      simp at ho he
      have := h4 i o1 e1 ho he
      rw [show i0 + (i + 1) = i0 + 1 + i from by omega]
      simpa using this
theorem dr_of {P : Program} {tb : Tb} {d nt : Nat} {rnd : Option Nat} {ops : Array Oper} {B : Array Nat} {t t' : T Value} {H H' : Hp} {es : List Ent} {r' w' : Nat} {n : Nat} (hn : n ≤ ops.size) (hc : Chain P tb d nt rnd ops 0 (ops.toList.take n) t H es t' H')
    (hs : ∀ e ∈ es, sub e.r r' ∧ sub e.w w')
    (hp : ∀ (k1 k2 : Nat) e1 e2, k1 < k2 → es[k1]? = some e1 → es[k2]? = some e2 → Triv e1 ∨ Triv e2 ∨ okP B (0 + k2, e2.r, Nat.lor e2.w (rng e2.H e2.H')) (0 + k1, e1.r, Nat.lor e1.w (rng e1.H e1.H'))) :
    ∃ D : Dr P tb d nt rnd ops B n, D.t 0 = t ∧ D.H 0 = H ∧ D.t n = t' ∧ D.H n = H' ∧ ∀ i, i < n → sub (D.r i) r' ∧ sub (D.w i) w' := by
  obtain ⟨hlen, h0, h1, hat⟩ := chain_at _ _ _ _ _ _ _ hc
  have hsz : es.length = n := by rw [hlen]; simp; omega
  have htk : ∀ (i : Nat) (o : Oper), i < n → ops[i]? = some o → (ops.toList.take n)[i]? = some o := fun i o hi ho => by rw [List.getElem?_take_of_lt hi]; simpa using ho
  have get : ∀ i, i < n → ∃ e, es[i]? = some e := fun i hi => ⟨es[i]'(by omega), by simp [hsz, hi]⟩
  have hend : es[n]? = none := by rw [List.getElem?_eq_none]; omega
  refine ⟨⟨hn, fun i => ((es[i]?).map (·.t)).getD t', fun i => ((es[i]?).map (·.H)).getD H', fun i => ((es[i]?).map (·.v)).getD U, fun i => ((es[i]?).map (·.r)).getD 0, fun i => ((es[i]?).map (·.w)).getD 0, ?_, ?_, ?_⟩, h0, h1, ?_, ?_, ?_⟩
  · intro i o hi ho
    obtain ⟨e, he⟩ := get i hi
    obtain ⟨a, b, c⟩ := hat i o e (htk i o hi ho) he
    rw [Nat.zero_add] at a
    simp only [he, Option.map_some, Option.getD_some, c]
    exact a
  · intro i o hi ho
    obtain ⟨e, he⟩ := get i hi
    obtain ⟨a, b, c⟩ := hat i o e (htk i o hi ho) he
    simp only [he, Option.map_some, Option.getD_some, b]
  · intro i j hij hj
    obtain ⟨e1, he1⟩ := get i (by omega)
    obtain ⟨e2, he2⟩ := get j hj
    have ho1 : ∃ o, ops[i]? = some o := ⟨ops[i]'(by omega), by simp⟩
    have ho2 : ∃ o, ops[j]? = some o := ⟨ops[j]'(by omega), by simp⟩
    obtain ⟨o1, ho1⟩ := ho1
    obtain ⟨o2, ho2⟩ := ho2
    obtain ⟨a1, _, c1⟩ := hat i o1 e1 (htk i o1 (by omega) ho1) he1
    obtain ⟨a2, _, c2⟩ := hat j o2 e2 (htk j o2 hj ho2) he2
    simp only [he1, he2, Option.map_some, Option.getD_some, c1, c2]
    rcases hp i j e1 e2 hij he1 he2 with ht | ht | ht
    · obtain ⟨hr, hw, hH⟩ := ht
      right
      rw [hw, hr, hH]
      refine ⟨fun b hb => ?_, fun b _ => by simp⟩
      rcases hb with hb | hb
      · simp at hb
      · omega
    · obtain ⟨hr, hw, hH⟩ := ht
      right
      rw [hw, hr, hH]
      exact ⟨fun b hb => ⟨by simp, by simp, by omega⟩, fun b hb => by simp at hb⟩
    · simp only [Nat.zero_add] at ht
      rcases ht with ht | ⟨ht1, ht2⟩
      · exact .inl ht
      · right
        refine ⟨fun b hb => ?_, fun b hb => ?_⟩
        · have hx : (Nat.lor e1.w (rng e1.H e1.H')).testBit b = true := by
            rw [lor_bit]
            rcases hb with hb | hb
            · simp [hb]
            · simp [(rng_bit a1.can.mono b).2 hb]
          have := land_zero ht1 hx
          rw [lor_bit, lor_bit] at this
          simp only [Bool.or_eq_false_iff] at this
          refine ⟨this.1, this.2.1, fun hh => ?_⟩
          rw [(rng_bit a2.can.mono b).2 hh] at this
          simp at this
        · exact land_zero ht2 (by rw [lor_bit]; simp [hb])
  · simp [hend]
  · simp [hend]
  · intro i hi
    obtain ⟨e, he⟩ := get i hi
    simp only [he, Option.map_some, Option.getD_some]
    exact hs e (List.mem_of_getElem? he)
end Go.Ev
end
noncomputable section
namespace Go.Ev
variable [SyQ]
section
variable {P : Program} {tb : Tb} {d nt : Nat} {rnd : Option Nat} {ops : Array Oper} {B : Array Nat} {n : Nat} (D : Dr P tb d nt rnd ops B n)
def Dr.touch (k b : Nat) : Bool := (D.w k).testBit b || (Nat.ble (D.H k).nx b && Nat.blt b (D.H (k + 1)).nx)
theorem touch_iff {k b : Nat} : D.touch k b = true ↔ (D.w k).testBit b = true ∨ ((D.H k).nx ≤ b ∧ b < (D.H (k + 1)).nx) := by
  simp [Dr.touch]
def Dr.cont (S : Nat → Bool) : Nat → Nat → Blk
  | 0, b => (D.H 0).blk b
  | k + 1, b => if S k = true ∧ D.touch k b = true then (D.H (k + 1)).blk b else Dr.cont S k b
def dstIs (ops : Array Oper) (k x : Nat) : Bool := ((ops[k]?).bind (·.dst)) == some x
def Dr.tcont (S : Nat → Bool) : Nat → Nat → Value
  | 0, x => (D.t 0).get x
  | k + 1, x => if S k = true ∧ dstIs ops k x = true then D.v k else Dr.tcont S k x
def Closed (B : Array Nat) (S : Nat → Bool) : Prop := ∀ k, S k = true → ∀ i, i < k → (B.getD k 0).testBit i = true → S i = true
include D in
theorem Dr.op {i : Nat} (hi : i < n) : ∃ o, ops[i]? = some o := ⟨ops[i]'(Nat.lt_of_lt_of_le hi D.le), by simp⟩
theorem Dr.can {i : Nat} (hi : i < n) : Can (D.H i) (D.H (i + 1)) (D.w i) := by
  obtain ⟨o, ho⟩ := D.op hi
  exact (D.step i o hi ho).can
theorem Dr.mono {i j : Nat} (h : i ≤ j) (hj : j ≤ n) : (D.H i).nx ≤ (D.H j).nx := by
  induction j with
  | zero => have : i = 0 := by omega
            subst this; exact Nat.le_refl _
  | succ j ih =>
    by_cases e : i = j + 1
    · subst e; exact Nat.le_refl _
    · exact Nat.le_trans (ih (by omega) (by omega)) (D.can (by omega)).mono
theorem blk_out {H : Hp} {b : Nat} (h : H.nx ≤ b) : H.blk b = .no := by
  cases H with
  | mk t n => rw [blk_mk, if_neg (by have : n ≤ b := h; omega)]
  | fn f n => rw [blk_fn, if_neg (by have : n ≤ b := h; omega)]
theorem Dr.keep {k b : Nat} (hk : k < n) (h : D.touch k b = false) : (D.H (k + 1)).blk b = (D.H k).blk b := by
  have h' : ¬ (D.touch k b = true) := by rw [h]; simp
  rw [touch_iff] at h'
  have hw : (D.w k).testBit b = false := by cases e : (D.w k).testBit b with | false => rfl | true => exact absurd (.inl e) h'
  by_cases hb : b < (D.H k).nx
  · exact (D.can hk).keep b hb hw
  · rw [blk_out (by omega), blk_out (by omega)]
theorem Dr.cont_eq {S : Nat → Bool} (hS : Closed B S) {j : Nat} (hj : j < n) (hn : S j = false) (hb : ∀ i, i < j → (B.getD j 0).testBit i = true → S i = true) {b : Nat}
    (hf : (D.r j).testBit b = true ∨ (D.w j).testBit b = true) (hlt : b < (D.H j).nx) : D.cont S n b = (D.H j).blk b := by
  have h1 : ∀ k, k ≤ j → D.cont S k b = (D.H k).blk b := by
    intro k
    induction k with
    | zero => intro _; rfl
    | succ k ih =>
      intro hk
      have ihk := ih (by omega)
      simp only [Dr.cont]
      by_cases ht : D.touch k b = true
      · cases hs : S k with
        | true => simp [ht]
        | false =>
          exfalso
          rcases D.ind k j (by omega) hj with h | ⟨h, _⟩
          · rw [hb k (by omega) h] at hs; cases hs
          · have := h b ((touch_iff D).1 ht)
            rcases hf with hf | hf
            · rw [this.1] at hf; cases hf
            · rw [this.2.1] at hf; cases hf
      · have ht' : D.touch k b = false := by simpa using ht
        rw [if_neg (by simp [ht'])]
        rw [ihk, D.keep (by omega) ht']
  have h2 : ∀ k, j ≤ k → k ≤ n → D.cont S k b = (D.H j).blk b := by
    intro k
    induction k with
    | zero => intro h _; have : j = 0 := by omega
              subst this; exact h1 0 (Nat.le_refl _)
    | succ k ih =>
      intro hjk hk
      by_cases e : j = k + 1
      · subst e; exact h1 _ (Nat.le_refl _)
      · have ihk := ih (by omega) (by omega)
        simp only [Dr.cont]
        rw [if_neg, ihk]
        rintro ⟨hs, ht⟩
        rw [touch_iff] at ht
        have hnx := D.mono (i := j) (j := k) (by omega) (by omega)
        rcases ht with ht | ht
        · by_cases ejk : j = k
          · subst ejk; rw [hn] at hs; cases hs
          · rcases D.ind j k (by omega) (by omega) with h | ⟨h, h'⟩
            · have := hS k hs j (by omega) h
              rw [hn] at this; cases this
            · rcases hf with hf | hf
              · have := h' b ht; rw [this] at hf; cases hf
              · have := (h b (.inl hf)).2.1; rw [this] at ht; cases ht
        · omega
  exact h2 _ (by omega) (Nat.le_refl _)
def addS (S : Nat → Bool) (j : Nat) : Nat → Bool := fun k => S k || k == j
theorem Dr.cont_other {S : Nat → Bool} {j b : Nat} (hn : S j = false) (h : D.touch j b = false) : ∀ k, D.cont (addS S j) k b = D.cont S k b := by
  intro k
  induction k with
  | zero => rfl
  | succ k ih =>
    simp only [Dr.cont, ih]
    by_cases e : k = j
    · subst e; simp [h]
    · have : addS S j k = S k := by simp [addS, e]
      rw [this]
theorem Dr.cont_touch {S : Nat → Bool} (hS : Closed B S) {j : Nat} (hj : j < n) (hn : S j = false) {b : Nat} (h : D.touch j b = true) : D.cont (addS S j) n b = (D.H (j + 1)).blk b := by
  have h2 : ∀ k, j < k → k ≤ n → D.cont (addS S j) k b = (D.H (j + 1)).blk b := by
    intro k
    induction k with
    | zero => intro h; omega
    | succ k ih =>
      intro hjk hk
      simp only [Dr.cont]
      by_cases e : k = j
      · subst e; rw [if_pos ⟨by simp [addS], h⟩]
      · rw [if_neg, ih (by omega) (by omega)]
        rintro ⟨hs, ht⟩
        have hs' : S k = true := by simpa [addS, e] using hs
        rcases D.ind j k (by omega) (by omega) with h' | ⟨h', _⟩
        · have := hS k hs' j (by omega) h'
          rw [hn] at this; cases this
        · have hx := h' b ((touch_iff D).1 h)
          rcases (touch_iff D).1 ht with ht | ht
          · rw [hx.2.1] at ht; cases ht
          · exact hx.2.2 ht
  exact h2 _ (by omega) (Nat.le_refl _)
theorem Dr.cont_all {S : Nat → Bool} (hall : ∀ k, k < n → S k = true) (b : Nat) : ∀ k, k ≤ n → D.cont S k b = (D.H k).blk b := by
  intro k
  induction k with
  | zero => intro _; rfl
  | succ k ih =>
    intro hk
    simp only [Dr.cont]
    by_cases ht : D.touch k b = true
    · rw [if_pos ⟨hall k (by omega), ht⟩]
    · rw [if_neg (by simp [ht]), ih (by omega), D.keep (by omega) (by simpa using ht)]
theorem tcont_all {S : Nat → Bool} (hd : nt < 8 ^ d) (hall : ∀ k, k < n → S k = true) {x : Nat} (hx : x < nt) : ∀ k, k ≤ n → D.tcont S k x = (D.t k).get x := by
  intro k
  induction k with
  | zero => intro _; rfl
  | succ k ih =>
    intro hk
    obtain ⟨o, ho⟩ := D.op (i := k) (by omega)
    simp only [Dr.tcont, ih (by omega)]
    rw [D.tput k o (by omega) ho]
    have hdl := (D.step k o (by omega) ho).dlt
    simp only [hall k (by omega), true_and, dstIs, ho, Option.bind_some]
    cases hdst : o.dst with
    | none => simp [putT]
    | some i =>
      show _ = (T.set d (D.t k) i (D.v k)).get x
      rw [T.get_set d _ i x _ (by have := hdl i hdst; omega) (by omega)]
      by_cases e : i = x
      · subst e; simp
      · have e2 : ¬ x = i := fun h => e h.symm
        have e3 : (some i == some x) = false := by
          simp; exact e
        rw [if_neg e2, if_neg (by simp [e3])]
end
end Go.Ev
end
noncomputable section
namespace Go.Ev
variable [SyQ]
section
variable {P : Program} {tb : Tb} {d nt : Nat} {rnd : Option Nat} {ops : Array Oper} {B : Array Nat} {n : Nat} (D : Dr P tb d nt rnd ops B n)
def ApOk (ops : Array Oper) (B : Array Nat) : Prop := ∀ i j oi oj, i < j → ops[i]? = some oi → ops[j]? = some oj → (B.getD j 0).testBit i = true ∨ apartB ops oi oj = true
theorem apart_spec {x y : Oper} (h : apartB ops x y = true) : (∀ d : Nat, x.dst = some d → d ∉ looksAt ops y ∧ y.dst ≠ some d) ∧ ∀ d : Nat, y.dst = some d → d ∉ looksAt ops x := by
  refine ⟨fun d hd => ?_, fun d hd => ?_⟩ <;> simp [apartB, hd] at h
  · exact ⟨h.1.1, h.1.2⟩
  · exact h.2
theorem dstIs_iff {k x : Nat} {o : Oper} (ho : ops[k]? = some o) : dstIs ops k x = true ↔ o.dst = some x := by
  simp [dstIs, ho]
theorem tget_keep (hd : nt < 8 ^ d) {k x : Nat} (hk : k < n) (hx : x < nt) (h : dstIs ops k x = false) : (D.t (k + 1)).get x = (D.t k).get x := by
  obtain ⟨o, ho⟩ := D.op hk
  rw [D.tput k o hk ho]
  have hdl := (D.step k o hk ho).dlt
  cases hdst : o.dst with
  | none => rfl
  | some i =>
    show (T.set d (D.t k) i (D.v k)).get x = _
    rw [T.get_set d _ i x _ (by have := hdl i hdst; omega) (by omega), if_neg]
    rintro rfl
    rw [(dstIs_iff ho).2 hdst] at h; cases h
theorem tcont_eq (hd : nt < 8 ^ d) (hap : ApOk ops B) {S : Nat → Bool} (hS : Closed B S) {j : Nat} (hj : j < n) (hn : S j = false) (hb : ∀ i, i < j → (B.getD j 0).testBit i = true → S i = true) {x : Nat} (hx : x < nt)
    {oj : Oper} (hoj : ops[j]? = some oj) (hl : x ∈ looksAt ops oj) : D.tcont S n x = (D.t j).get x := by
  have h1 : ∀ k, k ≤ j → D.tcont S k x = (D.t k).get x := by
    intro k
    induction k with
    | zero => intro _; rfl
    | succ k ih =>
      intro hk
      have ihk := ih (by omega)
      obtain ⟨o, ho⟩ := D.op (i := k) (by omega)
      simp only [Dr.tcont]
      cases ht : dstIs ops k x with
      | true =>
        have hdst := (dstIs_iff ho).1 ht
        cases hs : S k with
        | true =>
          simp only [true_and, if_true]
          rw [D.tput k o (by omega) ho, hdst]
          show _ = (T.set d (D.t k) x (D.v k)).get x
          rw [T.get_set d _ x x _ (by omega) (by omega), if_pos rfl]
        | false =>
          exfalso
          rcases hap k j o oj (by omega) ho hoj with h | h
          · rw [hb k (by omega) h] at hs; cases hs
          · exact ((apart_spec h).1 x hdst).1 hl
      | false => rw [if_neg (by simp), ihk, tget_keep D hd (by omega) hx ht]
  have h2 : ∀ k, j ≤ k → k ≤ n → D.tcont S k x = (D.t j).get x := by
    intro k
    induction k with
    | zero => intro h _; have : j = 0 := by omega
              subst this; exact h1 0 (Nat.le_refl _)
    | succ k ih =>
      intro hjk hk
      by_cases e : j = k + 1
      · subst e; exact h1 _ (Nat.le_refl _)
      · have ihk := ih (by omega) (by omega)
        simp only [Dr.tcont]
        rw [if_neg, ihk]
        rintro ⟨hs, ht⟩
        obtain ⟨o, ho⟩ := D.op (i := k) (by omega)
        have hdst := (dstIs_iff ho).1 ht
        by_cases ejk : j = k
        · subst ejk; rw [hn] at hs; cases hs
        · rcases hap j k oj o (by omega) hoj ho with h | h
          · have := hS k hs j (by omega) h
            rw [hn] at this; cases this
          · exact (apart_spec h).2 x hdst hl
  exact h2 _ (by omega) (Nat.le_refl _)
theorem tcont_add (hap : ApOk ops B) {S : Nat → Bool} (hS : Closed B S) {j : Nat} (hj : j < n) (hn : S j = false) (x : Nat) :
    D.tcont (addS S j) n x = if dstIs ops j x = true then D.v j else D.tcont S n x := by
  have h1 : ∀ k, k ≤ j → D.tcont (addS S j) k x = D.tcont S k x := by
    intro k
    induction k with
    | zero => intro _; rfl
    | succ k ih =>
      intro hk
      simp only [Dr.tcont, ih (by omega)]
      have : addS S j k = S k := by simp [addS]; omega
      rw [this]
  have h2 : ∀ k, j < k → k ≤ n → D.tcont (addS S j) k x = if dstIs ops j x = true then D.v j else D.tcont S k x := by
    intro k
    induction k with
    | zero => intro h; omega
    | succ k ih =>
      intro hjk hk
      simp only [Dr.tcont]
      by_cases e : k = j
      · subst e
        rw [h1 k (Nat.le_refl _)]
        by_cases ht : dstIs ops k x = true
        · rw [if_pos ⟨by simp [addS], ht⟩, if_pos ht]
        · rw [if_neg (fun h => ht h.2), if_neg ht, if_neg (fun h => ht h.2)]
      · have hsk : addS S j k = S k := by simp [addS, e]
        rw [hsk, ih (by omega) (by omega)]
        by_cases hc : S k = true ∧ dstIs ops k x = true
        · rw [if_pos hc, if_pos hc, if_neg]
          intro ht
          obtain ⟨oj, hoj⟩ := D.op hj
          obtain ⟨o, ho⟩ := D.op (i := k) (by omega)
          rcases hap j k oj o (by omega) hoj ho with h | h
          · have := hS k hc.1 j (by omega) h
            rw [hn] at this; cases this
          · exact ((apart_spec h).1 x ((dstIs_iff hoj).1 ht)).2 ((dstIs_iff ho).1 hc.2)
        · rw [if_neg hc, if_neg hc]
  exact h2 _ hj (Nat.le_refl _)
end
end Go.Ev
end
noncomputable section
namespace Go.Ev
variable [SyQ]
section
variable {P : Program} {tb : Tb} {d nt : Nat} {rnd : Option Nat} {ops : Array Oper} {B : Array Nat} {n : Nat} (D : Dr P tb d nt rnd ops B n)
def Dr.newIn (S : Nat → Bool) (b : Nat) : Prop := ∃ k, k < n ∧ S k = true ∧ (D.H k).nx ≤ b ∧ b < (D.H (k + 1)).nx
def Dr.scope (S : Nat → Bool) (rt wt b : Nat) : Prop := (b < (D.H 0).nx ∧ inS rt wt b) ∨ D.newIn S b
def Dr.wscope (S : Nat → Bool) (wt b : Nat) : Prop := (b < (D.H 0).nx ∧ wt.testBit b = true) ∨ D.newIn S b
theorem Dr.wscope.scope {S : Nat → Bool} {rt wt b : Nat} (h : D.wscope S wt b) : D.scope S rt wt b := h.imp (fun ⟨a, c⟩ => ⟨a, .inr c⟩) id
structure DInv (S : Nat → Bool) (β0 : Mp) (W0 : World) (rt wt : Nat) (ds : List Deferred) (β : Mp) (W : World) (a : Act) : Prop where
  le : Mp.le β0 β
  dom : ∀ b m, β b = some m → m.rb < W.heap.size
  only : ∀ b m, β b = some m → β0 b = none → D.newIn S b
  rel : ∀ b, D.scope S rt wt b → D.cont S n b ≠ .no → ∃ m, β b = some m ∧ BOk β W (D.cont S n b) m
  inj : ∀ b c mb mc, D.wscope S wt b → D.scope S rt wt c → D.cont S n b ≠ .no → D.cont S n c ≠ .no → β b = some mb → β c = some mc → mb.rb = mc.rb → b = c
  frame : ∀ rb o, W0.heap[rb]? = some o → (∀ b m, b < (D.H 0).nx → wt.testBit b = true → β0 b = some m → m.rb ≠ rb) → W.heap[rb]? = some o
  size : W0.heap.size ≤ W.heap.size
  new : ∀ b m, (D.H 0).nx ≤ b → β0 b = none → β b = some m → W0.heap.size ≤ m.rb ∨ ∃ c mc, c < (D.H 0).nx ∧ wt.testBit c = true ∧ β0 c = some mc ∧ mc.rb = m.rb ∧ D.cont S n c = .no
  env : W.os = W0.os ∧ W.tape = W0.tape ∧ W.output = W0.output
  tsz : a.tmps.size = nt
  tmp : ∀ x, x < nt → VRel β (D.tcont S n x) (a.tmps.getD x undef)
  def_ : DsRel β ds a.defers
theorem alloc_one {k j b : Nat} (hk : k < n) (hj : j < n) (h1 : (D.H k).nx ≤ b ∧ b < (D.H (k + 1)).nx) (h2 : (D.H j).nx ≤ b ∧ b < (D.H (j + 1)).nx) : k = j := by
  rcases Nat.lt_trichotomy k j with h | h | h
  · have := D.mono (i := k + 1) (j := j) (by omega) (by omega); omega
  · exact h
  · have := D.mono (i := j + 1) (j := k) (by omega) (by omega); omega
theorem alloc_of {b : Nat} : ∀ n, n ≤ n → (D.H 0).nx ≤ b → b < (D.H n).nx → ∃ k, k < n ∧ (D.H k).nx ≤ b ∧ b < (D.H (k + 1)).nx := by
  intro n
  induction n with
  | zero => intro _ h1 h2; omega
  | succ n ih =>
    intro hn h1 h2
    rcases Nat.lt_or_ge b (D.H n).nx with h | h
    · obtain ⟨k, hk, x⟩ := ih (by omega) h1 h; exact ⟨k, by omega, x⟩
    · exact ⟨n, by omega, h, h2⟩
theorem alive_back {j b : Nat} (hb : b < (D.H 0).nx) : j ≤ n → (D.H j).blk b ≠ .no → (D.H 0).blk b ≠ .no := by
  induction j with
  | zero => intro _ h; exact h
  | succ j ih =>
    intro hj h
    refine ih (by omega) ?_
    have hnx := D.mono (i := 0) (j := j) (by omega) (by omega)
    exact (alive_iff _ _).1 ((D.can (by omega)).alive_of (by omega) ((alive_iff _ _).2 h))
end
end Go.Ev
end
