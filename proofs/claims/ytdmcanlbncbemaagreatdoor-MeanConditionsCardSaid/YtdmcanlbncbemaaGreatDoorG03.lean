/-
  A part of the reckoner for the statements of a Go program: what it answers, the model answers. Holds for every program whose tables are as given.
-/
import Derived.Laws.BytesString
import Derived.Lib.Builder
import Derived.Lib.UnsafeStr
import Derived.Test.YtdmcanlbncbemaaGreatDoorG02
set_option linter.unusedSimpArgs false
set_option linter.unusedVariables false
set_option linter.unusedSectionVars false
noncomputable section
namespace Go.Ev
variable [SyH]
theorem ba_beq' (a b : ByteArray) : (a == b) = (a.data == b.data) := by
  cases a with | mk a => cases b with | mk b => rfl
theorem ba_beq (a b : ByteArray) : (a == b) = (a.data.toList == b.data.toList) := by
  rw [ba_beq', Bool.eq_iff_iff, beq_iff_eq, beq_iff_eq]
  constructor
  · intro h; rw [h]
  · intro h; exact Array.ext' h
theorem ba_eq {a b : ByteArray} (h : (a == b) = true) : a = b := by
  rw [ba_beq', beq_iff_eq] at h
  cases a with | mk a => cases b with | mk b => congr
theorem ba_refl (a : ByteArray) : (a == a) = true := by rw [ba_beq', beq_iff_eq]
def KeyD (d : TypeDesc) (l : Leaf) : Prop := (∃ k, d = .int k ∧ l = .i) ∨ (d = .string ∧ l = .s) ∨ (d = .bool ∧ l = .b)
theorem keyPlan_inv {P : Program} {tb : Tb} (ok : TbOk P tb) {t : TypeId} {p : Eqp} (h : keyPlan tb t = some p) : ∃ d l, P.underlying t = some d ∧ p = .one l ∧ KeyD d l := by
  unfold keyPlan at h
  split at h <;> cases h
  · rename_i k e; exact ⟨_, _, ok.und _ _ e, rfl, .inl ⟨k, rfl, rfl⟩⟩
  · rename_i e; exact ⟨_, _, ok.und _ _ e, rfl, .inr (.inl ⟨rfl, rfl⟩)⟩
  · rename_i e; exact ⟨_, _, ok.und _ _ e, rfl, .inr (.inr ⟨rfl, rfl⟩)⟩
theorem same_ok {β : Mp} {d : TypeDesc} {l : Leaf} (hd : KeyD d l) {x x' y y' : Value} {b : Bool} (hx : VRel β x x') (hy : VRel β y y') (h : eqLeaf l x y = some b) : Instr.sameNow d x' y' = some b := by
  rcases hd with ⟨k, rfl, rfl⟩ | ⟨rfl, rfl⟩ | ⟨rfl, rfl⟩
  · cases hx <;> simp only [eqLeaf] at h <;> try (cases h; done)
    cases hy <;> simp only at h <;> try (cases h; done)
    rename_i j a k2 c
    cases e : eqK j k2 with
    | false => rw [e, Bc_f] at h; cases h
    | true =>
      rw [e, Bc_t] at h; cases h
      have := eqK_eq e; subst this
      simp [Instr.sameNow, eqI_eq]
  · cases hx <;> simp only [eqLeaf] at h <;> try (cases h; done)
    cases hy <;> simp only at h <;> try (cases h; done)
    cases h
    simp [Instr.sameNow, ba_beq, eqBs_eq]
  · cases hx <;> simp only [eqLeaf] at h <;> try (cases h; done)
    cases hy <;> simp only at h <;> try (cases h; done)
    rename_i a c
    cases h
    cases a <;> cases c <;> rfl
theorem bits_ok {d : TypeDesc} {l : Leaf} (hd : KeyD d l) {x y : Value} {n : Nat} (h : Instr.sameNow d x y = some true) : Instr.sameBits n y x = true := by
  rcases hd with ⟨k, rfl, rfl⟩ | ⟨rfl, rfl⟩ | ⟨rfl, rfl⟩
  · cases x <;> simp only [Instr.sameNow] at h <;> try (cases h; done)
    cases y <;> simp only [Instr.sameNow] at h <;> try (cases h; done)
    rename_i j a k2 c
    split at h
    · rename_i e; subst e
      simp only [Option.some.injEq, beq_iff_eq] at h; subst h
      cases n <;> simp [Instr.sameBits]
    · cases h
  · cases x <;> simp only [Instr.sameNow] at h <;> try (cases h; done)
    cases y <;> simp only [Instr.sameNow] at h <;> try (cases h; done)
    simp only [Option.some.injEq] at h
    have := ba_eq h; subst this
    cases n <;> simp [Instr.sameBits, ba_refl]
  · cases x <;> simp only [Instr.sameNow] at h <;> try (cases h; done)
    cases y <;> simp only [Instr.sameNow] at h <;> try (cases h; done)
    simp only [Option.some.injEq, beq_iff_eq] at h; subst h
    cases n <;> simp [Instr.sameBits]
theorem MRel.nil_inv {β : Mp} {ys : List MapEntry} (h : MRel β [] ys) : ys = [] := by
  have := h.1; cases ys with
  | nil => rfl
  | cons => simp at this
theorem MRel.cons_inv {β : Mp} {e : MapEntry} {l ys : List MapEntry} (h : MRel β (e :: l) ys) : ∃ e' l', ys = e' :: l' ∧ ERel β e e' ∧ MRel β l l' := by
  cases ys with
  | nil => have := h.1; simp at this
  | cons v' l' =>
    refine ⟨v', l', rfl, h.2 0 e v' rfl rfl, ?_, fun i a b ha hb => h.2 (i + 1) a b (by simpa using ha) (by simpa using hb)⟩
    have := h.1; simpa using this
theorem MRel.cons {β : Mp} {v v' : MapEntry} {l l' : List MapEntry} (h : ERel β v v') (hl : MRel β l l') : MRel β (v :: l) (v' :: l') := by
  refine ⟨by simp [hl.1], fun i a b ha hb => ?_⟩
  cases i with
  | zero => simp at ha hb; subst ha hb; exact h
  | succ i => simp at ha hb; exact hl.2 i a b ha hb
theorem findK_ok {β : Mp} {d : TypeDesc} {l : Leaf} (hd : KeyD d l) {k k' : Value} (hk : VRel β k k') : ∀ (es es' : List MapEntry) (i : Nat) (r : Option (Nat × Value)), MRel β es es' → findK (.one l) k es i = some r →
    match r with
    | none => Instr.findNow d k' es' i = some none
    | some (j, x) => ∃ x' e', Instr.findNow d k' es' i = some (some (j, x')) ∧ VRel β x x' ∧ i ≤ j ∧ es'[j - i]? = some e' ∧ Instr.sameNow d k' e'.key = some true := by
  intro es
  induction es with
  | nil => intro es' i r hm h; cases h; have := hm.nil_inv; subst this; rfl
  | cons e es ih =>
    intro es' i r hm h
    obtain ⟨e', l', rfl, he, hm'⟩ := hm.cons_inv
    simp only [findK, eqV] at h
    cases hq : eqLeaf l k e.key with
    | none => simp only [hq] at h; cases h
    | some b =>
      have hs := same_ok hd hk he.1 hq
      cases b with
      | true =>
        simp only [hq] at h; cases h
        simp only [Instr.findNow, hs]
        exact ⟨e'.val, e', rfl, he.2.1, Nat.le_refl _, by simp, hs⟩
      | false =>
        simp only [hq] at h
        have := ih l' (i + 1) r hm' h
        simp only [Instr.findNow, hs]
        cases r with
        | none => exact this
        | some jx =>
          obtain ⟨j, x⟩ := jx
          obtain ⟨x', e2, h1, h2, h3, h4, h5⟩ := this
          exact ⟨x', e2, h1, h2, by omega, by rw [show j - i = (j - (i + 1)) + 1 from by omega]; simpa using h4, h5⟩
section
variable {P : Program} {tb : Tb} (ok : TbOk P tb) {β : Mp} {H : Hp} {W : World} (hw : H.wf)
theorem run_checkKey {d : TypeDesc} {l : Leaf} {t : TypeId} (hd : KeyD d l) (ht : P.underlying t = some d) (b : Bool) (n : Nat) (v : Value) : (Instr.checkKey b (n + 1) t v).run P W = .ok () W := by
  unfold Instr.checkKey
  simp only [Sem.run_bind, run_underlying ht, Result.andThen_ok]
  rcases hd with ⟨k, rfl, rfl⟩ | ⟨rfl, rfl⟩ | ⟨rfl, rfl⟩ <;> cases v <;> rfl
theorem run_findKey {d : TypeDesc} {t : TypeId} {k : Value} {es : List MapEntry} {r : Option (Nat × Value)} (ht : P.underlying t = some d) (h : Instr.findNow d k es 0 = some r) : (Instr.findKey t k es).run P W = .ok r W := by
  unfold Instr.findKey
  simp only [Sem.run_bind, run_underlying ht, Result.andThen_ok, h, Sem.run_pure]
include ok hw
theorem lkp_ok {t key elem : TypeId} {z m m' k k' : Value} {okb : Bool} {p : Eqp} (ht : P.underlying t = some (.map key elem)) (hz : zeroV tb elem = some z) (hp : keyPlan tb key = some p) (hm : VRel β m m') (hk : VRel β k k') :
    OpV P β H W (Instr.lookup t m' k' okb) (exLkp z okb p m k H) := by
  obtain ⟨i, hi, hzv, hf⟩ := zeroV_inv ok hz
  have hzz := VRel.flat β 10 z hf
  obtain ⟨d, l, hd, rfl, hkd⟩ := keyPlan_inv ok hp
  have tup : ∀ {a a' : Value} (b : Bool), VRel β a a' → VRel β (Bc okb (.tuple #[a, .bool b]) a) (if okb = true then .tuple #[a', .bool b] else a') := by
    intro a a' b h
    cases okb with
    | true =>
      have hl : LRel β [a, Value.bool b] [a', Value.bool b] := LRel.cons h (LRel.cons (.bool b) (LRel.nil β))
      rw [Bc_t, if_pos rfl]
      exact .tuple _ _ hl.1 hl.2
    | false => rw [Bc_f, if_neg (by simp)]; exact h
  unfold exLkp
  split
  · trivial
  · rename_i e
    have := asM_inv e; subst this; cases hm
    refine opv_pure hw (v' := if okb = true then .tuple #[z, .bool false] else z) ?_ (tup false hzz)
    have hck := run_checkKey (P := P) (W := W) hkd hd true 9999 k'
    simp [Instr.lookup, run_underlying ht, hck, run_findKey hd (show Instr.findNow d k' [] 0 = some none from rfl), run_zeroValue hi hzv]
  · rename_i r e
    have := asM_inv e; subst this
    cases hm with | map _ m0 e0 =>
    split
    · trivial
    · rename_i es c e1
      split
      · rename_i j x e2
        refine opv_read hw fun pr => ?_
        obtain ⟨m1, es', e3, ho, hr, hs⟩ := map_of pr (.inl ((bit_iff r r).2 rfl)) e1
        rw [e0] at e3; cases e3
        have hg := run_getObj_o (P := P) ho (by simp)
        obtain ⟨x', e', h1, h2, _⟩ := findK_ok hkd hk _ _ _ _ hr e2
        refine ⟨if okb = true then .tuple #[x', .bool true] else x', ?_, tup true h2⟩
        have hck := run_checkKey (P := P) (W := W) hkd hd es'.isEmpty 9999 k'
        simp only [Instr.lookup, Sem.run_bind, run_underlying ht, Result.andThen_ok, hg, Sem.run_pure, hck, run_findKey hd h1]
      · rename_i e2
        refine opv_read hw fun pr => ?_
        obtain ⟨m1, es', e3, ho, hr, hs⟩ := map_of pr (.inl ((bit_iff r r).2 rfl)) e1
        rw [e0] at e3; cases e3
        have hg := run_getObj_o (P := P) ho (by simp)
        have h1 := findK_ok hkd hk _ _ _ _ hr e2
        refine ⟨if okb = true then .tuple #[z, .bool false] else z, ?_, tup false hzz⟩
        have hck := run_checkKey (P := P) (W := W) hkd hd es'.isEmpty 9999 k'
        simp only [Instr.lookup, Sem.run_bind, run_underlying ht, Result.andThen_ok, hg, Sem.run_pure, hck, run_findKey hd h1, run_zeroValue hi hzv]
      · trivial
omit ok hw in
theorem bang_modify {es : Array MapEntry} {j : Nat} {f : MapEntry → MapEntry} : (es.modify j f).toList = es.toList.modify j f := by simp
omit ok hw in
theorem mrel_modify {β : Mp} {es es' : List MapEntry} {j : Nat} {k k' x x' : Value} (hm : MRel β es es') (hk : VRel β k k') (hx : VRel β x x') :
    MRel β (es.modify j fun e => { e with key := k, val := x }) (es'.modify j fun e => { e with key := k', val := x' }) := by
  refine ⟨by simp [hm.1], fun i e e' h1 h2 => ?_⟩
  rw [List.getElem?_modify] at h1 h2
  cases g1 : es[i]? with
  | none => rw [g1] at h1; simp at h1
  | some e1 =>
    cases g2 : es'[i]? with
    | none => rw [g2] at h2; simp at h2
    | some e2 =>
      have hr := hm.2 i e1 e2 g1 g2
      rw [g1] at h1; rw [g2] at h2
      simp only [Option.map_eq_map, Option.map_some, Option.some.injEq] at h1 h2
      by_cases hj : j = i
      · simp only [hj, if_true] at h1 h2; subst h1 h2
        exact ⟨hk, hx, hr.2.2⟩
      · simp only [hj, if_false, id] at h1 h2; subst h1 h2; exact hr
omit ok hw in
theorem MRel.append {β : Mp} {a a' b b' : List MapEntry} (h : MRel β a a') (h' : MRel β b b') : MRel β (a ++ b) (a' ++ b') := by
  induction a generalizing a' with
  | nil => have := h.nil_inv; subst this; exact h'
  | cons x xs ih => obtain ⟨y, ys, rfl, hv, hl⟩ := h.cons_inv; exact MRel.cons hv (ih hl)
omit ok hw in
theorem mrel_erase {β : Mp} : ∀ {es es' : List MapEntry} {j : Nat} (_ : MRel β es es'), MRel β (es.eraseIdx j) (es'.eraseIdx j) := by
  intro es
  induction es with
  | nil => intro es' j h; have := h.nil_inv; subst this; simpa using h
  | cons e es ih =>
    intro es' j h
    obtain ⟨e', l', rfl, he, hm⟩ := h.cons_inv
    cases j with
    | zero => exact hm
    | succ j => exact MRel.cons he (ih hm)
theorem mup_ok {t key elem : TypeId} {m m' k k' x x' : Value} {p : Eqp} (ht : P.underlying t = some (.map key elem)) (hp : keyPlan tb key = some p) (hm : VRel β m m') (hk : VRel β k k') (hx : VRel β x x') :
    OpU P β H W (Instr.mapUpdate t m' k' x') (exMup p m k x H) := by
  obtain ⟨d, l, hd, rfl, hkd⟩ := keyPlan_inv ok hp
  unfold exMup
  split
  · rename_i r e
    have := asM_inv e; subst this
    cases hm with | map _ m0 e0 =>
    split
    · trivial
    · rename_i es c e1
      have ha : alive H r := (alive_iff H r).2 (by rw [mapOf_inv e1]; simp)
      have hck := fun (n : Nat) => run_checkKey (P := P) (W := W) hkd hd false n k'
      split
      · rename_i j x1 e2
        refine opu_put hw ha fun pr => ?_
        obtain ⟨m1, es', e3, ho, hr, hs⟩ := map_of pr (.inr ((bit_iff r r).2 rfl)) e1
        rw [e0] at e3; cases e3
        have hg := run_getObj_o (P := P) ho (by simp)
        have hso := fun o' => run_setObj_o (P := P) o' ho (by simp)
        obtain ⟨x2, e', h1, h2, _, h3, h4⟩ := findK_ok hkd hk _ _ _ _ hr e2
        simp only [Nat.sub_zero] at h3
        have hb := bits_ok (n := 10000) hkd h4
        refine ⟨m0, _, .map (es'.modify j fun e => { e with key := k', val := x' }) c, e0, ho, ⟨_, rfl, ?_, hs⟩, ?_⟩
        · rw [bang_modify]
          exact mrel_modify hr hk hx
        · have h3' : es'[j]? = some e' := by simpa using h3
          have hst : (Instr.keyThatStays e'.key k').run P W = .ok k' W := by
            unfold Instr.keyThatStays; rw [hb]; simp
          simp only [Instr.mapUpdate, Sem.run_bind, run_underlying ht, Result.andThen_ok, hg, hck 9999, run_findKey hd h1, h3', Option.map_some, Option.getD_some, hst, hso]
      · rename_i e2
        refine opu_put hw ha fun pr => ?_
        obtain ⟨m1, es', e3, ho, hr, hs⟩ := map_of pr (.inr ((bit_iff r r).2 rfl)) e1
        rw [e0] at e3; cases e3
        have hg := run_getObj_o (P := P) ho (by simp)
        have hso := fun o' => run_setObj_o (P := P) o' ho (by simp)
        have h1 := findK_ok hkd hk _ _ _ _ hr e2
        refine ⟨m0, _, .map (es'.push { key := k', val := x', born := c }) (c + 1), e0, ho, ⟨_, rfl, ?_, hs⟩, ?_⟩
        · rw [Array.toList_push]
          exact MRel.append hr (MRel.cons ⟨hk, hx, rfl⟩ mrel_empty)
        · simp only [Instr.mapUpdate, Sem.run_bind, run_underlying ht, Result.andThen_ok, hg, hck 9999, run_findKey hd h1, hso]
      · trivial
  · trivial
theorem del_ok {at_ : Array TypeId} {ty t key elem : TypeId} {m m' k k' : Value} {p : Eqp} (h0 : at_[0]? = some t) (ht : P.underlying t = some (.map key elem)) (hp : keyPlan tb key = some p) (hm : VRel β m m') (hk : VRel β k k') :
    OpV P β H W (Builtin.delete_ at_ ty #[m', k']) (exDel p m k H) := by
  obtain ⟨d, l, hd, rfl, hkd⟩ := keyPlan_inv ok hp
  have vr : VRel β (.tuple #[]) (.tuple #[]) := vrel_U β
  unfold exDel
  split
  · trivial
  · rename_i e
    have := asM_inv e; subst this; cases hm
    refine opv_pure hw (v' := .tuple #[]) ?_ vr
    have hck := run_checkKey (P := P) (W := W) hkd hd true 9999 k'
    simp [Builtin.delete_, h0, run_underlying ht, hck]
  · rename_i r e
    have := asM_inv e; subst this
    cases hm with | map _ m0 e0 =>
    split
    · trivial
    · rename_i es c e1
      have ha : alive H r := (alive_iff H r).2 (by rw [mapOf_inv e1]; simp)
      have hck := fun (b : Bool) => run_checkKey (P := P) (W := W) hkd hd b 9999 k'
      split
      · rename_i j x1 e2
        refine opv_put hw ha fun pr => ?_
        obtain ⟨m1, es', e3, ho, hr, hs⟩ := map_of pr (.inr ((bit_iff r r).2 rfl)) e1
        rw [e0] at e3; cases e3
        have hg := run_getObj_o (P := P) ho (by simp)
        have hso := fun o' => run_setObj_o (P := P) o' ho (by simp)
        obtain ⟨x2, e', h1, h2, _, h3, h4⟩ := findK_ok hkd hk _ _ _ _ hr e2
        refine ⟨m0, _, .map (es'.eraseIdxIfInBounds j) c, .tuple #[], e0, ho, ⟨_, rfl, ?_, hs⟩, ?_, vr⟩
        · have : (es'.eraseIdxIfInBounds j).toList = es'.toList.eraseIdx j := by simp
          rw [this]
          exact mrel_erase hr
        · simp [Builtin.delete_, h0, run_underlying ht, hg, hck, run_findKey hd h1, hso]
      · rename_i e2
        refine opv_same hw ha fun pr => ?_
        obtain ⟨m1, es', e3, ho, hr, hs⟩ := map_of pr (.inr ((bit_iff r r).2 rfl)) e1
        rw [e0] at e3; cases e3
        have hg := run_getObj_o (P := P) ho (by simp)
        have hso := fun o' => run_setObj_o (P := P) o' ho (by simp)
        have h1 := findK_ok hkd hk _ _ _ _ hr e2
        refine ⟨.tuple #[], ?_, vr⟩
        simp [Builtin.delete_, h0, run_underlying ht, hg, hck, run_findKey hd h1, hso, setB_self ho]
      · trivial
omit ok in
def LenD (k : Nat) (d : TypeDesc) : Prop := (k = 0 ∧ d = .string) ∨ (k = 1 ∧ ∃ e, d = .slice e) ∨ (k = 2 ∧ ∃ a b, d = .map a b)
omit ok in
theorem len_ok {at_ : Array TypeId} {ty t : TypeId} {d : TypeDesc} {n : Nat} {v v' : Value} (hq : SyH.Q β) (h0 : at_[0]? = some t) (ht : P.underlying t = some d) (hd : LenD n d) (hv : VRel β v v') :
    OpV P β H W (Builtin.len_ at_ ty #[v']) (exLen n v H) := by
  unfold exLen
  split
  · rename_i s
    cases hv
    cases e : Nat.beq n 0 with
    | false => rw [Bc_f]; trivial
    | true =>
      rw [Bc_t]
      have := (beq_iff _ _).1 e; subst this
      have : d = .string := by rcases hd with ⟨_, h⟩ | ⟨h, _⟩ | ⟨h, _⟩ <;> first | exact h | cases h
      subst this
      exact opv_pure hw (v' := .int .i64 (.ofNat s.size)) (by simp [Builtin.len_, h0, run_underlying ht, goInt]) (.int _ _)
  · rename_i a l c
    cases e : Nat.beq n 1 with
    | false => rw [Bc_f]; trivial
    | true =>
      rw [Bc_t]
      have := (beq_iff _ _).1 e; subst this
      have : ∃ e, d = .slice e := by rcases hd with ⟨h, _⟩ | ⟨_, h⟩ | ⟨h, _⟩ <;> first | exact h | cases h
      obtain ⟨el, rfl⟩ := this
      cases hv <;> first
        | exact opv_pure hw (v' := .int .i64 (.ofNat l)) (by simp [Builtin.len_, h0, run_underlying ht, goInt]) (.int _ _)
        | exact opv_pure hw (v' := .int .i64 (.ofNat 0)) (by simp [Builtin.len_, h0, run_underlying ht, goInt]) (.int _ _)
  · cases hv
    cases e : Nat.beq n 2 with
    | false => rw [Bc_f]; trivial
    | true =>
      rw [Bc_t]
      have := (beq_iff _ _).1 e; subst this
      have : ∃ a b, d = .map a b := by rcases hd with ⟨h, _⟩ | ⟨h, _⟩ | ⟨_, h⟩ <;> first | exact h | cases h
      obtain ⟨a, b, rfl⟩ := this
      exact opv_pure hw (v' := .int .i64 0) (by simp [Builtin.len_, h0, run_underlying ht, goInt]) (.int _ _)
  · rename_i r
    cases hv with | map _ m0 e0 =>
    cases e : Nat.beq n 2 with
    | false => rw [Bc_f]; trivial
    | true =>
      rw [Bc_t]
      have := (beq_iff _ _).1 e; subst this
      have : ∃ a b, d = .map a b := by rcases hd with ⟨h, _⟩ | ⟨h, _⟩ | ⟨_, h⟩ <;> first | exact h | cases h
      obtain ⟨a, b, rfl⟩ := this
      split
      · rename_i es c e1
        refine opv_read hw fun pr => ?_
        obtain ⟨m1, es', e3, ho, hr, hs⟩ := map_of pr (.inl ((bit_iff r r).2 rfl)) e1
        rw [e0] at e3; cases e3
        have hg := run_getObj_o (P := P) ho (by simp)
        refine ⟨.int .i64 (es'.size : Int), by simp [Builtin.len_, h0, run_underlying ht, goInt, hg], ?_⟩
        have : es.toList.length = es'.size := by rw [hr.1]; exact Array.length_toList
        rw [this]
        exact .int _ _
      · trivial
  · rename_i c
    cases e : Nat.beq n 0 with
    | false => rw [Bc_f]; trivial
    | true =>
      rw [Bc_t]
      have := (beq_iff _ _).1 e; subst this
      have : d = .string := by rcases hd with ⟨_, h⟩ | ⟨h, _⟩ | ⟨h, _⟩ <;> first | exact h | cases h
      subst this
      refine hook_o hq (lrel1 hv) fun v2 h => ?_
      unfold hkV at h
      split at h
      all_goals (rename_i hh he; try (cases hh; done))
      all_goals (try (cases he; done))
      all_goals (try (cases h; done))
      cases he; cases h
      rename_i s
      exact ⟨fint, opv_pure hw (v' := .int .i64 (.ofNat s.size)) (by simp [Builtin.len_, h0, run_underlying ht, goInt]) (.int _ _)⟩
  · trivial
end
end Go.Ev
end
noncomputable section
namespace Go.Ev
variable [SyH]
section
variable {P : Program} {β : Mp} {H : Hp} {W : World} (hw : H.wf)
include hw
theorem nxtS_ok {ty : TypeId} {v v' : Value} (hv : VRel β v v') : OpV P β H W (Instr.next v' true ty) (exNxtS v H) := by
  unfold exNxtS
  split
  · rename_i r e
    have := asPtr_inv e; subst this
    cases hv with | ptr _ _ m0 e0 =>
    split
    · rename_i s pos e1
      have ha : alive H r := (alive_iff H r).2 (by rw [e1]; simp)
      cases e2 : Nat.blt pos s.data.toList.length with
      | true =>
        rw [Bc_t]
        have hlt : pos < s.size := (blt_iff _ _).1 e2
        refine opv_put hw ha fun pr => ?_
        obtain ⟨m1, o, e3, ho, rfl, hs⟩ := obj_of pr (.inr ((bit_iff r r).2 rfl)) e1 (by simp)
        rw [e0] at e3; cases e3
        have hg := run_getObj_o (P := P) ho (by simp)
        have hso := fun o' => run_setObj_o (P := P) o' ho (by simp)
        have hl : LRel β [.bool true, .int .i64 (pos : Int), .int .i32 ((Utf8.decode s pos).1 : Int)] [.bool true, .int .i64 (pos : Int), .int .i32 ((Utf8.decode s pos).1 : Int)] :=
          LRel.cons (.bool _) (LRel.cons (.int _ _) (LRel.cons (.int _ _) (LRel.nil β)))
        refine ⟨m0, _, .stringIter s (pos + (Utf8.decode s pos).2), .tuple #[.bool true, .int .i64 (pos : Int), .int .i32 ((Utf8.decode s pos).1 : Int)], e0, ho, ⟨rfl, hs⟩, ?_, .tuple _ _ hl.1 hl.2⟩
        simp [Instr.next, hs, hg, hlt, hso, goInt]
      | false =>
        rw [Bc_f]
        have hlt : ¬ pos < s.size := by
          intro h; rw [(blt_iff pos s.data.toList.length).2 h] at e2; cases e2
        refine opv_same hw ha fun pr => ?_
        obtain ⟨m1, o, e3, ho, rfl, hs⟩ := obj_of pr (.inr ((bit_iff r r).2 rfl)) e1 (by simp)
        rw [e0] at e3; cases e3
        have hg := run_getObj_o (P := P) ho (by simp)
        have hl : LRel β [.bool false] [.bool false] := LRel.cons (.bool _) (LRel.nil β)
        refine ⟨.tuple #[.bool false], ?_, .tuple _ _ hl.1 hl.2⟩
        simp [Instr.next, hs, hg, hlt]
    · trivial
  · trivial
omit hw in
theorem mrel_filter {f : Nat → Bool} : ∀ {es es' : List MapEntry}, MRel β es es' → MRel β (es.filter fun e => f e.born) (es'.filter fun e => f e.born) := by
  intro es
  induction es with
  | nil => intro es' h; have := h.nil_inv; subst this; exact mrel_empty
  | cons e es ih =>
    intro es' h
    obtain ⟨e', l', rfl, he, hm⟩ := h.cons_inv
    simp only [List.filter_cons, ← he.2.2]
    cases f e.born with
    | true => exact MRel.cons he (ih hm)
    | false => exact ih hm
omit hw in
theorem mrel_any {f : Nat → Bool} : ∀ {es es' : List MapEntry}, MRel β es es' → es.all (fun e => f e.born) = es'.all (fun e => f e.born) := by
  intro es
  induction es with
  | nil => intro es' h; have := h.nil_inv; subst this; rfl
  | cons e es ih =>
    intro es' h
    obtain ⟨e', l', rfl, he, hm⟩ := h.cons_inv
    simp only [List.all_cons, ih hm, he.2.2]
theorem nxtM_ok {ty : TypeId} {v v' : Value} (hv : VRel β v v') : OpV P β H W (Instr.next v' false ty) (exNxtM v H) := by
  unfold exNxtM
  have over : VRel β (.tuple #[.bool false]) (.tuple #[.bool false]) := by
    have hl : LRel β [Value.bool false] [Value.bool false] := LRel.cons (.bool _) (LRel.nil β)
    exact .tuple _ _ hl.1 hl.2
  split
  · rename_i r e
    have := asPtr_inv e; subst this
    cases hv with | ptr _ _ m0 e0 =>
    split
    · rename_i a b c e1
      have ha : alive H r := (alive_iff H r).2 (by rw [e1]; simp)
      refine opv_same hw ha fun pr => ?_
      obtain ⟨m1, o, e3, ho, rfl, hs⟩ := obj_of pr (.inr ((bit_iff r r).2 rfl)) e1 (by simp)
      rw [e0] at e3; cases e3
      have hg := run_getObj_o (P := P) ho (by simp)
      refine ⟨.tuple #[.bool false], ?_, over⟩
      simp [Instr.next, hs, hg]
    · rename_i mm since seen last e1
      have ha : alive H r := (alive_iff H r).2 (by rw [e1]; simp)
      split
      · trivial
      · rename_i es c e2
        split
        · trivial
        · rename_i hc1
          simp only []
          split
          · trivial
          · rename_i hc2
            have facts : ∀ {H' : Hp} {r' w' : Nat}, Pre β H H' r' w' W → inS r' w' r → inS r' w' mm → ∃ mr es', m0.sh = 0 ∧ (getObj m0.rb).run P W = .ok (.mapIter (some mr.rb) since seen last) W ∧ W.heap[m0.rb]? = some (.mapIter (some mr.rb) since seen last) ∧
                β mm = some mr ∧ (getObj mr.rb).run P W = .ok (.map es' c) W ∧ MRel β es.toList es'.toList := by
              intro H' r' w' pr i1 i2
              obtain ⟨m1, o, e3, ho, mr, e4, rfl, hs⟩ := obj_of pr i1 e1 (by simp)
              rw [e0] at e3; cases e3
              obtain ⟨m2, es', e5, ho2, hr, _⟩ := map_of pr i2 e2
              rw [e4] at e5; cases e5
              exact ⟨mr, es', hs, run_getObj_o (P := P) ho (by simp), ho, e4, run_getObj_o (P := P) ho2 (by simp), hr⟩
            have guard : ∀ {es' : Array MapEntry}, MRel β es.toList es'.toList → (!seen.isEmpty && !es'.isEmpty && es'.all (fun x => decide (x.born ≥ last))) = false := by
              intro es' hr
              have h1 : es'.isEmpty = es.isEmpty := by
                have := hr.1
                rw [Bool.eq_iff_iff]
                simp only [Array.isEmpty_iff_size_eq_zero]
                simp at this; omega
              have h2 : es'.all (fun x => decide (x.born ≥ last)) = es.all (fun x => decide (x.born ≥ last)) := by
                rw [← Array.all_toList, ← Array.all_toList]
                exact (mrel_any (f := fun n => decide (n ≥ last)) hr).symm
              rw [h1, h2]
              simpa using hc1
            have lft : ∀ {es' : Array MapEntry}, MRel β es.toList es'.toList → MRel β (es.toList.filter fun e => !seen.contains e.born) (es'.filter fun e => !seen.contains e.born).toList := by
              intro es' hr
              rw [Array.toList_filter]
              exact mrel_filter (f := fun n => !seen.contains n) hr
            split
            · rename_i hl
              refine opv_same hw ha fun pr => ?_
              obtain ⟨mr, es', hs, g1, _, _, g2, hr⟩ := facts pr (.inr ((bit_iff r r).2 rfl)) (.inl ((bit_iff mm mm).2 rfl))
              have hl' := lft hr
              rw [hl] at hl'
              have h0 : es'.filter (fun e => !seen.contains e.born) = #[] := Array.ext' (by simpa using hl'.nil_inv)
              refine ⟨.tuple #[.bool false], ?_, over⟩
              have hgd := guard hr
              simp only [Instr.next, Nat.zero_add, hs, Sem.run_bind, g1, Result.andThen_ok, g2, hgd, h0]
              simp [Question.forced]
            · rename_i en hl
              refine opv_put hw ha fun pr => ?_
              obtain ⟨mr, es', hs, g1, ho, e4, g2, hr⟩ := facts pr (.inr ((bit_iff r r).2 rfl)) (.inl ((bit_iff mm mm).2 rfl))
              have hl' := lft hr
              rw [hl] at hl'
              obtain ⟨en', l', h1, he, h2⟩ := hl'.cons_inv
              have := h2.nil_inv; subst this
              have h0 : es'.filter (fun e => !seen.contains e.born) = #[en'] := Array.ext' (by simpa using h1)
              rw [hl] at hc2
              have hold : ¬ (en'.born ≥ since) := by
                rw [← he.2.2]; simpa using hc2
              have hold' : en'.born < since := by omega
              have hso := fun o' => run_setObj_o (P := P) o' ho (by simp)
              have hll : LRel β [.bool true, en.key, en.val] [.bool true, en'.key, en'.val] := LRel.cons (.bool _) (LRel.cons he.1 (LRel.cons he.2.1 (LRel.nil β)))
              refine ⟨m0, _, .mapIter (some mr.rb) since (seen.push en'.born) c, .tuple #[.bool true, en'.key, en'.val], e0, ho, ⟨mr, e4, by rw [he.2.2], hs⟩, ?_, .tuple _ _ hll.1 hll.2⟩
              have hgd := guard hr
              simp only [Instr.next, Nat.zero_add, hs, Sem.run_bind, g1, Result.andThen_ok, g2, hgd, h0]
              simp [Question.forced, hold', hold, hso]
            · trivial
    · trivial
  · trivial
end
end Go.Ev
end
noncomputable section
namespace Go.Ev
variable [SyH]
theorem strOf_inv : ∀ {l : List Value} {s : List UInt8}, strOf l = some s → ∃ ns : List Int, l = ns.map (Value.int .u8) ∧ s = ns.map (fun n => UInt8.ofNat n.toNat) := by
  intro l
  induction l with
  | nil => intro s h; cases h; exact ⟨[], rfl, rfl⟩
  | cons v r ih =>
    intro s h
    unfold strOf at h
    cases ha : (v :: r).all isU8 with
    | false => rw [ha, Bc_f] at h; cases h
    | true =>
      rw [ha, Bc_t] at h
      simp only [List.all_cons, Bool.and_eq_true] at ha
      cases h
      have h2 : strOf r = some (r.map u8Of) := by unfold strOf; rw [ha.2, Bc_t]
      obtain ⟨ns, h1, h3⟩ := ih h2
      have hv := ha.1
      unfold isU8 at hv
      split at hv
      · rename_i n
        exact ⟨n :: ns, by rw [h1]; rfl, by rw [List.map_cons, h3]; rfl⟩
      · cases hv
theorem lrel_ints {β : Mp} : ∀ {ns : List Int} {l' : List Value}, LRel β (ns.map (Value.int .u8)) l' → l' = ns.map (Value.int .u8) := by
  intro ns
  induction ns with
  | nil => intro l' h; exact h.nil_inv
  | cons n ns ih =>
    intro l' h
    obtain ⟨v', l2, rfl, hv, hl⟩ := h.cons_inv
    cases hv
    rw [ih hl]; rfl
theorem fold_push : ∀ (ns : List Int) (r : ByteArray), (ns.foldl (fun r n => r.push (UInt8.ofNat n.toNat)) r) = ⟨⟨r.data.toList ++ ns.map (fun n => UInt8.ofNat n.toNat)⟩⟩ := by
  intro ns
  induction ns with
  | nil => intro r; simp
  | cons n ns ih =>
    intro r
    simp only [List.foldl_cons, ih]
    congr 2
    simp [ByteArray.push]
theorem push_modify {α : Type} (a : Array α) (x : α) (f : α → α) : (a.push x).modify a.size f = a.push (f x) := by
  apply Array.ext_getElem?
  intro i
  rw [Array.getElem?_modify, Array.getElem?_push, Array.getElem?_push]
  by_cases h : i = a.size
  · subst h; simp
  · have : ¬ a.size = i := fun h' => h h'.symm
    simp [h, this]
section
variable {P : Program} {tb : Tb} (ok : TbOk P tb) {β : Mp} {H : Hp} {W : World} (hw : H.wf)
include hw
theorem cSS_ok {src dst : TypeId} {v v' : Value} (hs : P.underlying src = some .string) (hd : P.underlying dst = some .string) (hv : VRel β v v') : OpV P β H W (convert src dst v') (exSS v H) := by
  unfold exSS
  cases e : asS v with
  | none => trivial
  | some s =>
    have := asS_inv e; subst this; cases hv
    exact opv_pure hw (v' := .string s) (by simp [convert, run_underlying hs, run_underlying hd]) (.string _)
omit hw in
theorem strV_ok {l l' : List Value} {v : Value} (hq : SyH.Q β) (hl : LRel β l l') (h : strV l = some v) : ∃ (s : List UInt8) (ns : List Int), strOf l' = some s ∧ l' = ns.map (Value.int .u8) ∧ s = ns.map (fun x => UInt8.ofNat x.toNat) ∧ VRel β v (.string ⟨⟨s⟩⟩) := by
  have real : ∀ s, strOf l' = some s → ∃ ns : List Int, l' = ns.map (Value.int .u8) ∧ s = ns.map (fun x => UInt8.ofNat x.toNat) := fun s h => by
    obtain ⟨ns, h1, h2⟩ := strOf_inv h
    exact ⟨ns, h1, h2⟩
  unfold strV orH at h
  cases e : strOf l with
  | some s =>
    rw [e] at h; cases h
    obtain ⟨ns, e3, e4⟩ := strOf_inv e
    rw [e3] at hl
    have h6 := lrel_ints hl
    have e' : strOf l' = some s := by rw [h6, ← e3]; exact e
    exact ⟨s, ns, e', h6, e4, .string _⟩
  | none =>
    rw [e] at h
    obtain ⟨v', h1, h2⟩ := SyH.hk_ok hq _ _ _ h _ hl
    have h1 : (match strOf l' with | some s => some (Value.string ⟨⟨s⟩⟩) | none => none) = some v' := h1
    cases e2 : strOf l' with
    | none => rw [e2] at h1; cases h1
    | some s =>
      rw [e2] at h1; cases h1
      obtain ⟨ns, h3, h4⟩ := real s e2
      exact ⟨s, ns, rfl, h3, h4, h2⟩
theorem cToS_ok {src dst e : TypeId} {v v' : Value} (hq : SyH.Q β) (hs : P.underlying src = some (.slice e)) (he : P.underlying e = some (.int .u8)) (hd : P.underlying dst = some .string) (hv : VRel β v v') : OpV P β H W (convert src dst v') (exToS v H) := by
  unfold exToS
  split
  · cases hv
    exact opv_pure hw (v' := .string .empty) (by rw [run_convert_bytes_string W src dst e _ _ _ hs he hd]; rfl) (.string _)
  · rename_i b o n c
    cases hv with | sl _ _ _ _ c' m0 e0 hcap =>
    split
    · rename_i l e1
      split
      · rename_i s e2
        refine opv_read hw fun p => ?_
        obtain ⟨t', k, ty, op, lo, hi, hb, ho, rfl⟩ := rdN_inv e1
        obtain ⟨m, cs, fr, em, hm, h1, h2, h3, h3', h4, h5⟩ := cells_of p (.inl ((bit_iff b b).2 rfl)) hb
        rw [e0] at em; cases em
        have hl := lrel_row (sh := m0.sh) ho (by omega) h4
        obtain ⟨s2, ns, _, h6, rfl, hv2⟩ := strV_ok hq hl e2
        have h7 := run_row (P := P) hm (show o + m0.sh + n ≤ cs.size by omega)
        rw [h6] at h7
        refine ⟨_, ?_, hv2⟩
        rw [run_convert_bytes_string W src dst e _ _ _ hs he hd, run_bytesToString W _ _ _ ns h7, fold_push]
        rfl
      · trivial
    · trivial
  · trivial
omit hw in
theorem bytes_list (s : ByteArray) : (s.data.map fun b => Value.int .u8 b.toNat).toList = bytesV s.data.toList := by
  simp [bytesV]
omit hw in
theorem bytesV_ok (β : Mp) (l : List UInt8) : (bytesV l).all oneC = true ∧ LRel β (bytesV l) (bytesV l) := by
  induction l with
  | nil => exact ⟨rfl, LRel.nil β⟩
  | cons b l ih => exact ⟨ih.1, LRel.cons (.int _ _) ih.2⟩
omit hw in
theorem cToB_ok {src dst e : TypeId} {v v' : Value} (hs : P.underlying src = some .string) (hd : P.underlying dst = some (.slice e)) (he : P.underlying e = some (.int .u8)) (hv : VRel β v v') : OpV P β H W (convert src dst v') (exToB e v H) := by
  unfold exToB
  cases ea : asS v with
  | none => trivial
  | some s =>
    have := asS_inv ea; subst this; cases hv
    simp only []
    obtain ⟨t, hb, hg⟩ := blkL_eq (bytesV s.data.toList) e 2
    rw [hb]
    show OpV P β H W _ (alloc1 (.cells t _ e 2 1 0) H _ 0 0)
    refine allocO_ok fun p => ?_
    have hlen : (bytesV s.data.toList).length = s.size := by unfold bytesV; rw [List.length_map]; rfl
    obtain ⟨q, hcap⟩ : ∃ q, Question.cut (.appendCap s.size 0 e) (W.tape W.drawn (.appendCap s.size 0 e)) = s.size + q := ⟨_, rfl⟩
    let row : Array Value := (s.data.map fun b => Value.int .u8 b.toNat) ++ Array.replicate q (.int .u8 0)
    have hrow : row.size = s.size + q := by
      show ((s.data.map fun (b : UInt8) => Value.int .u8 b.toNat) ++ Array.replicate q (Value.int .u8 0)).size = _
      rw [Array.size_append, Array.size_map, Array.size_replicate]; rfl
    refine ⟨.slice (some ⟨W.heap.size, 0, none⟩) s.size (s.size + q), .cells row e (row.size, row.size + 1), ⟨W.heap.size, 0, s.size + q, 1⟩,
      { W with heap := W.heap.push (.cells row e (row.size, row.size + 1)), drawn := W.drawn + 1 }, ?_, rfl, ⟨rfl, rfl, rfl⟩, rfl, fun β' hle => ?_, fun β' hle e1 => ?_⟩
    · have hf : (Question.appendCap s.size 0 e).forced = false := rfl
      simp only [convert, Sem.run_bind, run_underlying hs, run_underlying hd, run_underlying he, Result.andThen_ok, Conv.stringToBytes, run_choose, hf, Bool.false_eq_true, if_false, hcap,
        newRow, run_newObj, markStringish, run_shape, run_freeze, Sem.run_pure]
      have hq : s.size + q - s.size = q := by omega
      simp only [hq]
      have hsh : World.shape? { W with heap := W.heap.push (Obj.cells row e), drawn := W.drawn + 1 } W.heap.size = some (e, row.size) := by
        simp [World.shape?]
      show Result.andThen (Sem.run P (match World.shape? { W with heap := W.heap.push (Obj.cells row e), drawn := W.drawn + 1 } W.heap.size with
        | some (_, n) => freeze { block := W.heap.size, off := n } 1
        | _ => pure ()) { W with heap := W.heap.push (Obj.cells row e), drawn := W.drawn + 1 }) _ = _
      rw [hsh]
      simp only [run_freeze, Result.andThen_ok]
      congr 1
      unfold World.freeze
      simp [push_modify]
    · have hlc : (bytesV s.data.toList).length ≤ s.size + q := by omega
      refine ⟨row, _, rfl, hrow, by simp; omega, (fun h => by cases h), (fun k h => by cases h; rfl), fun i hi => ?_, .inr (.inl ⟨by omega, .inr (by simp [hrow])⟩)⟩
      have hv1 : (bytesV s.data.toList)[i]? = some (bytesV s.data.toList)[i] := by simp [hi]
      rw [hg i _ hv1]
      obtain ⟨b1, b2⟩ := bytesV_ok β' s.data.toList
      refine ⟨List.all_eq_true.1 b1 _ (List.getElem_mem hi), (bytesV s.data.toList)[i], ?_, b2.2 i _ _ hv1 hv1⟩
      simp only [Nat.zero_add]
      rw [Array.getElem?_append_left (by rw [Array.size_map]; show i < s.size; omega), ← Array.getElem?_toList, bytes_list]
      exact hv1
    · have hl2 : (s.data.toList.length) = s.size := rfl
      refine sl_mk ⟨⟨W.heap.size, 0, s.size + q, 1⟩, s.size + q, e1, ?_, fun h => (by cases h), fun _ => ⟨by omega, by simp⟩⟩
      simp [hl2]
end
end Go.Ev
end
noncomputable section
namespace Go.Ev
variable [SyH]
section
variable {P : Program} {tb : Tb} (ok : TbOk P tb) {β : Mp} {H : Hp} {W : World} (hw : H.wf)
theorem can_wr {H' : Hp} {b o : Nat} {vs : List Value} (hw : H.wf) (h : wrN H b o vs = some H') : Can H H' (bit b) ∧ alive H b := by
  obtain ⟨t, n, ty, op, lo, hi, hb, ho, hth, rfl⟩ := wrN_inv h
  have ha : alive H b := (alive_iff H b).2 (by rw [hb]; simp)
  exact ⟨can_put hw _ ha, ha⟩
theorem can_wrs {H' : Hp} {b o : Nat} {vs : List Value} (hw : H.wf) (h : wrNs H b o vs = some H') : Can H H' (bit b) ∧ alive H b := by
  obtain ⟨t, n, ty, op, lo, hi, hb, ho, hth, rfl⟩ := wrNs_inv h
  have ha : alive H b := (alive_iff H b).2 (by rw [hb]; simp)
  exact ⟨can_put hw _ ha, ha⟩
theorem lenV_ok {x x' : Value} {n : Nat} (h : lenV x = some n) (hx : VRel β x x') : (Builtin.lenOf x').run P W = .ok n W := by
  unfold lenV at h
  split at h
  · cases h; cases hx <;> rfl
  · cases h; cases hx; rfl
  · cases h
theorem take_bytes (s : ByteArray) (n : Nat) (hn : n ≤ s.size) : ((s.extract 0 n).data.map fun b => Value.int .u8 b.toNat) = ⟨bytesV (s.data.toList.take n)⟩ := by
  apply Array.ext'
  simp [bytesV]
theorem firstCells_ok {H' : Hp} {r' w' : Nat} {sz n k r : Nat} {x x' : Value} {cs : List Value} (h : cellsOfV H sz n x = some (cs, r)) (hk : lenV x = some k) (hn : n ≤ k) (hx : VRel β x x') (p : Pre β H H' r' w' W)
    (hr : ∀ b, r.testBit b = true → inS r' w' b) : ∃ cs', (∀ w : World, w.heap = W.heap → (Builtin.firstCells sz n x').run P w = .ok ⟨cs'⟩ w) ∧ LRel β cs cs' ∧ cs.all oneC = true ∧ cs.length = n * sz := by
  unfold cellsOfV at h
  split at h
  · cases e : Nat.beq n 0 with
    | false => rw [e, Bc_f] at h; cases h
    | true =>
      rw [e, Bc_t] at h; cases h; cases hx
      have := (beq_iff _ _).1 e; subst this
      exact ⟨[], fun w _ => rfl, LRel.nil β, rfl, by simp⟩
  · cases e : Nat.beq n 0 with
    | false => rw [e, Bc_f] at h; cases h
    | true =>
      rw [e, Bc_t] at h; cases h; cases hx
      have := (beq_iff _ _).1 e; subst this
      exact ⟨[], fun w _ => by simp [Builtin.firstCells, loadCells, loadCellsFrom], LRel.nil β, rfl, by simp⟩
  · rename_i b o l c
    cases hx with | sl _ _ _ _ c' m0 e0 hcap =>
    split at h
    · rename_i l1 e1
      cases h
      obtain ⟨t', q, ty, op, lo, hi, hb, ho, rfl⟩ := rdN_inv e1
      obtain ⟨m, cs, fr, em, hm, h1, h2, h3, h3', h4, h5⟩ := cells_of p (hr b ((bit_iff b b).2 rfl)) hb
      rw [e0] at em; cases em
      have hl := lrel_row (sh := m0.sh) ho (by omega) h4
      exact ⟨_, fun w hw' => run_row (by rw [hw']; exact hm) (show o + m0.sh + n * sz ≤ cs.size by omega), hl, one_row ho fun j hj => (h4 j hj).1, rdL_len _ _ _⟩
    · cases h
  · rename_i s
    cases e : Nat.beq sz 1 with
    | false => rw [e, Bc_f] at h; cases h
    | true =>
      rw [e, Bc_t] at h
      have := (beq_iff _ _).1 e; subst this
      cases h; cases hx
      cases hk
      obtain ⟨b1, b2⟩ := bytesV_ok β (s.data.toList.take n)
      refine ⟨_, fun w _ => by simp only [Builtin.firstCells, Sem.run_pure]; rw [take_bytes s n hn], b2, b1, ?_⟩
      have : s.data.toList.length = s.size := rfl
      unfold bytesV; rw [List.length_map, List.length_take]
      omega
  · cases h
include ok hw
theorem copy_ok {at_ : Array TypeId} {ty t elem : TypeId} {i : TypeInfo} {d d' x x' : Value} (h0 : at_[0]? = some t) (ht : P.underlying t = some (.slice elem)) (hi : P.info? elem = some i) (hd : VRel β d d') (hx : VRel β x x') :
    OpV P β H W (Builtin.copy_ at_ ty #[d', x']) (exCopy i.size d x H) := by
  unfold exCopy
  split
  · rename_i xl a dl cap op e1 e2
    have hs := sl_of e2 hd
    have hlen := lenV_ok (P := P) (W := W) e1 hx
    split
    · trivial
    · rename_i cs r e3
      have hn : Nat.min xl dl ≤ xl := Nat.min_le_left _ _
      cases a with
      | none =>
        obtain ⟨_, rfl⟩ := hs
        refine opv_read hw fun p => ?_
        obtain ⟨cs', h1, h2, _, _⟩ := firstCells_ok (P := P) e3 e1 hn hx p (fun b hb => .inl hb)
        have h1 := h1 W rfl
        refine ⟨.int .i64 ((Nat.min xl dl : Nat) : Int), ?_, .int _ _⟩
        simp only [Builtin.copy_]
        simp [h0, run_underlying ht, hlen, run_sizeOf' hi, h1, goInt]
      | some y =>
        obtain ⟨b, o⟩ := y
        obtain ⟨m, c', e0, rfl, _⟩ := hs
        simp only []
        cases e4 : wrNs H b o cs with
        | none => trivial
        | some H' =>
          simp only []
          refine ⟨(can_wrs hw e4).1, fun p => ?_⟩
          obtain ⟨cs', h1, h2, h3, _⟩ := firstCells_ok (P := P) e3 e1 hn hx p (fun b hb => .inl hb)
          obtain ⟨_, hwr⟩ := write_oks (Hx := H') (W := W) (P := P) (r := r) (w := bit b) hw e4 e0 h2 h3
          obtain ⟨o', hrun, hpost⟩ := hwr p (.inr ((bit_iff b b).2 rfl))
          have h1 := h1 W rfl
          refine ⟨β, _, .int .i64 ((Nat.min xl dl : Nat) : Int), ?_, .int _ _, hpost⟩
          simp only [Builtin.copy_]
          simp [h0, run_underlying ht, hlen, run_sizeOf' hi, h1, goInt, hrun]
  · trivial
omit ok hw in
theorem zeroCells_eq (zv : Value) (n : Nat) : (Builtin.zeroCells zv.cells n).toList = (List.replicate n zv.cells.toList).flatten := rep_arr zv n
theorem clear_ok {at_ : Array TypeId} {ty t elem : TypeId} {z : List Value} {x x' : Value} (h0 : at_[0]? = some t) (ht : P.underlying t = some (.slice elem)) (hz : zeroL tb elem = some z) (hx : VRel β x x') :
    OpV P β H W (Builtin.clear_ at_ ty #[x']) (exClear z x H) := by
  obtain ⟨i, zv, hi, hzv, rfl, hf⟩ := zeroL_inv ok hz
  have vr : ∀ β : Mp, VRel β (.tuple #[]) (.tuple #[]) := fun β => vrel_U β
  unfold exClear
  split
  · rename_i l c op e1
    obtain ⟨_, rfl⟩ := sl_of e1 hx
    exact opv_pure hw (v' := .tuple #[]) (by simp [Builtin.clear_, h0, run_underlying ht]) (vr β)
  · rename_i b o n c op e1
    obtain ⟨m, c', e0, rfl, _⟩ := sl_of e1 hx
    split
    · rename_i H' e4
      refine ⟨(can_wr hw e4).1, fun p => ?_⟩
      obtain ⟨h1, hl⟩ := rep_all (β := β) hf n
      obtain ⟨_, hwr⟩ := write_ok (Hx := H') (W := W) (P := P) (r := 0) (w := bit b) hw e4 e0 hl h1
      obtain ⟨o', hrun, hpost⟩ := hwr p (.inr ((bit_iff b b).2 rfl))
      by_cases hn : n = 0
      · subst hn
        simp only [List.replicate_zero, List.flatten_nil, storeCells, Sem.run_pure] at hrun
        injection hrun with _ hW
        refine ⟨β, _, .tuple #[], ?_, vr β, hpost⟩
        rw [← hW]
        simp [Builtin.clear_, h0, run_underlying ht]
      · refine ⟨β, _, .tuple #[], ?_, vr β, hpost⟩
        obtain ⟨q, rfl⟩ : ∃ q, n = q + 1 := ⟨n - 1, by omega⟩
        simp [Builtin.clear_, h0, run_underlying ht, run_zeroValue hi hzv, zeroCells_eq, hrun]
    · trivial
  · trivial
end
end Go.Ev
end
noncomputable section
namespace Go.Ev
variable [SyH]
theorem growBy_le (N : Nat) : ∀ (r c : Nat), Builtin.growBy N r c ≤ max c (2 * N + 768) := by
  intro r
  induction r with
  | zero => intro c; exact Nat.le_max_left _ _
  | succ r ih =>
    intro c
    unfold Builtin.growBy
    split
    · exact Nat.le_max_left _ _
    · have := ih (c + (c + 768) / 4)
      have h : c + (c + 768) / 4 ≤ 2 * N + 768 := by omega
      omega
theorem nextCap_le {need c : Nat} (h : c < need) : Builtin.nextslicecap need c ≤ 2 * need + 768 := by
  unfold Builtin.nextslicecap
  split
  · omega
  · split
    · omega
    · have := growBy_le need 4 c
      omega
section
variable {P : Program} {W : World}
theorem not_int {d : TypeDesc} (h : ∀ k, d ≠ .int k) : (match d with | .int _ => true | _ => false) = false := by
  cases d <;> first | rfl | exact absurd rfl (h _)
variable {at_ : Array TypeId} {ty t xt elem : TypeId} {dx : TypeDesc} {i : TypeInfo} {x' : Value} {n : Nat} {new : List Value}
  (h0 : at_[0]? = some t) (h1 : at_[1]? = some xt) (ht : P.underlying t = some (.slice elem)) (hx : P.underlying xt = some dx) (hdx : ∀ k, dx ≠ .int k) (hi : P.info? elem = some i)
  (hlen : (Builtin.lenOf x').run P W = .ok n W) (hnew : ∀ w : World, w.heap = W.heap → (Builtin.firstCells i.size n x').run P w = .ok ⟨new⟩ w)
include h0 h1 ht hx hdx hi hlen hnew
theorem run_append_in {a : Addr} {len cap : Nat} {W' : World} (hc : len + n ≤ cap) (hst : (storeCells (a.add (len * i.size)) new).run P W = .ok () W') :
    (Builtin.append_ at_ ty #[.slice (some a) len cap, x']).run P W = .ok (.slice (some a) (len + n) cap) W' := by
  have hz := not_int hdx
  unfold Builtin.append_
  have hnew' := hnew W rfl
  simp [h0, h1, run_underlying ht, run_underlying hx, run_sizeOf' hi, hz, hlen, hc, hnew', hst]
theorem run_append_nil {len cap : Nat} (hc : len + n ≤ cap) : (Builtin.append_ at_ ty #[.slice none len cap, x']).run P W = .ok (.slice none (len + n) cap) W := by
  have hz := not_int hdx
  unfold Builtin.append_
  have hnew' := hnew W rfl
  simp [h0, h1, run_underlying ht, run_underlying hx, run_sizeOf' hi, hz, hlen, hc, hnew']
theorem run_append_new {a : Option Addr} {len cap : Nat} {old : List Value} {zv : Value} (hc : cap < len + n) (hb : okBytes (len + n) i.bytes = true) (hzv : i.zero = some zv)
    (hold : ∀ w : World, w.heap = W.heap → (Builtin.firstCells i.size len (.slice a len cap)).run P w = .ok ⟨old⟩ w) :
    ∃ q row, row.toList = old ++ (new ++ (Builtin.zeroCells zv.cells q).toList) ∧ (Builtin.append_ at_ ty #[.slice a len cap, x']).run P W = .ok (.slice (some ⟨W.heap.size, 0, none⟩) (len + n) (len + n + q))
      { W with heap := W.heap.push (.cells row elem), drawn := W.drawn + 1 } := by
  have hz := not_int hdx
  obtain ⟨q, hq⟩ : ∃ q, Question.cut (.appendCap (len + n) cap elem) (W.tape W.drawn (.appendCap (len + n) cap elem)) = len + n + q := ⟨_, rfl⟩
  refine ⟨q, (⟨old⟩ : Array Value) ++ ((⟨new⟩ : Array Value) ++ Builtin.zeroCells zv.cells q), by simp, ?_⟩
  simp only [okBytes, Bool.and_eq_true, ble_iff] at hb
  have hnc : ¬ (len + n ≤ cap) := by omega
  have hbig : ¬ (IntKind.i64.max < ((len + n : Nat) : Int)) := by
    have : IntKind.i64.max = 9223372036854775807 := by decide
    rw [this]; omega
  have hnx : ¬ (2 ^ 48 < Builtin.nextslicecap (len + n) cap * i.bytes) := by
    have h1 := Nat.mul_le_mul_right i.bytes (nextCap_le hc)
    have : (2 : Nat) ^ 48 = 281474976710656 := by decide
    rw [this]; omega
  have hf : (Question.appendCap (len + n) cap elem).forced = false := rfl
  have hsub : len + n + q - (len + n) = q := by omega
  have hold' := hold W.drew rfl
  have hnew' := hnew W.drew rfl
  have hbig' : ¬ (9223372036854775807 < (len : Int) + (n : Int)) := by
    have : IntKind.i64.max = 9223372036854775807 := by decide
    omega
  unfold Builtin.append_
  simp [h0, h1, run_underlying ht, run_underlying hx, run_sizeOf' hi, hz, hlen, hnc, run_typeInfo hi, hbig', hnx, hf, hq, hold', hnew', run_zeroValue hi hzv, newRow]
  rfl
end
section
variable {P : Program} {tb : Tb} (ok : TbOk P tb) {β : Mp} {H : Hp} {W : World} (hw : H.wf)
theorem post_fork {b : Nat} {m m' : Bm} {x : Blk} {o o' : Obj} (hw : H.wf) (ha : alive H b) (e : β b = some m) (ho : W.heap[m.rb]? = some o) (hn : H.room = true) (hf : β H.nx = none) (hm : m'.rb = m.rb)
    (hr : ORel (β.put H.nx m') m' x o') (hd : ∀ b m, β b = some m → m.rb < W.heap.size) : Post β (β.put H.nx m') H ((H.put b .no).push x) (bit b) W (World.setB W m.rb o') := by
  have hn' : (H.put b .no).room = true := by rw [room_put]; exact hn
  have nx2 : ((H.put b .no).push x).nx = H.nx + 1 := by rw [nx_push, nx_put]
  have blk2 : ∀ c, ((H.put b .no).push x).blk c = if c = H.nx then x else if c = b then .no else H.blk c := by
    intro c; rw [blk_push x hn', nx_put, blk_put _ hw ha.1]
  have hbn : b ≠ H.nx := Nat.ne_of_lt ha.1
  have dead : ¬ alive ((H.put b .no).push x) b := by
    intro h; exact h.2 (by rw [blk2, if_neg hbn, if_pos rfl])
  have only : ∀ c, (H.nx ≤ c ∨ (bit b).testBit c = true) → alive ((H.put b .no).push x) c → c = H.nx := by
    intro c hc hac
    rcases hc with h | h
    · have := hac.1; rw [nx2] at this; omega
    · have := (bit_iff b c).1 h; subst this; exact absurd hac dead
  refine ⟨Mp.le_put m' hf, fun c m1 h h' => ?_, fun c hc hac => ?_, fun rb o1 h hno => ?_, by rw [setB_size]; exact Nat.le_refl _, fun c m1 h => ?_,
    fun c m1 hc h h' => ?_, fun c d mc md hc hd' hac had _ _ _ => by rw [only c hc hac, only d hd' had], ⟨rfl, rfl, rfl⟩⟩
  · by_cases ec : c = H.nx
    · subst ec; rw [nx2]; omega
    · rw [Mp.put_ne β m' ec, h'] at h; cases h
  · have := only c hc hac; subst this
    exact ⟨m', Mp.put_same _ _ _, o', by rw [hm]; exact setB_same ho, by rw [blk2, if_pos rfl]; exact hr⟩
  · have := hno b m ha.1 ((bit_iff b b).2 rfl) e
    rw [setB_ne (Ne.symm this)]; exact h
  · rw [setB_size]
    by_cases ec : c = H.nx
    · subst ec; rw [Mp.put_same] at h; cases h; rw [hm]; exact hd b m e
    · rw [Mp.put_ne β m' ec] at h; exact hd c m1 h
  · by_cases ec : c = H.nx
    · subst ec; rw [Mp.put_same] at h'; cases h'
      exact .inr ⟨b, m, ha.1, (bit_iff b b).2 rfl, e, hm.symm, dead⟩
    · rw [Mp.put_ne β m' ec, h] at h'; cases h'
theorem can_fork {b : Nat} {x : Blk} (hw : H.wf) (ha : alive H b) (hn : H.room = true) : Can H ((H.put b .no).push x) (bit b) := by
  have c1 := can_put hw .no ha
  have c2 : Can (H.put b .no) ((H.put b .no).push x) 0 := can_push (by rw [room_put]; exact hn)
  have := Can.comp c1 c2
  rwa [show Nat.lor (bit b) 0 = bit b from Nat.or_zero _] at this
theorem orel_app {k : Nat} {t : T Value} {cs row : List Value} {rest : List Value} {ty : TypeId} {sz tot lo hi : Nat} (hg : ∀ (i : Nat) (v : Value), cs[i]? = some v → t.get i = v) (h1 : cs.all oneC = true) (hl : LRel β cs row) (ht : tot = row.length + rest.length) :
    ORel β ⟨k, 0, tot, sz⟩ (.cells t cs.length ty (sz + 1) lo hi) (.cells ⟨row ++ rest⟩ ty) := by
  refine ⟨⟨row ++ rest⟩, (0, 0), rfl, by simp [ht], by simp [ht, hl.1], (fun h => by cases h), (fun k h => by cases h; rfl), fun i hi' => ?_, ?_⟩
  · have hv : cs[i]? = some cs[i] := by simp [hi']
    rw [hg i _ hv]
    obtain ⟨v', ev, hr⟩ := hl.get hv
    refine ⟨List.all_eq_true.1 h1 _ (List.getElem_mem hi'), v', ?_, hr⟩
    have hi' : i < row.length := by rw [← hl.1]; exact hi'
    simp only [Nat.zero_add]
    show (row ++ rest).toArray[i]? = _
    rw [List.getElem?_toArray, List.getElem?_append_left hi']; exact ev
  · rcases Nat.lt_or_ge hi lo with h | h
    · exact .inr (.inl ⟨h, .inl rfl⟩)
    · exact .inl ⟨h, .inl rfl⟩
end
end Go.Ev
end
noncomputable section
namespace Go.Ev
variable [SyH]
section
variable {P : Program} {tb : Tb} (ok : TbOk P tb) {β : Mp} {H : Hp} {W : World} (hw : H.wf)
include hw
theorem app_ok {at_ : Array TypeId} {ty t xt elem : TypeId} {dx : TypeDesc} {i : TypeInfo} {zv s s' x x' : Value}
    (h0 : at_[0]? = some t) (h1 : at_[1]? = some xt) (ht : P.underlying t = some (.slice elem)) (hx : P.underlying xt = some dx) (hdx : ∀ k, dx ≠ .int k) (hi : P.info? elem = some i)
    (hzv : i.zero = some zv) (hzs : zv.cells.toList.length = i.size) (hs : VRel β s s') (hxx : VRel β x x') : OpV P β H W (Builtin.append_ at_ ty #[s', x']) (exApp elem i.size i.bytes s x H) := by
  unfold exApp
  split
  · rename_i n a len cap op e1 e2
    have hsl := sl_of e2 hs
    have hlen := lenV_ok (P := P) (W := W) e1 hxx
    split
    · trivial
    · rename_i new r e3
      have hnew : ∀ {H' : Hp} {r' w' : Nat}, Pre β H H' r' w' W → (∀ b, r.testBit b = true → inS r' w' b) → ∃ new', (∀ w : World, w.heap = W.heap → (Builtin.firstCells i.size n x').run P w = .ok ⟨new'⟩ w) ∧ LRel β new new' ∧ new.all oneC = true ∧ new.length = n * i.size :=
        fun p hr => firstCells_ok (P := P) e3 e1 (Nat.le_refl _) hxx p hr
      have zlen : ∀ q, (Builtin.zeroCells zv.cells q).toList.length = q * i.size := by
        intro q; rw [zeroCells_eq, List.length_flatten, List.map_replicate, List.sum_replicate_nat, hzs]
      cases e4 : Nat.ble (len + n) cap with
      | true =>
        rw [Bc_t]
        have hc := (ble_iff _ _).1 e4
        cases a with
        | none =>
          obtain ⟨rfl, rfl⟩ := hsl
          refine opv_read hw fun p => ?_
          obtain ⟨new', h2, _⟩ := hnew p (fun b hb => .inl hb)
          exact ⟨_, run_append_nil h0 h1 ht hx hdx hi hlen h2 hc, .sl0 _ _⟩
        | some y =>
          obtain ⟨b, o⟩ := y
          obtain ⟨m, c', e0, rfl, g1, g2⟩ := hsl
          simp only []
          cases e5 : wrN H b (o + len * i.size) new with
          | none => trivial
          | some H' =>
            simp only []
            refine ⟨(can_wr hw e5).1, fun p => ?_⟩
            obtain ⟨new', h2, h3, h4, h5⟩ := hnew p (fun b hb => .inl hb)
            obtain ⟨_, hwr⟩ := write_ok (Hx := H') (W := W) (P := P) (r := r) (w := bit b) hw e5 e0 h3 h4
            obtain ⟨o', hrun, hpost⟩ := hwr p (.inr ((bit_iff b b).2 rfl))
            have hcc : cap ≤ c' := by
              cases op with
              | false => rw [g1 rfl]; exact Nat.le_refl _
              | true => exact (g2 rfl).1
            have hst : (storeCells ((⟨m.rb, o + m.sh, none⟩ : Addr).add (len * i.size)) new').run P W = .ok () (World.setB W m.rb o') := by
              rw [add_eq, show o + m.sh + len * i.size = o + len * i.size + m.sh from by omega]; exact hrun
            exact ⟨β, _, _, run_append_in h0 h1 ht hx hdx hi hlen h2 (Nat.le_trans hc hcc) hst, sl_mk ⟨m, c', e0, rfl, g1, g2⟩, hpost⟩
      | false =>
        rw [Bc_f]
        have hc := (ble_f _ _).1 e4
        cases e5 : okBytes (len + n) i.bytes with
        | false => rw [Bc_f]; trivial
        | true =>
          rw [Bc_t]
          cases a with
          | none =>
            obtain ⟨rfl, rfl⟩ := hsl
            simp only []
            cases e6 : Nat.beq len 0 with
            | false => rw [Bc_f]; trivial
            | true =>
              rw [Bc_t]
              have := (beq_iff _ _).1 e6; subst this
              obtain ⟨t', hb, hg⟩ := blkL_eq new elem (Nat.succ i.size)
              rw [hb]
              refine allocO_ok fun p => ?_
              obtain ⟨new', h2, h3, h4, h5⟩ := hnew p (fun b hb => .inl hb)
              obtain ⟨q, row, hrow, hrun⟩ := run_append_new (ty := ty) (old := []) (a := none) h0 h1 ht hx hdx hi hlen h2 hc e5 hzv (fun w _ => rfl)
              have hrow' : row = ⟨new' ++ (Builtin.zeroCells zv.cells q).toList⟩ := Array.ext' (by simpa using hrow)
              refine ⟨_, .cells row elem, ⟨W.heap.size, 0, (0 + n + q) * i.size, i.size⟩, _, hrun, rfl, ⟨rfl, rfl, rfl⟩, rfl, fun β' hle => ?_, fun β' hle e => ?_⟩
              · rw [hrow']
                refine orel_app hg h4 (h3.mono hle) ?_
                rw [← h3.1, h5, zlen, Nat.zero_add, Nat.add_mul]
              · exact sl_mk ⟨⟨W.heap.size, 0, (0 + n + q) * i.size, i.size⟩, 0 + n + q, e, by simp, (fun h => by cases h), fun _ => ⟨by omega, by simp⟩⟩
          | some y =>
            obtain ⟨b, o⟩ := y
            obtain ⟨m, c', e0, rfl, g1, g2⟩ := hsl
            simp only []
            cases e6 : rdN H b o (len * i.size) with
            | none => trivial
            | some old =>
              simp only []
              obtain ⟨t', k, ty0, op0, lo, hi0, hb, ho, rfl⟩ := rdN_inv e6
              have ha : alive H b := (alive_iff H b).2 (by rw [hb]; simp)
              cases op with
              | false =>
                rw [Bc_f]
                have := g1 rfl; subst this
                obtain ⟨t2, hb2, hg⟩ := blkL_eq (rdL t' (len * i.size) o ++ new) elem (Nat.succ i.size)
                rw [hb2]
                refine allocO_ok fun p => ?_
                obtain ⟨new', h2, h3, h4, h5⟩ := hnew p (fun b hb => .inl (by rw [lor_bit]; simp [hb]))
                obtain ⟨m1, cs, fr, em, hm, k1, k2, k3, k3', k4, k5⟩ := cells_of p (.inl (by rw [lor_bit, (bit_iff b b).2 rfl]; simp)) hb
                rw [e0] at em; cases em
                have hl := lrel_row (sh := m.sh) ho (by omega) k4
                have hone := one_row ho fun j hj => (k4 j hj).1
                obtain ⟨q, row, hrow, hrun⟩ := run_append_new (ty := ty) (old := rowOf cs (o + m.sh) (len * i.size)) (a := some ⟨m.rb, o + m.sh, none⟩) h0 h1 ht hx hdx hi hlen h2 hc e5 hzv
                  (fun w hw' => run_row (by rw [hw']; exact hm) (by omega))
                have hrow' : row = ⟨(rowOf cs (o + m.sh) (len * i.size) ++ new') ++ (Builtin.zeroCells zv.cells q).toList⟩ := Array.ext' (by simpa using hrow)
                refine ⟨_, .cells row elem, ⟨W.heap.size, 0, (len + n + q) * i.size, i.size⟩, _, hrun, rfl, ⟨rfl, rfl, rfl⟩, rfl, fun β' hle => ?_, fun β' hle e => ?_⟩
                · rw [hrow']
                  refine orel_app hg (by rw [List.all_append, hone, h4]; rfl) ((LRel.append hl h3).mono hle) ?_
                  rw [List.length_append, ← hl.1, ← h3.1, rdL_len, h5, zlen, Nat.add_mul, Nat.add_mul]
                · exact sl_mk ⟨⟨W.heap.size, 0, (len + n + q) * i.size, i.size⟩, len + n + q, e, by simp, (fun h => by cases h), fun _ => ⟨by omega, by simp⟩⟩
              | true =>
                rw [Bc_t, hb]
                simp only []
                cases e7 : (Nat.beq op0 (Nat.succ i.size) && Nat.beq (o + cap * i.size) k && Nat.beq ty0 elem && (Nat.ble hi0 lo || Nat.ble o lo) && thawed (o + len * i.size) (n * i.size) lo hi0) with
                | false => rw [Bc_f]; trivial
                | true =>
                  rw [Bc_t]
                  simp only [Bool.and_eq_true, Bool.or_eq_true, beq_iff, ble_iff] at e7
                  obtain ⟨⟨⟨⟨rfl, ek⟩, rfl⟩, hlo⟩, hth⟩ := e7
                  obtain ⟨g3, g4⟩ := g2 rfl
                  obtain ⟨t2, hb2, hg⟩ := blkL_eq (rdL t' (len * i.size) o ++ new) ty0 (Nat.succ i.size)
                  obtain ⟨lo', hi', hfr, hlh⟩ : ∃ lo' hi', frB (Nat.blt hi0 lo) (lo - o) (hi0 - o) (.cells t2 (rdL t' (len * i.size) o ++ new).length ty0 (Nat.succ i.size) 0 0) =
                      .cells t2 (rdL t' (len * i.size) o ++ new).length ty0 (Nat.succ i.size) lo' hi' ∧ ((hi0 < lo ∧ hi' < lo') ∨ (lo ≤ hi0 ∧ lo' = lo - o ∧ hi' = hi0 - o)) := by
                    cases e8 : Nat.blt hi0 lo with
                    | true => exact ⟨1, 0, rfl, .inl ⟨(blt_iff _ _).1 e8, by omega⟩⟩
                    | false =>
                      have : ¬ hi0 < lo := fun h => by rw [(blt_iff _ _).2 h] at e8; cases e8
                      exact ⟨_, _, rfl, .inr ⟨by omega, rfl, rfl⟩⟩
                  rw [hb2, hfr, alloc1_eq, nx_put, room_put]
                  split
                  · rename_i hn
                    refine ⟨can_fork hw ha hn, fun p => ?_⟩
                    obtain ⟨new', h2, h3, h4, h5⟩ := hnew p (fun b hb => .inl hb)
                    obtain ⟨m1, cs, fr, em, hm, k1, k2, k3, k3', k4, k5⟩ := cells_of p (.inr ((bit_iff b b).2 rfl)) hb
                    rw [e0] at em; cases em
                    have hl := lrel_row (sh := m.sh) ho (by omega) k4
                    have hone := one_row ho fun j hj => (k4 j hj).1
                    have hesz := k3' _ rfl
                    have hf : β H.nx = none := p.fresh _ (Nat.le_refl _) (by rw [nx_push, nx_put]; omega)
                    have hall : (rdL t' (len * i.size) o ++ new).all oneC = true := by rw [List.all_append, hone, h4]; rfl
                    by_cases hcc : len + n ≤ c'
                    ·
                      have hmul := Nat.mul_le_mul_right i.size hcc
                      rw [Nat.add_mul] at hmul
                      rw [hesz] at g4
                      have hfit : o + m.sh + len * i.size + new'.length ≤ m.tot := by rw [← h3.1, h5]; omega
                      have hthaw := thawed_ok hth k5 (by rw [← h3.1, h5] at hfit; omega)
                      have hst := run_storeCells_g P m.rb ty0 fr (o + m.sh + len * i.size) new' 0 cs W hm (by omega) (all_one h3 h4) (fun j hj hj2 => hthaw j (by omega) (by rw [← h3.1, h5] at hj2; omega))
                      rw [Nat.add_zero] at hst
                      have hrun := run_append_in (ty := ty) (a := ⟨m.rb, o + m.sh, none⟩) h0 h1 ht hx hdx hi hlen h2 hcc (by rw [add_eq]; exact hst)
                      let m' : Bm := ⟨m.rb, m.sh + o, m.tot, m.esz⟩
                      have hle : Mp.le β (β.put H.nx m') := Mp.le_put m' hf
                      refine ⟨β.put H.nx m', _, _, hrun, sl_mk ⟨m', c', Mp.put_same _ _ _, ?_, (fun h => by cases h), fun _ => ⟨hcc, ?_⟩⟩, post_fork hw ha e0 hm hn hf rfl ?_ p.dom⟩
                      · show Value.slice (some ⟨m.rb, o + m.sh, none⟩) (len + n) c' = Value.slice (some ⟨m.rb, 0 + (m.sh + o), none⟩) (len + n) c'
                        rw [show 0 + (m.sh + o) = o + m.sh from by omega]
                      · show 0 + (m.sh + o) + c' * m.esz = m.tot
                        rw [hesz]; omega
                      · have hlen2 : (rdL t' (len * i.size) o ++ new).length = len * i.size + n * i.size := by rw [List.length_append, rdL_len, h5]
                        refine ⟨_, fr, rfl, by rw [putRow_size]; exact k1, ?_, (fun h => by cases h), (fun k h => by cases h; exact hesz), fun j hj => ?_, ?_⟩
                        · show m.sh + o + _ ≤ m.tot
                          rw [hlen2]; rw [← h3.1, h5] at hfit; omega
                        · have hv : (rdL t' (len * i.size) o ++ new)[j]? = some (rdL t' (len * i.size) o ++ new)[j] := by simp [hj]
                          rw [hg j _ hv]
                          refine ⟨List.all_eq_true.1 hall _ (List.getElem_mem hj), ?_⟩
                          show ∃ v', (putRow cs (o + m.sh + len * i.size) new')[m.sh + o + j]? = some v' ∧ _
                          rw [putRow_get _ _ _ _ (by omega)]
                          rw [hlen2] at hj
                          by_cases hj1 : j < len * i.size
                          · rw [if_neg (by omega)]
                            rw [List.getElem?_append_left (by rw [rdL_len]; exact hj1), rdL_get _ _ _ _ hj1] at hv
                            injection hv with hv
                            rw [← hv]
                            obtain ⟨_, v', ev, hr⟩ := k4 (o + j) (by omega)
                            exact ⟨v', by rw [show m.sh + o + j = m.sh + (o + j) from by omega]; exact ev, hr.mono hle⟩
                          · rw [if_pos (by rw [← h3.1, h5]; omega)]
                            rw [List.getElem?_append_right (by rw [rdL_len]; omega), rdL_len] at hv
                            obtain ⟨v', ev, hr⟩ := h3.get hv
                            exact ⟨v', by rw [show m.sh + o + j - (o + m.sh + len * i.size) = j - len * i.size from by omega]; exact ev, hr.mono hle⟩
                        · rcases hlh with ⟨hl1, hl2⟩ | ⟨hl1, rfl, rfl⟩
                          · rcases k5 with ⟨h, _⟩ | ⟨_, h⟩ | ⟨h, _⟩
                            · omega
                            · exact .inr (.inl ⟨hl2, h⟩)
                            · omega
                          · rcases k5 with ⟨h, h' | ⟨h1', h3', h2'⟩⟩ | ⟨h, _⟩ | ⟨h, h'⟩
                            · exact .inl ⟨by omega, .inl h'⟩
                            · refine .inl ⟨by omega, ?_⟩
                              rcases hlo with hlo | hlo
                              · exact .inl (by omega)
                              · exact .inr ⟨by show m.sh + o + (lo - o) ≤ fr.1; omega, h3', by show fr.2 ≤ m.sh + o + (hi0 - o); omega⟩
                            · omega
                            · refine .inr (.inr ⟨by omega, ?_⟩)
                              show m.tot < hi0 - o
                              omega
                    · have hc2 : c' < len + n := by omega
                      obtain ⟨q, row, hrow, hrun⟩ := run_append_new (ty := ty) (old := rowOf cs (o + m.sh) (len * i.size)) (a := some ⟨m.rb, o + m.sh, none⟩) h0 h1 ht hx hdx hi hlen h2 hc2 e5 hzv
                        (fun w hw' => run_row (by rw [hw']; exact hm) (by omega))
                      have hrow' : row = ⟨(rowOf cs (o + m.sh) (len * i.size) ++ new') ++ (Builtin.zeroCells zv.cells q).toList⟩ := Array.ext' (by simpa using hrow)
                      have c1 := can_put hw .no ha
                      have hn1 : (H.put b .no).room = true := by rw [room_put]; exact hn
                      have c2 : Can (H.put b .no) ((H.put b .no).push (.cells t2 (rdL t' (len * i.size) o ++ new).length ty0 (Nat.succ i.size) lo' hi')) 0 := can_push hn1
                      let m' : Bm := ⟨W.heap.size, 0, (len + n + q) * i.size, i.size⟩
                      have hle : Mp.le β (β.put H.nx m') := Mp.le_put m' hf
                      have q1 := post_forget (W := W) hw ha p.dom
                      have hor : ORel (β.put H.nx m') m' (.cells t2 (rdL t' (len * i.size) o ++ new).length ty0 (Nat.succ i.size) lo' hi') (.cells row ty0) := by
                        rw [hrow']
                        refine orel_app hg hall ((LRel.append hl h3).mono hle) ?_
                        rw [List.length_append, ← hl.1, ← h3.1, rdL_len, h5, zlen, Nat.add_mul, Nat.add_mul]
                      have q2 : Post β (β.put H.nx m') (H.put b .no) ((H.put b .no).push (.cells t2 (rdL t' (len * i.size) o ++ new).length ty0 (Nat.succ i.size) lo' hi')) 0 W (World.pushB W (.cells row ty0)) := by
                        have := post_push (β := β) (W := W) (.cells t2 (rdL t' (len * i.size) o ++ new).length ty0 (Nat.succ i.size) lo' hi') (.cells row ty0) m' hn1 rfl (by rw [nx_put]; exact hf) (by rw [nx_put]; exact hor) p.dom
                        rw [nx_put] at this
                        exact this
                      have p' : Pre β H ((H.put b .no).push (.cells t2 (rdL t' (len * i.size) o ++ new).length ty0 (Nat.succ i.size) lo' hi')) (Nat.lor r 0) (Nat.lor (bit b) 0) W := by
                        rw [show Nat.lor r 0 = r from Nat.or_zero _, show Nat.lor (bit b) 0 = bit b from Nat.or_zero _]; exact p
                      have hp := Post.comp c1 c2 p' q1 q2
                      rw [show Nat.lor (bit b) 0 = bit b from Nat.or_zero _] at hp
                      exact ⟨β.put H.nx m', _, _, hrun, sl_mk ⟨m', len + n + q, Mp.put_same _ _ _, by simp [m'], (fun h => by cases h), fun _ => ⟨by omega, by simp [m']⟩⟩, hp.congr rfl ⟨rfl, rfl, rfl⟩⟩
                  · trivial
  · trivial
end
end Go.Ev
end
noncomputable section
namespace Go.Ev
variable [SyH]
section
variable {P : Program} {tb : Tb} (ok : TbOk P tb) {β : Mp} {H : Hp} {W : World} (hw : H.wf)
theorem shape_of {W : World} {rb : Nat} {cs : Array Value} {ty : TypeId} {fr : Nat × Nat} (h : W.heap[rb]? = some (.cells cs ty fr)) : W.shape? rb = some (ty, cs.size) := by simp [World.shape?, h]
theorem liesAt_bytes_at {e : TypeId} (hc : P.cellsOf e = 1) (count off n : Nat) (hn : off + n ≤ count) : liesAt P P.depth e count off e n = true := by
  have hd : P.depth = (2 * (P.types.size + Made.depth) + 1) + 1 := rfl
  rw [hd]
  simp only [liesAt, Bool.or_eq_true]
  left
  rw [hd]
  simp [rowAt, hc, hn, sameLayout, Nat.mod_one]
theorem run_loadBytes_ints (w : World) : ∀ (l : List Int) (b off : Nat) (acc : ByteArray), (∀ (j : Nat) x, l[j]? = some x → w.cell? ⟨b, off + j, none⟩ = some (.int .u8 x)) →
    (loadBytes ⟨b, off, none⟩ acc l.length).run P w = .ok ⟨acc.data ++ (l.map fun n => UInt8.ofNat n.toNat).toArray⟩ w
  | [], b, off, acc, _ => by simp [loadBytes]
  | x :: l, b, off, acc, h => by
    have h0 : w.cell? ⟨b, off, none⟩ = some (.int .u8 x) := by have := h 0 x rfl; simpa using this
    have ih := run_loadBytes_ints w l b (off + 1) (acc.push (UInt8.ofNat x.toNat)) (fun j y hy => by
      have := h (j + 1) y (by simpa using hy)
      rw [show off + 1 + j = off + (j + 1) from by omega]; exact this)
    have hx : x.toNat.toUInt8 = UInt8.ofNat x.toNat := rfl
    have ha : (⟨b, off, none⟩ : Addr).add 1 = ⟨b, off + 1, none⟩ := add_eq b off 1
    simp only [List.length_cons, loadBytes, Sem.run_bind, run_load, h0, Result.andThen, hx, ha]
    rw [ih]
    congr 1
    apply ByteArray.ext
    simp [ByteArray.push]
theorem run_unsafeString_at (w : World) (pt : TypeId) (it : List TypeId) (ty e : TypeId) (hp : P.underlying pt = some (.pointer e)) (hc : P.cellsOf e = 1) (g off cells : Nat) (hsh : w.shape? g = some (e, cells)) (l : List Int) (h0 : l ≠ []) (hn : off + l.length ≤ cells) (h63 : l.length ≤ 9223372036854775807)
    (hcell : ∀ (j : Nat) x, l[j]? = some x → w.cell? ⟨g, off + j, none⟩ = some (.int .u8 x)) :
    (Builtin.unsafeString_ ⟨pt :: it⟩ ty #[.pointer (some ⟨g, off, none⟩), .int .i64 l.length]).run P w = .ok (.string ⟨(l.map fun n => UInt8.ofNat n.toNat).toArray⟩) (w.freeze ⟨g, off, none⟩ l.length) := by
  have hl : l.length ≠ 0 := by simpa using h0
  have hlb := run_loadBytes_ints (P := P) w l g off .empty hcell
  have hlies := liesAt_bytes_at (P := P) hc (cells / P.cellsOf e) off l.length (by rw [hc]; simpa using hn)
  have h63' : ¬ (9223372036854775807 : Int) < (l.length : Int) := by omega
  have hdef : Builtin.unsafeString_ ⟨pt :: it⟩ ty #[.pointer (some ⟨g, off, none⟩), .int .i64 l.length] =
      (do
        let n ← asInt (.int .i64 l.length)
        if n < 0 then runtimePanic (.error "unsafe.String: len out of range")
        if n > IntKind.i64.max then unsupported (.unsafePointer "String: a length above the largest int")
        if n = 0 then pure (.string .empty)
        else if ← variablesAt ⟨g, off, none⟩ (← elemOf pt) n.toNat then do
          let s ← loadBytes ⟨g, off, none⟩ .empty n.toNat
          freeze ⟨g, off, none⟩ n.toNat
          pure (.string s)
        else unsupported (.unsafePointer "String: not so many bytes at ptr")) := rfl
  rw [hdef]
  have hmax : IntKind.i64.max = 9223372036854775807 := rfl
  have hneg : ¬ (l.length : Int) < 0 := by omega
  simp [asInt, asIntOf, hmax, h63', hneg, hl, variablesAt, hsh, elemOf, run_underlying hp, hlies, hlb]
theorem freeze_eq {W : World} {rb off n : Nat} {cs : Array Value} {ty : TypeId} {fr : Nat × Nat} (h : W.heap[rb]? = some (.cells cs ty fr)) (hn : n ≠ 0) :
    W.freeze ⟨rb, off, none⟩ n = World.setB W rb (.cells cs ty (if fr.1 == fr.2 then (off, off + n) else (min fr.1 off, max fr.2 (off + n)))) := by
  obtain ⟨lo, hi⟩ := fr
  unfold World.freeze World.setB
  rw [if_neg hn]
  congr 1
  apply Array.ext_getElem?
  intro j
  rw [Array.getElem?_modify, Array.getElem?_setIfInBounds]
  have hrb : rb < W.heap.size := by
    rcases Nat.lt_or_ge rb W.heap.size with h' | h'
    · exact h'
    · simp [Array.getElem?_eq_none h'] at h
  by_cases hj : rb = j
  · subst hj; rw [h]; simp [hrb]
  · simp [hj]
include hw
theorem toU_ok {src dst t : TypeId} {k : Nat} {v v' : Value} (hs : P.underlying src = some (.pointer t)) (hd : P.underlying dst = some .unsafePointer) (ht : ∃ i, P.info? t = some i ∧ i.size = k + 1) (hv : VRel β v v') : OpV P β H W (convert src dst v') (exToU v H) := by
  unfold exToU
  cases e : asPtr v with
  | none => trivial
  | some x =>
    obtain ⟨b, o⟩ := x
    have := asPtr_inv e; subst this
    cases hv with | ptr _ _ m0 e0 =>
    simp only []
    split
    · rename_i t' n ty op lo hi hb
      cases hlt : Nat.blt o n with
      | false => trivial
      | true =>
        rw [Bc_t]
        refine opv_read hw fun p => ?_
        obtain ⟨m, cs, fr, em, hm, h1, h2, _⟩ := cells_of p (.inl ((bit_iff b b).2 rfl)) hb
        rw [e0] at em; cases em
        obtain ⟨i, hi, hk⟩ := ht
        have := (blt_iff _ _).1 hlt
        exact ⟨_, Lib.run_to_unsafe W ⟨m0.rb, o + m0.sh, none⟩ hs hd hi (by omega) (shape_of hm) (by show o + m0.sh < cs.size; omega), .ptr b o m0 e0⟩
    · trivial
omit hw in
theorem liesIn_inv {ty n o : Nat} : ∀ {l : List (Nat × Nat × Nat)}, liesIn ty n o l = true → (ty, n, o) ∈ l := by
  intro l
  induction l with
  | nil => intro h; cases h
  | cons x l ih =>
    obtain ⟨a, b, c⟩ := x
    intro h
    simp only [liesIn] at h
    cases hc : (Nat.beq a ty && Nat.beq b n && Nat.beq c o) with
    | true =>
      simp only [Bool.and_eq_true, beq_iff] at hc
      obtain ⟨⟨rfl, rfl⟩, rfl⟩ := hc
      simp
    | false => rw [hc, Bc_f] at h; simp [ih h]
include ok in
theorem frU_ok {src dst u : TypeId} {k : Nat} {v v' : Value} (hs : P.underlying src = some .unsafePointer) (hd : P.underlying dst = some (.pointer u)) (hu : ∃ i, P.info? u = some i ∧ i.size = k + 1) (hv : VRel β v v') : OpV P β H W (convert src dst v') (exFrU (tb.lies u) v H) := by
  unfold exFrU
  cases e : asPtr v with
  | none => trivial
  | some x =>
    obtain ⟨b, o⟩ := x
    have := asPtr_inv e; subst this
    cases hv with | ptr _ _ m0 e0 =>
    simp only []
    split
    · rename_i t' n ty lo hi hb
      cases hl : liesIn ty n o (tb.lies u) with
      | false => trivial
      | true =>
        rw [Bc_t]
        refine opv_read hw fun p => ?_
        obtain ⟨m, cs, fr, em, hm, h1, h2, h3, _⟩ := cells_of p (.inl ((bit_iff b b).2 rfl)) hb
        rw [e0] at em; cases em
        obtain ⟨i, hi, hk⟩ := hu
        obtain ⟨h4, h5⟩ := h3 rfl
        have hlies := ok.lies u ty n o (liesIn_inv hl)
        refine ⟨_, Lib.run_from_unsafe W ⟨m0.rb, o + m0.sh, none⟩ hs hd hi (shape_of hm) ?_, .ptr b o m0 e0⟩
        show liesAt P P.depth ty (cs.size / P.cellsOf ty) (o + m0.sh) u 1 = true
        rw [h4, h1, h5]; exact hlies
    · trivial
theorem usd_ok {at_ : Array TypeId} {ty : TypeId} {v v' : Value} (hv : VRel β v v') : OpV P β H W (Builtin.unsafeSliceData_ at_ ty #[v']) (exUsd v H) := by
  unfold exUsd
  split
  · rename_i l c op h
    obtain ⟨_, rfl⟩ := sl_of h hv
    exact opv_pure hw (v' := .pointer none) (Lib.run_unsafeSliceData_nil W at_ ty l c) .ptr0
  · rename_i b o l c op h
    obtain ⟨m, c', em, rfl, h1, h2⟩ := sl_of h hv
    cases hc : Nat.beq c 0 with
    | true => trivial
    | false =>
      rw [Bc_f]
      have hc0 : c ≠ 0 := fun e => by rw [(beq_iff _ _).2 e] at hc; cases hc
      refine opv_pure hw (v' := .pointer (some ⟨m.rb, o + m.sh, none⟩)) (Lib.run_unsafeSliceData_row W at_ ty ⟨m.rb, o + m.sh, none⟩ l c' ?_) (.ptr b o m em)
      cases op with
      | false => rw [h1 rfl]; exact hc0
      | true => have := (h2 rfl).1; omega
  · trivial
omit hw in
theorem frok_hull {m : Bm} {lo hi o n : Nat} {fr : Nat × Nat} (hle : lo ≤ hi) (h : FrOk m lo hi fr) : FrOk m (frHull lo hi o n).1 (frHull lo hi o n).2 (if fr.1 == fr.2 then (o + m.sh, o + m.sh + n) else (min fr.1 (o + m.sh), max fr.2 (o + m.sh + n))) := by
  by_cases h3 : lo = 0 ∧ m.tot < hi
  · have hb : Nat.ble hi lo = false := by rw [ble_f]; omega
    unfold frHull
    rw [hb, Bc_f]
    have h4 : Nat.min lo o = 0 := by rw [h3.1]; exact Nat.zero_min o
    have h5 : hi ≤ Nat.max hi (o + n) := Nat.le_max_left _ _
    exact .inr (.inr ⟨h4, by show m.tot < Nat.max hi (o + n); omega⟩)
  have h' : fr.1 = fr.2 ∨ (m.sh + lo ≤ fr.1 ∧ fr.1 ≤ fr.2 ∧ fr.2 ≤ m.sh + hi) := by
    rcases h with h | h | h
    · exact h.2
    · omega
    · exact absurd h h3
  unfold frHull
  left
  have hmin : Nat.min lo o ≤ o ∧ Nat.min lo o ≤ lo := ⟨Nat.min_le_right _ _, Nat.min_le_left _ _⟩
  have hmax : o + n ≤ Nat.max hi (o + n) ∧ hi ≤ Nat.max hi (o + n) := ⟨Nat.le_max_right _ _, Nat.le_max_left _ _⟩
  cases hb : Nat.ble hi lo with
  | true =>
    have := (ble_iff _ _).1 hb
    rw [Bc_t]
    have he : fr.1 = fr.2 := by omega
    simp only [he, beq_self_eq_true, if_true]
    omega
  | false =>
    rw [Bc_f]
    by_cases he : fr.1 = fr.2
    · simp only [he, beq_self_eq_true, if_true]; omega
    · have hne : (fr.1 == fr.2) = false := by simpa using he
      simp only [hne, Bool.false_eq_true, if_false]
      have := h'.resolve_left he
      omega
omit hw in
theorem run_unsafeString_none' (W : World) (pt : TypeId) (it : List TypeId) (ty : TypeId) (p : Option Addr) : (Builtin.unsafeString_ ⟨pt :: it⟩ ty #[.pointer p, .int .i64 0]).run P W = .ok (.string .empty) W := by
  have hmax : IntKind.i64.max = 9223372036854775807 := rfl
  cases p with
  | none =>
    have hdef : Builtin.unsafeString_ ⟨pt :: it⟩ ty #[.pointer none, .int .i64 0] =
        (do
          let n ← asInt (.int .i64 0)
          if n < 0 then runtimePanic (.error "unsafe.String: len out of range")
          if n > IntKind.i64.max then unsupported (.unsafePointer "String: a length above the largest int")
          if n = 0 then pure (.string .empty)
          else runtimePanic (.error "unsafe.String: ptr is nil and len is not zero")) := rfl
    rw [hdef]
    simp [asInt, asIntOf, hmax]
  | some a =>
    have hdef : Builtin.unsafeString_ ⟨pt :: it⟩ ty #[.pointer (some a), .int .i64 0] =
        (do
          let n ← asInt (.int .i64 0)
          if n < 0 then runtimePanic (.error "unsafe.String: len out of range")
          if n > IntKind.i64.max then unsupported (.unsafePointer "String: a length above the largest int")
          if n = 0 then pure (.string .empty)
          else if ← variablesAt a (← elemOf pt) n.toNat then do
            let s ← loadBytes a .empty n.toNat
            freeze a n.toNat
            pure (.string s)
          else unsupported (.unsafePointer "String: not so many bytes at ptr")) := rfl
    rw [hdef]
    simp [asInt, asIntOf, hmax]
theorem ustr_ok {at_ : Array TypeId} {pt e ty : TypeId} {p n p' n' : Value} (hq : SyH.Q β) (ha : at_[0]? = some pt) (hp : P.underlying pt = some (.pointer e)) (hc : P.cellsOf e = 1) (hvp : VRel β p p') (hvn : VRel β n n') : OpV P β H W (Builtin.unsafeString_ at_ ty #[p', n']) (exUstr e p n H) := by
  obtain ⟨it, rfl⟩ : ∃ it, at_ = ⟨pt :: it⟩ := by
    obtain ⟨l⟩ := at_
    cases l with
    | nil => simp at ha
    | cons x l => simp at ha; subst ha; exact ⟨l, rfl⟩
  unfold exUstr
  split
  · rename_i z
    cases hvn
    cases ez : natI z with
    | none => trivial
    | some m =>
      have := natI_inv ez; subst this
      cases m with
      | zero =>
        simp only []
        split
        · rename_i a
          have : ∃ a', p' = .pointer a' := by cases hvp <;> exact ⟨_, rfl⟩
          obtain ⟨a', rfl⟩ := this
          exact opv_pure hw (v' := .string .empty) (run_unsafeString_none' W pt it ty a') (.string _)
        · trivial
      | succ m =>
        simp only []
        cases ep : asPtr p with
        | none => trivial
        | some x =>
          obtain ⟨b, o⟩ := x
          have := asPtr_inv ep; subst this
          cases hvp with | ptr _ _ m0 e0 =>
          simp only []
          split
          · rename_i t k ty' op lo hi hb
            cases hcd : (Nat.beq ty' e && Nat.ble (o + (m + 1)) k && Nat.ble lo hi && Nat.ble k 1073741824) with
            | false => trivial
            | true =>
              rw [Bc_t]
              simp only [Bool.and_eq_true, beq_iff, ble_iff] at hcd
              obtain ⟨⟨⟨rfl, hok⟩, hlohi⟩, hkk⟩ := hcd
              cases es : strV (rdL t (m + 1) o) with
              | none => trivial
              | some s =>
                simp only []
                have hal : alive H b := (alive_iff H b).2 (by rw [hb]; simp)
                refine ⟨can_put hw _ hal, fun pp => ?_⟩
                obtain ⟨mm, cs, fr, em, hm, h1, h2, h3, h3', h4, h5⟩ := cells_of pp (.inl ((bit_iff b b).2 rfl)) hb
                rw [e0] at em; cases em
                have hl := lrel_row (sh := m0.sh) hok (by omega) h4
                obtain ⟨s2, ns, _, h6, rfl, hv2⟩ := strV_ok hq hl es
                have hlen : ns.length = m + 1 := by
                  have h8 := congrArg List.length h6
                  have h9 := hl.1
                  rw [rdL_len] at h9
                  simp only [List.length_map] at h8
                  omega
                have hcell : ∀ (j : Nat) x, ns[j]? = some x → W.cell? ⟨m0.rb, o + m0.sh + j, none⟩ = some (.int .u8 x) := by
                  intro j x hx
                  rw [cell_of hm]
                  have hj : j < m + 1 := by
                    rcases Nat.lt_or_ge j ns.length with h | h
                    · omega
                    · rw [List.getElem?_eq_none h] at hx; cases hx
                  have := rowOf_get (cs := cs) (p := o + m0.sh) (k := m + 1) hj
                  rw [← this]
                  have h7 : (rowOf cs (o + m0.sh) (m + 1))[j]? = (ns.map (Value.int .u8))[j]? := by rw [h6]
                  rw [h7]; simp [hx]
                have hrun := run_unsafeString_at (P := P) W pt it ty ty' hp hc m0.rb (o + m0.sh) cs.size (shape_of hm) ns (by intro h; rw [h] at hlen; simp at hlen) (by omega) (by omega) hcell
                rw [hlen, freeze_eq hm (by omega)] at hrun
                refine ⟨β, _, _, hrun, hv2, ?_⟩
                exact post_put _ hw hal e0 hm ⟨cs, _, rfl, h1, h2, h3, h3', h4, frok_hull (o := o) (n := m + 1) hlohi h5⟩ pp.dom
          · trivial
  · trivial
end
end Go.Ev
end
