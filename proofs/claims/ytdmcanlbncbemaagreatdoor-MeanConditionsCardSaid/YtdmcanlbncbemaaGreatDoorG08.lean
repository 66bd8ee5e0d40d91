/-
  A part of the reckoner for the statements of a Go program: what it answers, the model answers. Holds for every program whose tables are as given.
-/
import Derived.Test.YtdmcanlbncbemaaGreatDoorG06
import Derived.Test.YtdmcanlbncbemaaGreatDoorG07
set_option linter.unusedSimpArgs false
set_option linter.unusedVariables false
set_option linter.unusedSectionVars false
noncomputable section
namespace Go.Ev
theorem lt_bit {w n b : Nat} (h : w < 2 ^ n) (hb : w.testBit b = true) : b < n := by
  rcases Nat.lt_or_ge b n with h1 | h1
  · exact h1
  · have := Nat.testBit_lt_two_pow (Nat.lt_of_lt_of_le h (Nat.pow_le_pow_right (by decide) h1))
    rw [hb] at this; cases this
variable [SyQ]
noncomputable def Mp.cut (β : Mp) (n : Nat) : Mp := fun b => open Classical in if b < n ∨ SY ≤ b then β b else none
theorem Mp.cut_lt {β : Mp} {n b : Nat} (h : b < n) : β.cut n b = β b := by unfold Mp.cut; rw [if_pos (.inl h)]
theorem Mp.cut_sy {β : Mp} {n b : Nat} (h : SY ≤ b) : β.cut n b = β b := by unfold Mp.cut; rw [if_pos (.inr h)]
theorem Mp.cut_no {β : Mp} {n b : Nat} (h : n ≤ b) (h' : b < SY) : β.cut n b = none := by unfold Mp.cut; rw [if_neg (by omega)]
theorem Mp.cut_le (β : Mp) (n : Nat) : Mp.le (β.cut n) β := fun b m h => by
  unfold Mp.cut at h
  split at h
  · exact h
  · cases h
theorem GRel.cut {ng n : Nat} {β : Mp} (hn : ng ≤ n) (h : GRel ng β) : GRel ng (β.cut n) :=
  ⟨fun g hg => by rw [Mp.cut_lt (Nat.lt_of_lt_of_le hg hn)]; exact h.1 g hg, SyQ.loc (fun k hk => Mp.cut_sy hk) h.2⟩
def TabOk (tab : Nat → Option Value) : Prop := ∀ (β : Mp) (k : Nat) (v : Value), SyH.Q β → tab k = some v → ∃ m, β (SY + k) = some m ∧ symR m v ∧ ∀ v', symR m v' → v' = v
theorem TabOk.none : TabOk fun _ => none := fun β k v h h' => by cases h'
theorem all2_ok {f : Value → Value → Bool} {β β' : Mp} (h : ∀ c v v', f c v = true → VRel β v v' → VRel β' c v') : ∀ {cs vs vs' : List Value}, all2 f cs vs = true → LRel β vs vs' → LRel β' cs vs'
  | [], [], vs', _, hl => by rw [hl.nil_inv]; exact LRel.nil β'
  | [], _ :: _, _, ha, _ => by cases ha
  | _ :: _, [], _, ha, _ => by cases ha
  | c :: cs, v :: vs, vs', ha, hl => by
    simp only [all2, Bool.and_eq_true] at ha
    obtain ⟨v', l', rfl, hv, hl'⟩ := hl.cons_inv
    exact LRel.cons (h c v v' ha.1 hv) (all2_ok h ha.2 hl')
theorem one_sym {β : Mp} {v v' : Value} (h : VRel β v v') (h1 : oneC v = true) (h2 : notB v = true) : (∀ b, v' ≠ .bool b) ∧ oneC v' = true ∧ v'.cells = #[v'] := by
  cases h <;> first
    | (cases h2; done)
    | (rename_i hs; exact symR_one hs)
    | exact ⟨(fun b h => by cases h), rfl, rfl⟩
    | (cases h1; done)
theorem not_bool {β : Mp} {v v' : Value} (h : VRel β v v') (h2 : notB v = true) : ∀ b, v' ≠ .bool b := by
  intro b hb
  subst hb
  cases h with
  | bool => cases h2
  | dead _ h => exact h b rfl
  | sym k m _ e hs => exact (symR_one hs).1 b rfl
structure MapOk (pm : Nat → Nat → Bool) (β β' : Mp) : Prop where
  blk : ∀ b b' m, pm b b' = true → β b' = some m → β' b = some m
  sy : ∀ k m, β (SY + k) = some m → β' (SY + k) = some m
theorem mapOk_cut (β : Mp) (n0 : Nat) : MapOk (pm0 n0) β (β.cut n0) := ⟨fun b b' m h e => by
  unfold pm0 at h
  rw [Bool.and_eq_true, beq_iff, blt_iff] at h
  obtain ⟨rfl, h⟩ := h
  rw [Mp.cut_lt h]; exact e, fun k m e => by rw [Mp.cut_sy (by omega)]; exact e⟩
theorem covV_ok {tab : Nat → Option Value} (ht : TabOk tab) {pm : Nat → Nat → Bool} {β β' : Mp} (hm : MapOk pm β β') (hq : SyH.Q β) : ∀ (d : Nat) (c v v' : Value), covV tab pm d c v = true → VRel β v v' → VRel β' c v'
  | 0, _, _, _, h, _ => by cases h
  | d + 1, c, v, v', h, hv => by
    have ih := covV_ok ht hm hq d
    unfold covV at h
    split at h
    · rename_i a
      split at h
      · rename_i b
        cases a <;> cases b <;> first | (cases hv; exact .bool _) | (simp at h)
      · cases h
    · rename_i k x
      split at h
      · rename_i j y
        simp only [Bool.and_eq_true, eqI_eq, beq_iff_eq] at h
        have := eqK_eq h.1; have := h.2
        subst_vars; cases hv; exact .int _ _
      · rename_i j
        split at h
        · rename_i i y e
          simp only [Bool.and_eq_true, eqI_eq, beq_iff_eq] at h
          have := eqK_eq h.1; have := h.2
          subst_vars
          cases hv with | sym _ m _ em hs =>
          obtain ⟨m', em', _, hu⟩ := ht β j _ hq e
          rw [em] at em'; cases em'
          rw [hu _ hs]; exact .int _ _
        · cases h
      · cases h
    · rename_i s
      split at h
      · rename_i s'
        rw [eqBs_eq, beq_iff_eq] at h
        cases hv
        have : s = s' := by cases s; cases s'; congr 1; exact Array.toList_inj.1 h
        subst this; exact .string _
      · cases h
    · split at h
      · cases hv; exact .ptr0
      · rename_i b o b' o'
        simp only [Bool.and_eq_true, beq_iff] at h
        obtain ⟨h1, h2⟩ := h
        subst h2
        cases hv with | ptr _ _ m e => exact .ptr _ _ m (hm.blk _ _ _ h1 e)
      · cases h
    · rename_i l k
      split at h
      · rename_i l' k'
        simp only [Bool.and_eq_true, beq_iff] at h
        obtain ⟨h1, h2⟩ := h
        subst h1 h2
        cases hv; exact .sl0 _ _
      · rename_i b o b' o' l' k'
        simp only [Bool.and_eq_true, Bool.or_eq_true, beq_iff, blt_iff, ble_iff] at h
        obtain ⟨⟨⟨h1, h2⟩, h4⟩, h5⟩ := h
        subst h2 h4
        cases hv with | sl _ _ _ _ c' m e hc =>
        refine .sl _ _ _ _ c' m (hm.blk _ _ _ h1 e) ?_
        rcases h5 with h5 | ⟨⟨h5, h6⟩, h7⟩
        · subst h5; exact hc
        · refine ⟨fun h => by omega, fun _ => ?_⟩
          have := hc.2 h6
          exact ⟨Nat.le_trans (Nat.div_le_div_right h7) this.1, this.2⟩
      · cases h
    · split at h
      · cases hv; exact .map0
      · rename_i b b'
        cases hv with | map _ m e => exact .map _ m (hm.blk _ _ _ h e)
      · cases h
    · exact .dead _ (not_bool hv h)
    · rename_i k
      have un : k = 0 → oneC v = true → notB v = true → VRel β' (.chan (some k)) v' := fun e h1 h2 => by
        subst e
        obtain ⟨m, em, h4⟩ := SyQ.unk hq
        exact .sym 0 m v' (hm.sy 0 m em) (.inr (.inr (.inr (.inr (.inl ⟨h4, one_sym hv h1 h2⟩)))))
      split at h
      · rename_i j
        rw [Bool.or_eq_true, beq_iff, beq_iff] at h
        rcases h with h | h
        · subst h
          cases hv with | sym _ m _ e hs => exact .sym k m v' (hm.sy _ _ e) hs
        · exact un h rfl rfl
      · rename_i i x
        rw [Bool.or_eq_true, beq_iff] at h
        rcases h with h | h
        · exact un h rfl rfl
        · split at h
          · rename_i j y e
            simp only [Bool.and_eq_true, eqI_eq, beq_iff_eq] at h
            have := eqK_eq h.1; have := h.2
            subst_vars
            cases hv
            obtain ⟨m, em, hs, _⟩ := ht β k _ hq e
            exact .sym k m _ (hm.sy _ _ em) hs
          · cases h
      · simp only [Bool.and_eq_true, beq_iff] at h
        exact un h.1.1 h.1.2 h.2
    · rename_i f as cs
      split at h
      · rename_i f' as' cs'
        simp only [Bool.and_eq_true, beq_iff] at h
        obtain ⟨⟨h1, h2⟩, h3⟩ := h
        subst h1
        cases hv with | func _ xs xs' ys ys' e1 e2 e3 e4 =>
        have l1 := all2_ok ih h2 (show LRel β xs xs' from ⟨e1, e2⟩)
        have l2 := all2_ok ih h3 (show LRel β ys ys' from ⟨e3, e4⟩)
        exact .func _ as.toList xs' cs.toList ys' l1.1 l1.2 l2.1 l2.2
      · cases h
    · split at h
      · cases hv; exact .nilFunc
      · cases h
    · rename_i t x
      split at h
      · rename_i t' y
        simp only [Bool.and_eq_true, beq_iff] at h
        obtain ⟨h1, h2⟩ := h
        subst h1
        cases hv with | iface _ _ y' hy => exact .iface _ _ _ (ih _ _ _ h2 hy)
      · cases h
    · split at h
      · cases hv; exact .nilIface
      · cases h
    · rename_i a
      split at h
      · rename_i b
        simp only [Bool.and_eq_true] at h
        cases hv with | agg xs xs' e0 e1 e2 =>
        have l1 := all2_ok ih h.2 (show LRel β xs xs' from ⟨e1, e2⟩)
        exact .agg a.toList xs' h.1 l1.1 l1.2
      · cases h
    · rename_i a
      split at h
      · rename_i b
        cases hv with | tuple xs xs' e1 e2 =>
        have l1 := all2_ok ih h (show LRel β xs xs' from ⟨e1, e2⟩)
        exact .tuple a.toList xs' l1.1 l1.2
      · cases h
    · cases h
theorem covO_get {f : Value → Value → Bool} : ∀ (d : Nat) (x y : Oc Value d), covO f d x y = true → ∀ i, f (getO Value d x i) (getO Value d y i) = true
  | 0, x, y, h, i => h
  | d + 1, x, y, h, i => by
    rw [getO_succ, getO_succ]
    obtain ⟨a, b, c, e, g, h1, i1, j⟩ := (x : N8 (Oc Value d))
    obtain ⟨a', b', c', e', g', h', i', j'⟩ := (y : N8 (Oc Value d))
    simp only [covO, Bool.and_eq_true] at h
    obtain ⟨p0, p1, p2, p3, p4, p5, p6, p7⟩ := h
    cases dg i with
    | d0 => exact covO_get d _ _ p0 _
    | d1 => exact covO_get d _ _ p1 _
    | d2 => exact covO_get d _ _ p2 _
    | d3 => exact covO_get d _ _ p3 _
    | d4 => exact covO_get d _ _ p4 _
    | d5 => exact covO_get d _ _ p5 _
    | d6 => exact covO_get d _ _ p6 _
    | d7 => exact covO_get d _ _ p7 _
theorem covT_get {f : Value → Value → Bool} {s t : T Value} (h : covT f s t = true) (i : Nat) : f (s.get i) (t.get i) = true := by
  unfold covT at h
  split at h
  · exact h
  · exact covO_get 1 _ _ h i
  · exact covO_get 2 _ _ h i
  · exact covO_get 3 _ _ h i
  · exact covO_get 4 _ _ h i
  · exact covO_get 5 _ _ h i
  · exact covO_get 6 _ _ h i
  · cases h
theorem covI_get {f : Value → Value → Bool} {s t : T Value} : ∀ {n : Nat}, covI f s t n = true → ∀ i, i < n → f (s.get i) (t.get i) = true
  | 0, _, i, hi => by omega
  | n + 1, h, i, hi => by
    simp only [covI, Bool.and_eq_true] at h
    by_cases e : i = n
    · subst e; exact h.1
    · exact covI_get h.2 i (by omega)
theorem covB_ok {tab : Nat → Option Value} (ht : TabOk tab) {pm : Nat → Nat → Bool} {β β' : Mp} (hm : MapOk pm β β') (hq : SyH.Q β) {d : Nat} {W : World} {x y : Blk} {m : Bm} (h : covB (covV tab pm d) x y = true) (hb : BOk β W y m) : BOk β' W x m := by
  obtain ⟨o, ho, hr⟩ := hb
  refine ⟨o, ho, ?_⟩
  unfold covB at h
  split at h
  · trivial
  · rename_i t n ty op lo hi
    split at h
    · rename_i t2 n2 ty2 op2 lo2 hi2
      simp only [Bool.and_eq_true, Bool.or_eq_true, beq_iff, blt_iff, ble_iff] at h
      obtain ⟨h2, h3, h4, h5, h6⟩ := h
      subst h2 h3 h4 h5
      obtain ⟨cs, fr, g1, g2, g3, g4, g5, g6, g7⟩ := hr
      have hn : n ≤ n2 := by rcases h6 with h | h <;> omega
      refine ⟨cs, fr, g1, g2, by omega, fun h0 => ⟨(g4 h0).1, ?_⟩, g5, fun i hi => ?_, g7⟩
      · rcases h6 with h | h
        · have := (g4 h0).2; omega
        · omega
      obtain ⟨c1, v', c2, c3⟩ := g6 i (by omega)
      have : covLf (covV tab pm d) (t.get i) (t2.get i) = true := by
        rcases h6 with h | h
        · rcases h.2 with h' | h'
          · omega
          · exact covT_get h' i
        · exact covI_get h.2.2 i hi
      simp only [covLf, Bool.and_eq_true, Bool.or_eq_true, Bool.not_eq_true'] at this
      refine ⟨?_, v', c2, covV_ok ht hm hq d _ _ _ this.1 c3⟩
      rcases this.2 with h | h
      · exact h
      · rw [c1] at h; cases h
    · cases h
  · cases h
theorem covB_alive {f : Value → Value → Bool} {x y : Blk} (h : covB f x y = true) (hx : x ≠ .no) : y ≠ .no := by
  unfold covB at h
  split at h
  · exact absurd rfl hx
  · split at h
    · intro e; cases e
    · cases h
  · cases h
theorem setsT_get : ∀ (l : List (Nat × Blk)) (t : T Blk) (b : Nat), (∀ x ∈ l, x.1 < 32768) → b < 32768 → (setsT l t).get b = (match lkB l b with | some x => x | none => t.get b)
  | [], _, _, _, _ => rfl
  | (i, B) :: l, t, b, hl, hb => by
    simp only [setsT, lkB]
    rw [setsT_get l _ b (fun x hx => hl x (by simp [hx])) hb]
    have hi : i < 32768 := hl (i, B) (by simp)
    rw [T.get_set 5 t i b B (by omega) (by omega)]
    cases lkB l b with
    | some x => rfl
    | none =>
      simp only []
      by_cases e : b = i
      · rw [if_pos e, if_pos e]
      · rw [if_neg e, if_neg e]
theorem lkB_mem : ∀ {l : List (Nat × Blk)} {b : Nat} {B : Blk}, lkB l b = some B → (b, B) ∈ l
  | [], b, B, h => by simp [lkB] at h
  | (i, C) :: l, b, B, h => by
    simp only [lkB] at h
    split at h
    · rename_i x e
      cases h
      exact List.mem_cons_of_mem _ (lkB_mem e)
    · split at h
      · rename_i e; cases h; subst e; exact List.mem_cons_self
      · cases h
theorem lkB_some : ∀ {l : List (Nat × Blk)} {b : Nat}, (l.any fun x => Nat.beq x.1 b) = true → ∃ B, lkB l b = some B
  | [], b, h => by simp at h
  | (i, C) :: l, b, h => by
    simp only [lkB]
    cases e : lkB l b with
    | some x => exact ⟨x, rfl⟩
    | none =>
      simp only [List.any_cons, Bool.or_eq_true, beq_iff] at h
      rcases h with h | h
      · exact ⟨C, by rw [if_pos h.symm]⟩
      · obtain ⟨B, hB⟩ := lkB_some h
        rw [e] at hB; cases hB
theorem CallOk.mono {P : Program} {f : FuncId} {args : Array Value} {W : World} {R R' : Ending → World → Prop} (h : CallOk P f args W R) (hr : ∀ e W', R e W' → R' e W') : CallOk P f args W R' := by
  rcases h with ⟨h1, h2⟩ | ⟨v, W', h1, h2⟩
  · exact .inl ⟨h1, h2.mono hr⟩
  · exact .inr ⟨v, W', h1, hr _ _ h2⟩
def EndE (v : Value) (e : Ending) (v' : Value) : Prop := match unPan v with
  | none => e = .returned v'
  | some _ => ∃ x' old, v' = panV x' ∧ e = .panicked ({ v := x', recovered := false } :: old) ∧ NoGx old
def EP (β : Mp) (H H' : Hp) (w : Nat) (W : World) (v : Value) : Ending → World → Prop := fun e W' => ∃ β' v', EndE v e v' ∧ VRel β' v v' ∧ Post β β' H H' w W W'
theorem unPan_some {v x : Value} (h : unPan v = some x) : v = panV x := by
  unfold unPan at h
  split at h
  · cases h; rfl
  · cases h
theorem panV_rel {β : Mp} {x x' : Value} (h : VRel β x x') : VRel β (panV x) (panV x') := by
  have l0 : LRel β [x] [x'] := LRel.cons h (LRel.nil β)
  have h1 : VRel β (.tuple ⟨[x]⟩) (.tuple ⟨[x']⟩) := .tuple [x] [x'] l0.1 l0.2
  have l1 : LRel β [Value.tuple ⟨[x]⟩] [Value.tuple ⟨[x']⟩] := LRel.cons h1 (LRel.nil β)
  exact .tuple _ _ l1.1 l1.2
theorem panV_inv {β : Mp} {x x' : Value} (h : VRel β (panV x) (panV x')) : VRel β x x' := by
  have h : VRel β (.tuple ⟨[.tuple ⟨[x]⟩]⟩) (.tuple ⟨[.tuple ⟨[x']⟩]⟩) := h
  cases h with | tuple xs xs' e1 e2 =>
  obtain ⟨a, l, e, ha, hl⟩ := (show LRel β [Value.tuple ⟨[x]⟩] [Value.tuple ⟨[x']⟩] from ⟨e1, e2⟩).cons_inv
  cases e
  cases ha with | tuple xs xs' e1 e2 =>
  obtain ⟨a, l, e, ha, hl⟩ := (show LRel β [x] [x'] from ⟨e1, e2⟩).cons_inv
  cases e
  exact ha
theorem task_EP {P : Program} {ng : Nat} {f : FuncId} {args : List Value} {H H' : Hp} {v : Value} {r w : Nat} : TaskOk P ng (.call f args) H (.k (spKR v H' r w)) ↔ Can H H' w ∧ ∀ β W, GRel ng β → Pre β H H' r w W → ∀ args' : Array Value, LRel β args args'.toList → CallOk P f args' W (EP β H H' w W v) := by
  unfold spKR
  cases hu : unPan v with
  | none =>
    simp only []
    have e : ∀ β W, EP β H H' w W v = RetP β H H' w W v := fun β W => by
      funext e W'
      simp only [EP, RetP, EndE, hu]
    constructor
    · rintro ⟨h1, h2⟩; exact ⟨h1, fun β W hg p args' hl => by rw [e]; exact h2 β W hg p args' hl⟩
    · rintro ⟨h1, h2⟩; exact ⟨h1, fun β W hg p args' hl => by have := h2 β W hg p args' hl; rw [e] at this; exact this⟩
  | some x =>
    simp only []
    have hv := unPan_some hu
    have e : ∀ β W en W', EP β H H' w W v en W' ↔ PanP β H H' w W x en W' := fun β W en W' => by
      simp only [EP, PanP, EndE, hu]
      constructor
      · rintro ⟨β', v', ⟨x', old, rfl, rfl, hn⟩, hr, q⟩
        rw [hv] at hr
        exact ⟨β', x', old, rfl, hn, panV_inv hr, q⟩
      · rintro ⟨β', x', old, rfl, hn, hr, q⟩
        exact ⟨β', panV x', ⟨x', old, rfl, rfl, hn⟩, by rw [hv]; exact panV_rel hr, q⟩
    constructor
    · rintro ⟨h1, h2⟩; exact ⟨h1, fun β W hg p args' hl => (h2 β W hg p args' hl).mono fun en W' h => (e β W en W').2 h⟩
    · rintro ⟨h1, h2⟩; exact ⟨h1, fun β W hg p args' hl => (h2 β W hg p args' hl).mono fun en W' h => (e β W en W').1 h⟩
def ClOk (P : Program) (ng : Nat) (c : Clm) : Prop := TaskOk P ng (.call c.f c.args) c.h0 (.k (spKR c.v c.h1 c.r c.w))
end Go.Ev
end
noncomputable section
namespace Go.Ev
variable [SyQ]
theorem Bc_some {α : Type} {b : Bool} {x y : α} (h : Bc b (some x) none = some y) : b = true ∧ x = y := by
  cases b with
  | true => rw [Bc_t] at h; cases h; exact ⟨rfl, rfl⟩
  | false => rw [Bc_f] at h; cases h
theorem spC_inv {tab : Nat → Option Value} {c : Clm} {f : Nat} {args : List Value} {H : Hp} {q : Value × Hp × Nat × Nat} (h : spC tab c f args H = some q) :
    ∃ t nx, H = .mk t nx ∧ f = c.f ∧ all2 (covV tab (pm0 c.n0) 12) c.args args = true ∧ (nx = c.n0 ∨ (c.n1 = c.n0 ∧ c.n0 ≤ nx)) ∧ (∀ x ∈ c.pre, covB (covV tab (pm0 c.n0) 12) x.2 (t.get x.1) = true) ∧
      q = (c.v, .mk (setsT c.post t) (Bc (Nat.beq c.n1 c.n0) nx c.n1), c.r, c.w) := by
  unfold spC at h
  split at h
  · rename_i t nx
    obtain ⟨hb, hq⟩ := Bc_some h
    simp only [Bool.and_eq_true, Bool.or_eq_true, beq_iff, ble_iff, List.all_eq_true] at hb
    exact ⟨t, nx, rfl, hb.1, hb.2.1, hb.2.2.1, hb.2.2.2, hq.symm⟩
  · cases h
structure Fits (ng : Nat) (c : Clm) : Prop where
  ng : ng ≤ c.n0
  le : c.n0 ≤ c.n1
  n1 : c.n1 ≤ 32768
  r : c.r < 2 ^ c.n0
  w : c.w < 2 ^ c.n0
  pre : ∀ x ∈ c.pre, x.1 < c.n0
  post : ∀ x ∈ c.post, x.1 < c.n1 ∧ (c.n0 ≤ x.1 ∨ c.w.testBit x.1 = true)
  wp : ∀ x ∈ c.pre, c.w.testBit x.1 = true → ∃ B, lkB c.post x.1 = some B
  new : ∀ b, c.n0 ≤ b → b < c.n1 → ∃ B, lkB c.post b = some B
theorem Clm.fits_ok {ng : Nat} {c : Clm} (h : c.fits ng = true) : Fits ng c := by
  unfold Clm.fits at h
  simp only [Bool.and_eq_true, Bool.or_eq_true, Bool.not_eq_true', beq_iff, ble_iff, blt_iff, List.all_eq_true, List.mem_range] at h
  obtain ⟨h1, h2, h3, h4, h5, h6, h7, h8, h9⟩ := h
  refine ⟨h1, h2, h3, h4, h5, h6, h7, fun x hx hw => ?_, fun b hb hb' => ?_⟩
  · rcases h8 x hx with h | h
    · rw [hw] at h; cases h
    · exact lkB_some h
  · have := h9 (b - c.n0) (by omega)
    rw [show c.n0 + (b - c.n0) = b from by omega] at this
    exact lkB_some this
theorem sy_big : 32768 < SY := by unfold SY; decide
section
variable {P : Program} {ng : Nat} {tab : Nat → Option Value} {c : Clm}
theorem h0_blk (F : Fits ng c) {b : Nat} (ha : alive c.h0 b) : ∃ B, (b, B) ∈ c.pre ∧ c.h0.blk b = B ∧ B ≠ .no := by
  obtain ⟨hb, hn⟩ := ha
  have hb : b < c.n0 := hb
  have hn1 := F.n1
  have hle := F.le
  have e : c.h0.blk b = (setsT c.pre (.e .no)).get b := by unfold Clm.h0; rw [blk_mk, if_pos hb]
  rw [e, setsT_get _ _ _ (fun x hx => Nat.lt_of_lt_of_le (F.pre x hx) (by omega)) (by omega)] at hn
  rw [e, setsT_get _ _ _ (fun x hx => Nat.lt_of_lt_of_le (F.pre x hx) (by omega)) (by omega)]
  cases hl : lkB c.pre b with
  | some B => rw [hl] at hn; exact ⟨B, lkB_mem hl, rfl, hn⟩
  | none => rw [hl] at hn; exact absurd rfl hn
theorem h1_blk (F : Fits ng c) {b : Nat} {B : Blk} (hb : b < c.n1) (hl : lkB c.post b = some B) : c.h1.blk b = B := by
  have hn1 := F.n1
  unfold Clm.h1
  rw [blk_mk, if_pos hb, setsT_get _ _ _ (fun x hx => Nat.lt_of_lt_of_le (F.post x hx).1 hn1) (by omega), hl]
theorem spC_ok (ht : TabOk tab) (F : Fits ng c) (hc : ClOk P ng c) {f : Nat} {args : List Value} {H H' : Hp} {v : Value} {r w : Nat} (hwf : H.wf) (h : spC tab c f args H = some (v, H', r, w)) : TaskOk P ng (.call f args) H (.k (spKR v H' r w)) := by
  obtain ⟨t, nx, rfl, rfl, hargs, hnx, hpre, hq⟩ := spC_inv h
  cases hq
  have hwf : nx ≤ 32768 := hwf
  have hn1 := F.n1
  have hle := F.le
  obtain ⟨can, hc⟩ := task_EP.1 hc
  have hsy := sy_big
  obtain ⟨nx', hnx'⟩ : ∃ nx', Bc (Nat.beq c.n1 c.n0) nx c.n1 = nx' := ⟨_, rfl⟩
  rw [hnx']
  have hnn : (nx = c.n0 ∧ nx' = c.n1) ∨ (c.n1 = c.n0 ∧ c.n0 ≤ nx ∧ nx' = nx) := by
    cases e : Nat.beq c.n1 c.n0 with
    | true =>
      rw [e, Bc_t] at hnx'
      have := (beq_iff _ _).1 e
      rcases hnx with h | h
      · exact .inl ⟨h, by omega⟩
      · exact .inr ⟨this, h.2, hnx'.symm⟩
    | false =>
      rw [e, Bc_f] at hnx'
      rcases hnx with h | h
      · exact .inl ⟨h, hnx'.symm⟩
      · have := (beq_iff c.n1 c.n0).2 h.1; rw [e] at this; cases this
  have hn0 : c.n0 ≤ nx := by rcases hnn with ⟨h, _⟩ | ⟨_, h, _⟩ <;> omega
  have hxx : nx ≤ nx' := by rcases hnn with ⟨h, h'⟩ | ⟨_, _, h⟩ <;> omega
  have hx' : nx' ≤ 32768 := by rcases hnn with ⟨h, h'⟩ | ⟨_, _, h⟩ <;> omega
  have hp : ∀ x ∈ c.post, x.1 < 32768 := fun x hx => Nat.lt_of_lt_of_le (F.post x hx).1 hn1
  have hlt1 : ∀ {b : Nat} {B : Blk}, lkB c.post b = some B → b < c.n1 := fun hl => (F.post _ (lkB_mem hl)).1
  have hlt' : ∀ {b : Nat} {B : Blk}, lkB c.post b = some B → b < nx' := fun hl => by
    have := hlt1 hl
    rcases hnn with ⟨h, h'⟩ | ⟨h, h', h''⟩ <;> omega
  have hblk1 : ∀ {b : Nat} {B : Blk}, lkB c.post b = some B → (Hp.mk (setsT c.post t) nx').blk b = B := fun {b B} hl => by
    rw [blk_mk, if_pos (hlt' hl), setsT_get _ _ _ hp (by have := hlt' hl; omega), hl]
  have hblk0 : ∀ {b : Nat}, b < nx' → lkB c.post b = none → (Hp.mk (setsT c.post t) nx').blk b = t.get b := fun {b} hb hl => by
    rw [blk_mk, if_pos hb, setsT_get _ _ _ hp (by omega), hl]
  have hbH : ∀ {b : Nat}, b < nx → (Hp.mk t nx).blk b = t.get b := fun {b} hb => by rw [blk_mk, if_pos hb]
  have hal : ∀ {b : Nat}, alive c.h0 b → b < c.n0 ∧ ∃ B, (b, B) ∈ c.pre ∧ c.h0.blk b = B ∧ alive (.mk t nx) b := fun {b} ha => by
    obtain ⟨B, hm, hB, hne⟩ := h0_blk F ha
    have hb := F.pre _ hm
    refine ⟨hb, B, hm, hB, Nat.lt_of_lt_of_le hb hn0, ?_⟩
    rw [hbH (Nat.lt_of_lt_of_le hb hn0)]
    exact covB_alive (hpre _ hm) hne
  have hwl : ∀ {b : Nat}, c.w.testBit b = true → b < c.n0 ∧ alive c.h0 b ∧ ∃ B, lkB c.post b = some B := fun {b} hw => by
    have hb : b < c.n0 := lt_bit F.w hw
    have ha := can.wal b hb hw
    obtain ⟨B, hm, _⟩ := h0_blk F ha
    exact ⟨hb, ha, F.wp _ hm hw⟩
  have hsame : ∀ {b : Nat}, (nx ≤ b ∨ c.w.testBit b = true) → alive (.mk (setsT c.post t) nx') b → (c.n0 ≤ b ∨ c.w.testBit b = true) ∧ alive c.h1 b ∧ c.h1.blk b = (Hp.mk (setsT c.post t) nx').blk b := fun {b} hb ha => by
    have hl : ∃ B, lkB c.post b = some B := by
      rcases hb with hb | hb
      · have hb' : b < nx' := ha.1
        rcases hnn with ⟨h1, h2⟩ | ⟨h1, h2, h3⟩
        · exact F.new b (by omega) (by omega)
        · omega
      · exact (hwl hb).2.2
    obtain ⟨B, hl⟩ := hl
    have e : c.h1.blk b = (Hp.mk (setsT c.post t) nx').blk b := by rw [h1_blk F (hlt1 hl) hl, hblk1 hl]
    exact ⟨hb.imp (fun h => by omega) id, ⟨hlt1 hl, by rw [e]; exact ha.2⟩, e⟩
  refine task_EP.2 ⟨⟨hx', hxx, fun b hb hw => ?_, fun b hb hw => ?_⟩, fun β W hg p args' hl => ?_⟩
  · have hb : b < nx := hb
    have hln : lkB c.post b = none := by
      cases e : lkB c.post b with
      | none => rfl
      | some B =>
        rcases (F.post _ (lkB_mem e)).2 with h | h
        · have := hlt1 e
          rcases hnn with ⟨h1, h2⟩ | ⟨h1, h2, h3⟩ <;> (simp only at h; omega)
        · rw [hw] at h; cases h
    rw [hblk0 (by omega) hln, hbH hb]
  · obtain ⟨h1, h2, _⟩ := hwl hw
    exact (hal h2).2.elim fun B h => h.2.2
  · have hq := hg.2
    have hge := GRel.cut F.ng hg
    have pc : Pre (β.cut c.n0) c.h0 c.h1 c.r c.w W := by
      refine ⟨fun b hb ha => ?_, fun b d mb md hb hd ab ad eb ed => ?_, fun b h1 h2 => ?_, fun b m e => p.dom b m (Mp.cut_le _ _ b m e)⟩
      · obtain ⟨hlt, B, hm, hB, haH⟩ := hal ha
        obtain ⟨m, e, hr⟩ := p.rel b hb haH
        refine ⟨m, by rw [Mp.cut_lt hlt]; exact e, ?_⟩
        rw [hB]
        rw [hbH (Nat.lt_of_lt_of_le hlt hn0)] at hr
        exact covB_ok ht (mapOk_cut β c.n0) hq (hpre _ hm) hr
      · obtain ⟨hlb, _, _, _, haB⟩ := hal ab
        obtain ⟨hld, _, _, _, haD⟩ := hal ad
        rw [Mp.cut_lt hlb] at eb
        rw [Mp.cut_lt hld] at ed
        exact p.inj b d mb md hb hd haB haD eb ed
      · have h2 : b < c.n1 := h2
        exact Mp.cut_no h1 (by omega)
    have la : LRel (β.cut c.n0) c.args args'.toList := all2_ok (fun x y z hxy hyz => covV_ok ht (mapOk_cut β c.n0) hq 12 x y z hxy hyz) hargs hl
    refine (hc (β.cut c.n0) W hge pc args' la).mono fun e W' hR => ?_
    obtain ⟨βc, v', he, hv, q⟩ := hR
    obtain ⟨β', hβ'⟩ : ∃ β' : Mp, β' = fun b => if nx ≤ b ∧ b < nx' then βc b else β b := ⟨_, rfl⟩
    have bN : ∀ {b}, nx ≤ b → b < nx' → β' b = βc b := fun h1 h2 => by rw [hβ']; simp only []; rw [if_pos ⟨h1, h2⟩]
    have bO : ∀ {b}, ¬ (nx ≤ b ∧ b < nx') → β' b = β b := fun h1 => by rw [hβ']; simp only []; rw [if_neg h1]
    have hcle : Mp.le βc β' := fun b m hm => by
      cases e : β.cut c.n0 b with
      | some m2 =>
        have := q.le _ _ e; rw [hm] at this; cases this
        have e2 := Mp.cut_le _ _ _ _ e
        rw [bO fun h => by have := p.fresh b h.1 h.2; rw [this] at e2; cases e2]; exact e2
      | none =>
        have := q.only b m hm e
        have h1 : c.n0 ≤ b := this.1
        have h2 : b < c.n1 := this.2
        rcases hnn with ⟨g1, g2⟩ | ⟨g1, g2, g3⟩
        · rw [bN (by omega) (by omega)]; exact hm
        · omega
    have new : ∀ {b m}, nx ≤ b → b < nx' → β' b = some m → βc b = some m ∧ c.n0 ≤ b := fun h1 h2 h3 => ⟨by rw [← bN h1 h2]; exact h3, by omega⟩
    have both : ∀ {b m}, (nx ≤ b ∨ c.w.testBit b = true) → alive (.mk (setsT c.post t) nx') b → β' b = some m → βc b = some m := fun {b m} hb ha e => by
      by_cases h : nx ≤ b ∧ b < nx'
      · rw [← bN h.1 h.2]; exact e
      · rw [bO h] at e
        rcases hb with hb | hb
        · exact absurd ⟨hb, ha.1⟩ h
        · have := (hwl hb).1
          exact q.le _ _ (by rw [Mp.cut_lt this]; exact e)
    refine ⟨β', v', he, hv.mono hcle, ?_⟩
    refine ⟨fun b m e => ?_, fun b m e e0 => ?_, fun b hb ha => ?_, fun rb o ho hno => ?_, q.size, fun b m e => ?_, fun b m hb e0 e => ?_, fun b d mb md hb hd ab ad eb ed hrb => ?_, q.env⟩
    · rw [bO fun h => by have := p.fresh b h.1 h.2; rw [this] at e; cases e]; exact e
    · by_cases h : nx ≤ b ∧ b < nx'
      · exact h
      · rw [bO h, e0] at e; cases e
    · obtain ⟨h1, h2, h3⟩ := hsame hb ha
      obtain ⟨m, e, o, ho, hr⟩ := q.rel b h1 h2
      rw [h3] at hr
      exact ⟨m, hcle _ _ e, o, ho, hr.mono hcle⟩
    · refine q.frame rb o ho fun b m hb hw e => ?_
      exact hno b m (by have hb : b < c.n0 := hb; exact Nat.lt_of_lt_of_le hb hn0) hw (Mp.cut_le _ _ _ _ e)
    · by_cases h : nx ≤ b ∧ b < nx'
      · rw [bN h.1 h.2] at e; exact q.dom b m e
      · rw [bO h] at e; exact Nat.lt_of_lt_of_le (p.dom b m e) q.size
    · by_cases h : nx ≤ b ∧ b < nx'
      · obtain ⟨e1, hn⟩ := new h.1 h.2 e
        have hn1' : b < c.n1 := by rcases hnn with ⟨g1, g2⟩ | ⟨g1, g2, g3⟩ <;> omega
        rcases q.new b m hn (Mp.cut_no hn (by omega)) e1 with h | ⟨d, md, hd, hdw, ed, erb, hdead⟩
        · exact .inl h
        · refine .inr ⟨d, md, Nat.lt_of_lt_of_le hd hn0, hdw, Mp.cut_le _ _ _ _ ed, erb, fun ha => hdead (hsame (.inr hdw) ha).2.1⟩
      · rw [bO h, e0] at e; cases e
    · obtain ⟨h1, h2, _⟩ := hsame hb ab
      obtain ⟨g1, g2, _⟩ := hsame hd ad
      exact q.inj b d mb md h1 g1 h2 g2 (both hb ab eb) (both hd ad ed) hrb
end
end Go.Ev
end
noncomputable section
namespace Go.Ev
variable [SyQ]
def PCov (pm : Nat → Nat → Bool) (x y : Blk) : Prop := (x ≠ .no → y ≠ .no) ∧ ∀ (β β' : Mp) (W : World) (m : Bm), MapOk pm β β' → SyH.Q β → BOk β W y m → BOk β' W x m
theorem PCov.of_cov {tab : Nat → Option Value} (ht : TabOk tab) {pm : Nat → Nat → Bool} {d : Nat} {x y : Blk} (h : covB (covV tab pm d) x y = true) : PCov pm x y := ⟨covB_alive h, fun β β' W m hm hq hb => covB_ok ht hm hq h hb⟩
structure EndOk (tab : Nat → Option Value) (c : Clm) (src : List Nat) (v' : Value) (H' : Hp) (r' w' : Nat) : Prop where
  r : ∀ b, b < c.n0 → r'.testBit b = true → c.r.testBit b = true
  w : ∀ b, b < c.n0 → w'.testBit b = true → c.w.testBit b = true
  al : ∀ b, c.w.testBit b = true → ∃ B, (b, B) ∈ c.pre
  pre : ∀ x ∈ c.pre, x.2 ≠ .no
  v : covV tab (pmS c.n0 c.n1 src) 12 c.v v' = true
  post : ∀ x ∈ c.post, PCov (pmS c.n0 c.n1 src) x.2 (H'.blk (srcOf c.n0 src x.1))
  nx : H'.nx ≤ 32768
  self : ∀ x ∈ c.pre, PCov (pm0 c.n0) x.2 x.2
  args : all2 (covV tab (pm0 c.n0) 12) c.args c.args = true
  small : ∀ s ∈ src, s < 32768
  len : src.length = c.n1 - c.n0
  nd : src.Nodup
  mv : ∀ s ∈ src, c.n0 ≤ s ∨ (c.w.testBit s = true ∧ ∀ B, (s, B) ∈ c.post → B = .no)
theorem nodupB_ok : ∀ {l : List Nat}, nodupB l = true → l.Nodup
  | [], _ => List.nodup_nil
  | x :: l, h => by
    simp only [nodupB, Bool.and_eq_true, Bool.not_eq_true', List.any_eq_false, beq_iff] at h
    exact List.nodup_cons.2 ⟨fun hx => h.1 x hx rfl, nodupB_ok h.2⟩
theorem aliveMask_mem : ∀ {l : List (Nat × Blk)} {b : Nat}, (aliveMask l).testBit b = true → ∃ B, (b, B) ∈ l
  | [], b, h => by simp [aliveMask] at h
  | (i, B) :: l, b, h => by
    have key : (Nat.lor (bit i) (aliveMask l)).testBit b = true → ∃ B', (b, B') ∈ (i, B) :: l := fun h => by
      rw [lor_bit, Bool.or_eq_true, bit_iff] at h
      rcases h with h | h
      · subst h; exact ⟨B, List.mem_cons_self⟩
      · obtain ⟨B', hB⟩ := aliveMask_mem h; exact ⟨B', List.mem_cons_of_mem _ hB⟩
    cases B with
    | no => obtain ⟨B', hB⟩ := aliveMask_mem (l := l) h; exact ⟨B', List.mem_cons_of_mem _ hB⟩
    | cells => exact key h
    | obj => exact key h
    | loop => exact key h
theorem lor_sub {a b : Nat} (h : Nat.lor a b = b) {i : Nat} (hi : a.testBit i = true) : b.testBit i = true := by
  rw [← h, lor_bit, hi]; rfl
theorem land_mask {w n b : Nat} (hb : b < n) (hw : w.testBit b = true) : (Nat.land w (2 ^ n - 1)).testBit b = true := by
  show (w &&& (2 ^ n - 1)).testBit b = true
  rw [Nat.testBit_and, Nat.testBit_two_pow_sub_one, hw]; simp [hb]
theorem endB_ok {tab : Nat → Option Value} (ht : TabOk tab) {c : Clm} {src : List Nat} {v' : Value} {H' : Hp} {r' w' : Nat} (h : endB tab c src v' H' r' w' = true) : EndOk tab c src v' H' r' w' := by
  unfold endB at h
  simp only [Bool.and_eq_true, beq_iff, ble_iff, blt_iff, List.all_eq_true] at h
  obtain ⟨h1, h2, h3, h4, h5, h6, k1, k2, k3, k4, h7, h8, h9⟩ := h
  refine ⟨fun b hb hr => lor_sub h1 (land_mask hb hr), fun b hb hw => lor_sub h2 (land_mask hb hw), fun b hb => aliveMask_mem (lor_sub h3 hb), fun x hx e => ?_, h5, fun x hx => PCov.of_cov ht (h6 x hx), k1, fun x hx => PCov.of_cov ht (k2 x hx), k3, k4, h7, nodupB_ok h8, fun s hs => ?_⟩
  · have := h4 x hx
    rw [e] at this; cases this
  · have := h9 s hs
    simp only [Bool.or_eq_true, ble_iff, Bool.and_eq_true, List.all_eq_true, Bool.not_eq_true'] at this
    rcases this with h | ⟨h, h'⟩
    · exact .inl h
    · refine .inr ⟨h, fun B hB => ?_⟩
      rcases h' _ hB with e | e
      · have : Nat.beq s s = true := (beq_iff _ _).2 rfl
        simp only at e; rw [this] at e; cases e
      · cases B with
        | no => rfl
        | cells => cases e
        | obj => cases e
        | loop => cases e
theorem src_old {n0 : Nat} {src : List Nat} {b : Nat} (h : b < n0) : srcOf n0 src b = b := by unfold srcOf; rw [(blt_iff _ _).2 h]; rfl
theorem src_new {n0 : Nat} {src : List Nat} {b : Nat} (h : n0 ≤ b) : srcOf n0 src b = src.getD (b - n0) 0 := by
  unfold srcOf
  cases e : Nat.blt b n0 with
  | true => have := (blt_iff _ _).1 e; omega
  | false => rfl
theorem getD_at {l : List Nat} {i : Nat} (h : i < l.length) : l.getD i 0 = l[i] := by simp [List.getD, h]
theorem nodup_inj {l : List Nat} (h : l.Nodup) {i j : Nat} (hi : i < l.length) (hj : j < l.length) (e : l[i] = l[j]) : i = j := by
  have hp := List.pairwise_iff_getElem.1 h
  rcases Nat.lt_trichotomy i j with h1 | h1 | h1
  · exact absurd e (hp i j hi hj h1)
  · exact h1
  · exact absurd e.symm (hp j i hj hi h1)
section
variable {P : Program} {ng : Nat} {tab : Nat → Option Value} {c : Clm} {src : List Nat} {v' : Value} {H' : Hp} {r' w' : Nat}
theorem ClOk.of_run (ht : TabOk tab) (F : Fits ng c) (E : EndOk tab c src v' H' r' w') (hp : (unPan c.v).isSome = (unPan v').isSome) (hrun : TaskOk P ng (.call c.f c.args) c.h0 (.k (spKR v' H' r' w'))) : ClOk P ng c := by
  obtain ⟨can, hc⟩ := task_EP.1 hrun
  have hn1 := F.n1
  have hle := F.le
  have hsy := sy_big
  have hn0H : c.n0 ≤ H'.nx := can.mono
  have hpre0 : ∀ {b : Nat}, c.w.testBit b = true → b < c.n0 ∧ alive c.h0 b := fun {b} hw => by
    obtain ⟨B, hm⟩ := E.al b hw
    have hb := F.pre _ hm
    have hb : b < c.n0 := hb
    refine ⟨hb, hb, ?_⟩
    have e : c.h0.blk b = (setsT c.pre (.e .no)).get b := by unfold Clm.h0; rw [blk_mk, if_pos hb]
    rw [e, setsT_get _ _ _ (fun x hx => Nat.lt_of_lt_of_le (F.pre x hx) (by omega)) (by omega)]
    have : ∃ B, lkB c.pre b = some B := lkB_some (List.any_eq_true.2 ⟨_, hm, (beq_iff _ _).2 rfl⟩)
    obtain ⟨B', hl⟩ := this
    rw [hl]
    exact E.pre _ (lkB_mem hl)
  have hwl : ∀ {b : Nat}, c.w.testBit b = true → ∃ B, lkB c.post b = some B := fun {b} hw => by
    obtain ⟨B, hm⟩ := E.al b hw
    exact F.wp _ hm hw
  have hold : ∀ {b : Nat}, b < c.n0 → lkB c.post b = none → c.h1.blk b = c.h0.blk b := fun {b} hb hl => by
    unfold Clm.h0 Clm.h1
    rw [blk_mk, blk_mk, if_pos hb, if_pos (by omega), setsT_get _ _ _ (fun x hx => Nat.lt_of_lt_of_le (F.post x hx).1 hn1) (by omega), hl]
  have hcan : Can c.h0 c.h1 c.w := by
    refine ⟨hn1, hle, fun b hb hw => ?_, fun b hb hw => (hpre0 hw).2⟩
    have hb : b < c.n0 := hb
    refine hold hb ?_
    cases e : lkB c.post b with
    | none => rfl
    | some B =>
      rcases (F.post _ (lkB_mem e)).2 with h | h
      · simp only at h; omega
      · rw [hw] at h; cases h
  have hsrc : ∀ {b : Nat}, (c.n0 ≤ b ∨ c.w.testBit b = true) → alive c.h1 b → ∃ B, (b, B) ∈ c.post ∧ c.h1.blk b = B ∧ PCov (pmS c.n0 c.n1 src) B (H'.blk (srcOf c.n0 src b)) ∧ H'.blk (srcOf c.n0 src b) ≠ .no := fun {b} hb ha => by
    have hb1 : b < c.n1 := ha.1
    have hl : ∃ B, lkB c.post b = some B := by
      rcases hb with hb | hb
      · exact F.new b hb hb1
      · exact hwl hb
    obtain ⟨B, hl⟩ := hl
    have e := h1_blk F hb1 hl
    have hm := lkB_mem hl
    have hcv := E.post _ hm
    exact ⟨B, hm, e, hcv, hcv.1 (by rw [← e]; exact ha.2)⟩
  refine task_EP.2 ⟨hcan, fun β W hg p args' hl => ?_⟩
  have hq := hg.2
  have hge := GRel.cut F.ng hg
  have e0 : ∀ {b m}, β.cut c.n0 b = some m → β b = some m := fun h => Mp.cut_le _ _ _ _ h
  have e1 : ∀ {b m}, b < c.n0 → β b = some m → β.cut c.n0 b = some m := fun hb h => by rw [Mp.cut_lt hb]; exact h
  have mcut : ∀ {b m}, (b < c.n0 ∨ SY ≤ b) → β b = some m → β.cut c.n0 b = some m := fun hb h => by
    rcases hb with hb | hb
    · rw [Mp.cut_lt hb]; exact h
    · rw [Mp.cut_sy hb]; exact h
  have hidp : MapOk (pm0 c.n0) β (β.cut c.n0) := mapOk_cut β c.n0
  have hin : ∀ {b}, inS r' w' b → b < c.n0 → inS c.r c.w b := fun hb hlt => hb.imp (E.r _ hlt) (E.w _ hlt)
  have hself : ∀ {b m}, alive c.h0 b → BOk β W (c.h0.blk b) m → BOk (β.cut c.n0) W (c.h0.blk b) m := fun {b m} ha hr => by
    obtain ⟨B, hm, hB, _⟩ := h0_blk F ha
    rw [hB] at hr ⊢
    exact (E.self _ hm).2 _ _ _ _ hidp hq hr
  have pc : Pre (β.cut c.n0) c.h0 H' r' w' W := by
    refine ⟨fun b hb ha => ?_, fun b d mb md hb hd ab ad eb ed => ?_, fun b h1 h2 => Mp.cut_no h1 (by have := E.nx; omega), fun b m e => p.dom b m (e0 e)⟩
    · obtain ⟨m, e, hr⟩ := p.rel b (hin hb ha.1) ha
      exact ⟨m, e1 ha.1 e, hself ha hr⟩
    · exact p.inj b d mb md (E.w b ab.1 hb) (hin hd ad.1) ab ad (e0 eb) (e0 ed)
  have la : LRel (β.cut c.n0) c.args args'.toList := all2_ok (fun x y z hxy hyz => covV_ok ht hidp hq 12 x y z hxy hyz) E.args hl
  refine (hc (β.cut c.n0) W hge pc args' la).mono fun e W' hR => ?_
  obtain ⟨βc, v'', he, hv, q⟩ := hR
  have hnx := E.nx
  have cO : ∀ {b m}, b < c.n0 → βc b = some m → β b = some m := fun {b m} hb e => by
    cases e2 : β.cut c.n0 b with
    | some m2 => have := q.le _ _ e2; rw [e] at this; cases this; exact e0 e2
    | none =>
      have h3 : c.n0 ≤ b := (q.only b m e e2).1
      omega
  obtain ⟨β', hβ'⟩ : ∃ β' : Mp, β' = fun b => if c.n0 ≤ b ∧ b < c.n1 then βc (srcOf c.n0 src b) else β b := ⟨_, rfl⟩
  have bN : ∀ {b}, c.n0 ≤ b → b < c.n1 → β' b = βc (srcOf c.n0 src b) := fun h1 h2 => by rw [hβ']; simp only []; rw [if_pos ⟨h1, h2⟩]
  have bO : ∀ {b}, ¬ (c.n0 ≤ b ∧ b < c.n1) → β' b = β b := fun h1 => by rw [hβ']; simp only []; rw [if_neg h1]
  have hsm : ∀ {b}, c.n0 ≤ b → b < c.n1 → srcOf c.n0 src b ∈ src := fun {b} h1 h2 => by
    have hl := E.len
    have hlt : b - c.n0 < src.length := by omega
    rw [src_new h1, getD_at hlt]
    exact List.getElem_mem _
  have hM : MapOk (pmS c.n0 c.n1 src) βc β' := by
    refine ⟨fun b b' m h e => ?_, fun k m e => ?_⟩
    · unfold pmS at h
      simp only [Bool.and_eq_true, blt_iff, beq_iff] at h
      obtain ⟨⟨h1, h2⟩, _⟩ := h
      subst h2
      by_cases hb : c.n0 ≤ b
      · rw [bN hb h1]; exact e
      · rw [bO fun h => hb h.1]
        rw [src_old (by omega)] at e
        exact cO (by omega) e
    · rw [bO fun h => by omega]
      cases e2 : β.cut c.n0 (SY + k) with
      | some m2 => have := q.le _ _ e2; rw [e] at this; cases this; exact e0 e2
      | none => have := (q.only _ m e e2).2; omega
  have hqc : SyH.Q βc := SyQ.mono q.le hge.2
  have known : ∀ {b}, (c.n0 ≤ b ∨ c.w.testBit b = true) → alive c.h1 b → ∃ m, βc (srcOf c.n0 src b) = some m ∧ BOk βc W' (H'.blk (srcOf c.n0 src b)) m ∧ β' b = some m ∧ alive H' (srcOf c.n0 src b) ∧ (srcOf c.n0 src b < c.n0 → c.w.testBit (srcOf c.n0 src b) = true) := fun {b} hb ha => by
    obtain ⟨B, hm, hB, hcv, hne⟩ := hsrc hb ha
    have haH : alive H' (srcOf c.n0 src b) := (alive_iff _ _).2 hne
    have hws : srcOf c.n0 src b < c.n0 → c.w.testBit (srcOf c.n0 src b) = true := fun hlt => by
      by_cases h : c.n0 ≤ b
      · rcases E.mv _ (hsm h ha.1) with h' | h'
        · omega
        · exact h'.1
      · rw [src_old (by omega)]; exact hb.resolve_left h
    have hm' : ∃ m, βc (srcOf c.n0 src b) = some m ∧ BOk βc W' (H'.blk (srcOf c.n0 src b)) m := by
      by_cases hA : c.n0 ≤ srcOf c.n0 src b ∨ w'.testBit (srcOf c.n0 src b) = true
      · exact q.rel _ hA haH
      · have hlt : srcOf c.n0 src b < c.n0 := Nat.lt_of_not_le fun h => hA (.inl h)
        have hw' : w'.testBit (srcOf c.n0 src b) = false := by cases e : w'.testBit (srcOf c.n0 src b) with | false => rfl | true => exact absurd (.inr e) hA
        have hw := hws hlt
        have ha0 := (hpre0 hw).2
        obtain ⟨m, em, hr⟩ := p.rel _ (.inr hw) ha0
        obtain ⟨o, ho, hro⟩ := hself ha0 hr
        refine ⟨m, q.le _ _ (e1 hlt em), o, q.frame m.rb o ho fun d md hd hdw ed he => ?_, ?_⟩
        · have hd : d < c.n0 := hd
          have := p.inj _ _ m md hw (.inr (E.w _ hd hdw)) ha0 (can.wal d hd hdw) em (e0 ed) he.symm
          rw [← this, hw'] at hdw; cases hdw
        · rw [can.keep _ hlt hw']; exact hro.mono q.le
    obtain ⟨m, em, hr⟩ := hm'
    refine ⟨m, em, hr, ?_, haH, hws⟩
    by_cases h : c.n0 ≤ b
    · rw [bN h ha.1]; exact em
    · rw [bO fun h' => h h'.1]
      rw [src_old (by omega)] at em
      exact cO (by omega) em
  have he : EndE c.v e v'' := by
    unfold EndE at he ⊢
    cases h1 : unPan c.v <;> cases h2 : unPan v' <;> rw [h1, h2] at hp <;> first | (cases hp; done) | (rw [h2] at he; exact he)
  refine ⟨β', v'', he, covV_ok ht hM hqc 12 _ _ _ E.v hv, ?_⟩
  refine ⟨fun b m e => ?_, fun b m e eb => ?_, fun b hb ha => ?_, fun rb o ho hno => ?_, q.size, fun b m e => ?_, fun b m hb eb e => ?_, fun b d mb md hb hd ab ad eb ed hrb => ?_, q.env⟩
  · rw [bO fun h => by have := p.fresh b h.1 h.2; rw [this] at e; cases e]; exact e
  · by_cases h : c.n0 ≤ b ∧ b < c.n1
    · exact h
    · rw [bO h, eb] at e; cases e
  · obtain ⟨B, hm, hB, hcv, hne⟩ := hsrc hb ha
    obtain ⟨m, em, hr, eb, _⟩ := known hb ha
    rw [hB]
    exact ⟨m, eb, hcv.2 _ _ _ _ hM hqc hr⟩
  · exact q.frame rb o ho fun b m hb hw e => hno b m hb (E.w b hb hw) (e0 e)
  · by_cases h : c.n0 ≤ b ∧ b < c.n1
    · rw [bN h.1 h.2] at e; exact q.dom _ m e
    · rw [bO h] at e; exact Nat.lt_of_lt_of_le (p.dom b m e) q.size
  · by_cases h : c.n0 ≤ b ∧ b < c.n1
    · rw [bN h.1 h.2] at e
      have hs := hsm h.1 h.2
      by_cases hlt : srcOf c.n0 src b < c.n0
      · rcases E.mv _ hs with h' | ⟨h', h''⟩
        · omega
        · refine .inr ⟨_, m, hlt, h', cO hlt e, rfl, fun ha => ?_⟩
          obtain ⟨B, hl⟩ := hwl h'
          have := h'' B (lkB_mem hl)
          have e2 := h1_blk F ha.1 hl
          exact ha.2 (by rw [e2, this])
      · have hge' : c.n0 ≤ srcOf c.n0 src b := by omega
        have hsb := E.small _ hs
        rcases q.new _ m hge' (Mp.cut_no hge' (by omega)) e with h' | ⟨d, md, hd, hdw, ed, erb, hdead⟩
        · exact .inl h'
        · have hd : d < c.n0 := hd
          refine .inr ⟨d, md, hd, E.w d hd hdw, e0 ed, erb, fun ha => hdead ?_⟩
          obtain ⟨B, _, _, _, hne⟩ := hsrc (.inr (E.w d hd hdw)) ha
          rw [src_old hd] at hne
          exact (alive_iff _ _).2 hne
    · rw [bO h, eb] at e; cases e
  · obtain ⟨m1, es, _, eb', as, ws⟩ := known hb ab
    obtain ⟨m2, et, _, ed', at', wt⟩ := known hd ad
    rw [eb] at eb'; cases eb'
    rw [ed] at ed'; cases ed'
    have cross : ∀ {x y : Nat} {mx my : Bm}, βc x = some mx → βc y = some my → mx.rb = my.rb → alive H' x → alive H' y → (x < c.n0 → c.w.testBit x = true) → (y < c.n0 → c.w.testBit y = true) → ¬ (c.n0 ≤ x ∨ w'.testBit x = true) → x = y := fun {x y mx my} ex ey hxy ax ay wx wy hA => by
      have hlt : x < c.n0 := Nat.lt_of_not_le fun h => hA (.inl h)
      have ex0 := cO hlt ex
      have hx0 := (hpre0 (wx hlt)).2
      by_cases hy : y < c.n0
      · exact p.inj x y mx my (wx hlt) (.inr (wy hy)) hx0 (hpre0 (wy hy)).2 ex0 (cO hy ey) hxy
      · have hyn : y < H'.nx := ay.1
        rcases q.new y my (by show c.n0 ≤ y; omega) (Mp.cut_no (by omega) (by omega)) ey with h' | ⟨d, md, hd', hdw, ed2, erb, _⟩
        · have := p.dom x mx ex0; omega
        · have hd' : d < c.n0 := hd'
          have := p.inj d x md mx (E.w d hd' hdw) (.inr (wx hlt)) (can.wal d hd' hdw) hx0 (e0 ed2) ex0 (by omega)
          subst this
          exact absurd (.inr hdw) hA
    have hst : srcOf c.n0 src b = srcOf c.n0 src d := by
      by_cases hA : c.n0 ≤ srcOf c.n0 src b ∨ w'.testBit (srcOf c.n0 src b) = true
      · by_cases hA2 : c.n0 ≤ srcOf c.n0 src d ∨ w'.testBit (srcOf c.n0 src d) = true
        · exact q.inj _ _ mb md hA hA2 as at' es et hrb
        · exact (cross et es hrb.symm at' as wt ws hA2).symm
      · exact cross es et hrb as at' ws wt hA
    have moved : ∀ {x y : Nat}, x < c.n0 → c.n0 ≤ y → y < c.n1 → alive c.h1 x → (c.n0 ≤ x ∨ c.w.testBit x = true) → srcOf c.n0 src y = x → False := fun {x y} hx hy hy1 ax hxw e => by
      have hs := hsm hy hy1
      rw [e] at hs
      rcases E.mv _ hs with h' | ⟨_, h''⟩
      · omega
      · obtain ⟨B, hm, hB, _, _⟩ := hsrc hxw ax
        exact ax.2 (by rw [hB]; exact h'' B hm)
    by_cases h1 : c.n0 ≤ b
    · by_cases h2 : c.n0 ≤ d
      · rw [src_new h1, src_new h2] at hst
        have hl := E.len
        have l1 : b - c.n0 < src.length := by have : b < c.n1 := ab.1; omega
        have l2 : d - c.n0 < src.length := by have : d < c.n1 := ad.1; omega
        rw [getD_at l1, getD_at l2] at hst
        have := nodup_inj E.nd l1 l2 hst
        omega
      · rw [src_old (show d < c.n0 by omega)] at hst
        exact (moved (by omega) h1 ab.1 ad hd hst).elim
    · by_cases h2 : c.n0 ≤ d
      · rw [src_old (show b < c.n0 by omega)] at hst
        exact (moved (by omega) h2 ad.1 ab hb hst.symm).elim
      · rw [src_old (by omega), src_old (by omega)] at hst; exact hst
end
end Go.Ev
end
noncomputable section
namespace Go.Ev
theorem flat_list {β : Mp} {f : Value → Bool} (h : ∀ v v', f v = true → VRel β v v' → v' = v) : ∀ {l l' : List Value}, l.all f = true → LRel β l l' → l' = l
  | [], l', _, hl => hl.nil_inv
  | v :: l, l', ha, hl => by
    simp only [List.all_cons, Bool.and_eq_true] at ha
    obtain ⟨v', l2, rfl, hv, hl'⟩ := hl.cons_inv
    rw [h v v' ha.1 hv, flat_list h ha.2 hl']
theorem flat_eq {β : Mp} : ∀ (d : Nat) (v v' : Value), flatV d v = true → VRel β v v' → v' = v
  | 0, v, v', h, _ => by simp [flatV] at h
  | d + 1, v, v', h, hv => by
    have ih := flat_eq (β := β) d
    cases hv with
    | bool b => rfl
    | int k n => rfl
    | float k n => rfl
    | complex k a b => rfl
    | string s => rfl
    | ptr0 => rfl
    | ptr b o m e => simp [flatV] at h
    | sl0 l c => rfl
    | sl => simp [flatV] at h
    | slX => simp [flatV] at h
    | map0 => rfl
    | map => simp [flatV] at h
    | func f xs xs' ys ys' e1 e2 e3 e4 =>
      simp only [flatV, Bool.and_eq_true, List.isEmpty_iff] at h
      obtain ⟨rfl, rfl⟩ := h
      have : xs' = [] := by cases xs' with | nil => rfl | cons => simp at e1
      have h2 : ys' = [] := by cases ys' with | nil => rfl | cons => simp at e3
      rw [this, h2]
    | yield l m e => simp [flatV] at h
    | nilFunc => rfl
    | iface t x y hy => rw [ih x y (by simpa [flatV] using h) hy]
    | nilIface => rfl
    | agg xs xs' e0 e1 e2 =>
      have h' : xs.all (fun v => flatV d v && oneC v) = true := by simpa [flatV] using h
      rw [flat_list (f := fun v => flatV d v && oneC v) (fun v v' hf hv => ih v v' (by simp only [Bool.and_eq_true] at hf; exact hf.1) hv) h' (show LRel β xs xs' from ⟨e1, e2⟩)]
    | dead => simp [flatV] at h
    | sym => simp [flatV] at h
    | tuple xs xs' e1 e2 =>
      have h' : xs.all (flatV d) = true := by simpa [flatV] using h
      rw [flat_list (f := flatV d) (fun v v' hf hv => ih v v' hf hv) h' (show LRel β xs xs' from ⟨e1, e2⟩)]
variable [SyQ]
theorem memo_task {P : Program} {ng : Nat} {tab : Nat → Option Value} {c : Clm} (ht : TabOk tab) (F : Fits ng c) (hn : c.n1 = c.n0) (hw : c.w = 0) (hc : ClOk P ng c) {H : Hp} (hwf : H.wf) {args : List Value}
    (ha : all2 (covV tab (pm0 c.n0) 12) c.args args = true) (hb : ∀ x ∈ c.pre, covB (covV tab (pm0 c.n0) 12) x.2 (H.blk x.1) = true) : TaskOk P ng (.call c.f args) H (.k (spKR c.v H c.r 0)) := by
  obtain ⟨can, hc⟩ := task_EP.1 hc
  rw [hw] at hc
  refine task_EP.2 ⟨Can.refl hwf, fun β W hg p args' hl => ?_⟩
  have hq := hg.2
  have hge := GRel.cut F.ng hg
  have pc : Pre (β.cut c.n0) c.h0 c.h1 c.r 0 W := by
    refine ⟨fun b hb' hal => ?_, fun b d mb md hb' => ?_, fun b h1 h2 => ?_, fun b m e => p.dom b m (Mp.cut_le _ _ b m e)⟩
    · obtain ⟨B, hm, hB, hne⟩ := h0_blk F hal
      have hlt : b < c.n0 := F.pre _ hm
      have haH : alive H b := (alive_iff _ _).2 (covB_alive (hb _ hm) hne)
      obtain ⟨m, e, hr⟩ := p.rel b hb' haH
      refine ⟨m, by rw [Mp.cut_lt hlt]; exact e, ?_⟩
      rw [hB]
      exact covB_ok ht (mapOk_cut β c.n0) hq (hb _ hm) hr
    · simp at hb'
    · have h1 : c.n0 ≤ b := h1
      have h2 : b < c.n1 := h2
      omega
  have la : LRel (β.cut c.n0) c.args args'.toList := all2_ok (fun x y z hxy hyz => covV_ok ht (mapOk_cut β c.n0) hq 12 x y z hxy hyz) ha hl
  refine (hc (β.cut c.n0) W hge pc args' la).mono fun e W' hR => ?_
  obtain ⟨βc, v', he, hv, q⟩ := hR
  have hle : Mp.le βc β := fun b m e => by
    cases e2 : β.cut c.n0 b with
    | some m2 => have := q.le _ _ e2; rw [e] at this; cases this; exact Mp.cut_le _ _ _ _ e2
    | none =>
      have := q.only b m e e2
      have h1 : c.n0 ≤ b := this.1
      have h2 : b < c.n1 := this.2
      omega
  refine ⟨β, v', he, hv.mono hle, ?_⟩
  refine ⟨Mp.le.refl _, fun b m e e0 => (by rw [e0] at e; cases e), fun b hb' hal => ?_, fun rb o ho hno => q.frame rb o ho fun b m _ h => (by simp at h), q.size, fun b m e => Nat.lt_of_lt_of_le (p.dom b m e) q.size, fun b m _ e0 e => (by rw [e0] at e; cases e), fun b d mb md hb' _ hal => ?_, q.env⟩
  · rcases hb' with h | h
    · have := hal.1; omega
    · simp at h
  · rcases hb' with h | h
    · have := hal.1; omega
    · simp at h
theorem TaskOk.conseq {P : Program} {ng : Nat} {f : FuncId} {H : Hp} {r : Nat} {args : List Value} {v : Value} (hwf : H.wf)
    (h : ∀ β W args', GRel ng β → Pre β H H r 0 W → LRel β args args' → ∃ (a : List Value) (v1 : Value), (∀ args'', args''.toList = args' → CallOk P f args'' W (RetP β H H 0 W v1)) ∧ ∀ β' v', Mp.le β β' → VRel β' v1 v' → VRel β' v v') :
    TaskOk P ng (.call f args) H (.k (.ret v H r 0)) := by
  refine ⟨Can.refl hwf, fun β W hg p args' hl => ?_⟩
  obtain ⟨a, v1, h1, h2⟩ := h β W args'.toList hg p hl
  refine (h1 args' rfl).mono fun e W' hR => ?_
  obtain ⟨β', v', he, hv, q⟩ := hR
  exact ⟨β', v', he, h2 β' v' q.le hv, q⟩
end Go.Ev
end
noncomputable section
namespace Go.Ev.SM
def s0 : Value := .string ⟨#[]⟩
def tyV (k p : Int) : Value := .agg ⟨[.int .i64 k, .int .i64 p, .int .i64 0, .bool false, s0]⟩
def T15 : Value := tyV 2 15
def T16 : Value := tyV 2 16
def vl (v : Value) : Value := .agg ⟨[v, s0]⟩
def nV (n : Int) : Value := .int .i64 n
def sy (k : Nat) : Value := .chan (some k)
def isTy (p : Int) (v : Value) : Bool := match v with
  | .agg ⟨[.int .i64 k, .int .i64 q, .int .i64 z, .bool b, .string s]⟩ => eqI k 2 && (eqI q p && (eqI z 0 && (!b && s.data.toList.isEmpty)))
  | _ => false
def isI (n : Int) (v : Value) : Bool := match v with | .int .i64 m => eqI m n | _ => false
def symOf (v : Value) : Option Nat := match v with
  | .agg ⟨[.chan (some k), .string s]⟩ => Bc s.data.toList.isEmpty (some k) none
  | _ => none
def isVl (n : Int) (v : Value) : Bool := match v with
  | .agg ⟨[.int .i64 m, .string s]⟩ => eqI m n && s.data.toList.isEmpty
  | _ => false
def numOf (v : Value) : Option Nat := match v with
  | .agg ⟨[.int .i64 (.ofNat m), .string s]⟩ => Bc (s.data.toList.isEmpty && Nat.blt m 61) (some m) none
  | _ => none
abbrev Ans := Option (Value × Hp × Nat × Nat)
def ans (v : Value) (H : Hp) : Ans := some (v, H, 0, 0)
def spDo (lim : Nat) (args : List Value) (H : Hp) : Ans := match args with
  | [op, a, ta, b, tb] => (match symOf a with
    | some k => Bc (isTy 15 ta && isTy 15 tb)
      (Bc (isI 7 op) (Bc (isVl 1 b && (Nat.ble 100 k && Nat.blt k (100 + lim))) (ans (.tuple ⟨[vl (sy (Nat.succ k)), nV 0, nV 0]⟩) H) none)
        (Bc (isI 6 op) (match symOf b with
          | some l => Bc (Nat.ble 100 k && (Nat.blt k (100 + lim) && Nat.beq l (k + 201))) (ans (.tuple ⟨[vl (sy (k + 200)), nV 0, nV 0]⟩) H) none
          | none => none) none)) none
    | none => none)
  | _ => none
def pwB : Blk := blkL ((List.range 20).map fun i => .int .u64 (.ofNat (Nat.pow 10 i))) 214 0
def hasPw (H : Hp) : Bool := covB (covV (fun _ => none) (pm0 15) 12) pwB (H.blk 2)
def spTo (args : List Value) (H : Hp) : Ans := match args with
  | [a, ta, tb] => (match symOf a with
    | some k => Bc (isTy 16 ta && (isTy 15 tb && (Nat.ble 100 k && Nat.blt k 162 || Nat.ble 300 k && Nat.blt k 362))) (Bc (hasPw H) (some (.tuple ⟨[vl (sy k), nV 0, nV 0]⟩, H, 4, 0)) none) none
    | none => none)
  | _ => none
def spCmp (lim : Nat) (base : Bool) (args : List Value) (H : Hp) : Ans := match args with
  | [a, ta, b, tb] => (match symOf a with
    | some k => Bc (isTy 15 ta && (isTy 15 tb && (isVl 0 b && Nat.ble 100 k)))
      (Bc (Nat.blt k (100 + lim)) (ans (.tuple ⟨[nV 1, nV 0]⟩) H) (Bc (base && Nat.beq k (100 + lim)) (ans (.tuple ⟨[nV 0, nV 0]⟩) H) none)) none
    | none => none)
  | _ => none
def isV (k : Nat) : Bool := Nat.ble 100 k && Nat.blt k 162
def spChk (args : List Value) (H : Hp) : Ans := match args with
  | [ta, a] => (match symOf a with
    | some k => Bc (isTy 15 ta && isV k) (ans (nV 0) H) none
    | none => (match numOf a with | some _ => Bc (isTy 15 ta) (ans (nV 0) H) none | none => none))
  | _ => none
def spFits (args : List Value) (H : Hp) : Ans := match args with
  | [a, ta] => (match symOf a with
    | some k => Bc (isTy 15 ta && isV k) (ans (nV 0) H) none
    | none => (match numOf a with | some _ => Bc (isTy 15 ta) (ans (nV 0) H) none | none => none))
  | _ => none
def spEnc (args : List Value) (H : Hp) : Ans := match args with
  | [ta, a] => (match symOf a with
    | some k => Bc (isTy 15 ta && isV k) (ans (.tuple ⟨[sy (k + 400), nV 0]⟩) H) none
    | none => (match numOf a with | some m => Bc (isTy 15 ta) (ans (.tuple ⟨[.string (bits16 m), nV 0]⟩) H) none | none => none))
  | _ => none
def spDec (args : List Value) (H : Hp) : Ans := match args with
  | [ta, .chan (some k)] => Bc (isTy 15 ta && (Nat.ble 500 k && Nat.blt k 562)) (ans (.tuple ⟨[vl (sy (Nat.sub k 400)), nV 0]⟩) H) none
  | _ => none
def isByteV (v : Value) : Bool := match v with
  | .int .u8 (.ofNat x) => Nat.blt x 256
  | .chan (some k) => Nat.ble 200 k && Nat.blt k 262
  | _ => false
def allO (f : Value → Bool) : (d : Nat) → Oc Value d → Bool
  | 0, x => f x
  | d + 1, x => match (x : N8 (Oc Value d)) with
    | ⟨a, b, c, e, g, h, i, j⟩ => allO f d a && (allO f d b && (allO f d c && (allO f d e && (allO f d g && (allO f d h && (allO f d i && allO f d j))))))
def allT (f : Value → Bool) (t : T Value) : Bool := match t with
  | .t0 x => f x
  | .t6 x => allO f 6 x
  | _ => false
def memOk (B : Blk) : Option (T Value) := match B with
  | .cells t sz ty op lo hi => Bc (Nat.beq sz 65536 && (Nat.beq ty 199 && (Nat.beq op 0 && (Nat.beq lo 0 && (Nat.beq hi 0 && allT isByteV t))))) (some t) none
  | _ => none
def byteOk (hi lo : Value) : Option Nat := match hi, lo with
  | .int .u8 h, .chan (some k) => Bc (eqI h 0 && (Nat.ble 200 k && Nat.blt k 262)) (some k) none
  | _, _ => none
def nxOk (H : Hp) : Bool := Nat.ble H.nx 32768 && Nat.ble 15 H.nx
def spGet (args : List Value) (H : Hp) : Ans := match args with
  | [.pointer (some ⟨b, 0, none⟩), .int .i64 (.ofNat at_), .int .i64 n] => (match memOk (H.blk b) with
    | some t => Bc (eqI n 16 && (Nat.beq (Nat.mod at_ 8) 0 && (Nat.blt (Nat.div at_ 8) 65535 && nxOk H)))
      (match byteOk (t.get (Nat.div at_ 8)) (t.get (Nat.succ (Nat.div at_ 8))) with
        | some k => some (sy (k + 300), H, bit b, 0)
        | none => none) none
    | none => none)
  | _ => none
def num16 (s : ByteArray) : Nat := s.data.toList.foldl (fun n d => Nat.add (Nat.mul 2 n) (Nat.sub d.toNat 48)) 0
def setB (t : T Value) (b at_ : Nat) (v : Value) (H : Hp) : Ans :=
  Bc (Nat.beq (Nat.mod at_ 8) 0 && (Nat.blt (Nat.div at_ 8) 65535 && nxOk H))
      (some (.tuple #[], H.put b (.cells (T.set 6 (T.set 6 t (Nat.div at_ 8) (.int .u8 0)) (Nat.succ (Nat.div at_ 8)) v) 65536 199 0 0 0), 0, bit b)) none
def spSet (args : List Value) (H : Hp) : Ans := match args with
  | [.pointer (some ⟨b, 0, none⟩), .int .i64 (.ofNat at_), s] => (match memOk (H.blk b) with
    | some t => (match s with
      | .chan (some k) => Bc (Nat.ble 500 k && Nat.blt k 562) (setB t b at_ (sy (Nat.sub k 300)) H) none
      | .string s => Bc (Nat.blt (num16 s) 61 && eqBs s.data.toList (bits16 (num16 s)).data.toList) (setB t b at_ (.int .u8 (.ofNat (num16 s))) H) none
      | _ => none)
    | none => none)
  | _ => none
def spNE (args : List Value) (H : Hp) : Ans := match args with
  | [x] => some (x, H, 0, 0)
  | _ => none
def spMk (args : List Value) (H : Hp) : Ans := match args with
  | [.int .i64 (.ofNat n)] => Bc (Nat.ble n 1099511627776) (match alloc1 (.cells (.e U) 0 5 2 0 0) H (fun i => .slice (some ⟨i, 0, none⟩) n 1) 0 0 with
    | .val v H' r w => some (v, H', r, w)
    | _ => none) none
  | _ => none
def spM (f : Nat) (args : List Value) (H : Hp) : Ans := Bc (Nat.beq f 367) (spNE args H) (Bc (Nat.beq f 446) (spMk args H) none)
def spMem (args : List Value) (H : Hp) : Ans := match args with
  | [] => (match alloc1 (.cells (.e (.int .u8 0)) 65536 199 0 0 0) H ptrTo 0 0 with | .val v H' r w => some (v, H', r, w) | _ => none)
  | _ => none
def memo1 (v : Value) (args : List Value) (H : Hp) : Ans := match args with
  | [t] => Bc (isTy 15 t) (ans v H) none
  | _ => none
def spTy (f : Nat) (args : List Value) (H : Hp) : Ans :=
  Bc (Nat.beq f 234) (memo1 (nV 0) args H) (Bc (Nat.beq f 166) (memo1 (nV 0) args H) (Bc (Nat.beq f 165) (memo1 (nV 16) args H) (Bc (Nat.beq f 229) (memo1 (.bool true) args H) (Bc (Nat.beq f 164) (memo1 (nV 16) args H) (Bc (Nat.beq f 123) (memo1 (.bool true) args H) none)))))
def mkTy : Nat := 2 ^ 234 + 2 ^ 166 + 2 ^ 165 + 2 ^ 229 + 2 ^ 164 + 2 ^ 123
def mkM : Nat := 2 ^ 367 + 2 ^ 446
def mkSy : Nat := 2 ^ 148 + 2 ^ 144 + 2 ^ 150 + 2 ^ 163 + 2 ^ 199 + 2 ^ 135 + 2 ^ 307 + 2 ^ 308 + 2 ^ 137
def spSy (lim : Nat) (base : Bool) (f : Nat) (args : List Value) (H : Hp) : Ans :=
  Bc (Nat.beq f 148) (spDo lim args H) (Bc (Nat.beq f 144) (spTo args H) (Bc (Nat.beq f 150) (spCmp lim base args H) (Bc (Nat.beq f 163) (spChk args H) (Bc (Nat.beq f 199) (spFits args H) (Bc (Nat.beq f 135) (spEnc args H) (Bc (Nat.beq f 307) (spDec args H) (Bc (Nat.beq f 308) (spGet args H) (Bc (Nat.beq f 137) (spSet args H) none))))))))
def npS (x : Ans) : Ans := match x with
  | some (v, q) => (match unPan v with | none => some (v, q) | some _ => none)
  | none => none
def spX (lim : Nat) (base : Bool) (g : Nat) (nest : List Value → Hp → Ans) (f : Nat) (args : List Value) (H : Hp) : Ans :=
  Bc (Nat.testBit mkTy f) (npS (spTy f args H)) (Bc (Nat.testBit mkSy f) (npS (spSy lim base f args H)) (Bc (Nat.beq f g) (nest args H) (Bc (Nat.testBit mkM f) (npS (spM f args H)) (Bc (Nat.beq f 54) (npS (spMem args H)) none))))
end Go.Ev.SM
end
noncomputable section
namespace Go.Ev
variable [SyQ]
section
def Hp.isFn : Hp → Bool | .fn _ _ => true | .mk _ _ => false
theorem fn_room {H : Hp} (h : H.isFn = true) : H.room = true := by cases H with | mk => cases h | fn => rfl
theorem fn_wf {H : Hp} (h : H.isFn = true) : H.wf := by cases H with | mk => cases h | fn => trivial
theorem isFn_push (H : Hp) (x : Blk) : (H.push x).isFn = H.isFn := by cases H <;> rfl
theorem isFn_put (H : Hp) (b : Nat) (x : Blk) : (H.put b x).isFn = H.isFn := by cases H <;> rfl
theorem exFill_some (l : List Value) (k : List Value → R) : exFill (some l) k = k l := rfl
end
end Go.Ev
end
noncomputable section
namespace Go.Ev
variable [SyQ]
theorem exUn_not (b : Bool) (H : Hp) : exUn .not (.bool b) H = .val (.bool (!b)) H 0 0 := by cases b <;> rfl
theorem callV_func (f : FuncId) (args : List Value) : callV (.func (.func f) #[] #[]) args = .call f args := by
  show R.call f ([] ++ (args ++ [])) = _
  simp
theorem alloc_ptr {H : Hp} (hf : H.isFn = true) (x : Blk) : alloc1 x H ptrTo 0 0 = .val (.pointer (some ⟨H.nx, 0, none⟩)) (H.push x) 0 0 := by rw [alloc1_room (fn_room hf)]; rfl
section
variable {tb : Tb} {sp : Nat → List Value → Hp → Option (Value × Hp × Nat × Nat)} {e : Env}
theorem WOR.mono {d : Nat} {H : Hp} {K K' : T Value → Prop} (hk : ∀ t', K' t' → K t') : ∀ {cos : List CO} {t : T Value}, WOR e d H K' cos t → WOR e d H K cos t := by
  intro cos
  induction cos with
  | nil => intro t h; exact hk t h
  | cons o cos ih =>
    intro t h
    rw [WOR] at h ⊢
    cases hg : wants t o.guard with
    | true =>
      rw [hg] at h
      revert h
      cases run o.op t H with
      | val v H' r w => exact fun h => ⟨h.1, h.2.1, h.2.2.1, ih h.2.2.2⟩
      | _ => exact fun h => h.elim
    | false => rw [hg] at h; exact ih h
theorem WK.reg_rr {cx : Cx} {cos : List CO} {t : T Value} {ds : List Deferred} {H : Hp} {K : Ex → T Value → List Deferred → Hp → Prop} (K' : T Value → Prop) (h : WOR e cx.d H K' cos t) (hk : ∀ t', K' t' → K .normal t' ds H) : WK tb sp e cx (.reg cos) t ds H K := WK.reg_r (h.mono hk)
theorem WOG.mono {tb : Tb} {d : Nat} {K K' : T Value → Hp → Prop} (hk : ∀ t' H', K' t' H' → K t' H') : ∀ {cos : List CO} {t : T Value} {H : Hp}, WOG tb sp e d K' cos t H → WOG tb sp e d K cos t H := by
  intro cos
  induction cos with
  | nil => intro t H h; rw [WOG] at *; exact hk t H h
  | cons o cos ih =>
    intro t H h
    rw [WOG] at h ⊢
    cases hg : wants t o.guard with
    | true =>
      rw [hg] at h
      revert h
      cases run o.op t H with
      | val v H' r w => exact fun h => ⟨h.1, h.2.1, ih h.2.2⟩
      | call f args => exact fun h => h.mono fun v H1 _ hh => by rw [WOGk] at *; exact ih hh
      | _ => exact fun h => h.elim
    | false => rw [hg] at h; exact ih h
theorem WK.reg_gg {tb : Tb} {cx : Cx} {cos : List CO} {t : T Value} {ds : List Deferred} {H : Hp} {K : Ex → T Value → List Deferred → Hp → Prop} (K' : T Value → Hp → Prop) (h : WOG tb sp e cx.d K' cos t H) (hk : ∀ t' H', K' t' H' → K .normal t' ds H') : WK tb sp e cx (.reg cos) t ds H K := WK.reg_g (h.mono hk)
structure Kept (H H' : Hp) : Prop where
  fn : H'.isFn = true
  nx : H.nx ≤ H'.nx
  old : ∀ b, b < H.nx → H'.blk b = H.blk b
theorem Kept.refl {H : Hp} (h : H.isFn = true) : Kept H H := ⟨h, Nat.le_refl _, fun _ _ => rfl⟩
theorem Kept.trans {H H1 H2 : Hp} (h : Kept H H1) (g : Kept H1 H2) : Kept H H2 := ⟨g.fn, Nat.le_trans h.nx g.nx, fun b hb => (g.old b (Nat.lt_of_lt_of_le hb h.nx)).trans (h.old b hb)⟩
end
end Go.Ev
end
noncomputable section
namespace Go.Ev
variable [SyQ]
def Env.sub (e : Env) (N0 nx : Nat) : Env := ⟨nx, fun b => b < N0 ∧ (b < e.n0 → e.Rd b), fun _ => False⟩
section
variable {tb : Tb} {sp : Nat → List Value → Hp → Option (Value × Hp × Nat × Nat)} {e : Env} {N0 : Nat}
theorem bit_lt {b N0 : Nat} (h : b < N0) : ∀ c, (bit b).testBit c = true → c < N0 := fun c hc => by rw [(bit_iff b c).1 hc]; exact h
end
end Go.Ev
end
noncomputable section
namespace Go.Ev
variable [SyQ]
inductive Cl where
  | p | q | l
def Env.subL (e : Env) (N0 nx : Nat) : Env := ⟨nx, fun b => b < e.n0 → e.Rd b, fun b => N0 ≤ b⟩
section
variable {tb : Tb} {sp : Nat → List Value → Hp → Option (Value × Hp × Nat × Nat)} {e : Env} {N0 : Nat}
theorem Chk.ord {B : Array Nat} {i : Nat} {R W : Nat → Prop} {A : List En} {ps : List Nat} (hA : ∀ en ∈ A, en.i ∈ ps) (h : ps.all (fun j => (B.getD i 0).testBit j) = true) : Chk B i R W A := fun en hm => .inl (List.all_eq_true.1 h _ (hA en hm))
theorem ps_cons {A : List En} {ps : List Nat} {i : Nat} {R W : Nat → Prop} (hA : ∀ en ∈ A, en.i ∈ ps) : ∀ en ∈ (⟨i, R, W⟩ :: A : List En), en.i ∈ i :: ps := fun en hm => by
  rcases List.mem_cons.1 hm with rfl | hm
  · exact List.mem_cons_self
  · exact List.mem_cons_of_mem _ (hA en hm)
end
end Go.Ev
end
noncomputable section
namespace Go.Ev
variable [SyQ]
inductive C4 where
  | p | q | l | x | u | y | z
def chkC4 (B : Array Nat) : Nat → List Nat → List Nat → List Nat → List C4 → Bool
  | _, _, _, _, [] => true
  | i, ps, qs, xs, c :: cl => (match c with
    | .p => chkC4 B (i + 1) ps qs xs cl
    | .q => xs.all (fun j => (B.getD i 0).testBit j) && chkC4 B (i + 1) (i :: ps) (i :: qs) xs cl
    | .l => ps.all (fun j => (B.getD i 0).testBit j) && chkC4 B (i + 1) (i :: ps) (i :: qs) xs cl
    | .x => ps.all (fun j => (B.getD i 0).testBit j) && chkC4 B (i + 1) (i :: ps) (i :: qs) (i :: xs) cl
    | .u => xs.all (fun j => (B.getD i 0).testBit j) && chkC4 B (i + 1) (i :: ps) qs xs cl
    | .y => qs.all (fun j => (B.getD i 0).testBit j) && chkC4 B (i + 1) (i :: ps) (i :: qs) (i :: xs) cl
    | .z => qs.all (fun j => (B.getD i 0).testBit j) && chkC4 B (i + 1) (i :: ps) (i :: qs) (i :: xs) cl)
def Env.subX (e : Env) (nx : Nat) : Env := ⟨nx, fun b => b < e.n0 → e.Rd b, fun b => b < e.n0 → e.Wr b⟩
section
variable (tb : Tb) (sp : Nat → List Value → Hp → Option (Value × Hp × Nat × Nat)) (e : Env) (N0 : Nat) (Us : Nat → Prop)
mutual
def WOX (d : Nat) (K : T Value → Hp → Prop) : List CO → List C4 → T Value → Hp → Prop
  | [], _, t, H => K t H
  | _ :: _, [], _, _ => False
  | o :: cos, c :: cl, t, H => (match wants t o.guard with
    | true => (match run o.op t H with
      | .val v H1 r w => (match c with
        | .p => r = 0 ∧ w = 0 ∧ H1 = H ∧ WOX d K cos cl (putT d t o.dst v) H1
        | .q => e.ok r 0 H1 ∧ w = 0 ∧ H.nx ≤ H1.nx ∧ (∀ b, r.testBit b = true → b < N0) ∧ WOX d K cos cl (putT d t o.dst v) H1
        | .l => e.ok r w H1 ∧ H.nx ≤ H1.nx ∧ (∀ b, w.testBit b = true → N0 ≤ b) ∧ WOX d K cos cl (putT d t o.dst v) H1
        | .x => e.ok r w H1 ∧ H.nx ≤ H1.nx ∧ WOX d K cos cl (putT d t o.dst v) H1
        | .u => e.ok r 0 H1 ∧ w = 0 ∧ H1 = H ∧ (∀ b, r.testBit b = true → b < N0 ∧ Us b) ∧ WOX d K cos cl (putT d t o.dst v) H1
        | .y => e.ok r w H1 ∧ H1.nx = H.nx ∧ r = 0 ∧ (∀ b, w.testBit b = true → ¬ Us b) ∧ WOX d K cos cl (putT d t o.dst v) H1
        | .z => e.ok r w H1 ∧ H.nx ≤ H1.nx ∧ (∀ b, w.testBit b = true ∨ (H.nx ≤ b ∧ b < H1.nx) → ¬ Us b) ∧ WOX d K cos cl (putT d t o.dst v) H1)
      | .call f args => (match c with
        | .p => False
        | .q => EC tb sp (e.sub N0 H.nx) f args H (WOXk d K cos cl t o.dst)
        | .l => EC tb sp (e.subL N0 H.nx) f args H (WOXk d K cos cl t o.dst)
        | .x => EC tb sp (e.subX H.nx) f args H (WOXk d K cos cl t o.dst)
        | _ => False)
      | _ => False)
    | false => WOX d K cos cl (putT d t o.dst U) H)
def WOXk (d : Nat) (K : T Value → Hp → Prop) (cos : List CO) (cl : List C4) (t : T Value) (dst : Option Tmp) : Value → Hp → Prop := fun v H1 => WOX d K cos cl (putT d t dst v) H1
end
end
section
variable {tb : Tb} {sp : Nat → List Value → Hp → Option (Value × Hp × Nat × Nat)} {e : Env} {N0 : Nat} {Us : Nat → Prop}
def TameX (N0 nx : Nat) (xs : List Nat) (A : List En) : Prop := ∀ en ∈ A, en.i ∈ xs ∨ ((∀ b, en.W b → N0 ≤ b ∧ b < nx) ∧ ∀ b, en.R b → b < nx)
theorem TameX.mono {nx nx' : Nat} {xs : List Nat} {A : List En} (h : TameX N0 nx xs A) (hn : nx ≤ nx') : TameX N0 nx' xs A := fun en hm =>
  (h en hm).imp id fun h => ⟨fun b hb => ⟨(h.1 b hb).1, Nat.lt_of_lt_of_le (h.1 b hb).2 hn⟩, fun b hb => Nat.lt_of_lt_of_le (h.2 b hb) hn⟩
theorem TameX.chk {nx : Nat} {xs : List Nat} {A : List En} {B : Array Nat} {i : Nat} {R W : Nat → Prop} (h : TameX N0 nx xs A) (hx : xs.all (fun j => (B.getD i 0).testBit j) = true) (hN : N0 ≤ nx) (hR : ∀ b, R b → b < N0 ∨ nx ≤ b) (hW : ∀ b, W b → nx ≤ b) : Chk B i R W A := by
  intro en hm
  rcases h en hm with h | ⟨h1, h2⟩
  · exact .inl (List.all_eq_true.1 hx _ h)
  refine .inr ⟨fun b hb => ⟨fun hr => ?_, fun hw => ?_⟩, fun b hw hr => ?_⟩
  · have := h1 b hb
    rcases hR b hr with h | h <;> omega
  · have := h1 b hb; have := hW b hw; omega
  · have := h2 b hr; have := hW b hw; omega
theorem TameX.cons {nx nx' : Nat} {xs : List Nat} {A : List En} {i : Nat} {R W : Nat → Prop} (h : TameX N0 nx xs A) (hn : nx ≤ nx') (hR : ∀ b, R b → b < nx') (hW : ∀ b, W b → N0 ≤ b ∧ b < nx') : TameX N0 nx' xs (⟨i, R, W⟩ :: A) := by
  intro en hm
  rcases List.mem_cons.1 hm with rfl | hm
  · exact .inr ⟨hW, hR⟩
  · exact h.mono hn en hm
theorem TameX.alone {nx nx' : Nat} {xs : List Nat} {A : List En} {i : Nat} {R W : Nat → Prop} (h : TameX N0 nx xs A) (hn : nx ≤ nx') : TameX N0 nx' (i :: xs) (⟨i, R, W⟩ :: A) := by
  intro en hm
  rcases List.mem_cons.1 hm with rfl | hm
  · exact .inl List.mem_cons_self
  · exact (h.mono hn en hm).imp (List.mem_cons_of_mem _) id
theorem TameX.more {nx : Nat} {xs : List Nat} {A : List En} (i : Nat) (h : TameX N0 nx xs A) : TameX N0 nx (i :: xs) A := fun en hm => (h en hm).imp (List.mem_cons_of_mem _) id
def Reads (Us : Nat → Prop) (qs : List Nat) (A : List En) : Prop := ∀ en ∈ A, en.i ∈ qs ∨ ((∀ b, en.R b → Us b) ∧ ∀ b, ¬ en.W b)
theorem Reads.cons {qs : List Nat} {A : List En} {i : Nat} {R W : Nat → Prop} (h : Reads Us qs A) : Reads Us (i :: qs) (⟨i, R, W⟩ :: A) := fun en hm => by
  rcases List.mem_cons.1 hm with rfl | hm
  · exact .inl List.mem_cons_self
  · exact (h en hm).imp (List.mem_cons_of_mem _) id
theorem Reads.more {qs : List Nat} {A : List En} (i : Nat) (h : Reads Us qs A) : Reads Us (i :: qs) A := fun en hm => (h en hm).imp (List.mem_cons_of_mem _) id
theorem WD.of_wox {cx : Cx} {B : Array Nat} {K : T Value → Hp → Prop} {ds : List Deferred} (he : e.n0 ≤ N0) : ∀ {cos : List CO} {cl : List C4} {ps qs xs : List Nat} {i : Nat} {t : T Value} {H : Hp} {A : List En}, N0 ≤ H.nx → TameX N0 H.nx xs A → (∀ en ∈ A, en.i ∈ ps) → Reads Us qs A → chkC4 B i ps qs xs cl = true → WOX tb sp e N0 Us cx.d K cos cl t H →
    WD tb sp e cx B cos i t ds H A (fun t' ds' H' => ds' = ds ∧ K t' H') := by
  intro cos
  induction cos with
  | nil => intro cl ps qs xs i t H A _ _ _ _ _ h; rw [WOX] at h; exact WD.nil ⟨rfl, h⟩
  | cons o cos ih =>
    intro cl ps qs xs i t H A hN hA hps hqs hcl h
    cases cl with
    | nil => rw [WOX] at h; exact h.elim
    | cons c cl =>
    rw [WOX] at h
    have hps' : ∀ en ∈ A, en.i ∈ i :: ps := fun en hm => List.mem_cons_of_mem _ (hps en hm)
    cases hg : wants t o.guard with
    | false =>
      rw [hg] at h
      refine WD.skip hg ?_
      cases c with
      | p => exact ih hN hA hps hqs (by simpa only [chkC4] using hcl) h
      | q => exact ih hN hA hps' (hqs.more i) (by simp only [chkC4, Bool.and_eq_true] at hcl; exact hcl.2) h
      | l => exact ih hN hA hps' (hqs.more i) (by simp only [chkC4, Bool.and_eq_true] at hcl; exact hcl.2) h
      | x => exact ih hN (hA.more i) hps' (hqs.more i) (by simp only [chkC4, Bool.and_eq_true] at hcl; exact hcl.2) h
      | u => exact ih hN hA hps' hqs (by simp only [chkC4, Bool.and_eq_true] at hcl; exact hcl.2) h
      | y => exact ih hN (hA.more i) hps' (hqs.more i) (by simp only [chkC4, Bool.and_eq_true] at hcl; exact hcl.2) h
      | z => exact ih hN (hA.more i) hps' (hqs.more i) (by simp only [chkC4, Bool.and_eq_true] at hcl; exact hcl.2) h
    | true =>
      rw [hg] at h
      refine WD.cons hg ?_
      revert h
      cases run o.op t H with
      | val v H1 r w =>
        cases c with
        | p =>
          rintro ⟨rfl, rfl, rfl, h⟩
          exact ⟨.zero _ _, Nat.le_refl _, .inl ⟨rfl, rfl, rfl, ih hN hA hps hqs (by simpa only [chkC4] using hcl) h⟩⟩
        | q =>
          rintro ⟨h1, rfl, h2, h3, h4⟩
          simp only [chkC4, Bool.and_eq_true] at hcl
          refine ⟨h1, h2, .inr ⟨fun b => b < N0, fun b => H.nx ≤ b ∧ b < H1.nx, h3, fun b hb => ?_, hA.chk hcl.1 hN (fun b hb => .inl hb) (fun b hb => hb.1), ih (Nat.le_trans hN h2) (hA.cons h2 (fun b hb => ?_) fun b hb => ⟨Nat.le_trans hN hb.1, hb.2⟩) (ps_cons hps) hqs.cons hcl.2 h4⟩⟩
          · rcases hb with hb | hb
            · simp at hb
            · exact hb
          · exact Nat.lt_of_lt_of_le hb (Nat.le_trans hN h2)
        | l =>
          rintro ⟨h1, h2, h3, h4⟩
          simp only [chkC4, Bool.and_eq_true] at hcl
          refine ⟨h1, h2, .inr ⟨fun b => r.testBit b = true, fun b => w.testBit b = true ∨ (H.nx ≤ b ∧ b < H1.nx), fun b hb => hb, fun b hb => hb, Chk.ord hps hcl.1, ih (Nat.le_trans hN h2) (hA.cons h2 (fun b hb => h1.lt b (.inl hb)) fun b hb => ?_) (ps_cons hps) hqs.cons hcl.2 h4⟩⟩
          rcases hb with hb | hb
          · exact ⟨h3 b hb, h1.lt b (.inr hb)⟩
          · exact ⟨Nat.le_trans hN hb.1, hb.2⟩
        | x =>
          rintro ⟨h1, h2, h4⟩
          simp only [chkC4, Bool.and_eq_true] at hcl
          exact ⟨h1, h2, .inr ⟨fun b => r.testBit b = true, fun b => w.testBit b = true ∨ (H.nx ≤ b ∧ b < H1.nx), fun b hb => hb, fun b hb => hb, Chk.ord hps hcl.1, ih (Nat.le_trans hN h2) (hA.alone h2) (ps_cons hps) hqs.cons hcl.2 h4⟩⟩
        | u =>
          rintro ⟨h1, rfl, rfl, h3, h4⟩
          simp only [chkC4, Bool.and_eq_true] at hcl
          refine ⟨h1, Nat.le_refl _, .inr ⟨fun b => b < N0 ∧ Us b, fun _ => False, h3, fun b hb => ?_, hA.chk hcl.1 hN (fun b hb => .inl hb.1) (fun b hb => hb.elim), ih hN (hA.cons (Nat.le_refl _) (fun b hb => Nat.lt_of_lt_of_le hb.1 hN) fun b hb => hb.elim) (ps_cons hps) ?_ hcl.2 h4⟩⟩
          · rcases hb with hb | hb
            · simp at hb
            · omega
          · intro en hm
            rcases List.mem_cons.1 hm with rfl | hm
            · exact .inr ⟨fun b hb => hb.2, fun b hb => hb⟩
            · exact hqs en hm
        | y =>
          rintro ⟨h1, h2, rfl, h3, h4⟩
          simp only [chkC4, Bool.and_eq_true] at hcl
          refine ⟨h1, by omega, .inr ⟨fun _ => False, fun b => ¬ Us b, fun b hb => by simp at hb, fun b hb => ?_, fun en hm => ?_, ih (by omega) (hA.alone (by omega)) (ps_cons hps) hqs.cons hcl.2 h4⟩⟩
          · rcases hb with hb | hb
            · exact h3 b hb
            · omega
          · rcases hqs en hm with hq | ⟨hq1, hq2⟩
            · exact .inl (List.all_eq_true.1 hcl.1 _ hq)
            · exact .inr ⟨fun b hb => absurd hb (hq2 b), fun b hb hr => hb (hq1 b hr)⟩
        | z =>
          rintro ⟨h1, h2, h3, h4⟩
          simp only [chkC4, Bool.and_eq_true] at hcl
          refine ⟨h1, h2, .inr ⟨fun b => r.testBit b = true, fun b => w.testBit b = true ∨ (H.nx ≤ b ∧ b < H1.nx), fun b hb => hb, fun b hb => hb, fun en hm => ?_, ih (Nat.le_trans hN h2) (hA.alone h2) (ps_cons hps) hqs.cons hcl.2 h4⟩⟩
          rcases hqs en hm with hq | ⟨hq1, hq2⟩
          · exact .inl (List.all_eq_true.1 hcl.1 _ hq)
          · exact .inr ⟨fun b hb => absurd hb (hq2 b), fun b hb hr => h3 b hb (hq1 b hr)⟩
      | call f args =>
        cases c with
        | p => exact fun h => h.elim
        | q =>
          intro h
          simp only [chkC4, Bool.and_eq_true] at hcl
          refine ⟨e.sub N0 H.nx, Nat.le_trans he hN, rfl, fun b hb hr => hr.2 hb, fun b _ hw => hw.elim, EC.mono h fun v H1 hle hk R W hR hW => ?_⟩
          rw [WOXk] at hk
          have hR' : ∀ b, R b → b < N0 ∨ H.nx ≤ b := fun b hb => by
            rcases (hR b).1 hb with h | h
            · exact .inl h.2.1
            · exact .inr h.1
          have hW' : ∀ b, W b → H.nx ≤ b ∧ b < H1.nx := fun b hb => by
            rcases (hW b).1 hb with h | h
            · exact h.2.elim
            · exact h
          refine ⟨hA.chk hcl.1 hN hR' (fun b hb => (hW' b hb).1), ih (Nat.le_trans hN hle) (hA.cons hle (fun b hb => ?_) fun b hb => ⟨Nat.le_trans hN (hW' b hb).1, (hW' b hb).2⟩) (ps_cons hps) hqs.cons hcl.2 hk⟩
          rcases (hR b).1 hb with h | h
          · exact Nat.lt_of_lt_of_le h.1 hle
          · exact h.2
        | l =>
          intro h
          simp only [chkC4, Bool.and_eq_true] at hcl
          refine ⟨e.subL N0 H.nx, Nat.le_trans he hN, rfl, fun b hb hr => hr hb, fun b hb hw => ?_, EC.mono h fun v H1 hle hk R W hR hW => ?_⟩
          · have hw' : N0 ≤ b := hw
            omega
          rw [WOXk] at hk
          refine ⟨Chk.ord hps hcl.1, ih (Nat.le_trans hN hle) (hA.cons hle (fun b hb => ?_) fun b hb => ?_) (ps_cons hps) hqs.cons hcl.2 hk⟩
          · rcases (hR b).1 hb with h | h
            · exact Nat.lt_of_lt_of_le h.1 hle
            · exact h.2
          · rcases (hW b).1 hb with h | h
            · exact ⟨h.2, Nat.lt_of_lt_of_le h.1 hle⟩
            · exact ⟨Nat.le_trans hN h.1, h.2⟩
        | x =>
          intro h
          simp only [chkC4, Bool.and_eq_true] at hcl
          refine ⟨e.subX H.nx, Nat.le_trans he hN, rfl, fun b hb hr => hr hb, fun b hb hw => hw hb, EC.mono h fun v H1 hle hk R W hR hW => ?_⟩
          rw [WOXk] at hk
          exact ⟨Chk.ord hps hcl.1, ih (Nat.le_trans hN hle) (hA.alone hle) (ps_cons hps) hqs.cons hcl.2 hk⟩
        | u => exact fun h => h.elim
        | y => exact fun h => h.elim
        | z => exact fun h => h.elim
      | _ => exact fun h => h.elim
theorem WK.draw_x {cx : Cx} {B : Array Nat} {cos : List CO} {t : T Value} {ds : List Deferred} {H : Hp} {K : Ex → T Value → List Deferred → Hp → Prop} (cl : List C4) (K' : T Value → Hp → Prop) (he : e.n0 ≤ H.nx) (hc : chkC4 B 0 [] [] [] cl = true)
    (h : WOX tb sp e H.nx Us cx.d K' cos cl t H) (hk : ∀ t' H', K' t' H' → K .normal t' ds H') : WK tb sp e cx (.draw B cos) t ds H K := by
  refine WK.draw ?_
  obtain ⟨N, t', ds', H', r, w, h1, h2, h3, rfl, h4⟩ := WD.of_wox (B := B) (ds := ds) (i := 0) (A := []) (ps := []) (qs := []) (xs := []) he (Nat.le_refl _) (fun en hm => by cases hm) (fun en hm => by cases hm) (fun en hm => by cases hm) hc h
  exact ⟨N, t', _, H', r, w, h1, h2, h3, hk _ _ h4⟩
end
end Go.Ev
end
noncomputable section
namespace Go.Ar
abbrev By := Nat → UInt8
end Go.Ar
namespace Go.Ev
variable [SyQ]
abbrev vN (z : Int) : Value := .int .i64 z
abbrev vS (s : List UInt8) : Value := .string ⟨⟨s⟩⟩
end Go.Ev
namespace Go.Ev
variable [SyQ]
section
variable {tb : Tb} {sp : Nat → List Value → Hp → Option (Value × Hp × Nat × Nat)} {e : Env} {N0 : Nat} {Us : Nat → Prop} {d : Nat} {K K1 : T Value → Hp → Prop} {cos : List CO} {t : T Value} {H : Hp}
theorem WOG.all (K1 : T Value → Hp → Prop) (h : WOG tb sp e d K1 cos t H) (hk : ∀ t' H', K1 t' H' → K t' H') : WOG tb sp e d K cos t H := h.mono hk
theorem WOX.mono (hk : ∀ t' H', K1 t' H' → K t' H') : ∀ {cos : List CO} {cl : List C4} {t : T Value} {H : Hp}, WOX tb sp e N0 Us d K1 cos cl t H → WOX tb sp e N0 Us d K cos cl t H := by
  intro cos
  induction cos with
  | nil => intro cl t H h; rw [WOX] at *; exact hk t H h
  | cons o cos ih =>
    intro cl t H h
    cases cl with
    | nil => rw [WOX] at h; exact h.elim
    | cons c cl =>
    rw [WOX] at h ⊢
    cases hg : wants t o.guard with
    | true =>
      rw [hg] at h
      revert h
      cases run o.op t H with
      | val v H' r w =>
        cases c with
        | p => exact fun h => ⟨h.1, h.2.1, h.2.2.1, ih h.2.2.2⟩
        | q => exact fun h => ⟨h.1, h.2.1, h.2.2.1, h.2.2.2.1, ih h.2.2.2.2⟩
        | l => exact fun h => ⟨h.1, h.2.1, h.2.2.1, ih h.2.2.2⟩
        | x => exact fun h => ⟨h.1, h.2.1, ih h.2.2⟩
        | u => exact fun h => ⟨h.1, h.2.1, h.2.2.1, h.2.2.2.1, ih h.2.2.2.2⟩
        | y => exact fun h => ⟨h.1, h.2.1, h.2.2.1, h.2.2.2.1, ih h.2.2.2.2⟩
        | z => exact fun h => ⟨h.1, h.2.1, h.2.2.1, ih h.2.2.2⟩
      | call f args =>
        cases c with
        | p => exact fun h => h.elim
        | q => exact fun h => h.mono fun v H1 _ hh => by rw [WOXk] at *; exact ih hh
        | l => exact fun h => h.mono fun v H1 _ hh => by rw [WOXk] at *; exact ih hh
        | x => exact fun h => h.mono fun v H1 _ hh => by rw [WOXk] at *; exact ih hh
        | u => exact fun h => h.elim
        | y => exact fun h => h.elim
        | z => exact fun h => h.elim
      | _ => exact fun h => h.elim
    | false => rw [hg] at h; exact ih h
theorem WOX.all {cl : List C4} (K1 : T Value → Hp → Prop) (h : WOX tb sp e N0 Us d K1 cos cl t H) (hk : ∀ t' H', K1 t' H' → K t' H') : WOX tb sp e N0 Us d K cos cl t H := WOX.mono hk h
theorem WK.draw_xx {cx : Cx} {B : Array Nat} {ds : List Deferred} {K : Ex → T Value → List Deferred → Hp → Prop} (Us : Nat → Prop) (cl : List C4) (he : e.n0 ≤ H.nx) (hc : chkC4 B 0 [] [] [] cl = true)
    (h : WOX tb sp e H.nx Us cx.d (fun t' H' => K .normal t' ds H') cos cl t H) : WK tb sp e cx (.draw B cos) t ds H K := WK.draw_x cl _ he hc h fun _ _ h => h
end
theorem no_bits (P : Nat → Prop) : (∀ b, Nat.testBit 0 b = true → P b) ↔ True := by simp
theorem the_bit {b : Nat} {P : Nat → Prop} (h : P b) : ∀ c, (bit b).testBit c = true → P c := fun c hc => by rw [(bit_iff _ _).1 hc]; exact h
structure NB (H : Hp) (L : List Value) (ty : Nat) (H1 : Hp) : Prop where
  al : alloc1 (blkL L ty 0) H ptrTo 0 0 = .val (.pointer (some ⟨H.nx, 0, none⟩)) H1 0 0
  row : Row H1 H.nx ty 0 L
  kept : Kept H H1
  nx : H1.nx = H.nx + 1
theorem newB {H : Hp} (hf : H.isFn = true) (L : List Value) (ty : Nat) : ∃ H1, NB H L ty H1 :=
  ⟨H.push (blkL L ty 0), alloc_ptr hf _, row_push (fn_room hf) _ _ _, ⟨by rw [isFn_push]; exact hf, by rw [nx_push]; omega, fun b hb => blk_push_old (fn_room hf) _ hb⟩, nx_push _ _⟩
structure WrB (H : Hp) (b ty op : Nat) (L : List Value) (H1 : Hp) : Prop where
  row : Row H1 b ty op L
  fn : H1.isFn = true
  nx : H1.nx = H.nx
  else_ : ∀ c, c ≠ b → H1.blk c = H.blk c
theorem wrN_at {H : Hp} {b ty op o : Nat} {L vs : List Value} (hf : H.isFn = true) (h : Row H b ty op L) (hle : o + vs.length ≤ L.length) : ∃ H1, wrN H b o vs = some H1 ∧ WrB H b ty op (L.take o ++ vs ++ L.drop (o + vs.length)) H1 := by
  obtain ⟨t, hb, ht⟩ := h
  have hlt : b < H.nx := ((alive_iff H b).2 (by rw [hb]; simp)).1
  refine ⟨H.put b (.cells (wrL (dep L.length) vs o t) L.length ty op 0 0), ?_, ?_, by rw [isFn_put]; exact hf, nx_put _ _ _, fun c hc => blk_put_ne (fn_wf hf) _ hlt hc⟩
  · unfold wrN
    rw [hb]
    simp only []
    rw [thawed_zero, Bool.and_true, (ble_iff _ _).2 hle, Bc_t]
  · have hlen : (L.take o ++ vs ++ L.drop (o + vs.length)).length = L.length := by
      rw [List.length_append, List.length_append, List.length_take, List.length_drop]; omega
    refine ⟨wrL (dep L.length) vs o t, ?_, fun i v hv => ?_⟩
    · rw [hlen, blk_put _ (fn_wf hf) hlt, if_pos rfl]
    · have hi : i < L.length := by
        rcases Nat.lt_or_ge i L.length with h | h
        · exact h
        · rw [List.getElem?_eq_none (by omega)] at hv; cases hv
      have hd : L.length < 8 ^ dep L.length := lt_dep _
      rw [wrL_get _ _ _ _ _ (by omega) (by omega)]
      by_cases h1 : o ≤ i ∧ i < o + vs.length
      · rw [if_pos h1]
        rw [List.getElem?_append_left (by rw [List.length_append, List.length_take]; omega), List.getElem?_append_right (by rw [List.length_take]; omega), List.length_take, Nat.min_eq_left (by omega)] at hv
        rw [List.getD_eq_getElem?_getD, hv]; rfl
      · rw [if_neg h1]
        by_cases h2 : i < o
        · rw [List.getElem?_append_left (by rw [List.length_append, List.length_take]; omega), List.getElem?_append_left (by rw [List.length_take]; omega), List.getElem?_take, if_pos h2] at hv
          exact ht i v hv
        · rw [List.getElem?_append_right (by rw [List.length_append, List.length_take]; omega), List.getElem?_drop, List.length_append, List.length_take, Nat.min_eq_left (by omega), show o + vs.length + (i - (o + vs.length)) = i by omega] at hv
          exact ht i v hv
theorem exStN_at {H : Hp} {b ty op o : Nat} {L vs : List Value} (hf : H.isFn = true) (h : Row H b ty op L) (hle : o + vs.length ≤ L.length) :
    ∃ H1, exSt vs.length (.pointer (some ⟨b, o, none⟩)) (.agg ⟨vs⟩) H = .val U H1 0 (bit b) ∧ WrB H b ty op (L.take o ++ vs ++ L.drop (o + vs.length)) H1 := by
  obtain ⟨H1, h1, h2⟩ := wrN_at hf h hle
  refine ⟨H1, ?_, h2⟩
  show (match some vs with | some vs' => Bc (Nat.beq vs'.length vs.length) (match wrN H b o vs' with | some H' => R.val U H' 0 (bit b) | none => .fail) .fail | none => .fail) = _
  simp only [h1, (beq_iff _ _).2 rfl, Bc_t]
theorem exSt_one {v : Value} (h : oneC v = true) (p : Value) (H : Hp) : exSt 1 p v H = exSt 1 p (.agg ⟨[v]⟩) H := by
  cases v <;> first | rfl | (cases h; done) | (rename_i ch; cases ch <;> first | rfl | cases h)
theorem exSt1_at {H : Hp} {b ty op o : Nat} {L : List Value} {v : Value} (hv : oneC v = true) (hf : H.isFn = true) (h : Row H b ty op L) (hle : o + 1 ≤ L.length) :
    ∃ H1, exSt 1 (.pointer (some ⟨b, o, none⟩)) v H = .val U H1 0 (bit b) ∧ WrB H b ty op (L.take o ++ [v] ++ L.drop (o + 1)) H1 := by
  obtain ⟨H1, h1, h2⟩ := exStN_at (vs := [v]) hf h hle
  exact ⟨H1, by rw [exSt_one hv]; exact h1, h2⟩
open Go.Ar (By)
def uB (u : UInt8) : Value := .int .u8 (.ofNat u.toNat)
def bys (f : By) (n : Nat) : List Value := (List.range n).map fun i => uB (f i)
def strF (f : By) (n : Nat) : List UInt8 := (List.range n).map f
theorem bys_len (f : By) (n : Nat) : (bys f n).length = n := by simp [bys]
theorem strF_len (f : By) (n : Nat) : (strF f n).length = n := by simp [strF]
theorem bys_get {f : By} {n i : Nat} (h : i < n) : (bys f n)[i]? = some (uB (f i)) := by simp [bys, h]
theorem strF_get {f : By} {n i : Nat} (h : i < n) : (strF f n)[i]? = some (f i) := by simp [strF, h]
theorem bys_congr {f g : By} {n : Nat} (h : ∀ i, i < n → f i = g i) : bys f n = bys g n := List.map_congr_left fun i hi => by rw [h i (List.mem_range.1 hi)]
theorem bys_cut {f : By} {n o k : Nat} (h : o + k ≤ n) : ((bys f n).drop o).take k = bys (fun i => f (o + i)) k := by
  apply List.ext_getElem?
  intro i
  rw [List.getElem?_take]
  split
  · rename_i hi
    rw [List.getElem?_drop, bys_get (by omega), bys_get hi]
  · rename_i hi
    rw [List.getElem?_eq_none (by rw [bys_len]; omega)]
def over (f : By) (o k : Nat) (g : By) : By := fun i => if o ≤ i ∧ i < o + k then g (i - o) else f i
theorem bys_over {f g : By} {n o k : Nat} (h : o + k ≤ n) : (bys f n).take o ++ bys g k ++ (bys f n).drop (o + k) = bys (over f o k g) n := by
  apply List.ext_getElem?
  intro i
  by_cases hi : i < n
  · rw [bys_get hi]
    unfold over
    by_cases h1 : i < o
    · rw [List.getElem?_append_left (by rw [List.length_append, List.length_take, bys_len, bys_len]; omega), List.getElem?_append_left (by rw [List.length_take, bys_len]; omega), List.getElem?_take, if_pos h1, bys_get hi, if_neg (by omega)]
    · by_cases h2 : i < o + k
      · rw [List.getElem?_append_left (by rw [List.length_append, List.length_take, bys_len, bys_len]; omega), List.getElem?_append_right (by rw [List.length_take, bys_len]; omega), List.length_take, bys_len, Nat.min_eq_left (by omega), bys_get (by omega), if_pos ⟨by omega, h2⟩]
      · rw [List.getElem?_append_right (by rw [List.length_append, List.length_take, bys_len, bys_len]; omega), List.getElem?_drop, List.length_append, List.length_take, bys_len, bys_len, Nat.min_eq_left (by omega), show o + k + (i - (o + k)) = i by omega, bys_get hi, if_neg (by omega)]
  · rw [List.getElem?_eq_none (by rw [List.length_append, List.length_append, List.length_take, List.length_drop, bys_len, bys_len]; omega), List.getElem?_eq_none (by rw [bys_len]; omega)]
theorem strOf_bys (f : By) (n : Nat) : strOf (bys f n) = some (strF f n) := by
  unfold strOf bys strF
  rw [show ((List.range n).map fun i => uB (f i)).all isU8 = true from List.all_eq_true.2 fun v hv => by obtain ⟨i, _, rfl⟩ := List.mem_map.1 hv; rfl, Bc_t, List.map_map]
  congr 1
  apply List.map_congr_left
  intro i _
  show UInt8.ofNat (Int.ofNat (f i).toNat).toNat = f i
  simp
abbrev ByU (H : Hp) (b ty : Nat) (f : By) (n : Nat) : Prop := Row H b ty 0 (bys f n)
theorem ByU.ld {H : Hp} {b ty n i : Nat} {f : By} (h : ByU H b ty f n) (hi : i < n) : exLd1 (.pointer (some ⟨b, i, none⟩)) H = .val (uB (f i)) H (bit b) 0 := exLd1_row h (bys_get hi)
theorem ByU.rdN {H : Hp} {b ty n o k : Nat} {f : By} (h : ByU H b ty f n) (hle : o + k ≤ n) : rdN H b o k = some (bys (fun i => f (o + i)) k) := by
  rw [rdN_row h (by rw [bys_len]; exact hle), bys_cut hle]
theorem ByU.toS {H : Hp} {b ty n o k c : Nat} {f : By} (h : ByU H b ty f n) (hle : o + k ≤ n) : exToS (.slice (some ⟨b, o, none⟩) k c) H = .val (vS (strF (fun i => f (o + i)) k)) H (bit b) 0 := by
  show (match Go.Ev.rdN H b o k with | some l => (match strV l with | some s => R.val s H (bit b) 0 | none => .fail) | none => .fail) = _
  rw [h.rdN hle]
  simp only [strV, orH, strOf_bys]
structure NS (H : Hp) (n : Nat) (H1 : Hp) : Prop where
  made : exMkSl 5 1 [.int .u8 0] (vN n) (vN n) H = .val (.slice (some ⟨H.nx, 0, none⟩) n (2 * n)) H1 0 0
  row : ByU H1 H.nx 5 (fun _ => 0) n
  kept : Kept H H1
  nx : H1.nx = H.nx + 1
theorem newS {H : Hp} (hf : H.isFn = true) {n : Nat} (hn : n ≤ 1099511627776) : ∃ H1, NS H n H1 := by
  refine ⟨H.push (.cells (.e (.int .u8 0)) n 5 0 0 0), ?_, ⟨.e (.int .u8 0), ?_, fun i v hv => ?_⟩, ⟨by rw [isFn_push]; exact hf, by rw [nx_push]; omega, fun b hb => blk_push_old (fn_room hf) _ hb⟩, nx_push _ _⟩
  · show Bc (Nat.ble n n && Nat.ble (n * 1) 1099511627776 && Nat.ble n 1099511627776) (alloc1 (.cells (.e (.int .u8 0)) n 5 0 0 0) H (fun i => mkSlV (some (i, 0)) n n false) 0 0) .fail = _
    rw [(ble_iff _ _).2 (Nat.le_refl n), (ble_iff _ _).2 (show n * 1 ≤ 1099511627776 by omega), (ble_iff _ _).2 hn]
    rw [show (true && true && true) = true from rfl, Bc_t, alloc1_room (fn_room hf)]
    rfl
  · rw [bys_len, blk_push _ (fn_room hf), if_pos rfl]
  · have hi : i < n := by
      rcases Nat.lt_or_ge i n with h | h
      · exact h
      · rw [List.getElem?_eq_none (by rw [bys_len]; exact h)] at hv; cases hv
    rw [bys_get hi] at hv
    exact Option.some.inj hv
structure OvB (H : Hp) (b ty : Nat) (f : By) (n : Nat) (H1 : Hp) : Prop where
  row : ByU H1 b ty f n
  fn : H1.isFn = true
  nx : H1.nx = H.nx
  else_ : ∀ c, c ≠ b → H1.blk c = H.blk c
theorem WrB.ov {H H1 : Hp} {b ty n o k : Nat} {f g : By} (hle : o + k ≤ n) (h : WrB H b ty 0 ((bys f n).take o ++ bys g k ++ (bys f n).drop (o + (bys g k).length)) H1) : OvB H b ty (over f o k g) n H1 := by
  obtain ⟨h1, h2, h3, h4⟩ := h
  rw [bys_len, bys_over hle] at h1
  exact ⟨h1, h2, h3, h4⟩
theorem ByU.st {H : Hp} {b ty n i : Nat} {f : By} {u : UInt8} (hf : H.isFn = true) (h : ByU H b ty f n) (hi : i < n) : ∃ H1, exSt 1 (.pointer (some ⟨b, i, none⟩)) (uB u) H = .val U H1 0 (bit b) ∧ OvB H b ty (over f i 1 fun _ => u) n H1 := by
  obtain ⟨H1, h1, h2⟩ := exSt1_at (v := uB u) (o := i) rfl hf h (by rw [bys_len]; omega)
  exact ⟨H1, h1, WrB.ov (k := 1) (g := fun _ => u) (by omega) h2⟩
theorem bnd_some {x : Nat} {dflt hi : Nat} (h : x ≤ hi) : bnd (some (vN (x : Nat))) dflt hi = some x := by
  show (match (some ((x : Nat) : Int)) with | some n => (match natI n with | some m => Bc (Nat.ble m hi) (some m) none | none => none) | none => none) = _
  show Bc (Nat.ble x hi) (some x) none = _
  rw [(ble_iff _ _).2 h, Bc_t]
end Go.Ev
namespace Go.Ev
variable [SyQ]
theorem Yj : (!true) = false := rfl
theorem Yk : (!false) = true := rfl
theorem Yl (n : Nat) : 0 + n = n := Nat.zero_add n
theorem Ym (n : Nat) : n + 0 = n := rfl
theorem Yn (n : Nat) : n ≤ n := Nat.le_refl n
theorem Yo {α : Type} {n : Nat} {a : α} {l : List α} : (a :: l).take (n + 1) = a :: l.take n := rfl
theorem Yp {α : Type} {l : List α} : l.take 0 = [] := by cases l <;> rfl
theorem Yq {α : Type} {n : Nat} {a : α} {l : List α} : (a :: l).drop (n + 1) = l.drop n := rfl
theorem Yr {α : Type} {l : List α} : l.drop 0 = l := rfl
end Go.Ev
namespace Go.Ev
variable [SyQ]
abbrev iN (n : Nat) : Value := .int .i64 ((n : Nat) : Int)
abbrev pA (b o : Nat) : Value := .pointer (some ⟨b, o, none⟩)
abbrev sC (b o n c : Nat) : Value := .slice (some ⟨b, o, none⟩) n c
section
variable {tb : Tb} {sp : Nat → List Value → Hp → Option (Value × Hp × Nat × Nat)} {e : Env} {N0 : Nat} {Us : Nat → Prop} {d : Nat} {K : T Value → Hp → Prop} {cos : List CO} {t : T Value} {H : Hp}
theorem WOG.hide (h : ∀ K0 : T Value → Hp → Prop, (∀ t H, K t H → K0 t H) → WOG tb sp e d K0 cos t H) : WOG tb sp e d K cos t H := h K fun _ _ h => h
end
end Go.Ev
namespace Go.Ev
variable [SyQ]
section
variable {H H' : Hp} {b b2 ty op : Nat} {L : List Value}
theorem Row.mv (h : Row H b ty op L) (k : Kept H H') : Row H' b ty op L := h.of_blk (k.old _ h.lt)
theorem okr {e : Env} (h : Row H b ty op L) (hb : e.n0 ≤ b) : e.ok (bit b) 0 H := .read h.lt fun h => absurd h (by omega)
end
end Go.Ev
namespace Go.Ev
variable [SyQ]
theorem Xo (d : Nat) {i j : Nat} (hi : i < 8 ^ d) (hj : j < 8 ^ d) (t : T Value) (v : Value) : (putT d t (some i) v).get j = if j = i then v else t.get j := get_putT hi hj t v
end Go.Ev
namespace Go.Ev
variable [SyQ]
section
variable {tb : Tb} {sp : Nat → List Value → Hp → Option (Value × Hp × Nat × Nat)} {e : Env} {f : FuncId} {fn : Func} {c : Code} {k : KC} {a0 a1 a2 a3 a4 : Value} {H : Hp} {K : Value → Hp → Prop} (hf : tb.fn f = some fn) (hb : fn.body = some c) (hk : kcomp tb fn.ntmps c = k)
include hf hb hk
theorem EC.i1 (hs : sp f [a0] H = none) (hn : 1 ≤ fn.ntmps) (h : ∀ t0 : T Value, t0.get 0 = a0 → WK tb sp e (cxOf fn) k t0 [] H (Leaves tb e fn K)) : EC tb sp e f [a0] H K := EC.intro hs hf hb hk hn (h _ (enterT_get (args := [a0]) hn (by omega)))
theorem EC.i2 (hs : sp f [a0, a1] H = none) (hn : 2 ≤ fn.ntmps) (h : ∀ t0 : T Value, t0.get 0 = a0 → t0.get 1 = a1 → WK tb sp e (cxOf fn) k t0 [] H (Leaves tb e fn K)) : EC tb sp e f [a0, a1] H K := EC.intro hs hf hb hk hn (h _ (enterT_get (args := [a0, a1]) hn (by omega)) (enterT_get (args := [a0, a1]) hn (by omega)))
theorem EC.i3 (hs : sp f [a0, a1, a2] H = none) (hn : 3 ≤ fn.ntmps) (h : ∀ t0 : T Value, t0.get 0 = a0 → t0.get 1 = a1 → t0.get 2 = a2 → WK tb sp e (cxOf fn) k t0 [] H (Leaves tb e fn K)) : EC tb sp e f [a0, a1, a2] H K := EC.intro hs hf hb hk hn (h _ (enterT_get (args := [a0, a1, a2]) hn (by omega)) (enterT_get (args := [a0, a1, a2]) hn (by omega)) (enterT_get (args := [a0, a1, a2]) hn (by omega)))
end
end Go.Ev
namespace Go.Ev
variable [SyQ]
def GT (t : T Value) : List (Nat × Value) → Prop
  | [] => True
  | (i, v) :: l => t.get i = v ∧ GT t l
theorem wF {x y : Int} (h : -9223372036854775808 ≤ x ∧ x ≤ 9223372036854775807 ∧ x = y) : Value.int .i64 (wrapF .i64 x) = .int .i64 y := congrArg _ ((wrapF_i64 h.1 h.2.1).trans h.2.2)
end Go.Ev
end
