/-
  A part of the proof that pliantlaw15.RtsReads returns true and leaves its arguments alone. Conditions: those of the card in the last text.
-/
import Derived.KernelRfl
import Derived.Test.YtgdejggelcpokaaGreatDoorG10
import Derived.Test.YtgdejggelcpokaaGreatDoorG12
import Derived.Test.YtgdejggelcpokaaGreatDoorG23
set_option linter.unusedSimpArgs false
set_option linter.unusedVariables false
set_option linter.unusedSectionVars false

noncomputable section
namespace Go.Ds
open Go.Ev Go.Proofs.RS
abbrev ML := List (Str × Str × Nat)
def findS : ML → Str → Nat → Option (Nat × Str)
  | [], _, _ => none
  | x :: L, k, i => if eqBs k x.1 then some (i, x.2.1) else findS L k (i + 1)
theorem findS_none {k : Str} : ∀ {L : ML} {i : Nat}, (∀ x ∈ L, x.1 ≠ k) → findS L k i = none
  | [], _, _ => rfl
  | x :: L, i, h => by
    unfold findS
    rw [eqBs_ne (Ne.symm (h x (by simp)))]
    exact findS_none fun y hy => h y (by simp [hy])
theorem findS_some {k v : Str} {b : Nat} : ∀ {L : ML} {i : Nat}, (L.map (·.1)).Nodup → (k, v, b) ∈ L → ∃ A B, L = A ++ (k, v, b) :: B ∧ findS L k i = some (i + A.length, v)
  | [], _, _, h => by cases h
  | x :: L, i, hn, h => by
    rw [List.map_cons, List.nodup_cons] at hn
    rcases List.mem_cons.1 h with rfl | h
    · exact ⟨[], L, rfl, by unfold findS; rw [eqBs_self]; rfl⟩
    · have hne : k ≠ x.1 := fun e => hn.1 (List.mem_map.2 ⟨_, h, e⟩)
      obtain ⟨A, B, h1, h2⟩ := findS_some (i := i + 1) hn.2 h
      refine ⟨x :: A, B, by rw [h1]; rfl, ?_⟩
      unfold findS
      rw [eqBs_ne hne]
      show findS L k (i + 1) = _
      rw [h2, List.length_cons]
      congr 2; omega
structure Good (d : DS) (L : ML) (clk : Nat) : Prop where
  srt : Sorted d
  ok : ∀ r ∈ d, (∃ c : UInt8, r.1 = [c]) ∧ r.2.length ≤ 255
  mem : ∀ k v, (∃ b, (k, v, b) ∈ L) ↔ (k, v) ∈ d
  keys : (L.map (·.1)).Nodup
  born : (L.map (·.2.2)).Nodup
  clk : ∀ x ∈ L, x.2.2 < clk
theorem Good.nil : Good [] [] 0 where
  srt := List.Pairwise.nil
  ok := fun r h => by cases h
  mem := fun k v => ⟨fun ⟨b, h⟩ => (by cases h), fun h => (by cases h)⟩
  keys := List.nodup_nil
  born := List.nodup_nil
  clk := fun x h => by cases h
theorem sorted_nodup {d : DS} (h : Sorted d) : (d.map (·.1)).Nodup := by
  unfold List.Nodup
  rw [List.pairwise_map]
  exact h.imp fun h => ltBs_ne h
section
variable {d : DS} {L : ML} {clk : Nat}
theorem Good.check (g : Good d L clk) (h : d.length ≤ 64) : checkB d = true := by
  unfold checkB
  rw [Bool.and_eq_true, List.all_eq_true]
  refine ⟨decide_eq_true h, fun i hi => ?_⟩
  have hi' := List.mem_range.1 hi
  unfold okAt
  rw [List.getElem?_eq_getElem hi']
  simp only [Bool.and_eq_true]
  have hm := g.ok _ (List.getElem_mem hi')
  refine ⟨?_, ?_⟩
  · unfold recB keyB dataB
    obtain ⟨⟨c, hc⟩, hl⟩ := hm
    rw [hc]
    simp [hl]
  · cases i with
    | zero => rfl
    | succ j =>
      simp only []
      rw [List.getElem?_eq_getElem (show j < d.length by omega)]
      exact List.pairwise_iff_getElem.1 g.srt j (j + 1) (by omega) hi' (by omega)
theorem Good.len (g : Good d L clk) : L.length = d.length := by
  have h1 : (L.map fun x => (x.1, x.2.1)).Nodup := by
    have := g.keys
    unfold List.Nodup at this ⊢
    rw [List.pairwise_map] at this ⊢
    exact this.imp fun h e => h (by injection e)
  have h2 : d.Nodup := by
    have := sorted_nodup g.srt
    unfold List.Nodup at this ⊢
    rw [List.pairwise_map] at this
    exact this.imp fun h e => h (by rw [e])
  have hp : (L.map fun x => (x.1, x.2.1)).Perm d := (List.perm_ext_iff_of_nodup h1 h2).2 fun a => by
    obtain ⟨k, v⟩ := a
    rw [← g.mem k v]
    constructor
    · intro h
      obtain ⟨x, hx, e⟩ := List.mem_map.1 h
      obtain ⟨k', v', b⟩ := x
      cases e
      exact ⟨b, hx⟩
    · rintro ⟨b, h⟩
      exact List.mem_map.2 ⟨_, h, rfl⟩
  have := hp.length_eq
  rwa [List.length_map] at this
theorem Good.at (g : Good d L clk) (k : Str) : (isAt d k = false ∧ (∀ x ∈ L, x.1 ≠ k) ∧ ∀ x ∈ d, x.1 ≠ k) ∨ ∃ v b, isAt d k = true ∧ (k, v) ∈ d ∧ (k, v, b) ∈ L := by
  obtain ⟨A, R, rfl, h2, h3, h4⟩ := split (k := k) g.srt
  have hA : ∀ x ∈ A, x.1 ≠ k := fun x hx => ltBs_ne (h3 x hx)
  rcases h4 with ⟨r, R', rfl, rfl, h5⟩ | h5
  · refine .inr ?_
    have hm : (r.1, r.2) ∈ A ++ r :: R' := by simp
    obtain ⟨b, hb⟩ := (g.mem r.1 r.2).2 hm
    refine ⟨r.2, b, ?_, hm, hb⟩
    unfold isAt
    rw [h2, List.getElem?_append_right (Nat.le_refl _), Nat.sub_self]
    exact eqBs_self _
  · refine .inl ?_
    have hd : ∀ x ∈ A ++ R, x.1 ≠ k := fun x hx => by
      rcases List.mem_append.1 hx with hx | hx
      · exact hA x hx
      · exact Ne.symm (ltBs_ne (h5 x hx))
    refine ⟨?_, fun x hx e => ?_, hd⟩
    · unfold isAt
      rw [h2, List.getElem?_append_right (Nat.le_refl _), Nat.sub_self]
      cases R with
      | nil => rfl
      | cons y R => exact eqBs_ne (hd y (by simp))
    · obtain ⟨k', v, b⟩ := x
      simp only at e
      subst e
      exact hd _ ((g.mem _ v).1 ⟨b, hx⟩) rfl
theorem Good.write (g : Good d L clk) {c : UInt8} {v : Str} (hv : v.length ≤ 255) (hn : isAt d [c] = false) (hl : d.length < 64) : ∃ d', writeI d ([c], v) = some d' ∧ Good d' (L ++ [([c], v, clk)]) (clk + 1) ∧ d'.length = d.length + 1 := by
  rcases g.at [c] with ⟨_, hL, hd⟩ | ⟨v', b, h, _⟩
  case inr => rw [h] at hn; cases hn
  obtain ⟨A, R, rfl, h2, h3, h4⟩ := split (k := [c]) g.srt
  have h5 : ∀ x ∈ R, ltBs [c] x.1 = true := by
    rcases h4 with ⟨r, R', rfl, e, h5⟩ | h5
    · exact absurd e (hd r (by simp))
    · exact h5
  refine ⟨A ++ ([c], v) :: R, ?_, ⟨?_, fun r hr => ?_, fun k u => ?_, ?_, ?_, fun x hx => ?_⟩, by simp; omega⟩
  · unfold writeI
    rw [hn, if_neg (by decide), if_neg (by omega), h2]
    simp
  · have hs := g.srt
    unfold Sorted at hs ⊢
    rw [List.pairwise_append] at hs ⊢
    refine ⟨hs.1, List.pairwise_cons.2 ⟨h5, hs.2.1⟩, fun x hx y hy => ?_⟩
    rcases List.mem_cons.1 hy with rfl | hy
    · exact h3 x hx
    · exact hs.2.2 x hx y hy
  · rcases List.mem_append.1 hr with hr | hr
    · exact g.ok r (by simp [hr])
    · rcases List.mem_cons.1 hr with rfl | hr
      · exact ⟨⟨c, rfl⟩, hv⟩
      · exact g.ok r (by simp [hr])
  · have := g.mem k u
    simp only [List.mem_append, List.mem_cons, List.mem_singleton, Prod.mk.injEq] at this ⊢
    constructor
    · rintro ⟨b, h | h⟩
      · rcases this.1 ⟨b, h⟩ with h | h
        · exact .inl h
        · exact .inr (.inr h)
      · exact .inr (.inl (by simp at h; exact ⟨h.1, h.2.1⟩))
    · rintro (h | ⟨rfl, rfl⟩ | h)
      · obtain ⟨b, hb⟩ := this.2 (.inl h); exact ⟨b, .inl hb⟩
      · exact ⟨clk, .inr (by simp)⟩
      · obtain ⟨b, hb⟩ := this.2 (.inr h); exact ⟨b, .inl hb⟩
  · rw [List.map_append, List.nodup_append]
    refine ⟨g.keys, by simp, fun a ha b hb => ?_⟩
    obtain ⟨x, hx, rfl⟩ := List.mem_map.1 ha
    simp at hb
    rw [hb]
    exact hL x hx
  · rw [List.map_append, List.nodup_append]
    refine ⟨g.born, by simp, fun a ha b hb => ?_⟩
    obtain ⟨x, hx, rfl⟩ := List.mem_map.1 ha
    simp at hb
    rw [hb]
    exact Nat.ne_of_lt (g.clk x hx)
  · rcases List.mem_append.1 hx with hx | hx
    · exact Nat.lt_succ_of_lt (g.clk x hx)
    · rw [List.mem_singleton.1 hx]; exact Nat.lt_succ_self _
theorem findS_at {k v : Str} {b : Nat} {B : ML} : ∀ (A : ML) (i : Nat), (∀ x ∈ A, x.1 ≠ k) → findS (A ++ (k, v, b) :: B) k i = some (i + A.length, v)
  | [], i, _ => by show (if eqBs k k then some (i, v) else _) = _; rw [eqBs_self]; rfl
  | y :: A, i, h => by
    show (if eqBs k y.1 then _ else findS (A ++ (k, v, b) :: B) k (i + 1)) = _
    rw [eqBs_ne (Ne.symm (h y (by simp))), if_neg (by decide), findS_at A (i + 1) (fun x hx => h x (by simp [hx])), List.length_cons]
    congr 2; omega
theorem Good.parts (g : Good d L clk) {k v : Str} {b : Nat} (hm : (k, v, b) ∈ L) : ∃ A R A' B', d = A ++ (k, v) :: R ∧ pos d k = A.length ∧ isAt d k = true ∧ (∀ x ∈ A, ltBs x.1 k = true) ∧ (∀ x ∈ R, ltBs k x.1 = true) ∧ L = A' ++ (k, v, b) :: B' ∧ (∀ i, findS L k i = some (i + A'.length, v)) ∧ (∀ x ∈ A', x.1 ≠ k) ∧ ∀ x ∈ B', x.1 ≠ k := by
  have hd : (k, v) ∈ d := (g.mem k v).1 ⟨b, hm⟩
  obtain ⟨A, R, hdd, h2, h3, h4⟩ := split (k := k) g.srt
  obtain ⟨A', B', hL, _⟩ := findS_some (i := 0) g.keys hm
  have hkeys := g.keys
  rw [hL, List.map_append, List.nodup_append, List.map_cons, List.nodup_cons] at hkeys
  have hA' : ∀ x ∈ A', x.1 ≠ k := fun x hx => hkeys.2.2 _ (List.mem_map.2 ⟨x, hx, rfl⟩) k (by simp)
  have hB' : ∀ x ∈ B', x.1 ≠ k := fun x hx e => hkeys.2.1.1 (List.mem_map.2 ⟨x, hx, e⟩)
  have hfind : ∀ i, findS L k i = some (i + A'.length, v) := fun i => by
    rw [hL]
    exact findS_at A' i hA'
  rcases h4 with ⟨r, R', rfl, hrk, h5⟩ | h5
  · have hrv : r = (k, v) := by
      rw [hdd] at hd
      rcases List.mem_append.1 hd with h | h
      · exact absurd rfl (ltBs_ne (h3 _ h))
      · rcases List.mem_cons.1 h with h | h
        · exact h.symm
        · exact absurd rfl (ltBs_ne (h5 _ h))
    subst hrv
    refine ⟨A, R', A', B', hdd, h2, ?_, h3, h5, hL, hfind, hA', hB'⟩
    unfold isAt
    rw [h2, hdd, List.getElem?_append_right (Nat.le_refl _), Nat.sub_self]
    exact eqBs_self _
  · rw [hdd] at hd
    rcases List.mem_append.1 hd with h | h
    · exact absurd rfl (ltBs_ne (h3 _ h))
    · exact absurd rfl (ltBs_ne (h5 _ h))
theorem Good.rewrite (g : Good d L clk) {k u v : Str} {b : Nat} (hm : (k, u, b) ∈ L) (hv : v.length ≤ 255) : ∃ d' i, rewriteI d (k, v) = some d' ∧ findS L k 0 = some (i, u) ∧ Good d' (L.modify i fun x => (k, v, x.2.2)) clk ∧ d'.length = d.length := by
  obtain ⟨A, R, A', B', hd, h2, h3, h4, h5, hL, hf, hA', hB'⟩ := g.parts hm
  have hLm : L.modify A'.length (fun x => (k, v, x.2.2)) = A' ++ (k, v, b) :: B' := by
    rw [hL]
    clear hf hL hA'
    induction A' with
    | nil => rfl
    | cons y A' ih => rw [List.length_cons, List.cons_append, List.modify_succ_cons, ih, List.cons_append]
  have hmem : ∀ k' v' b', (k', v', b') ∈ A' ++ (k, v, b) :: B' ↔ (k' = k ∧ v' = v ∧ b' = b) ∨ ((k', v', b') ∈ L ∧ k' ≠ k) := fun k' v' b' => by
    rw [hL]
    simp only [List.mem_append, List.mem_cons, Prod.mk.injEq]
    constructor
    · rintro (h | h | h)
      · exact .inr ⟨.inl h, hA' _ h⟩
      · exact .inl h
      · exact .inr ⟨.inr (.inr h), hB' _ h⟩
    · rintro (h | ⟨h | h | h, hne⟩)
      · exact .inr (.inl h)
      · exact .inl h
      · exact absurd h.1 hne
      · exact .inr (.inr h)
  refine ⟨A ++ (k, v) :: R, A'.length, ?_, by rw [hf, Nat.zero_add], ?_, by rw [hd]; simp⟩
  · unfold rewriteI
    rw [h3, if_pos rfl, h2, hd]
    simp
  · rw [hLm]
    refine ⟨?_, fun r hr => ?_, fun k' v' => ?_, ?_, ?_, fun x hx => ?_⟩
    · have hs := g.srt
      rw [hd] at hs
      unfold Sorted at hs ⊢
      rw [List.pairwise_append] at hs ⊢
      refine ⟨hs.1, List.pairwise_cons.2 ⟨h5, (List.pairwise_cons.1 hs.2.1).2⟩, fun x hx y hy => ?_⟩
      rcases List.mem_cons.1 hy with rfl | hy
      · exact h4 x hx
      · exact hs.2.2 x hx y (by simp [hy])
    · rcases List.mem_append.1 hr with hr | hr
      · exact g.ok r (by rw [hd]; simp [hr])
      · rcases List.mem_cons.1 hr with rfl | hr
        · exact ⟨(g.ok (k, u) (by rw [hd]; simp)).1, hv⟩
        · exact g.ok r (by rw [hd]; simp [hr])
    · have hg := g.mem k' v'
      constructor
      · rintro ⟨b', h⟩
        rcases (hmem _ _ _).1 h with ⟨rfl, rfl, rfl⟩ | ⟨h, hne⟩
        · simp
        · have := hg.1 ⟨b', h⟩
          rw [hd] at this
          simp only [List.mem_append, List.mem_cons, Prod.mk.injEq] at this ⊢
          rcases this with h | h | h
          · exact .inl h
          · exact absurd h.1 hne
          · exact .inr (.inr h)
      · intro h
        simp only [List.mem_append, List.mem_cons, Prod.mk.injEq] at h
        rcases h with h | ⟨rfl, rfl⟩ | h
        · obtain ⟨b', hb⟩ := hg.2 (by rw [hd]; simp [h])
          exact ⟨b', (hmem _ _ _).2 (.inr ⟨hb, ltBs_ne (h4 _ h)⟩)⟩
        · exact ⟨b, (hmem _ _ _).2 (.inl ⟨rfl, rfl, rfl⟩)⟩
        · obtain ⟨b', hb⟩ := hg.2 (by rw [hd]; simp [h])
          exact ⟨b', (hmem _ _ _).2 (.inr ⟨hb, Ne.symm (ltBs_ne (h5 _ h))⟩)⟩
    · have := g.keys
      rw [hL] at this
      simpa using this
    · have := g.born
      rw [hL] at this
      simpa using this
    · obtain ⟨k', v', b'⟩ := x
      rcases (hmem _ _ _).1 hx with ⟨_, _, rfl⟩ | ⟨h, _⟩
      · exact g.clk (k, u, _) hm
      · exact g.clk _ h
theorem Good.delete (g : Good d L clk) {k u : Str} {b : Nat} (hm : (k, u, b) ∈ L) : ∃ d' i, deleteI d k = some d' ∧ findS L k 0 = some (i, u) ∧ Good d' (L.eraseIdx i) clk ∧ d'.length ≤ d.length := by
  obtain ⟨A, R, A', B', hd, h2, h3, h4, h5, hL, hf, hA', hB'⟩ := g.parts hm
  have hLm : L.eraseIdx A'.length = A' ++ B' := by
    rw [hL, List.eraseIdx_append_of_length_le (Nat.le_refl _)]; simp
  have hmem : ∀ k' v' b', (k', v', b') ∈ A' ++ B' ↔ (k', v', b') ∈ L ∧ k' ≠ k := fun k' v' b' => by
    rw [hL]
    simp only [List.mem_append, List.mem_cons, Prod.mk.injEq]
    constructor
    · rintro (h | h)
      · exact ⟨.inl h, hA' _ h⟩
      · exact ⟨.inr (.inr h), hB' _ h⟩
    · rintro ⟨h | h | h, hne⟩
      · exact .inl h
      · exact absurd h.1 hne
      · exact .inr h
  refine ⟨A ++ R, A'.length, ?_, by rw [hf, Nat.zero_add], ?_, by rw [hd]; simp⟩
  · unfold deleteI
    rw [h3, if_pos rfl, h2, hd, List.eraseIdx_append_of_length_le (Nat.le_refl _)]; simp
  · rw [hLm]
    have hsubA : (A' ++ B').Sublist L := by rw [hL]; exact List.Sublist.append (List.Sublist.refl _) (List.sublist_cons_self _ _)
    refine ⟨?_, fun r hr => ?_, fun k' v' => ?_, List.Nodup.sublist (hsubA.map _) g.keys, List.Nodup.sublist (hsubA.map _) g.born, fun x hx => g.clk x (hsubA.subset hx)⟩
    · have hs := g.srt
      rw [hd] at hs
      exact List.Pairwise.sublist (List.Sublist.append (List.Sublist.refl _) (List.sublist_cons_self _ _)) hs
    · refine g.ok r ?_
      rw [hd]
      rcases List.mem_append.1 hr with hr | hr <;> simp [hr]
    · have hg := g.mem k' v'
      constructor
      · rintro ⟨b', h⟩
        obtain ⟨h, hne⟩ := (hmem _ _ _).1 h
        have := hg.1 ⟨b', h⟩
        rw [hd] at this
        simp only [List.mem_append, List.mem_cons, Prod.mk.injEq] at this ⊢
        rcases this with h | h | h
        · exact .inl h
        · exact absurd h.1 hne
        · exact .inr h
      · intro h
        rcases List.mem_append.1 h with h | h
        · obtain ⟨b', hb⟩ := hg.2 (by rw [hd]; simp [h])
          exact ⟨b', (hmem _ _ _).2 ⟨hb, ltBs_ne (h4 _ h)⟩⟩
        · obtain ⟨b', hb⟩ := hg.2 (by rw [hd]; simp [h])
          exact ⟨b', (hmem _ _ _).2 ⟨hb, Ne.symm (ltBs_ne (h5 _ h))⟩⟩
def WminOn (last : Str) (P : Str → Prop) (w : Str) : Prop := (w = [] ∧ ∀ k, P k → ltBs last k = false) ∨ (P w ∧ ltBs last w = true ∧ ∀ k, P k → ltBs last k = true → ltBs k w = false)
theorem WminOn.step {last : Str} {P : Str → Prop} {w k : Str} (h : WminOn last P w) (hne : ∀ k, P k → k ≠ []) : WminOn last (fun x => P x ∨ x = k) (if (ltBs last k && (eqBs w [] || ltBs k w)) = true then k else w) := by
  cases hk : ltBs last k with
  | false =>
    rw [Bool.false_and, if_neg (by decide)]
    rcases h with ⟨rfl, h⟩ | ⟨h1, h2, h3⟩
    · exact .inl ⟨rfl, fun x hx => by rcases hx with hx | rfl; exact h x hx; exact hk⟩
    · refine .inr ⟨.inl h1, h2, fun x hx hl => ?_⟩
      rcases hx with hx | rfl
      · exact h3 x hx hl
      · rw [hk] at hl; cases hl
  | true =>
    rw [Bool.true_and]
    rcases h with ⟨rfl, h⟩ | ⟨h1, h2, h3⟩
    · rw [eqBs_self, Bool.true_or, if_pos rfl]
      refine .inr ⟨.inr rfl, hk, fun x hx hl => ?_⟩
      rcases hx with hx | rfl
      · rw [h x hx] at hl; cases hl
      · exact ltBs_irr x
    · rw [eqBs_ne (hne w h1), Bool.false_or]
      cases hkw : ltBs k w with
      | true =>
        rw [if_pos rfl]
        refine .inr ⟨.inr rfl, hk, fun x hx hl => ?_⟩
        rcases hx with hx | rfl
        · cases hc : ltBs x k with
          | false => rfl
          | true => have := ltBs_trans hc hkw; rw [h3 x hx hl] at this; cases this
        · exact ltBs_irr x
      | false =>
        rw [if_neg (by decide)]
        refine .inr ⟨.inl h1, h2, fun x hx hl => ?_⟩
        rcases hx with hx | rfl
        · exact h3 x hx hl
        · exact hkw
theorem Good.next (g : Good d L clk) {last w : Str} (hw : WminOn last (fun k => ∃ v b, (k, v, b) ∈ L) w) : (w = [] ∧ nextI d last = none) ∨ ∃ v b, w ≠ [] ∧ (w, v, b) ∈ L ∧ nextI d last = some (w, v) := by
  have hne : ∀ k, (∃ v b, (k, v, b) ∈ L) → k ≠ [] := fun k ⟨v, b, h⟩ => by
    obtain ⟨⟨c, hc⟩, _⟩ := g.ok _ ((g.mem k v).1 ⟨b, h⟩)
    simp only at hc
    rw [hc]; simp
  obtain ⟨A, R, hd, h2, h3, h4⟩ := split (k := last) g.srt
  have hbeh : ∃ A2 R2 : DS, d = A2 ++ R2 ∧ nextI d last = R2[0]? ∧ (∀ x ∈ A2, ltBs last x.1 = false) ∧ ∀ x ∈ R2, ltBs last x.1 = true := by
    rcases h4 with ⟨r, R', rfl, hr, h5⟩ | h5
    · refine ⟨A ++ [r], R', by rw [hd]; simp, ?_, fun x hx => ?_, h5⟩
      · unfold nextI isAt
        rw [h2, hd, List.getElem?_append_right (Nat.le_refl _), Nat.sub_self]
        simp only [List.getElem?_cons_zero, hr, eqBs_self, if_true]
        rw [List.getElem?_append_right (by omega), show A.length + 1 - A.length = 1 by omega]; simp
      · rcases List.mem_append.1 hx with hx | hx
        · exact ltBs_asymm (h3 x hx)
        · rw [List.mem_singleton.1 hx, hr]; exact ltBs_irr _
    · refine ⟨A, R, hd, ?_, fun x hx => ltBs_asymm (h3 x hx), h5⟩
      have hno : isAt d last = false := by
        unfold isAt
        rw [h2, hd, List.getElem?_append_right (Nat.le_refl _), Nat.sub_self]
        cases R with
        | nil => rfl
        | cons y R => exact eqBs_ne (Ne.symm (ltBs_ne (h5 y (by simp))))
      unfold nextI
      rw [hno, if_neg (by decide), Nat.add_zero, h2, hd, List.getElem?_append_right (Nat.le_refl _), Nat.sub_self]
  obtain ⟨A2, R2, e0, e1, eA, e2⟩ := hbeh
  have e3 : ∀ x ∈ d, ltBs last x.1 = true → x ∈ R2 := fun x hx hl => by
    rw [e0] at hx
    rcases List.mem_append.1 hx with hx | hx
    · rw [eA x hx] at hl; cases hl
    · exact hx
  have hs2 : ∀ (r : Entry) (R' : DS), R2 = r :: R' → ∀ x ∈ d, ltBs last x.1 = true → ltBs x.1 r.1 = false := fun r R' he x hx hl => by
    have hx2 := e3 x hx hl
    rw [he] at hx2
    rcases List.mem_cons.1 hx2 with rfl | hx2
    · exact ltBs_irr _
    · have hp : Sorted R2 := List.Pairwise.sublist (by rw [e0]; exact List.sublist_append_right _ _) g.srt
      unfold Sorted at hp
      rw [he] at hp
      exact ltBs_asymm ((List.pairwise_cons.1 hp).1 x hx2)
  cases hR : R2 with
  | nil =>
    left
    rcases hw with ⟨rfl, _⟩ | ⟨⟨v, b, hm⟩, h6, _⟩
    · exact ⟨rfl, by rw [e1, hR]; rfl⟩
    · have := e3 _ ((g.mem w v).1 ⟨b, hm⟩) h6
      rw [hR] at this; cases this
  | cons r R' =>
    right
    have hrd : r ∈ d := by rw [e0, hR]; simp
    have hrl : ltBs last r.1 = true := e2 r (by rw [hR]; simp)
    have hrL : ∃ b, (r.1, r.2, b) ∈ L := (g.mem r.1 r.2).2 hrd
    obtain ⟨br, hrL⟩ := hrL
    rcases hw with ⟨rfl, h6⟩ | ⟨⟨v, b, hm⟩, h6, h7⟩
    · have := h6 r.1 ⟨r.2, br, hrL⟩
      rw [this] at hrl; cases hrl
    · have hk1 := h7 r.1 ⟨r.2, br, hrL⟩ hrl
      have hwd := (g.mem w v).1 ⟨b, hm⟩
      have hk2 := hs2 r R' hR _ hwd h6
      have hwr : w = r.1 := by
        rcases ltBs_tri w r.1 with h | h | h
        · rw [hk2] at h; cases h
        · exact h
        · rw [hk1] at h; cases h
      subst hwr
      exact ⟨r.2, br, hne _ ⟨_, _, hrL⟩, hrL, by rw [e1, hR]; rfl⟩
end
end Go.Ds
end

noncomputable section
namespace Go.Proofs.RS
open Go Go.Ev Go.Proofs Go.Ds
def toE (x : Str × Str × Nat) : MapEntry := { key := vS x.1, val := vS x.2.1, born := x.2.2 }
def esOf (L : ML) : Array MapEntry := ⟨L.map toE⟩
abbrev mV (m : Nat) : Value := .map (some m)
theorem eqV_str (a b : Str) : eqV (.one .s) (vS a) (vS b) = some (eqBs a b) := rfl
theorem findK_esOf (k : Str) : ∀ (L : ML) (i : Nat), findK (.one .s) (vS k) (L.map toE) i = some ((findS L k i).map fun x => (x.1, vS x.2))
  | [], _ => rfl
  | x :: L, i => by
    show (match eqV (.one .s) (vS k) (vS x.1) with | some true => some (some (i, vS x.2.1)) | some false => findK (.one .s) (vS k) (L.map toE) (i + 1) | none => none) = _
    rw [eqV_str]
    unfold findS
    cases h : eqBs k x.1 with
    | true => rfl
    | false => simp only [if_neg (show ¬ (false = true) by decide)]; exact findK_esOf k L (i + 1)
variable {H : Hp} {m clk : Nat} {L : ML}
theorem mapOf_blk {es : Array MapEntry} (h : H.blk m = .obj (.map es clk)) : mapOf H m = some (es, clk) := by unfold mapOf; rw [h]
theorem exLkp_no (h : H.blk m = .obj (.map (esOf L) clk)) {k : Str} (hf : findS L k 0 = none) (z : Value) (ok : Bool) : exLkp z ok (.one .s) (mV m) (vS k) H = .val (Bc ok (.tuple #[z, .bool false]) z) H (bit m) 0 := by
  show (match mapOf H m with | none => R.fail | some (es, _) => (match findK (.one .s) (vS k) es.toList 0 with | some (some (_, x)) => .val (Bc ok (.tuple #[x, .bool true]) x) H (bit m) 0 | some none => .val (Bc ok (.tuple #[z, .bool false]) z) H (bit m) 0 | none => .fail)) = _
  rw [mapOf_blk h]
  simp only [esOf, findK_esOf, hf, Option.map_none]
theorem exLkp_yes (h : H.blk m = .obj (.map (esOf L) clk)) {k v : Str} {i : Nat} (hf : findS L k 0 = some (i, v)) (z : Value) (ok : Bool) : exLkp z ok (.one .s) (mV m) (vS k) H = .val (Bc ok (.tuple #[vS v, .bool true]) (vS v)) H (bit m) 0 := by
  show (match mapOf H m with | none => R.fail | some (es, _) => (match findK (.one .s) (vS k) es.toList 0 with | some (some (_, x)) => .val (Bc ok (.tuple #[x, .bool true]) x) H (bit m) 0 | some none => .val (Bc ok (.tuple #[z, .bool false]) z) H (bit m) 0 | none => .fail)) = _
  rw [mapOf_blk h]
  simp only [esOf, findK_esOf, hf, Option.map_some]
theorem exMup_no (h : H.blk m = .obj (.map (esOf L) clk)) {k v : Str} (hf : findS L k 0 = none) : exMup (.one .s) (mV m) (vS k) (vS v) H = .val U (H.put m (.obj (.map (esOf (L ++ [(k, v, clk)])) (clk + 1)))) 0 (bit m) := by
  show (match mapOf H m with | none => R.fail | some (es, c) => (match findK (.one .s) (vS k) es.toList 0 with
      | some (some (i, _)) => .val U (H.put m (.obj (.map ⟨es.toList.modify i fun e => MapEntry.mk (vS k) (vS v) e.born⟩ c))) 0 (bit m)
      | some none => .val U (H.put m (.obj (.map ⟨es.toList ++ [MapEntry.mk (vS k) (vS v) c]⟩ (Nat.succ c)))) 0 (bit m)
      | none => .fail)) = _
  rw [mapOf_blk h]
  simp only [esOf, findK_esOf, hf, Option.map_none, List.map_append, List.map_cons, List.map_nil]
  rfl
theorem modify_esOf (k v : Str) : ∀ (L : ML) (i : Nat), (L.map toE).modify i (fun e => { e with key := vS k, val := vS v }) = (L.modify i fun x => (k, v, x.2.2)).map toE
  | [], i => by cases i <;> rfl
  | x :: L, 0 => rfl
  | x :: L, i + 1 => by rw [List.map_cons, List.modify_succ_cons, List.modify_succ_cons, List.map_cons, modify_esOf k v L i]
theorem exMup_yes (h : H.blk m = .obj (.map (esOf L) clk)) {k u v : Str} {i : Nat} (hf : findS L k 0 = some (i, u)) : exMup (.one .s) (mV m) (vS k) (vS v) H = .val U (H.put m (.obj (.map (esOf (L.modify i fun x => (k, v, x.2.2))) clk))) 0 (bit m) := by
  show (match mapOf H m with | none => R.fail | some (es, c) => (match findK (.one .s) (vS k) es.toList 0 with
      | some (some (i, _)) => .val U (H.put m (.obj (.map ⟨es.toList.modify i fun e => MapEntry.mk (vS k) (vS v) e.born⟩ c))) 0 (bit m)
      | some none => .val U (H.put m (.obj (.map ⟨es.toList ++ [MapEntry.mk (vS k) (vS v) c]⟩ (Nat.succ c)))) 0 (bit m)
      | none => .fail)) = _
  rw [mapOf_blk h]
  simp only [esOf, findK_esOf, hf, Option.map_some]
  rw [modify_esOf]
theorem exDel_yes (h : H.blk m = .obj (.map (esOf L) clk)) {k u : Str} {i : Nat} (hf : findS L k 0 = some (i, u)) : exDel (.one .s) (mV m) (vS k) H = .val (.tuple #[]) (H.put m (.obj (.map (esOf (L.eraseIdx i)) clk))) 0 (bit m) := by
  show (match mapOf H m with | none => R.fail | some (es, c) => (match findK (.one .s) (vS k) es.toList 0 with
      | some (some (i, _)) => .val (.tuple #[]) (H.put m (.obj (.map ⟨es.toList.eraseIdx i⟩ c))) 0 (bit m)
      | some none => .val (.tuple #[]) H 0 (bit m)
      | none => .fail)) = _
  rw [mapOf_blk h]
  simp only [esOf, findK_esOf, hf, Option.map_some]
  rw [show (L.map toE).eraseIdx i = (L.eraseIdx i).map toE from ?_]
  clear hf h
  induction L generalizing i with
  | nil => rfl
  | cons x L ih => cases i with
    | zero => rfl
    | succ i => rw [List.map_cons, List.eraseIdx_cons_succ, List.eraseIdx_cons_succ, List.map_cons, ih]
theorem exDel_no (h : H.blk m = .obj (.map (esOf L) clk)) {k : Str} (hf : findS L k 0 = none) : exDel (.one .s) (mV m) (vS k) H = .val (.tuple #[]) H 0 (bit m) := by
  show (match mapOf H m with | none => R.fail | some (es, c) => (match findK (.one .s) (vS k) es.toList 0 with
      | some (some (i, _)) => .val (.tuple #[]) (H.put m (.obj (.map ⟨es.toList.eraseIdx i⟩ c))) 0 (bit m)
      | some none => .val (.tuple #[]) H 0 (bit m)
      | none => .fail)) = _
  rw [mapOf_blk h]
  simp only [esOf, findK_esOf, hf, Option.map_none]
theorem exLen_map (h : H.blk m = .obj (.map (esOf L) clk)) : exLen 2 (mV m) H = .val (vN L.length) H (bit m) 0 := by
  show Bc (Nat.beq 2 2) (match mapOf H m with | some (es, _) => R.val (.int .i64 (.ofNat es.toList.length)) H (bit m) 0 | none => .fail) .fail = _
  rw [mapOf_blk h]
  simp only [esOf, List.length_map]; rfl
theorem born_esOf (L : ML) : (esOf L).toList.map (·.born) = L.map (·.2.2) := by
  unfold esOf; simp only [List.map_map]; rfl
theorem mem_esOf {e : MapEntry} (h : e ∈ (esOf L).toList) : ∃ k v b, (k, v, b) ∈ L ∧ e = { key := vS k, val := vS v, born := b } := by
  obtain ⟨⟨k, v, b⟩, hx, rfl⟩ := List.mem_map.1 h
  exact ⟨k, v, b, hx, rfl⟩
theorem put_obj {H : Hp} (hf : H.isFn = true) {m : Nat} (hm : m < H.nx) (x : Blk) : (H.put m x).isFn = true ∧ (H.put m x).nx = H.nx ∧ (H.put m x).blk m = x ∧ ∀ c, c ≠ m → (H.put m x).blk c = H.blk c :=
  ⟨by rw [isFn_put]; exact hf, nx_put _ _ _, by rw [blk_put _ (fn_wf hf) hm, if_pos rfl], fun c hc => blk_put_ne (fn_wf hf) _ hm hc⟩
end Go.Proofs.RS
end

noncomputable section
namespace Go.Proofs.RS
open Go Go.Ev Go.Proofs
noncomputable def law_body : Code := (Tryz.f5.body).getD .skip
def law_r0 : List CO := [
    ⟨(some 4), none, .mv (.const (.bool false))⟩]
def law_r1 : List CO := [
    ⟨(some 32), none, .call (.func 6) []⟩,
    ⟨(some 33), none, .un .not (.tmp 32)⟩]
def law_r2 : List CO := [
    ⟨(some 4), none, .mv (.const (.bool false))⟩]
def law_r3 : List CO := [
    ⟨(some 34), none, .mv (.tmp 0)⟩,
    ⟨(some 35), none, .len 1 (.tmp 34)⟩,
    ⟨(some 36), none, .bin .gtr (.tmp 35) (.const (.int .i64 (40)))⟩,
    ⟨(some 37), none, .mv (.tmp 36)⟩,
    ⟨(some 38), (some (37, false)), .mv (.tmp 1)⟩,
    ⟨(some 39), (some (37, false)), .len 1 (.tmp 38)⟩,
    ⟨(some 40), (some (37, false)), .mv (.tmp 0)⟩,
    ⟨(some 41), (some (37, false)), .len 1 (.tmp 40)⟩,
    ⟨(some 42), (some (37, false)), .bin .lss (.tmp 39) (.tmp 41)⟩,
    ⟨(some 43), none, .pick (.tmp 37) (.const (.bool true)) (.tmp 42)⟩]
def law_r4 : List CO := [
    ⟨(some 4), none, .mv (.const (.bool true))⟩]
def law_r5 : List CO := [
    ⟨(some 45), none, .call (.func 7) []⟩,
    ⟨(some 44), none, .mv (.tmp 45)⟩,
    ⟨(some 46), none, .ext (.tmp 44) 0⟩,
    ⟨(some 47), none, .ext (.tmp 44) 1⟩,
    ⟨(some 5), none, .alloc (blkL [.slice none 0 0, .int .i64 (0), .slice none 0 0, .slice none 0 0, .slice none 0 0, .slice none 0 0] 29 0)⟩,
    ⟨(some 6), none, .alloc (blkL [.slice none 0 0, .slice none 0 0, .int .i64 (0)] 32 0)⟩,
    ⟨none, none, .st 6 (.tmp 5) (.tmp 46)⟩,
    ⟨none, none, .st 3 (.tmp 6) (.tmp 47)⟩]
def law_r6 : List CO := [
    ⟨(some 48), none, .fa 1 (.tmp 6)⟩,
    ⟨(some 49), none, .ld1 (.tmp 48)⟩,
    ⟨(some 50), none, .iaS 1 (.tmp 49) (.const (.int .i64 (1)))⟩,
    ⟨none, none, .st 1 (.tmp 50) (.const (.slice none 0 0))⟩]
def law_r7 : List CO := [
    ⟨(some 52), none, .ldN 6 (.tmp 5)⟩,
    ⟨(some 53), none, .ldN 3 (.tmp 6)⟩,
    ⟨(some 54), none, .call (.func 8) [(.tmp 52), (.tmp 53)]⟩,
    ⟨(some 51), none, .mv (.tmp 54)⟩,
    ⟨(some 55), none, .ext (.tmp 51) 0⟩,
    ⟨(some 56), none, .ext (.tmp 51) 1⟩,
    ⟨(some 7), none, .mv (.tmp 55)⟩,
    ⟨(some 8), none, .mv (.tmp 56)⟩]
def law_r8 : List CO := [
    ⟨(some 57), none, .mv (.tmp 8)⟩,
    ⟨(some 58), none, .eq true (.one .i) (.tmp 57) (.const (.int .i64 (0)))⟩,
    ⟨(some 59), none, .mv (.tmp 58)⟩,
    ⟨(some 60), (some (59, false)), .mv (.tmp 7)⟩,
    ⟨(some 61), (some (59, false)), .eq false (.one .p) (.tmp 60) (.const (.pointer none))⟩,
    ⟨(some 62), none, .pick (.tmp 59) (.const (.bool true)) (.tmp 61)⟩]
def law_r9 : List CO := [
    ⟨(some 4), none, .mv (.const (.bool false))⟩]
def law_r10 : List CO := [
    ⟨(some 63), none, .mkM⟩,
    ⟨(some 9), none, .mv (.tmp 63)⟩]
def law_r11 : List CO := [
    ⟨(some 10), none, .mv (.const (.string ⟨#[]⟩))⟩]
def law_r12 : List CO := [
    ⟨(some 64), none, .mv (.tmp 0)⟩,
    ⟨(some 65), none, .len 1 (.tmp 64)⟩,
    ⟨(some 66), none, .mv (.const (.int .i64 (0)))⟩]
def law_r13 : List CO := [
    ⟨(some 67), none, .bin .lss (.tmp 66) (.tmp 65)⟩]
def law_r14 : List CO := [
    ⟨(some 68), none, .mv (.tmp 66)⟩,
    ⟨(some 69), none, .iaS 1 (.tmp 64) (.tmp 66)⟩,
    ⟨(some 70), none, .ld1 (.tmp 69)⟩,
    ⟨(some 11), none, .mv (.tmp 68)⟩,
    ⟨(some 12), none, .mv (.tmp 70)⟩]
def law_r15 : List CO := [
    ⟨(some 71), none, .mv (.tmp 12)⟩,
    ⟨(some 72), none, .len 0 (.tmp 71)⟩,
    ⟨(some 73), none, .bin .gtr (.tmp 72) (.const (.int .i64 (20)))⟩,
    ⟨(some 74), none, .mv (.tmp 73)⟩,
    ⟨(some 75), (some (74, false)), .mv (.tmp 12)⟩,
    ⟨(some 76), (some (74, false)), .len 0 (.tmp 75)⟩,
    ⟨(some 77), (some (74, false)), .bin .lss (.tmp 76) (.const (.int .i64 (1)))⟩,
    ⟨(some 78), none, .pick (.tmp 74) (.const (.bool true)) (.tmp 77)⟩,
    ⟨(some 79), none, .mv (.tmp 78)⟩,
    ⟨(some 80), (some (79, false)), .mv (.tmp 12)⟩,
    ⟨(some 81), (some (79, false)), .ixS (.tmp 80) (.const (.int .i64 (0)))⟩,
    ⟨(some 82), (some (79, false)), .bin .lss (.tmp 81) (.const (.int .u8 (65)))⟩,
    ⟨(some 83), none, .pick (.tmp 79) (.const (.bool true)) (.tmp 82)⟩,
    ⟨(some 84), none, .mv (.tmp 83)⟩,
    ⟨(some 85), (some (84, false)), .mv (.tmp 12)⟩,
    ⟨(some 86), (some (84, false)), .ixS (.tmp 85) (.const (.int .i64 (0)))⟩,
    ⟨(some 87), (some (84, false)), .bin .gtr (.tmp 86) (.const (.int .u8 (90)))⟩,
    ⟨(some 88), none, .pick (.tmp 84) (.const (.bool true)) (.tmp 87)⟩,
    ⟨(some 89), none, .mv (.tmp 88)⟩,
    ⟨(some 90), (some (89, false)), .mv (.tmp 12)⟩,
    ⟨(some 91), (some (89, false)), .cToB 5 (.tmp 90)⟩,
    ⟨(some 92), (some (89, false)), .call (.func 20) [(.tmp 91), (.func 21)]⟩,
    ⟨(some 93), none, .pick (.tmp 89) (.const (.bool true)) (.tmp 92)⟩]
def law_r16 : List CO := [
    ⟨(some 94), none, .mv (.tmp 12)⟩,
    ⟨(some 95), none, .slS (.tmp 94) none (some (.const (.int .i64 (1))))⟩,
    ⟨(some 13), none, .mv (.tmp 95)⟩]
def law_r17 : List CO := [
    ⟨(some 97), none, .mv (.tmp 9)⟩,
    ⟨(some 98), none, .mv (.tmp 13)⟩,
    ⟨(some 99), none, .lkp (.string ⟨#[]⟩) true (.one .s) (.tmp 97) (.tmp 98)⟩,
    ⟨(some 96), none, .mv (.tmp 99)⟩,
    ⟨(some 100), none, .ext (.tmp 96) 0⟩,
    ⟨(some 101), none, .ext (.tmp 96) 1⟩,
    ⟨(some 14), none, .mv (.tmp 100)⟩,
    ⟨(some 15), none, .mv (.tmp 101)⟩]
def law_r18 : List CO := [
    ⟨(some 102), none, .mv (.tmp 1)⟩,
    ⟨(some 103), none, .mv (.tmp 11)⟩,
    ⟨(some 104), none, .iaS 1 (.tmp 102) (.tmp 103)⟩,
    ⟨(some 105), none, .ld1 (.tmp 104)⟩,
    ⟨(some 106), none, .bin .rem (.tmp 105) (.const (.int .i64 (4)))⟩,
    ⟨(some 107), none, .bin .add (.tmp 106) (.const (.int .i64 (4)))⟩,
    ⟨(some 108), none, .bin .rem (.tmp 107) (.const (.int .i64 (4)))⟩]
def law_r19 : List CO := [
    ⟨(some 110), none, .eq false (.one .i) (.tmp 108) (.const (.int .i64 (0)))⟩,
    ⟨(some 109), none, .mv (.tmp 110)⟩]
def law_r20 : List CO := [
    ⟨(some 112), none, .mv (.tmp 7)⟩,
    ⟨(some 113), none, .mv (.tmp 13)⟩,
    ⟨(some 114), none, .mv (.tmp 12)⟩,
    ⟨(some 115), none, .call (.func 22) [(.tmp 112), (.const (.int .i64 (1))), (.tmp 113), (.tmp 114)]⟩,
    ⟨(some 111), none, .mv (.tmp 115)⟩,
    ⟨(some 116), none, .ext (.tmp 111) 0⟩,
    ⟨(some 117), none, .ext (.tmp 111) 1⟩,
    ⟨(some 16), none, .mv (.tmp 116)⟩,
    ⟨(some 17), none, .mv (.tmp 117)⟩]
def law_r21 : List CO := [
    ⟨(some 118), none, .mv (.tmp 16)⟩,
    ⟨(some 119), none, .eq false (.one .i) (.tmp 118) (.const (.int .i64 (0)))⟩,
    ⟨(some 120), none, .mv (.tmp 15)⟩,
    ⟨(some 121), none, .eq false (.one .b) (.tmp 119) (.tmp 120)⟩,
    ⟨(some 122), none, .mv (.tmp 121)⟩,
    ⟨(some 123), (some (122, false)), .mv (.tmp 15)⟩,
    ⟨(some 124), (some (122, false)), .mv (.tmp 123)⟩,
    ⟨(some 125), (some (124, true)), .mv (.tmp 16)⟩,
    ⟨(some 126), (some (124, true)), .eq true (.one .i) (.tmp 125) (.const (.int .i64 (9)))⟩,
    ⟨(some 127), (some (124, true)), .mv (.tmp 126)⟩,
    ⟨(some 128), (some (127, false)), .mv (.tmp 17)⟩,
    ⟨(some 129), (some (127, false)), .eq true (.one .i) (.tmp 128) (.const (.int .i64 (52)))⟩,
    ⟨(some 130), (some (124, true)), .pick (.tmp 127) (.const (.bool true)) (.tmp 129)⟩,
    ⟨(some 131), (some (122, false)), .pick (.tmp 124) (.tmp 130) (.const (.bool false))⟩,
    ⟨(some 132), none, .pick (.tmp 122) (.const (.bool true)) (.tmp 131)⟩]
def law_r22 : List CO := [
    ⟨(some 4), none, .mv (.const (.bool false))⟩]
def law_r23 : List CO := [
    ⟨(some 133), none, .mv (.tmp 15)⟩,
    ⟨(some 134), none, .un .not (.tmp 133)⟩]
def law_r24 : List CO := [
    ⟨(some 135), none, .mv (.tmp 9)⟩,
    ⟨(some 136), none, .mv (.tmp 13)⟩,
    ⟨(some 137), none, .mv (.tmp 12)⟩,
    ⟨none, none, .mup (.one .s) (.tmp 135) (.tmp 136) (.tmp 137)⟩]
def law_r25 : List CO := [
    ⟨(some 139), none, .eq false (.one .i) (.tmp 108) (.const (.int .i64 (1)))⟩,
    ⟨(some 138), none, .mv (.tmp 139)⟩]
def law_r26 : List CO := [
    ⟨(some 141), none, .mv (.tmp 7)⟩,
    ⟨(some 142), none, .mv (.tmp 13)⟩,
    ⟨(some 143), none, .bin .add (.tmp 142) (.const (.string ⟨#[32, 32]⟩))⟩,
    ⟨(some 144), none, .mv (.tmp 12)⟩,
    ⟨(some 145), none, .call (.func 23) [(.tmp 141), (.const (.int .i64 (1))), (.tmp 143), (.tmp 144)]⟩,
    ⟨(some 140), none, .mv (.tmp 145)⟩,
    ⟨(some 146), none, .ext (.tmp 140) 0⟩,
    ⟨(some 147), none, .ext (.tmp 140) 1⟩,
    ⟨(some 18), none, .mv (.tmp 146)⟩,
    ⟨(some 19), none, .mv (.tmp 147)⟩]
def law_r27 : List CO := [
    ⟨(some 148), none, .mv (.tmp 18)⟩,
    ⟨(some 149), none, .eq false (.one .i) (.tmp 148) (.const (.int .i64 (0)))⟩,
    ⟨(some 150), none, .mv (.tmp 15)⟩,
    ⟨(some 151), none, .eq true (.one .b) (.tmp 149) (.tmp 150)⟩,
    ⟨(some 152), none, .mv (.tmp 151)⟩,
    ⟨(some 153), (some (152, false)), .mv (.tmp 15)⟩,
    ⟨(some 154), (some (152, false)), .un .not (.tmp 153)⟩,
    ⟨(some 155), (some (152, false)), .mv (.tmp 154)⟩,
    ⟨(some 156), (some (155, true)), .mv (.tmp 18)⟩,
    ⟨(some 157), (some (155, true)), .eq true (.one .i) (.tmp 156) (.const (.int .i64 (9)))⟩,
    ⟨(some 158), (some (155, true)), .mv (.tmp 157)⟩,
    ⟨(some 159), (some (158, false)), .mv (.tmp 19)⟩,
    ⟨(some 160), (some (158, false)), .eq true (.one .i) (.tmp 159) (.const (.int .i64 (51)))⟩,
    ⟨(some 161), (some (155, true)), .pick (.tmp 158) (.const (.bool true)) (.tmp 160)⟩,
    ⟨(some 162), (some (152, false)), .pick (.tmp 155) (.tmp 161) (.const (.bool false))⟩,
    ⟨(some 163), none, .pick (.tmp 152) (.const (.bool true)) (.tmp 162)⟩]
def law_r28 : List CO := [
    ⟨(some 4), none, .mv (.const (.bool false))⟩]
def law_r29 : List CO := [
    ⟨(some 164), none, .mv (.tmp 15)⟩]
def law_r30 : List CO := [
    ⟨(some 165), none, .mv (.tmp 9)⟩,
    ⟨(some 166), none, .mv (.tmp 13)⟩,
    ⟨(some 167), none, .mv (.tmp 12)⟩,
    ⟨none, none, .mup (.one .s) (.tmp 165) (.tmp 166) (.tmp 167)⟩]
def law_r31 : List CO := [
    ⟨(some 169), none, .eq false (.one .i) (.tmp 108) (.const (.int .i64 (2)))⟩,
    ⟨(some 168), none, .mv (.tmp 169)⟩]
def law_r32 : List CO := [
    ⟨(some 171), none, .mv (.tmp 7)⟩,
    ⟨(some 172), none, .mv (.tmp 13)⟩,
    ⟨(some 173), none, .call (.func 24) [(.tmp 171), (.const (.int .i64 (1))), (.tmp 172)]⟩,
    ⟨(some 170), none, .mv (.tmp 173)⟩,
    ⟨(some 174), none, .ext (.tmp 170) 0⟩,
    ⟨(some 175), none, .ext (.tmp 170) 1⟩,
    ⟨(some 20), none, .mv (.tmp 174)⟩,
    ⟨(some 21), none, .mv (.tmp 175)⟩]
def law_r33 : List CO := [
    ⟨(some 176), none, .mv (.tmp 20)⟩,
    ⟨(some 177), none, .eq false (.one .i) (.tmp 176) (.const (.int .i64 (0)))⟩,
    ⟨(some 178), none, .mv (.tmp 15)⟩,
    ⟨(some 179), none, .eq true (.one .b) (.tmp 177) (.tmp 178)⟩]
def law_r34 : List CO := [
    ⟨(some 4), none, .mv (.const (.bool false))⟩]
def law_r35 : List CO := [
    ⟨(some 180), none, .mv (.tmp 9)⟩,
    ⟨(some 181), none, .mv (.tmp 13)⟩,
    ⟨none, none, .del (.one .s) (.tmp 180) (.tmp 181)⟩]
def law_r36 : List CO := [
    ⟨(some 183), none, .eq false (.one .i) (.tmp 108) (.const (.int .i64 (3)))⟩,
    ⟨(some 182), none, .mv (.tmp 183)⟩]
def law_r37 : List CO := [
    ⟨(some 22), none, .mv (.const (.string ⟨#[]⟩))⟩]
def law_r38 : List CO := [
    ⟨(some 184), none, .mv (.tmp 9)⟩,
    ⟨(some 185), none, .rngM (.tmp 184)⟩]
def law_r39 : List CO := [
    ⟨(some 186), none, .nxtM (.tmp 185)⟩,
    ⟨(some 187), none, .ext (.tmp 186) 0⟩]
def law_r40 : List CO := [
    ⟨(some 188), none, .bad⟩,
    ⟨(some 189), none, .ext (.tmp 188) 0⟩,
    ⟨(some 23), none, .mv (.tmp 189)⟩]
def law_r41 : List CO := [
    ⟨(some 190), none, .mv (.tmp 23)⟩,
    ⟨(some 191), none, .mv (.tmp 10)⟩,
    ⟨(some 192), none, .bin .gtr (.tmp 190) (.tmp 191)⟩,
    ⟨(some 193), none, .mv (.tmp 192)⟩,
    ⟨(some 194), (some (193, true)), .mv (.tmp 22)⟩,
    ⟨(some 195), (some (193, true)), .eq false (.one .s) (.tmp 194) (.const (.string ⟨#[]⟩))⟩,
    ⟨(some 196), (some (193, true)), .mv (.tmp 195)⟩,
    ⟨(some 197), (some (196, false)), .mv (.tmp 23)⟩,
    ⟨(some 198), (some (196, false)), .mv (.tmp 22)⟩,
    ⟨(some 199), (some (196, false)), .bin .lss (.tmp 197) (.tmp 198)⟩,
    ⟨(some 200), (some (193, true)), .pick (.tmp 196) (.const (.bool true)) (.tmp 199)⟩,
    ⟨(some 201), none, .pick (.tmp 193) (.tmp 200) (.const (.bool false))⟩]
def law_r42 : List CO := [
    ⟨(some 202), none, .mv (.tmp 23)⟩,
    ⟨(some 22), none, .mv (.tmp 202)⟩]
noncomputable def law_l43 : KC :=
  (.seq (.reg law_r39)
  (.seq (.cond (.tmp 187) .skip
   (.exit 3))
  (.block 4 (.seq (.reg law_r40)
   (.seq (.reg law_r41)
   (.cond (.tmp 201) (.reg law_r42)
    .skip))))))
def law_r44 : List CO := [
    ⟨(some 204), none, .mv (.tmp 7)⟩,
    ⟨(some 205), none, .call (.func 25) [(.tmp 204), (.const (.int .i64 (1)))]⟩,
    ⟨(some 203), none, .mv (.tmp 205)⟩,
    ⟨(some 206), none, .ext (.tmp 203) 0⟩,
    ⟨(some 207), none, .ext (.tmp 203) 1⟩,
    ⟨(some 208), none, .ext (.tmp 203) 2⟩,
    ⟨(some 24), none, .mv (.tmp 206)⟩,
    ⟨(some 25), none, .mv (.tmp 207)⟩,
    ⟨(some 26), none, .mv (.tmp 208)⟩]
def law_r45 : List CO := [
    ⟨(some 209), none, .mv (.tmp 22)⟩,
    ⟨(some 210), none, .eq false (.one .s) (.tmp 209) (.const (.string ⟨#[]⟩))⟩]
def law_r46 : List CO := [
    ⟨(some 211), none, .mv (.tmp 25)⟩,
    ⟨(some 212), none, .eq true (.one .i) (.tmp 211) (.const (.int .i64 (8)))⟩,
    ⟨(some 213), none, .mv (.tmp 212)⟩,
    ⟨(some 214), (some (213, false)), .mv (.tmp 26)⟩,
    ⟨(some 215), (some (213, false)), .eq true (.one .i) (.tmp 214) (.const (.int .i64 (70)))⟩,
    ⟨(some 216), none, .pick (.tmp 213) (.const (.bool true)) (.tmp 215)⟩]
def law_r47 : List CO := [
    ⟨(some 4), none, .mv (.const (.bool false))⟩]
def law_r48 : List CO := [
    ⟨(some 217), none, .mv (.tmp 25)⟩,
    ⟨(some 218), none, .eq true (.one .i) (.tmp 217) (.const (.int .i64 (0)))⟩,
    ⟨(some 219), none, .mv (.tmp 218)⟩,
    ⟨(some 220), (some (219, false)), .mv (.tmp 24)⟩,
    ⟨(some 221), (some (219, false)), .mv (.tmp 9)⟩,
    ⟨(some 222), (some (219, false)), .mv (.tmp 22)⟩,
    ⟨(some 223), (some (219, false)), .lkp (.string ⟨#[]⟩) false (.one .s) (.tmp 221) (.tmp 222)⟩,
    ⟨(some 224), (some (219, false)), .eq true (.one .s) (.tmp 220) (.tmp 223)⟩,
    ⟨(some 225), none, .pick (.tmp 219) (.const (.bool true)) (.tmp 224)⟩]
def law_r49 : List CO := [
    ⟨(some 4), none, .mv (.const (.bool false))⟩]
def law_r50 : List CO := [
    ⟨(some 226), none, .mv (.tmp 22)⟩,
    ⟨(some 10), none, .mv (.tmp 226)⟩]
def law_r51 : List CO := [
    ⟨(some 227), none, .mv (.tmp 7)⟩,
    ⟨(some 228), none, .call (.func 26) [(.tmp 227)]⟩,
    ⟨(some 27), none, .alloc (blkL [.slice none 0 0, .slice none 0 0, .string ⟨#[]⟩, .int .i64 (0), .int .i64 (0), .int .i64 (0)] 74 0)⟩,
    ⟨none, none, .st 6 (.tmp 27) (.tmp 228)⟩]
def law_r52 : List CO := [
    ⟨(some 229), none, .fa 1 (.tmp 27)⟩,
    ⟨(some 230), none, .ld1 (.tmp 229)⟩,
    ⟨(some 231), none, .len 1 (.tmp 230)⟩,
    ⟨(some 232), none, .eq true (.one .i) (.tmp 231) (.const (.int .i64 (2)))⟩,
    ⟨(some 233), none, .mv (.tmp 232)⟩,
    ⟨(some 234), (some (233, false)), .fa 1 (.tmp 27)⟩,
    ⟨(some 235), (some (233, false)), .ld1 (.tmp 234)⟩,
    ⟨(some 236), (some (233, false)), .iaS 1 (.tmp 235) (.const (.int .i64 (1)))⟩,
    ⟨(some 237), (some (233, false)), .ld1 (.tmp 236)⟩,
    ⟨(some 238), (some (233, false)), .len 1 (.tmp 237)⟩,
    ⟨(some 239), (some (233, false)), .mv (.tmp 9)⟩,
    ⟨(some 240), (some (233, false)), .len 2 (.tmp 239)⟩,
    ⟨(some 241), (some (233, false)), .eq true (.one .i) (.tmp 238) (.tmp 240)⟩,
    ⟨(some 242), none, .pick (.tmp 233) (.const (.bool true)) (.tmp 241)⟩]
def law_r53 : List CO := [
    ⟨(some 4), none, .mv (.const (.bool false))⟩]
def law_r54 : List CO := [
    ⟨(some 243), none, .fa 1 (.tmp 27)⟩,
    ⟨(some 244), none, .ld1 (.tmp 243)⟩,
    ⟨(some 245), none, .iaS 1 (.tmp 244) (.const (.int .i64 (1)))⟩,
    ⟨(some 246), none, .ld1 (.tmp 245)⟩,
    ⟨(some 247), none, .len 1 (.tmp 246)⟩,
    ⟨(some 248), none, .mv (.const (.int .i64 (0)))⟩]
def law_r55 : List CO := [
    ⟨(some 249), none, .bin .lss (.tmp 248) (.tmp 247)⟩]
def law_r56 : List CO := [
    ⟨(some 250), none, .iaS 2 (.tmp 246) (.tmp 248)⟩,
    ⟨(some 251), none, .ldN 2 (.tmp 250)⟩,
    ⟨(some 29), none, .alloc (blkL [.string ⟨#[]⟩, .string ⟨#[]⟩] 77 0)⟩,
    ⟨none, none, .st 2 (.tmp 29) (.tmp 251)⟩]
def law_r57 : List CO := [
    ⟨(some 253), none, .mv (.tmp 9)⟩,
    ⟨(some 254), none, .fa 0 (.tmp 29)⟩,
    ⟨(some 255), none, .ld1 (.tmp 254)⟩,
    ⟨(some 256), none, .lkp (.string ⟨#[]⟩) true (.one .s) (.tmp 253) (.tmp 255)⟩,
    ⟨(some 252), none, .mv (.tmp 256)⟩,
    ⟨(some 257), none, .ext (.tmp 252) 0⟩,
    ⟨(some 258), none, .ext (.tmp 252) 1⟩,
    ⟨(some 30), none, .mv (.tmp 257)⟩,
    ⟨(some 31), none, .mv (.tmp 258)⟩]
def law_r58 : List CO := [
    ⟨(some 259), none, .mv (.tmp 31)⟩,
    ⟨(some 260), none, .un .not (.tmp 259)⟩,
    ⟨(some 261), none, .mv (.tmp 260)⟩,
    ⟨(some 262), (some (261, false)), .mv (.tmp 30)⟩,
    ⟨(some 263), (some (261, false)), .fa 1 (.tmp 29)⟩,
    ⟨(some 264), (some (261, false)), .ld1 (.tmp 263)⟩,
    ⟨(some 265), (some (261, false)), .eq true (.one .s) (.tmp 262) (.tmp 264)⟩,
    ⟨(some 266), none, .pick (.tmp 261) (.const (.bool true)) (.tmp 265)⟩]
def law_r59 : List CO := [
    ⟨(some 4), none, .mv (.const (.bool false))⟩]
def law_r60 : List CO := [
    ⟨(some 267), none, .bin .add (.tmp 248) (.const (.int .i64 (1)))⟩,
    ⟨(some 248), none, .mv (.tmp 267)⟩]
noncomputable def law_l61 : KC :=
  (.seq (.reg law_r55)
  (.seq (.cond (.tmp 249) .skip
   (.exit 5))
  (.seq (.block 6 (.seq (.reg law_r56)
   (.seq (.reg law_r57)
   (.seq (.reg law_r58)
   (.cond (.tmp 266) (.seq (.reg law_r59)
    .ret)
    .skip)))))
  (.reg law_r60))))
def law_r62 : List CO := [
    ⟨(some 268), none, .bin .add (.tmp 66) (.const (.int .i64 (1)))⟩,
    ⟨(some 66), none, .mv (.tmp 268)⟩]
noncomputable def law_l63 : KC :=
  (.seq (.reg law_r13)
  (.seq (.cond (.tmp 67) .skip
   (.exit 0))
  (.seq (.block 1 (.seq (.reg law_r14)
   (.seq (.seq (.reg law_r15)
   (.cond (.tmp 93) (.exit 1)
    .skip))
   (.seq (.reg law_r16)
   (.seq (.reg law_r17)
   (.seq (.seq (.reg law_r18)
   (.block 2 (.seq (.reg law_r19)
    (.cond (.tmp 109) (.seq (.seq (.reg law_r20)
     (.seq (.reg law_r21)
     (.cond (.tmp 132) (.seq (.reg law_r22)
      .ret)
      .skip)))
     (.seq (.reg law_r23)
     (.cond (.tmp 134) (.reg law_r24)
      .skip)))
     (.seq (.reg law_r25)
     (.cond (.tmp 138) (.seq (.seq (.reg law_r26)
      (.seq (.reg law_r27)
      (.cond (.tmp 163) (.seq (.reg law_r28)
       .ret)
       .skip)))
      (.seq (.reg law_r29)
      (.cond (.tmp 164) (.reg law_r30)
       .skip)))
      (.seq (.reg law_r31)
      (.cond (.tmp 168) (.seq (.seq (.reg law_r32)
       (.seq (.reg law_r33)
       (.cond (.tmp 179) (.seq (.reg law_r34)
        .ret)
        .skip)))
       (.reg law_r35))
       (.seq (.reg law_r36)
       (.cond (.tmp 182) (.seq (.reg law_r37)
        (.seq (.seq (.reg law_r38)
        (.block 3 (.loop law_body.sr.sr.sr.sr.sr.sr.sr.sr.sr.sl.sr.bl.lp.sr.sr.sl.bl.sr.sr.sr.sr.sl.sr.bl.sr.cb.sr.cb.sr.cb.sr.ca.sr.sl.sr.bl.lp law_l43)))
        (.seq (.reg law_r44)
        (.seq (.reg law_r45)
        (.cond (.tmp 210) (.seq (.reg law_r46)
         (.cond (.tmp 216) (.seq (.reg law_r47)
          .ret)
          .skip))
         (.seq (.reg law_r48)
         (.cond (.tmp 225) (.seq (.reg law_r49)
          .ret)
          (.reg law_r50))))))))
        .skip))))))))))
   (.seq (.reg law_r51)
   (.seq (.seq (.draw #[0, 1, 3, 7, 15, 31, 63, 127, 255, 511, 31, 1055, 4095, 8191] law_r52)
   (.cond (.tmp 242) (.seq (.reg law_r53)
    .ret)
    .skip))
   (.seq (.reg law_r54)
   (.block 5 (.loop law_body.sr.sr.sr.sr.sr.sr.sr.sr.sr.sl.sr.bl.lp.sr.sr.sl.bl.sr.sr.sr.sr.sr.sr.sr.sr.bl.lp law_l61)))))))))))
  (.reg law_r62))))
def law_r64 : List CO := [
    ⟨(some 4), none, .mv (.const (.bool true))⟩]
noncomputable def law_k : KC :=
  (.seq (.reg law_r0)
  (.seq (.seq (.reg law_r1)
  (.cond (.tmp 33) (.seq (.reg law_r2)
   .ret)
   .skip))
  (.seq (.seq (.reg law_r3)
  (.cond (.tmp 43) (.seq (.reg law_r4)
   .ret)
   .skip))
  (.seq (.reg law_r5)
  (.seq (.reg law_r6)
  (.seq (.reg law_r7)
  (.seq (.seq (.reg law_r8)
  (.cond (.tmp 62) (.seq (.reg law_r9)
   .ret)
   .skip))
  (.seq (.reg law_r10)
  (.seq (.reg law_r11)
  (.seq (.seq (.reg law_r12)
  (.block 0 (.loop law_body.sr.sr.sr.sr.sr.sr.sr.sr.sr.sl.sr.bl.lp law_l63)))
  (.seq (.reg law_r64)
  .ret)))))))))))
theorem law_comp : kcomp Tb0 Tryz.f5.ntmps law_body = law_k := by kernel_rfl
theorem law_some : Tryz.f5.body = some law_body := rfl
end Go.Proofs.RS
end
