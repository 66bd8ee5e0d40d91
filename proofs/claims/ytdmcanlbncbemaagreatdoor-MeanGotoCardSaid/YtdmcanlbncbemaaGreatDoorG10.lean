/-
  A part of the reckoner for the statements of a Go program: what it answers, the model answers. Holds for every program whose tables are as given.
-/
import Derived.Sort.Grow
import Derived.Sort.Row
import Derived.Test.YtdmcanlbncbemaaGreatDoorG08
import Derived.Test.YtdmcanlbncbemaaGreatDoorG09
set_option linter.unusedSimpArgs false
set_option linter.unusedVariables false
set_option linter.unusedSectionVars false
noncomputable section
namespace Go.Ev
variable [SyQ]
def BImp (x y : Blk) : Prop := (x = .no ↔ y = .no) ∧ ∀ (β : Mp) (W : World) (m : Bm), SyQ.Q β → BOk β W x m → BOk β W y m
theorem BImp.refl (x : Blk) : BImp x x := ⟨Iff.rfl, fun _ _ _ _ h => h⟩
theorem PCov.refl (x : Blk) : PCov Nat.beq x x := ⟨id, fun β β' W m hm hq ⟨o, ho, hr⟩ => ⟨o, ho, hr.mono fun b m' e => hm.blk b b m' ((beq_iff b b).2 rfl) e⟩⟩
theorem mapOk_id (β : Mp) : MapOk Nat.beq β β := ⟨fun b b' m h e => by rw [(beq_iff b b').1 h]; exact e, fun k m e => e⟩
theorem PCov.imp {x y : Blk} (h : PCov Nat.beq x y) (hx : x ≠ .no) (hy : y ≠ .no) : BImp y x := ⟨⟨fun e => absurd e hy, fun e => absurd e hx⟩, fun β W m hq hb => h.2 β β W m (mapOk_id β) hq hb⟩
def ZImp : List (Nat × Blk) → List (Nat × Blk) → Prop
  | [], [] => True
  | x :: l, y :: l' => x.1 = y.1 ∧ BImp x.2 y.2 ∧ ZImp l l'
  | _, _ => False
theorem ZImp.refl : ∀ (l : List (Nat × Blk)), ZImp l l
  | [] => trivial
  | x :: l => ⟨rfl, BImp.refl _, ZImp.refl l⟩
theorem ZImp.lk : ∀ {l l' : List (Nat × Blk)}, ZImp l l' → ∀ b, (lkB l b = none ∧ lkB l' b = none) ∨ ∃ x y, lkB l b = some x ∧ lkB l' b = some y ∧ BImp x y
  | [], [], _, b => .inl ⟨rfl, rfl⟩
  | [], _ :: _, h, _ => h.elim
  | _ :: _, [], h, _ => h.elim
  | (i, x) :: l, (j, y) :: l', h, b => by
    obtain ⟨h1, h2, h3⟩ := h
    have h1 : i = j := h1
    subst h1
    simp only [lkB]
    rcases ZImp.lk h3 b with ⟨e1, e2⟩ | ⟨x', y', e1, e2, hi⟩
    · rw [e1, e2]
      by_cases e : b = i
      · exact .inr ⟨x, y, by rw [if_pos e], by rw [if_pos e], h2⟩
      · exact .inl ⟨by rw [if_neg e], by rw [if_neg e]⟩
    · rw [e1, e2]; exact .inr ⟨x', y', rfl, rfl, hi⟩
section
variable {P : Program} {ng : Nat} {c c2 : Clm}
theorem h0_get (F : Fits ng c) (b : Nat) : c.h0.blk b = (if b < c.n0 then (match lkB c.pre b with | some x => x | none => .no) else .no) := by
  have hn1 := F.n1
  have hle := F.le
  unfold Clm.h0
  rw [blk_mk]
  by_cases h : b < c.n0
  · rw [if_pos h, if_pos h, setsT_get _ _ _ (fun x hx => Nat.lt_of_lt_of_le (F.pre x hx) (by omega)) (by omega)]
    cases lkB c.pre b <;> rfl
  · rw [if_neg h, if_neg h]
theorem h1_get (F : Fits ng c) (b : Nat) : c.h1.blk b = (if b < c.n1 then (match lkB c.post b with | some x => x | none => (match lkB c.pre b with | some x => x | none => .no)) else .no) := by
  have hn1 := F.n1
  have hle := F.le
  unfold Clm.h1
  rw [blk_mk]
  by_cases h : b < c.n1
  · rw [if_pos h, if_pos h, setsT_get _ _ _ (fun x hx => Nat.lt_of_lt_of_le (F.post x hx).1 hn1) (by omega)]
    cases lkB c.post b with
    | some x => rfl
    | none =>
      simp only []
      rw [setsT_get _ _ _ (fun x hx => Nat.lt_of_lt_of_le (F.pre x hx) (by omega)) (by omega)]
      cases lkB c.pre b <;> rfl
  · rw [if_neg h, if_neg h]
theorem ClOk.conv (hs : c2.f = c.f ∧ c2.args = c.args ∧ c2.n0 = c.n0 ∧ c2.v = c.v ∧ c2.n1 = c.n1 ∧ c2.r = c.r ∧ c2.w = c.w) (F : Fits ng c) (F2 : Fits ng c2) (hpre : ZImp c2.pre c.pre) (hpost : ZImp c.post c2.post) (h : ClOk P ng c) : ClOk P ng c2 := by
  have i0 : ∀ b, BImp (c2.h0.blk b) (c.h0.blk b) := fun b => by
    rw [h0_get F2, h0_get F, hs.2.2.1]
    by_cases h : b < c.n0
    · rw [if_pos h, if_pos h]
      rcases hpre.lk b with ⟨e1, e2⟩ | ⟨x, y, e1, e2, hi⟩
      · rw [e1, e2]; exact BImp.refl _
      · rw [e1, e2]; exact hi
    · rw [if_neg h, if_neg h]; exact BImp.refl _
  have n0e : c2.h0.nx = c.h0.nx := hs.2.2.1
  have n1e : c2.h1.nx = c.h1.nx := hs.2.2.2.2.1
  have al0 : ∀ b, alive c2.h0 b ↔ alive c.h0 b := fun b => by rw [alive_iff, alive_iff]; exact not_congr (i0 b).1
  obtain ⟨can, hc⟩ := task_EP.1 h
  have i1 : ∀ b, (c.n0 ≤ b ∨ c.w.testBit b = true) → BImp (c.h1.blk b) (c2.h1.blk b) := fun b hb => by
    rw [h1_get F2, h1_get F, hs.2.2.2.2.1]
    by_cases h : b < c.n1
    · rw [if_pos h, if_pos h]
      rcases hpost.lk b with ⟨e1, e2⟩ | ⟨x, y, e1, e2, hi⟩
      · exfalso
        rcases hb with hb | hb
        · obtain ⟨B, hB⟩ := F.new b hb h; rw [e1] at hB; cases hB
        · have hlt : b < c.n0 := lt_bit F.w hb
          have ha := can.wal b hlt hb
          obtain ⟨B, hm, _⟩ := h0_blk F ha
          obtain ⟨B', hB⟩ := F.wp _ hm hb
          rw [e1] at hB; cases hB
      · rw [e1, e2]; exact hi
    · rw [if_neg h, if_neg h]; exact BImp.refl _
  have al1 : ∀ b, (c.n0 ≤ b ∨ c.w.testBit b = true) → (alive c2.h1 b ↔ alive c.h1 b) := fun b hb => by rw [alive_iff, alive_iff]; exact not_congr (i1 b hb).1.symm
  have can2 : Can c2.h0 c2.h1 c2.w := by
    refine ⟨by have := can.wf; rw [show c2.h1.wf = (c2.n1 ≤ 32768) from rfl, hs.2.2.2.2.1]; exact this, by rw [n0e, n1e]; exact can.mono, fun b hb hw => ?_, fun b hb hw => ?_⟩
    · rw [hs.2.2.2.2.2.2] at hw
      rw [n0e] at hb
      have hb : b < c.n0 := hb
      have hln : lkB c2.post b = none := by
        cases e : lkB c2.post b with
        | none => rfl
        | some B =>
          rcases (F2.post _ (lkB_mem e)).2 with h | h
          · rw [hs.2.2.1] at h; simp only at h; omega
          · rw [hs.2.2.2.2.2.2, hw] at h; cases h
      have hle := F.le
      rw [h1_get F2, h0_get F2, hln, if_pos (by rw [hs.2.2.2.2.1]; omega), if_pos (by rw [hs.2.2.1]; exact hb)]
    · rw [hs.2.2.2.2.2.2] at hw
      rw [n0e] at hb
      exact (al0 b).2 (can.wal b hb hw)
  refine task_EP.2 ⟨can2, fun β W hg p args' hl => ?_⟩
  rw [hs.2.1] at hl
  have pc : Pre β c.h0 c.h1 c.r c.w W := by
    refine ⟨fun b hb ha => ?_, fun b d mb md hb hd ab ad eb ed => p.inj b d mb md (by rw [hs.2.2.2.2.2.2]; exact hb) (by rw [hs.2.2.2.2.2.1, hs.2.2.2.2.2.2]; exact hd) ((al0 b).2 ab) ((al0 d).2 ad) eb ed, fun b h1 h2 => p.fresh b (by rw [n0e]; exact h1) (by rw [n1e]; exact h2), p.dom⟩
    obtain ⟨m, e, hr⟩ := p.rel b (by rw [hs.2.2.2.2.2.1, hs.2.2.2.2.2.2]; exact hb) ((al0 b).2 ha)
    exact ⟨m, e, (i0 b).2 β W m hg.2 hr⟩
  rw [hs.1]
  refine (hc β W hg pc args' hl).mono fun e W' hR => ?_
  obtain ⟨β', v', he, hv, q⟩ := hR
  rw [← hs.2.2.2.1] at he hv
  refine ⟨β', v', he, hv, ?_⟩
  rw [hs.2.2.2.2.2.2]
  refine ⟨q.le, fun b m h1 h2 => by rw [n0e, n1e]; exact q.only b m h1 h2, fun b hb ha => ?_, fun rb o ho hno => q.frame rb o ho fun b m hb => hno b m (by rw [n0e]; exact hb), q.size, q.dom, fun b m h1 h2 h3 => ?_, fun b d mb md hb hd ab ad => ?_, q.env⟩
  · rw [n0e] at hb
    obtain ⟨m, e, hr⟩ := q.rel b hb ((al1 b hb).1 ha)
    exact ⟨m, e, (i1 b hb).2 β' W' m (SyQ.mono q.le hg.2) hr⟩
  · rw [n0e] at h1
    rcases q.new b m h1 h2 h3 with h | ⟨d, md, a1, a2, a3, a4, a5⟩
    · exact .inl h
    · exact .inr ⟨d, md, by rw [n0e]; exact a1, a2, a3, a4, fun h => a5 ((al1 d (.inr a2)).1 h)⟩
  · rw [n0e] at hb hd
    exact q.inj b d mb md hb hd ((al1 b hb).1 ab) ((al1 d hd).1 ad)
end
theorem EndOk.swap {tab : Nat → Option Value} {c : Clm} {src : List Nat} {v' : Value} {H' : Hp} {r' w' : Nat} (E : EndOk tab c src v' H' r' w') {c' : Clm} (h0 : c'.f = c.f ∧ c'.args = c.args ∧ c'.n0 = c.n0 ∧ c'.v = c.v ∧ c'.n1 = c.n1 ∧ c'.r = c.r ∧ c'.w = c.w)
    (hid : ∀ x ∈ c.pre, ∃ B, (x.1, B) ∈ c'.pre) (hne : ∀ x ∈ c'.pre, x.2 ≠ .no) (hself : ∀ x ∈ c'.pre, PCov (pm0 c.n0) x.2 x.2) (hn : ∀ s ∈ src, c.n0 ≤ s) (hp : ∀ x ∈ c'.post, PCov (pmS c.n0 c.n1 src) x.2 (H'.blk (srcOf c.n0 src x.1))) : EndOk tab c' src v' H' r' w' := by
  obtain ⟨f, args, pre, n0, v, post, n1, r, w⟩ := c
  obtain ⟨f', args', pre', n0', v2, post', n1', r2, w2⟩ := c'
  simp only at h0 hn hp hid hne hself
  obtain ⟨rfl, rfl, rfl, rfl, rfl, rfl, rfl⟩ := h0
  exact ⟨E.r, E.w, fun b hb => let ⟨B, hB⟩ := E.al b hb; hid _ hB, hne, E.v, hp, E.nx, hself, E.args, E.small, E.len, E.nd, fun s hs => .inl (hn s hs)⟩
end Go.Ev
end
noncomputable section
namespace Go.Ev
variable [SyQ]
theorem Post.grow {β β' : Mp} {H H' : Hp} {w : Nat} {W W1 W2 : World} {os : Array Obj} (q : Post β β' H H' w W W1) (h : W2.heap = W1.heap ++ os) (he : W2.os = W1.os ∧ W2.tape = W1.tape ∧ W2.output = W1.output) : Post β β' H H' w W W2 := by
  have up : ∀ (i : Nat) o, W1.heap[i]? = some o → W2.heap[i]? = some o := fun i o ho => by
    have hi : i < W1.heap.size := by
      rcases Nat.lt_or_ge i W1.heap.size with h' | h'
      · exact h'
      · rw [Array.getElem?_eq_none h'] at ho; cases ho
    rw [h, Array.getElem?_append_left hi]; exact ho
  have sz : W1.heap.size ≤ W2.heap.size := by rw [h, Array.size_append]; omega
  exact ⟨q.le, q.only, fun b hb ha => let ⟨m, e1, o, ho, hr⟩ := q.rel b hb ha; ⟨m, e1, o, up _ _ ho, hr⟩, fun rb o ho hn => up _ _ (q.frame rb o ho hn), Nat.le_trans q.size sz,
    fun b m e => Nat.lt_of_lt_of_le (q.dom b m e) sz, q.new, q.inj, ⟨he.1.trans q.env.1, he.2.1.trans q.env.2.1, he.2.2.trans q.env.2.2⟩⟩
def intsOf : List Value → Option (List Int)
  | [] => some []
  | v :: r => match v with
    | .int .i64 z => (match intsOf r with | some l => some (z :: l) | none => none)
    | _ => none
theorem intsOf_inv : ∀ {l : List Value} {zs : List Int}, intsOf l = some zs → l = zs.map (Value.int .i64) := by
  intro l
  induction l with
  | nil => intro zs h; cases h; rfl
  | cons v r ih =>
    intro zs h
    unfold intsOf at h
    split at h
    · rename_i z
      split at h
      · rename_i l hl
        cases h
        rw [ih hl]; rfl
      · cases h
    · cases h
theorem intsOf_map (zs : List Int) : intsOf (zs.map (Value.int .i64)) = some zs := by
  induction zs with
  | nil => rfl
  | cons z zs ih => simp only [List.map_cons, intsOf, ih]
def spRow (g : List Int → List Int) (rv : Nat → Nat → Nat → List Int → Value) (args : List Value) (H : Hp) : Option (Value × Hp × Nat × Nat) := match args with
  | [.slice (some ⟨b, o, none⟩) n c] => (match rdN H b o n with
    | some l => (match intsOf l with
      | some zs => Bc (Nat.blt zs.length 4611686018427387904 && Nat.ble zs.length (Nat.div c 2)) (match wrN H b o ((g zs).map (Value.int .i64)) with
        | some H' => some (rv b o c zs, H', bit b, bit b)
        | none => none) none
      | none => none)
    | none => none)
  | _ => none
theorem modify_set {W : World} {rb : Nat} {o o' : Obj} {F : Obj → Obj} (h : W.heap[rb]? = some o) (hF : F o = o') : W.heap.modify rb F = W.heap.setIfInBounds rb o' := by
  have hlt : rb < W.heap.size := by
    rcases Nat.lt_or_ge rb W.heap.size with h' | h'
    · exact h'
    · rw [Array.getElem?_eq_none h'] at h; cases h
  apply Array.ext_getElem?
  intro k
  rw [Array.getElem?_modify, Array.getElem?_setIfInBounds]
  by_cases hk : rb = k
  · subst hk
    rw [if_pos rfl, if_pos rfl, if_pos hlt, h, Option.map_some, hF]
  · rw [if_neg hk, if_neg hk]
theorem putCells_get (off : Nat) (d : Array Int) (c : Array Value) (k : Nat) : (Sort.putCells (Value.int .i64) off d c)[k]? = c[k]?.map fun x => if off ≤ k ∧ k < off + d.size then Value.int .i64 d[k - off]! else x := by
  unfold Sort.putCells
  rw [Array.getElem?_mapIdx]
theorem spRow_ok {P : Program} {ng : Nat} {f : FuncId} {g : List Int → List Int} {rv rv' : Nat → Nat → Nat → List Int → Value} (hg : ∀ zs, (g zs).length = zs.length)
    (hent : ∀ (args : Array Value) (W : World), (callFunc f args).run P W = .ok (.enter f args) W)
    (hrel : ∀ (β : Mp) b o c c' m zs, β b = some m → CapRel m o c c' → VRel β (rv b o c zs) (rv' m.rb (o + m.sh) c' zs))
    (hc : ∀ (blk off cap : Nat) (zs : List Int) (W : World), Sort.Holds (Value.int .i64) W blk off zs.toArray → blk < W.heap.size → zs.length < 4611686018427387904 → zs.length ≤ cap →
      Calls P f #[.slice (some ⟨blk, off, none⟩) zs.length cap] W fun e W' => e = .returned (rv' blk off cap zs) ∧ ∃ n os, W' = Sort.grow (Sort.putRow (Value.int .i64) (Sort.ahead W n) blk off (g zs).toArray) os)
    {args : List Value} {H : Hp} {v : Value} {H' : Hp} {r w : Nat} (hw : H.wf) (h : spRow g rv args H = some (v, H', r, w)) : TaskOk P ng (.call f args) H (.k (.ret v H' r w)) := by
  unfold spRow at h
  split at h
  case h_2 => cases h
  rename_i b o n c
  cases e1 : rdN H b o n with
  | none => rw [e1] at h; cases h
  | some l =>
  rw [e1] at h
  simp only [] at h
  cases e2 : intsOf l with
  | none => rw [e2] at h; cases h
  | some zs =>
  rw [e2] at h
  simp only [] at h
  cases e3 : (Nat.blt zs.length 4611686018427387904 && Nat.ble zs.length (Nat.div c 2)) with
  | false => rw [e3, Bc_f] at h; cases h
  | true =>
  rw [e3, Bc_t] at h
  rw [Bool.and_eq_true] at e3
  have hlen := (blt_iff _ _).1 e3.1
  have hcap2 : zs.length ≤ c / 2 := (ble_iff _ _).1 e3.2
  cases e4 : wrN H b o ((g zs).map (Value.int .i64)) with
  | none => rw [e4] at h; cases h
  | some H1 =>
  rw [e4] at h
  simp only [Option.some.injEq, Prod.mk.injEq] at h
  obtain ⟨rfl, rfl, rfl, rfl⟩ := h
  refine ⟨(can_wr hw e4).1, fun β W hgr p => ?_⟩
  intro args' hl
  obtain ⟨x', l', e, hx, hl'⟩ := hl.cons_inv
  have := hl'.nil_inv; subst this
  have ea := arr_one e; subst ea
  cases hx with | sl _ _ _ _ c' m e0 hcap =>
  have ha := (can_wr hw e4).2
  obtain ⟨t, n', ty, op, lo, hi, hb, ho, hth, rfl⟩ := wrN_inv e4
  obtain ⟨m', cs, fr, em, hm, h2, h3, h4, h4', h5, h6⟩ := cells_of p (.inl ((bit_iff b b).2 rfl)) hb
  rw [e0] at em; cases em
  obtain ⟨t', q, ty', op', lo', hi', hb', ho', rfl⟩ := rdN_inv e1
  rw [hb] at hb'
  cases hb'
  have hzs := intsOf_inv e2
  have hn : zs.length = n := by
    have := congrArg List.length hzs
    rw [rdL_len, List.length_map] at this
    exact this.symm
  have hgl : ((g zs).map (Value.int .i64)).length = zs.length := by rw [List.length_map, hg]
  rw [hgl] at ho hth
  have hval : ∀ j, j < zs.length → t.get (o + j) = .int .i64 zs[j]! := fun j hj => by
    have h7 := rdL_get t n o j (by omega)
    rw [hzs, List.getElem?_map] at h7
    rw [getElem!_pos zs j hj]
    rw [List.getElem?_eq_getElem hj] at h7
    exact (Option.some.inj h7).symm
  have hH : Sort.Holds (Value.int .i64) W m.rb (o + m.sh) zs.toArray := by
    intro j hj
    have hj' : j < zs.length := by simpa using hj
    obtain ⟨_, v', k1, k2⟩ := h5 (o + j) (by omega)
    rw [hval j hj'] at k2
    cases k2
    constructor
    · unfold World.cell?
      simp only [hm]
      rw [show o + m.sh + j = m.sh + (o + j) from by omega, k1]
      simp [hj']
    · unfold World.frozen?
      simp only [hm]
      have := thawed_ok hth h6 (by omega) (o + m.sh + j) (by omega) (by omega)
      simp only [Bool.and_eq_false_imp, decide_eq_true_eq, decide_eq_false_iff_not]
      omega
  have hcc : zs.length ≤ c' := by
    rcases Nat.mod_two_eq_zero_or_one c with hc2 | hc2
    · have := hcap.1 hc2; omega
    · have := (hcap.2 hc2).1; omega
  subst hn
  refine .inl ⟨hent _ _, callsIn_wide.2 ((hc m.rb (o + m.sh) c' zs W hH (p.dom b m e0) hlen hcc).mono fun e W' hR => ?_)⟩
  obtain ⟨rfl, k, os, rfl⟩ := hR
  refine ⟨β, _, rfl, hrel β b o c c' m zs e0 hcap, ?_⟩
  have hor : ORel β m (.cells (wrL (dep n') ((g zs).map (Value.int .i64)) o t) n' ty op lo hi) (.cells (Sort.putCells (Value.int .i64) (o + m.sh) (g zs).toArray cs) ty fr) := by
    refine ⟨_, fr, rfl, by unfold Sort.putCells; rw [Array.size_mapIdx]; exact h2, h3, h4, h4', fun i hi => ?_, h6⟩
    have hd := lt_dep n'
    obtain ⟨k1, v', k2, k3⟩ := h5 i hi
    rw [wrL_get _ _ _ _ _ (by omega) (by omega), putCells_get, k2, Option.map_some]
    have hsz : (g zs).toArray.size = zs.length := by rw [List.size_toArray, hg]
    rw [hgl, hsz]
    by_cases hin : o ≤ i ∧ i < o + zs.length
    · rw [if_pos hin, if_pos (by omega)]
      have hlt : i - o < (g zs).length := by rw [hg]; omega
      have hgt : ((g zs).map (Value.int .i64)).getD (i - o) U = .int .i64 (g zs)[i - o] := by simp [List.getD, hlt]
      rw [hgt]
      refine ⟨rfl, _, rfl, ?_⟩
      rw [show m.sh + i - (o + m.sh) = i - o from by omega]
      have : (g zs).toArray[i - o]! = (g zs)[i - o] := by rw [getElem!_pos (g zs).toArray (i - o) (by simpa using hlt)]; simp
      rw [this]; exact .int _ _
    · rw [if_neg hin, if_neg (by omega)]
      exact ⟨k1, v', rfl, k3⟩
  refine (post_put _ hw ha e0 hm hor p.dom).grow (os := os) ?_ ⟨rfl, rfl, rfl⟩
  show W.heap.modify m.rb (Sort.onCells (Sort.putCells (Value.int .i64) (o + m.sh) (g zs).toArray)) ++ os = W.heap.setIfInBounds m.rb _ ++ os
  rw [modify_set hm rfl]; rfl
def spNil (rn : Nat → Value) (args : List Value) (H : Hp) : Option (Value × Hp × Nat × Nat) := match args with
  | [.slice none 0 c] => some (rn c, H, 0, 0)
  | _ => none
theorem spNil_ok {P : Program} {ng : Nat} {f : FuncId} {rn : Nat → Value}
    (hent : ∀ (args : Array Value) (W : World), (callFunc f args).run P W = .ok (.enter f args) W)
    (hrel : ∀ (β : Mp) c, VRel β (rn c) (rn c))
    (hc : ∀ (c : Nat) (W : World), Calls P f #[.slice none 0 c] W fun e W' => e = .returned (rn c) ∧ W' = W)
    {args : List Value} {H : Hp} {v : Value} {H' : Hp} {r w : Nat} (hw : H.wf) (h : spNil rn args H = some (v, H', r, w)) : TaskOk P ng (.call f args) H (.k (.ret v H' r w)) := by
  unfold spNil at h
  split at h
  · rename_i c
    simp only [Option.some.injEq, Prod.mk.injEq] at h
    obtain ⟨rfl, rfl, rfl, rfl⟩ := h
    refine ⟨Can.refl hw, fun β W hg p => ?_⟩
    intro args' hl
    obtain ⟨x', l', e, hx, hl'⟩ := hl.cons_inv
    have := hl'.nil_inv; subst this
    have ea := arr_one e; subst ea
    cases hx
    refine .inl ⟨hent _ _, callsIn_wide.2 ((hc c W).mono fun e W' hR => ?_)⟩
    obtain ⟨rfl, rfl⟩ := hR
    exact ⟨β, _, rfl, hrel β c, Post.refl p.dom⟩
  · cases h
def spOr (a b : Option (Value × Hp × Nat × Nat)) : Option (Value × Hp × Nat × Nat) := match a with | some x => some x | none => b
theorem spOr_inv {a b : Option (Value × Hp × Nat × Nat)} {x : Value × Hp × Nat × Nat} (h : spOr a b = some x) : a = some x ∨ b = some x := by
  cases a with
  | some y => exact .inl h
  | none => exact .inr h
theorem wrN_row {H : Hp} {b ty op : Nat} {L vs : List Value} (hf : H.wf) (h : Row H b ty op L) (hl : vs.length = L.length) :
    ∃ H', wrN H b 0 vs = some H' ∧ Row H' b ty op vs ∧ H' = H.put b (.cells (wrL (dep L.length) vs 0 (match H.blk b with | .cells t _ _ _ _ _ => t | _ => .e U)) L.length ty op 0 0) := by
  have hlt := h.lt
  obtain ⟨t, h1, h2⟩ := h
  refine ⟨_, ?_, ⟨wrL (dep L.length) vs 0 t, ?_, fun i v hv => ?_⟩, rfl⟩
  · unfold wrN; rw [h1]; simp only []
    rw [(ble_iff _ _).2 (by omega), thawed_zero]; rfl
  · rw [blk_put _ hf hlt, if_pos rfl, hl, h1]
  · have hd := lt_dep L.length
    have hi : i < vs.length := by
      rcases Nat.lt_or_ge i vs.length with h' | h'
      · exact h'
      · rw [List.getElem?_eq_none h'] at hv; cases hv
    rw [wrL_get _ _ _ _ _ (by omega) (by omega), if_pos ⟨by omega, by omega⟩]
    simp [List.getD, hv]
theorem spRow_row {g : List Int → List Int} {rv : Nat → Nat → Nat → List Int → Value} {H : Hp} {b ty op c : Nat} {zs : List Int} (hg : ∀ zs, (g zs).length = zs.length) (hw : H.wf) (h : Row H b ty op (zs.map (Value.int .i64))) (hlen : zs.length < 4611686018427387904) (hc : zs.length ≤ c / 2) :
    ∃ H', spRow g rv [.slice (some ⟨b, 0, none⟩) zs.length c] H = some (rv b 0 c zs, H', bit b, bit b) ∧ Row H' b ty op ((g zs).map (Value.int .i64)) ∧ H'.nx = H.nx ∧ (∀ x, x ≠ b → H'.blk x = H.blk x) ∧ H'.isFn = H.isFn := by
  have hlt := h.lt
  obtain ⟨H', h1, h2, h3⟩ := wrN_row (vs := (g zs).map (Value.int .i64)) hw h (by rw [List.length_map, List.length_map, hg])
  have hr := rdN_all h
  rw [List.length_map] at hr
  refine ⟨H', ?_, h2, by rw [h3, nx_put], fun x hx => by rw [h3, blk_put_ne hw _ hlt hx], by rw [h3, isFn_put]⟩
  simp only [spRow, hr, intsOf_map]
  rw [(blt_iff _ _).2 hlen, show Nat.ble zs.length (Nat.div c 2) = true from (ble_iff _ _).2 hc]
  simp only [Bool.and_self, Bc_t, h1]
section
variable {tb : Tb} {sp : Nat → List Value → Hp → Option (Value × Hp × Nat × Nat)} {e : Env}
theorem EC.of_sp {f : FuncId} {args : List Value} {H H' : Hp} {v : Value} {r w : Nat} {K : Value → Hp → Prop} (h : sp f args H = some (v, H', r, w)) (hp : unPan v = none) (hok : e.ok r w H') (hn : H.nx ≤ H'.nx) (hk : K v H') : EC tb sp e f args H K := by
  refine ⟨1, v, H', r, w, ?_, hok, hn, hk⟩
  show evTask tb sp (ev tb sp 0) (.call f args) H = _
  simp only [evTask, h, spKR, hp]
end
end Go.Ev
end
