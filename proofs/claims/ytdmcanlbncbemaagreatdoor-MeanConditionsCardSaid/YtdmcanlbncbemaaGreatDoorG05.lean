/-
  A part of the reckoner for the statements of a Go program: what it answers, the model answers. Holds for every program whose tables are as given.
-/
import Derived.Test.YtdmcanlbncbemaaGreatDoorG04
set_option linter.unusedSimpArgs false
set_option linter.unusedVariables false
set_option linter.unusedSectionVars false
noncomputable section
namespace Go.Ev
variable [SyQ]
section
variable {P : Program} {tb : Tb} {d nt : Nat} {rnd : Option Nat} {ops : Array Oper} {B : Array Nat} {n : Nat} (D : Dr P tb d nt rnd ops B n)
theorem scope_fp {S : Nat → Bool} {rt wt j b : Nat} (hj : j < n) (hb : ∀ i, i < j → (B.getD j 0).testBit i = true → S i = true) (hr : sub (D.r j) rt) (hw : sub (D.w j) wt)
    (hf : (D.r j).testBit b = true ∨ (D.w j).testBit b = true) (hlt : b < (D.H j).nx) : D.scope S rt wt b := by
  rcases Nat.lt_or_ge b (D.H 0).nx with h0 | h0
  · exact .inl ⟨h0, hf.imp (hr b) (hw b)⟩
  · obtain ⟨k, hk, hkb⟩ := alloc_of D j (by omega) h0 hlt
    refine .inr ⟨k, by omega, ?_, hkb⟩
    cases hs : S k with
    | true => rfl
    | false =>
      exfalso
      rcases D.ind k j hk hj with h | ⟨h, _⟩
      · rw [hb k hk h] at hs; cases hs
      · have := h b (.inr hkb)
        rcases hf with hf | hf
        · rw [this.1] at hf; cases hf
        · rw [this.2.1] at hf; cases hf
theorem wscope_fp {S : Nat → Bool} {wt j b : Nat} (hj : j < n) (hb : ∀ i, i < j → (B.getD j 0).testBit i = true → S i = true) (hw : sub (D.w j) wt) (hf : (D.w j).testBit b = true) (hlt : b < (D.H j).nx) : D.wscope S wt b := by
  rcases scope_fp D (rt := D.r j) hj hb (fun _ h => h) hw (.inr hf) hlt with h | h
  · exact .inl ⟨h.1, hw b hf⟩
  · exact .inr h
theorem pre_step {S : Nat → Bool} (hS : Closed B S) {β0 β : Mp} {W0 W : World} {a : Act} {rt wt r0 w0 j : Nat} {ds : List Deferred} (hj : j < n) (hn : S j = false) (hb : ∀ i, i < j → (B.getD j 0).testBit i = true → S i = true) (hr : sub (D.r j) rt) (hw : sub (D.w j) wt)
    (p0 : Pre β0 (D.H 0) (D.H n) r0 w0 W0) (I : DInv D S β0 W0 rt wt ds β W a) : Pre β (D.H j) (D.H (j + 1)) (D.r j) (D.w j) W := by
  have hsc := fun {b : Nat} (hf : inS (D.r j) (D.w j) b) (ha : alive (D.H j) b) => scope_fp D hj hb hr hw hf ha.1
  have hwc := fun {b : Nat} (hf : (D.w j).testBit b = true) (ha : alive (D.H j) b) => wscope_fp D hj hb hw hf ha.1
  have hce := fun {b : Nat} (hf : inS (D.r j) (D.w j) b) (ha : alive (D.H j) b) => D.cont_eq hS hj hn hb hf ha.1
  refine ⟨fun b hf ha => ?_, fun b c mb mc hfb hfc hab hac eb ec e => ?_, fun b h1 h2 => ?_, I.dom⟩
  · have h1 := hce hf ha
    obtain ⟨m, e, hB⟩ := I.rel b (hsc hf ha) (by rw [h1]; exact ha.2)
    exact ⟨m, e, by rw [h1] at hB; exact hB⟩
  · exact I.inj b c mb mc (hwc hfb hab) (hsc hfc hac) (by rw [hce (inS_w hfb) hab]; exact hab.2) (by rw [hce hfc hac]; exact hac.2) eb ec e
  · cases e : β b with
    | none => rfl
    | some m =>
      exfalso
      have hm0 := D.mono (i := 0) (j := j) (by omega) (by omega)
      have hmn := D.mono (i := j + 1) (j := n) (by omega) (by omega)
      have hf0 := p0.fresh b (by omega) (by omega)
      obtain ⟨k, hk, hs, hkb⟩ := I.only b m e hf0
      have := alloc_one D hk hj hkb ⟨h1, h2⟩
      subst this
      rw [hn] at hs; cases hs
end
end Go.Ev
end
noncomputable section
namespace Go.Ev
variable [SyQ]
section
variable {P : Program} {tb : Tb} {d nt : Nat} {rnd : Option Nat} {ops : Array Oper} {B : Array Nat} {n : Nat} (D : Dr P tb d nt rnd ops B n)
theorem newIn_add {S : Nat → Bool} {j b : Nat} (h : D.newIn (addS S j) b) : D.newIn S b ∨ ((D.H j).nx ≤ b ∧ b < (D.H (j + 1)).nx) := by
  obtain ⟨k, hk, hs, hb⟩ := h
  by_cases e : k = j
  · subst e; exact .inr hb
  · exact .inl ⟨k, hk, by simpa [addS, e] using hs, hb⟩
theorem newIn_mono {S : Nat → Bool} {j b : Nat} (h : D.newIn S b) : D.newIn (addS S j) b := by
  obtain ⟨k, hk, hs, hb⟩ := h
  exact ⟨k, hk, by simp [addS, hs], hb⟩
theorem post_step {S : Nat → Bool} (hS : Closed B S) {β0 β β' : Mp} {W0 W W' : World} {a : Act} {rt wt r0 w0 j : Nat} {ds : List Deferred} {o : Oper} {v' : Value} (hap : ApOk ops B) (hj : j < n) (ho : ops[j]? = some o) (hn : S j = false)
    (hb : ∀ i, i < j → (B.getD j 0).testBit i = true → S i = true) (hr : sub (D.r j) rt) (hw : sub (D.w j) wt)
    (p0 : Pre β0 (D.H 0) (D.H n) r0 w0 W0) (hrt : sub rt r0) (hwt : sub wt w0) (I : DInv D S β0 W0 rt wt ds β W a) (hv : VRel β' (D.v j) v') (q : Post β β' (D.H j) (D.H (j + 1)) (D.w j) W W') :
    DInv D (addS S j) β0 W0 rt wt ds β' W' (a.put o.dst v') := by
  have hm0 := D.mono (i := 0) (j := j) (by omega) (by omega)
  have hm1 := D.mono (i := j) (j := j + 1) (by omega) (by omega)
  have hmn := D.mono (i := j + 1) (j := n) (by omega) (by omega)
  have pj := pre_step D hS hj hn hb hr hw p0 I
  have hcan := D.can hj
  have ct := fun {b : Nat} (h : D.touch j b = true) => D.cont_touch hS hj hn h
  have co := fun {b : Nat} (h : D.touch j b = false) => D.cont_other hn h n
  have wr : ∀ b, (D.w j).testBit b = true → b < (D.H j).nx → D.wscope S wt b ∧ D.cont S n b = (D.H j).blk b ∧ (D.H j).blk b ≠ .no := fun b h1 h2 =>
    ⟨wscope_fp D hj hb hw h1 h2, D.cont_eq hS hj hn hb (.inr h1) h2, (hcan.wal b h2 h1).2⟩
  have tq : ∀ b, D.touch j b = true → D.cont (addS S j) n b ≠ .no → ((D.H j).nx ≤ b ∨ (D.w j).testBit b = true) ∧ alive (D.H (j + 1)) b := by
    intro b h1 h2
    rw [ct h1] at h2
    refine ⟨?_, (alive_iff _ _).2 h2⟩
    rcases (touch_iff D).1 h1 with h | h
    · exact .inr h
    · exact .inl h.1
  have sc : ∀ b, D.touch j b = false → D.scope (addS S j) rt wt b → D.scope S rt wt b := by
    intro b h1 h2
    rcases h2 with h2 | h2
    · exact .inl h2
    · rcases newIn_add D h2 with h | h
      · exact .inr h
      · rw [(touch_iff D).2 (.inr h)] at h1; cases h1
  have scw : ∀ b, D.touch j b = false → D.wscope (addS S j) wt b → D.wscope S wt b := by
    intro b h1 h2
    rcases h2 with h2 | h2
    · exact .inl h2
    · rcases newIn_add D h2 with h | h
      · exact .inr h
      · rw [(touch_iff D).2 (.inr h)] at h1; cases h1
  have known : ∀ b m, D.touch j b = false → D.scope (addS S j) rt wt b → D.cont (addS S j) n b ≠ .no → β' b = some m → β b = some m ∧ D.scope S rt wt b ∧ D.cont S n b ≠ .no := by
    intro b m h1 h2 h3 e
    rw [co h1] at h3
    have hs := sc b h1 h2
    obtain ⟨m1, e1, _⟩ := I.rel b hs h3
    have := q.le _ _ e1
    rw [e] at this; cases this
    exact ⟨e1, hs, h3⟩
  refine ⟨I.le.trans q.le, q.dom, fun b m e h0 => ?_, fun b hs hc => ?_, fun b c mb mc hsb hsc hcb hcc eb ec e => ?_, fun rb ob h1 h2 => ?_, Nat.le_trans I.size q.size, fun b m hb0 h0 e => ?_,
    ⟨q.env.1.trans I.env.1, q.env.2.1.trans I.env.2.1, q.env.2.2.trans I.env.2.2⟩, ?_, ?_, ?_⟩
  · cases e1 : β b with
    | some m1 => exact newIn_mono D (I.only b m1 e1 h0)
    | none =>
      have := q.only b m e e1
      exact ⟨j, hj, by simp [addS], this⟩
  · cases ht : D.touch j b with
    | true =>
      obtain ⟨t1, t2⟩ := tq b ht hc
      rw [ct ht]
      exact q.rel b t1 t2
    | false =>
      rw [co ht] at hc ⊢
      have hs' := sc b ht hs
      obtain ⟨m, e, o1, ho1, hr1⟩ := I.rel b hs' hc
      refine ⟨m, q.le _ _ e, o1, ?_, hr1.mono q.le⟩
      refine q.frame m.rb o1 ho1 fun c mc hcl hcw ec he => ?_
      obtain ⟨s1, s2, s3⟩ := wr c hcw hcl
      have := I.inj c b mc m s1 hs' (by rw [s2]; exact s3) hc ec e he
      subst this
      rw [(touch_iff D).2 (.inl hcw)] at ht; cases ht
  ·
    have cross : ∀ b c mb mc, D.touch j b = true → D.touch j c = false → D.scope (addS S j) rt wt c → D.cont (addS S j) n b ≠ .no → D.cont (addS S j) n c ≠ .no → β' b = some mb → β' c = some mc → mb.rb = mc.rb → False := by
      intro b c mb mc htb htc hsc hcb hcc eb ec e
      obtain ⟨k1, k2, k3⟩ := known c mc htc hsc hcc ec
      obtain ⟨t1, t2⟩ := tq b htb hcb
      by_cases hbl : b < (D.H j).nx
      · have hbw : (D.w j).testBit b = true := t1.resolve_left (by omega)
        obtain ⟨s1, s2, s3⟩ := wr b hbw hbl
        obtain ⟨m1, e1, _⟩ := I.rel b s1.scope (by rw [s2]; exact s3)
        have := q.le _ _ e1; rw [eb] at this; cases this
        have := I.inj b c mb mc s1 k2 (by rw [s2]; exact s3) k3 e1 k1 e
        subst this
        rw [htb] at htc; cases htc
      · have hbf : β b = none := pj.fresh b (by omega) t2.1
        rcases q.new b mb (by omega) hbf eb with h | ⟨x, mx, hx, hxw, ex, erb, _⟩
        · have := I.dom c mc k1; omega
        · obtain ⟨s1, s2, s3⟩ := wr x hxw hx
          have := I.inj x c mx mc s1 k2 (by rw [s2]; exact s3) k3 ex k1 (by omega)
          subst this
          rw [(touch_iff D).2 (.inl hxw)] at htc; cases htc
    cases htb : D.touch j b with
    | true =>
      cases htc : D.touch j c with
      | true =>
        obtain ⟨b1, b2⟩ := tq b htb hcb
        obtain ⟨c1, c2⟩ := tq c htc hcc
        exact q.inj b c mb mc b1 c1 b2 c2 eb ec e
      | false => exact (cross b c mb mc htb htc hsc hcb hcc eb ec e).elim
    | false =>
      cases htc : D.touch j c with
      | true => exact (cross c b mc mb htc htb hsb.scope hcc hcb ec eb e.symm).elim
      | false =>
        obtain ⟨b1, b2, b3⟩ := known b mb htb hsb.scope hcb eb
        obtain ⟨c1, c2, c3⟩ := known c mc htc hsc hcc ec
        exact I.inj b c mb mc (scw b htb hsb) c2 b3 c3 b1 c1 e
  · refine q.frame rb ob (I.frame rb ob h1 h2) fun c mc hcl hcw ec => ?_
    obtain ⟨s1, s2, s3⟩ := wr c hcw hcl
    by_cases hc0 : c < (D.H 0).nx
    · have ha0 := alive_back D hc0 (by omega : j ≤ n) s3
      obtain ⟨m1, e1, _⟩ := p0.rel c (.inr (hwt c (hw c hcw))) ((alive_iff _ _).2 ha0)
      have := I.le _ _ e1; rw [ec] at this; cases this
      exact h2 c mc hc0 (hw c hcw) e1
    · have hf0 := p0.fresh c (by omega) (by omega)
      rcases I.new c mc (by omega) hf0 ec with h | ⟨x, mx, hx, hxw, ex, erb, _⟩
      · have : rb < W0.heap.size := by
          rcases Nat.lt_or_ge rb W0.heap.size with h' | h'
          · exact h'
          · simp [Array.getElem?_eq_none h'] at h1
        omega
      · have := h2 x mx hx hxw ex; omega
  ·
    have deadkeep : ∀ x, x < (D.H 0).nx → D.cont S n x = .no → D.cont (addS S j) n x = .no := by
      intro x hx hc
      cases ht : D.touch j x with
      | false => rw [co ht]; exact hc
      | true =>
        rcases (touch_iff D).1 ht with h | h
        · obtain ⟨s1, s2, s3⟩ := wr x h (by omega)
          rw [s2] at hc; exact absurd hc s3
        · omega
    cases e1 : β b with
    | some m1 =>
      have := q.le _ _ e1; rw [e] at this; cases this
      rcases I.new b m hb0 h0 e1 with h | ⟨c, mc, hc, hcw, ec, erb, hd⟩
      · exact .inl h
      · exact .inr ⟨c, mc, hc, hcw, ec, erb, deadkeep c hc hd⟩
    | none =>
      have hbb := q.only b m e e1
      rcases q.new b m hbb.1 e1 e with h | ⟨c, mc, hc, hcw, ec, erb, hd⟩
      · exact .inl (Nat.le_trans I.size h)
      · obtain ⟨s1, s2, s3⟩ := wr c hcw hc
        by_cases hc0 : c < (D.H 0).nx
        · have ha0 := alive_back D hc0 (by omega : j ≤ n) s3
          obtain ⟨m1, e2, _⟩ := p0.rel c (.inr (hwt c (hw c hcw))) ((alive_iff _ _).2 ha0)
          have := I.le _ _ e2; rw [ec] at this; cases this
          refine .inr ⟨c, mc, hc0, hw c hcw, e2, erb, ?_⟩
          rw [ct ((touch_iff D).2 (.inl hcw))]
          cases e3 : (D.H (j + 1)).blk c with
          | no => rfl
          | _ => exact absurd ((alive_iff _ _).2 (by rw [e3]; simp)) hd
        · have hf0 := p0.fresh c (by omega) (by omega)
          rcases I.new c mc (by omega) hf0 ec with h | ⟨x, mx, hx, hxw, ex, erb', hdx⟩
          · exact .inl (by omega)
          · exact .inr ⟨x, mx, hx, hxw, ex, by omega, deadkeep x hx hdx⟩
  · cases o.dst <;> simp [Act.put, I.tsz]
  · intro x hx
    rw [tcont_add D hap hS hj hn x]
    have hold := (I.tmp x hx).mono q.le
    cases hdst : o.dst with
    | none =>
      have : dstIs ops j x = false := by simp [dstIs, ho, hdst]
      rw [if_neg (by simp [this])]
      exact hold
    | some i =>
      have hsz : x < a.tmps.size := by rw [I.tsz]; exact hx
      by_cases e : i = x
      · subst e
        have : dstIs ops j i = true := (dstIs_iff ho).2 hdst
        rw [if_pos this]
        simpa [Act.put, Array.getD, hsz] using hv
      · have : ¬ (dstIs ops j x = true) := fun h => by
          have := (dstIs_iff ho).1 h; rw [hdst] at this; cases this; exact e rfl
        rw [if_neg this]
        have hg : (a.put (some i) v').tmps.getD x undef = a.tmps.getD x undef := by
          simp [Act.put, Array.getD, hsz, Array.getElem_setIfInBounds, e]
        rw [hg]; exact hold
  · have : (a.put o.dst v').defers = a.defers := by cases o.dst <;> rfl
    rw [this]; exact I.def_.mono q.le
end
end Go.Ev
end
noncomputable section
namespace Go.Ev
variable [SyQ]
def bfStep (acc : Array Nat) (o : Oper) : Array Nat := acc.push (o.after.foldl (fun s e => if Region.binds .any e then s ||| 2 ^ e.on ||| acc.getD e.on 0 else s) 0)
theorem before_eq (ops : Array Oper) : Region.before ops = ops.toList.foldl bfStep #[] := by
  unfold Region.before
  rw [← Array.foldl_toList]
  rfl
theorem fold_bits (acc : Array Nat) (i : Nat) : ∀ (l : List Edge) (s : Nat), (l.foldl (fun s e => if Region.binds .any e then s ||| 2 ^ e.on ||| acc.getD e.on 0 else s) s).testBit i = true →
    s.testBit i = true ∨ ∃ e ∈ l, Region.binds .any e = true ∧ (i = e.on ∨ (acc.getD e.on 0).testBit i = true) := by
  intro l
  induction l with
  | nil => intro s h; exact .inl h
  | cons e l ih =>
    intro s h
    rw [List.foldl_cons] at h
    rcases ih _ h with h1 | ⟨x, hx, h2⟩
    · by_cases hb : Region.binds .any e = true
      · rw [if_pos hb] at h1
        rw [Nat.testBit_or, Nat.testBit_or] at h1
        simp only [Bool.or_eq_true] at h1
        rcases h1 with (h1 | h1) | h1
        · exact .inl h1
        · rw [Nat.testBit_two_pow] at h1
          exact .inr ⟨e, by simp, hb, .inl (by simp at h1; exact h1.symm)⟩
        · exact .inr ⟨e, by simp, hb, .inr h1⟩
      · rw [if_neg hb] at h1
        exact .inl h1
    · exact .inr ⟨x, by simp [hx], h2⟩
theorem bf_fold : ∀ (l : List Oper) (acc : Array Nat), (∀ k, k < acc.size → (l.foldl bfStep acc).getD k 0 = acc.getD k 0) ∧
    ∀ (k : Nat) o, l[k]? = some o → ∀ i, ((l.foldl bfStep acc).getD (acc.size + k) 0).testBit i = true → ∃ e ∈ o.after.toList, Region.binds .any e = true ∧ (i = e.on ∨ ((l.foldl bfStep acc).getD e.on 0).testBit i = true) := by
  intro l
  induction l with
  | nil => intro acc; exact ⟨fun k _ => rfl, fun k o h => by simp at h⟩
  | cons o l ih =>
    intro acc
    have hsz : (bfStep acc o).size = acc.size + 1 := by simp [bfStep]
    obtain ⟨h1, h2⟩ := ih (bfStep acc o)
    have old : ∀ k, k < acc.size → (bfStep acc o).getD k 0 = acc.getD k 0 := by
      intro k hk
      rw [Array.getD_eq_getD_getElem?, Array.getD_eq_getD_getElem?]
      show (((acc.push _)[k]?).getD 0) = _
      rw [Array.getElem?_push_lt hk]
      simp [hk]
    have keep : ∀ k, k < acc.size → (List.foldl bfStep acc (o :: l)).getD k 0 = acc.getD k 0 := by
      intro k hk
      rw [List.foldl_cons, h1 k (by omega), old k hk]
    refine ⟨keep, fun k o1 ho i hi => ?_⟩
    cases k with
    | zero =>
      simp at ho; subst ho
      rw [List.foldl_cons, Nat.add_zero, h1 acc.size (by omega)] at hi
      have hnew : (bfStep acc o).getD acc.size 0 = o.after.foldl (fun s e => if Region.binds .any e then s ||| 2 ^ e.on ||| acc.getD e.on 0 else s) 0 := by
        rw [Array.getD_eq_getD_getElem?]
        show (((acc.push _)[acc.size]?).getD 0) = _
        rw [Array.getElem?_push_size]; rfl
      rw [hnew, ← Array.foldl_toList] at hi
      rcases fold_bits acc i _ _ hi with h | ⟨e, he, hb, h⟩
      · simp at h
      · refine ⟨e, he, hb, h.imp id fun h => ?_⟩
        have hlt : e.on < acc.size := by
          rcases Nat.lt_or_ge e.on acc.size with h' | h'
          · exact h'
          · simp [Array.getD, Nat.not_lt.2 h'] at h
        rw [keep _ hlt]; exact h
    | succ k =>
      simp at ho
      have := h2 k o1 ho i (by rw [hsz, show acc.size + 1 + k = acc.size + (k + 1) from by omega]; exact hi)
      exact this
theorem before_spec {ops : Array Oper} {j : Nat} {o : Oper} (ho : ops[j]? = some o) {i : Nat} (h : ((Region.before ops).getD j 0).testBit i = true) :
    ∃ e ∈ o.after, Region.binds .any e = true ∧ (i = e.on ∨ ((Region.before ops).getD e.on 0).testBit i = true) := by
  rw [before_eq] at h ⊢
  obtain ⟨e, he, hb, hx⟩ := (bf_fold ops.toList #[]).2 j o (by simpa using ho) i (by simpa using h)
  exact ⟨e, by simpa using he, hb, hx⟩
end Go.Ev
end
noncomputable section
namespace Go.Ev
variable [SyQ]
section
variable {P : Program} {tb : Tb} {d nt : Nat} {rnd : Option Nat} {ops : Array Oper} (D : Dr P tb d nt rnd ops (Region.before ops) ops.size)
def Closed2 (ops : Array Oper) (S : Nat → Bool) : Prop := ∀ k, S k = true → ∀ i, ((Region.before ops).getD k 0).testBit i = true → S i = true
theorem Closed2.closed {S : Nat → Bool} (h : Closed2 ops S) : Closed (Region.before ops) S := fun k hk i _ hb => h k hk i hb
def lst (listed : Array Bool) : Nat → Bool := fun k => listed.getD k false
theorem lst_set {listed : Array Bool} {j : Nat} (hj : j < listed.size) : lst (listed.setIfInBounds j true) = addS (lst listed) j := by
  funext k
  unfold lst addS
  by_cases e : j = k
  · subst e; simp [hj]
  · have : (k == j) = false := by simp; exact fun h => e h.symm
    rw [this, Bool.or_false]
    exact getD_set_ne false e
def Forw (ops : Array Oper) : Prop := ∀ (j : Nat) o, ops[j]? = some o → ∀ e ∈ o.after, Region.binds .any e = true → e.on < j
theorem ready_all {listed : Array Bool} (hf : Forw ops) (hs : listed.size = ops.size) (h : Region.ready .any ops listed = []) : ∀ k, k < ops.size → lst listed k = true := by
  intro k
  induction k using Nat.strongRecOn with
  | _ k ih =>
    intro hk
    cases hl : lst listed k with
    | true => rfl
    | false =>
      exfalso
      obtain ⟨o, ho⟩ : ∃ o, ops[k]? = some o := ⟨ops[k], by simp [hk]⟩
      have : k ∈ Region.ready .any ops listed := by
        rw [mem_ready]
        refine ⟨?_, o, ho, fun e he hb => ih e.on (hf k o ho e he hb) (by have := hf k o ho e he hb; omega)⟩
        have hk' : k < listed.size := by omega
        simp only [lst, Array.getD, hk', dif_pos] at hl ⊢
        exact hl
      rw [h] at this; cases this
theorem draw_any {β0 : Mp} {W0 : World} {rt wt r0 w0 : Nat} {ds : List Deferred} {F : Fence} {Q : Exit → Act → World → Prop} (hd : nt < 8 ^ d) (hap : ApOk ops (Region.before ops)) (hf : Forw ops)
    (hrw : ∀ i, i < ops.size → sub (D.r i) rt ∧ sub (D.w i) wt) (p0 : Pre β0 (D.H 0) (D.H ops.size) r0 w0 W0) (hrt : sub rt r0) (hwt : sub wt w0) (hg : GRel tb.ng β0) (hF : FRel β0 rnd F)
    (hQ : ∀ (S : Nat → Bool) β W a, (∀ k, k < ops.size → S k = true) → DInv D S β0 W0 rt wt ds β W a → Q .normal a W) :
    ∀ (fuel : Nat) (listed : Array Bool) (a : Act) (W : World) (β : Mp), listed.size = ops.size → Closed2 ops (lst listed) → DInv D (lst listed) β0 W0 rt wt ds β W a → ((List.range ops.size).filter fun k => !lst listed k).length ≤ fuel →
      wpAnyIn F 0 P .any ops Q fuel listed a W := by
  intro fuel
  induction fuel with
  | zero =>
    intro listed a W β hs hc I hfuel
    have hall : ∀ k, k < ops.size → lst listed k = true := by
      intro k hk
      have h0 : ((List.range ops.size).filter fun k => !lst listed k) = [] := List.length_eq_zero_iff.1 (by omega)
      have := List.filter_eq_nil_iff.1 h0 k (List.mem_range.2 hk)
      simpa using this
    refine ⟨?_, hQ _ _ _ _ hall I⟩
    cases hr : Region.ready .any ops listed with
    | nil => rfl
    | cons j l =>
      exfalso
      have hj : j ∈ Region.ready .any ops listed := by rw [hr]; simp
      obtain ⟨h1, o, ho, _⟩ := mem_ready.1 hj
      have hlt : j < ops.size := (Array.getElem?_eq_some_iff.1 ho).1
      have := hall j hlt
      have hj' : j < listed.size := by omega
      simp only [lst, Array.getD, hj', dif_pos] at this h1
      rw [this] at h1; cases h1
  | succ fuel ih =>
    intro listed a W β hs hc I hfuel
    refine ⟨fun h => hQ _ _ _ _ (ready_all hf hs h) I, fun j hj => ?_⟩
    obtain ⟨h1, o, ho, h2⟩ := mem_ready.1 hj
    have hlt : j < ops.size := (Array.getElem?_eq_some_iff.1 ho).1
    have hj' : j < listed.size := by omega
    have hn : lst listed j = false := by
      simp only [lst, Array.getD, hj', dif_pos] at h1 ⊢
      exact h1
    have hbs : ∀ i, ((Region.before ops).getD j 0).testBit i = true → lst listed i = true := by
      intro i hi
      obtain ⟨e, he, hb, hx⟩ := before_spec ho hi
      rcases hx with rfl | hx
      · exact h2 e he hb
      · exact hc e.on (h2 e he hb) i hx
    have hb : ∀ i, i < j → ((Region.before ops).getD j 0).testBit i = true → lst listed i = true := fun i _ h => hbs i h
    have pj := pre_step D hc.closed hlt hn hb (hrw j hlt).1 (hrw j hlt).2 p0 I
    have st := D.step j o hlt ho
    refine st.run β W a F _ Q (hg.mono I.le) (hF.mono I.le) (fun x hx => ?_) (fun jg w dg h3 h4 h5 => ?_) pj (fun β' v' W' hv q => ?_)
    · have hok := st.opnds x hx
      cases x with
      | tmp i =>
        have hi := (blt_iff _ _).1 hok
        have := I.tmp i hi
        rw [tcont_eq D hd hap hc.closed hlt hn hb hi ho (List.mem_append_left _ (List.mem_filterMap.2 ⟨.tmp i, hx, rfl⟩))] at this
        exact this
      | const v => exact VRel.flat β 10 v hok
      | global g =>
        obtain ⟨m, e, h1, h2⟩ := (hg.mono I.le).1 g ((blt_iff _ _).1 hok)
        have := VRel.ptr g 0 m e
        rw [h1, h2] at this; exact this
      | func f => exact .func f [] [] [] [] rfl (fun i v v' h => by simp at h) rfl (fun i v v' h => by simp at h)
    · have := I.tmp dg h5
      rw [tcont_eq D hd hap hc.closed hlt hn hb h5 ho (List.mem_append_right _ (by rw [h3]; simp [h4]))] at this
      exact ⟨this, I.tsz⟩
    · refine ih (listed.setIfInBounds j true) _ W' β' (by simp [hs]) ?_ ?_ ?_
      · rw [lst_set hj']
        intro k hk i hi
        simp only [addS, Bool.or_eq_true, beq_iff_eq] at hk ⊢
        rcases hk with hk | rfl
        · exact .inl (hc k hk i hi)
        · exact .inl (hbs i hi)
      · rw [lst_set hj']
        exact post_step D hc.closed hap hlt ho hn hb (hrw j hlt).1 (hrw j hlt).2 p0 hrt hwt I hv q
      · rw [lst_set hj']
        have hlen : ∀ (l : List Nat), j ∈ l → (l.filter fun k => !addS (lst listed) j k).length < (l.filter fun k => !lst listed k).length := by
          intro l
          induction l with
          | nil => intro h; cases h
          | cons x l ihl =>
            intro hm
            have hle : ∀ (l : List Nat), (l.filter fun k => !addS (lst listed) j k).length ≤ (l.filter fun k => !lst listed k).length := by
              intro l
              induction l with
              | nil => simp
              | cons y l ihy =>
                simp only [List.filter_cons]
                cases h1 : lst listed y <;> cases h2 : addS (lst listed) j y <;> simp <;> first | omega | (simp [addS, h1] at h2)
            by_cases e : x = j
            · subst e
              simp only [List.filter_cons, hn]
              have : addS (lst listed) x x = true := by simp [addS]
              simp only [this, Bool.not_true, Bool.not_false, if_true, Bool.false_eq_true, if_false, List.length_cons]
              have := hle l; omega
            · have hm' : j ∈ l := (List.mem_cons.1 hm).resolve_left (fun h => e h.symm)
              have := ihl hm'
              have hx : addS (lst listed) j x = lst listed x := by simp [addS, e]
              simp only [List.filter_cons, hx]
              cases lst listed x <;> simp <;> omega
        have := hlen (List.range ops.size) (List.mem_range.2 hlt)
        omega
end
end Go.Ev
end
noncomputable section
namespace Go.Ev
variable [SyQ]
section
variable {P : Program} {tb : Tb} {d nt : Nat} {rnd : Option Nat} {ops : Array Oper}
theorem op_pan (ok : TbOk P tb) {rec : Rec} (hrec : RecOk P tb.ng rec) {cx : Cx} {o : Oper} {i : Nat} (ho : ops[i]? = some o) {t : T Value} {ds : List Deferred} {H : Hp} {acc : Acc} {r w : Nat} {v : Value}
    {t' : T Value} {ds' : List Deferred} {H' : Hp} {acc' : Acc} {r' w' : Nat} (h : evOps rec cx [compO tb cx.nt ops o] i t ds H acc r w = .mk (.panic v) t' ds' H' acc' r' w') (hw : H.wf) :
    t' = t ∧ ds' = ds ∧ ∃ r2 w2, r' = Nat.lor r r2 ∧ w' = Nat.lor w w2 ∧ Can H H' w2 ∧ ∀ β W (a : Act) F, GRel tb.ng β → FRel β cx.rnd F → (∀ x ∈ o.op.operands.toList, okO tb cx.nt x = true → VRel β (evalO t x) (a.eval x)) →
      (∀ (j : Nat) (w : Bool) (d : Nat), o.guard = some (j, w) → (ops[j]?).bind (·.dst) = some d → d < cx.nt → VRel β (t.get d) (a.tmps.getD d undef) ∧ a.tmps.size = cx.nt) → Pre β H H' r2 w2 W →
      ∀ (Q : Exit → Act → World → Prop) (K : Act → World → Prop), (∀ β1 v' old W', NoGx old → VRel β1 v v' → Post β β1 H H' w2 W W' → Q (.panic ({ v := v', recovered := false } :: old)) a W') → wpOpIn F 0 P ops Q i K a W := by
  simp only [evOps] at h
  rcases comp_inv (tb := tb) (nt := cx.nt) (ops := ops) (o := o) with hc | hc
  case inr =>
    rw [hc] at h
    have hwt : wants t (none : Option (Tmp × Bool)) = true := rfl
    rw [hwt, Bc_t] at h
    simp only [run, stepR] at h
    cases h
  generalize compO tb cx.nt ops o = c at h hc
  cases hwt : wants t c.guard with
  | false => rw [hwt, Bc_f] at h; cases h
  | true =>
    rw [hwt, Bc_t] at h
    have hrun := fun {β : Mp} {W : World} {a : Act} (hgr : GRel tb.ng β) (hx : ∀ x ∈ o.op.operands.toList, okO tb cx.nt x = true → VRel β (evalO t x) (a.eval x)) => run_ok (P := P) (W := W) (o := o) (ρ := a.eval) (t := t) ok hw hgr.2 (fun y hy => hx y hy (hc.opnds y hy))
    rw [← hc.op] at hrun
    cases hr : run c.op t H with
    | fail => rw [hr] at h; simp only [stepR] at h; cases h
    | recover => rw [hr] at h; simp only [stepR] at h; cases h
    | val v1 H1 r1 w1 => rw [hr] at h; simp only [stepR] at h; cases h
    | round m args =>
      rw [hr] at h
      simp only [stepR, afterCall] at h
      split at h <;> cases h
    | defer d1 =>
      rw [hr] at h
      simp only [stepR] at h
      split at h <;> cases h
    | call f args =>
      rw [hr] at h hrun
      simp only [stepR, afterCall] at h
      have hk := hrec (.call f args) H hw
      have hne : ∀ cc, o.op ≠ .defer cc := by
        intro cc hcc
        have := hc.op; unfold compOp at this; rw [hcc] at this
        simp only at this
        split at this
        · rw [this] at hr; simp only [run, deferV] at hr; split at hr <;> cases hr
        · rw [this] at hr; simp only [run] at hr; cases hr
      split at h
      · cases h
      · rename_i v1 H1 r1 w1 hx
        rw [hx] at hk
        obtain ⟨hH1, hk⟩ := hk
        cases h
        refine ⟨rfl, rfl, r1, w1, rfl, rfl, hH1, fun β W a F hg hF hop hgd p Q K hQ => ?_⟩
        have hwanted : Region.wanted o (yielded ops a.tmps) = wants t c.guard := wants_ok hc hgd
        unfold wpOpIn
        simp only [ho, hwanted, hwt, if_true]
        obtain ⟨args', hs, hl⟩ := hrun (W := W) hg hop
        refine ⟨fun f _ => frel_fn hF f, ?_⟩
        rw [Oper.semAt_eq _ _ _ hne, hs]
        refine upon_call hF (hk β W hg p args' hl) (fun v' W1 hR => ?_) (fun ch W1 hR => ?_) (fun W1 hR => ?_)
        · obtain ⟨_, _, _, he, _⟩ := hR; cases he
        · obtain ⟨β1, v'', old, he, hno, hv, hpost⟩ := hR
          cases he
          exact hQ _ _ _ _ hno hv hpost
        · obtain ⟨_, _, _, he, _⟩ := hR; cases he
      · cases h
    | panic v1 =>
      rw [hr] at h hrun
      simp only [stepR] at h
      cases h
      refine ⟨rfl, rfl, 0, 0, rfl, rfl, Can.refl hw, fun β W a F hg hF hop hgd p Q K hQ => ?_⟩
      have hwanted : Region.wanted o (yielded ops a.tmps) = wants t c.guard := wants_ok hc hgd
      unfold wpOpIn
      simp only [ho, hwanted, hwt, if_true]
      obtain ⟨v', hs, hv⟩ := hrun (W := W) hg hop
      have hne : ∀ cc, o.op ≠ .defer cc := by
        intro cc hcc
        have := hc.op; unfold compOp at this; rw [hcc] at this
        simp only at this
        split at this
        · rw [this] at hr; simp only [run, deferV] at hr; split at hr <;> cases hr
        · rw [this] at hr; simp only [run] at hr; cases hr
      refine ⟨fun f _ => frel_fn hF f, ?_⟩
      rw [Oper.semAt_eq _ _ _ hne, hs]
      exact hQ _ _ _ _ .nil hv (Post.refl p.dom)
theorem op_free (ok : TbOk P tb) {o : Oper} {i x : Nat} (ho : ops[i]? = some o) (hf : freeDst tb nt o = some x) : o.dst = some x ∧ x < nt ∧
    ∀ (a : Act) (W : World) (F : Fence) (Q : Exit → Act → World → Prop) (K : Act → World → Prop), (∀ f, F.fn f) → (∀ v' W', (∀ b, v' ≠ .bool b) → W.heap.size ≤ W'.heap.size → (∀ (rb : Nat) ob, W.heap[rb]? = some ob → W'.heap[rb]? = some ob) →
      (W'.os = W.os ∧ W'.tape = W.tape ∧ W'.output = W.output) → K (a.put o.dst v') W') → wpOpIn F 0 P ops Q i K a W := by
  unfold freeDst at hf
  split at hf
  case h_2 => cases hf
  rename_i el hel
  cases hg : o.guard with
  | some g => rw [hg] at hf; cases hf
  | none =>
    rw [hg] at hf
    simp only at hf
    split at hf
    case h_2 => cases hf
    rename_i d1 z hcomp
    cases hf
    rcases comp_inv (tb := tb) (nt := nt) (ops := #[]) (o := o) with hc | hc
    case inr => rw [hc] at hcomp; cases hcomp
    rw [hcomp] at hc
    have hdst : o.dst = some x := hc.dst.symm
    have hlt : x < nt := hc.dlt x hdst
    refine ⟨hdst, hlt, fun a W F Q K hF hK => ?_⟩
    have hop : compOp tb o = .alloc z := hc.op.symm
    have hwe : (Hp.fn (fun _ => .no) 0).wf := trivial
    have hrun := alloc_run_ok (P := P) (W := W) (β := fun _ => none) (H := Hp.fn (fun _ => .no) 0) (o := o) (ρ := a.eval) (t := T.e U) ok hwe hel
    rw [hop] at hrun
    obtain ⟨_, hx⟩ := hrun
    have hp : Pre (fun _ => none) (Hp.fn (fun _ => .no) 0) ((Hp.fn (fun _ => .no) 0).push z) 0 0 W :=
      ⟨fun b hb => by simp [inS] at hb, fun b c mb mc hb => by simp at hb, fun b _ _ => rfl, fun b m e => by cases e⟩
    obtain ⟨β1, W1, v', hres, hv, hpost⟩ := hx hp
    have hne : ∀ cc, o.op ≠ .defer cc := fun cc e => by rw [hel] at e; cases e
    unfold wpOpIn
    have hwanted : Region.wanted o (yielded ops a.tmps) = true := by unfold Region.wanted; rw [hg]
    simp only [ho, hwanted, if_true]
    refine ⟨fun f _ => hF f, ?_⟩
    rw [Oper.semAt_eq _ _ _ hne]
    refine skip_value hres (hK v' W1 (fun b e => ?_) hpost.size (fun rb ob h => hpost.frame rb ob h fun b m h0 => absurd h0 (Nat.not_lt_zero _)) hpost.env)
    subst e
    cases hv
def Sn (n : Nat) (S : Nat → Bool) : Nat → Bool := fun k => Nat.blt k n && S k
theorem Sn_iff {n : Nat} {S : Nat → Bool} {k : Nat} : Sn n S k = true ↔ k < n ∧ S k = true := by simp [Sn]
def SimX (ops : Array Oper) (n : Nat) (S : Nat → Bool) (a0 a : Act) : Prop := a.tmps.size = a0.tmps.size ∧ a.defers = a0.defers ∧ ∀ y, a.tmps.getD y undef = a0.tmps.getD y undef ∨
  ((∃ k, n < k ∧ k < ops.size ∧ S k = true ∧ ((Region.before ops).getD k 0).testBit n = false ∧ dstIs ops k y = true) ∧ ∀ b, a.tmps.getD y undef ≠ .bool b)
theorem put_get (a : Act) (x : Nat) (v : Value) (y : Nat) : (a.put (some x) v).tmps.getD y undef = if y = x ∧ x < a.tmps.size then v else a.tmps.getD y undef := by
  show (a.tmps.setIfInBounds x v).getD y undef = _
  rw [Array.getD_eq_getD_getElem?, Array.getD_eq_getD_getElem?, Array.getElem?_setIfInBounds]
  by_cases h : x = y
  · subst h
    by_cases h2 : x < a.tmps.size
    · simp [h2]
    · simp [h2]
  · rw [if_neg h, if_neg (fun e => h e.1.symm)]
theorem SimX.put {n : Nat} {S S' : Nat → Bool} {a0 a : Act} (h : SimX ops n S a0 a) (hS : ∀ k, S k = true → S' k = true) (dst : Option Tmp) (v : Value) : SimX ops n S' (a0.put dst v) (a.put dst v) := by
  obtain ⟨h1, h2, h3⟩ := h
  cases dst with
  | none => exact ⟨h1, h2, fun y => (h3 y).imp id fun ⟨⟨k, q1, q2, q3, q4⟩, hb⟩ => ⟨⟨k, q1, q2, hS k q3, q4⟩, hb⟩⟩
  | some x =>
    refine ⟨by simp [Act.put, h1], h2, fun y => ?_⟩
    rw [put_get, put_get, h1]
    by_cases e : y = x ∧ x < a0.tmps.size
    · rw [if_pos e, if_pos e]; exact .inl rfl
    · rw [if_neg e, if_neg e]
      exact (h3 y).imp id fun ⟨⟨k, q1, q2, q3, q4⟩, hb⟩ => ⟨⟨k, q1, q2, hS k q3, q4⟩, hb⟩
theorem filter_lt (listed : Array Bool) {j : Nat} (hn : lst listed j = false) (m : Nat) (hj : j < m) : ((List.range m).filter fun k => !addS (lst listed) j k).length < ((List.range m).filter fun k => !lst listed k).length := by
  have hlen : ∀ (l : List Nat), j ∈ l → (l.filter fun k => !addS (lst listed) j k).length < (l.filter fun k => !lst listed k).length := by
    intro l
    induction l with
    | nil => intro h; cases h
    | cons x l ihl =>
      intro hm
      have hle : ∀ (l : List Nat), (l.filter fun k => !addS (lst listed) j k).length ≤ (l.filter fun k => !lst listed k).length := by
        intro l
        induction l with
        | nil => simp
        | cons y l ihy =>
          simp only [List.filter_cons]
          cases h1 : lst listed y <;> cases h2 : addS (lst listed) j y <;> simp <;> first | omega | (simp [addS, h1] at h2)
      by_cases e : x = j
      · subst e
        simp only [List.filter_cons, hn]
        have : addS (lst listed) x x = true := by simp [addS]
        simp only [this, Bool.not_true, Bool.not_false, if_true, Bool.false_eq_true, if_false, List.length_cons]
        have := hle l; omega
      · have hm' : j ∈ l := (List.mem_cons.1 hm).resolve_left (fun h => e h.symm)
        have := ihl hm'
        have hx : addS (lst listed) j x = lst listed x := by simp [addS, e]
        simp only [List.filter_cons, hx]
        cases lst listed x <;> simp <;> omega
  exact hlen _ (List.mem_range.2 hj)
theorem draw_panF (ok : TbOk P tb) {n : Nat} (D : Dr P tb d nt rnd ops (Region.before ops) n) (hlt0 : n < ops.size) (hfull : ∀ i, i < n → ((Region.before ops).getD n 0).testBit i = true)
    (hfree : ∀ k, n < k → k < ops.size → ((Region.before ops).getD k 0).testBit n = true ∨ ∃ x, freeDst tb nt (ops.getD k default) = some x) {β0 : Mp} {W0 : World} {rt wt r0 w0 : Nat} {ds : List Deferred} {F : Fence} {Q : Exit → Act → World → Prop} (hd : nt < 8 ^ d) (hap : ApOk ops (Region.before ops)) (hf : Forw ops)
    (hrw : ∀ i, i < n → sub (D.r i) rt ∧ sub (D.w i) wt) (p0 : Pre β0 (D.H 0) (D.H n) r0 w0 W0) (hrt : sub rt r0) (hwt : sub wt w0) (hg : GRel tb.ng β0) (hF : FRel β0 rnd F)
    (hQ : ∀ (S SL : Nat → Bool) β W a0 a, (∀ k, k < n → S k = true) → DInv D S β0 W0 rt wt ds β W a0 → SimX ops n SL a0 a → ∀ K : Act → World → Prop, wpOpIn F 0 P ops Q n K a W) :
    ∀ (fuel : Nat) (listed : Array Bool) (a0 a : Act) (W : World) (β : Mp), listed.size = ops.size → lst listed n = false → Closed2 ops (lst listed) → DInv D (Sn n (lst listed)) β0 W0 rt wt ds β W a0 → SimX ops n (lst listed) a0 a → ((List.range ops.size).filter fun k => !lst listed k).length ≤ fuel →
      wpAnyIn F 0 P .any ops Q fuel listed a W := by
  intro fuel
  induction fuel with
  | zero =>
    intro listed a0 a W β hs hnl hc I hsim hfuel
    exfalso
    have h0 : ((List.range ops.size).filter fun k => !lst listed k) = [] := List.length_eq_zero_iff.1 (by omega)
    have := List.filter_eq_nil_iff.1 h0 n (List.mem_range.2 hlt0)
    rw [hnl] at this
    exact this rfl
  | succ fuel ih =>
    intro listed a0 a W β hs hnl hc I hsim hfuel
    refine ⟨fun h => (by have := ready_all hf hs h n hlt0; rw [hnl] at this; cases this), fun j hj => ?_⟩
    obtain ⟨h1, o, ho, h2⟩ := mem_ready.1 hj
    have hlts : j < ops.size := (Array.getElem?_eq_some_iff.1 ho).1
    have hj' : j < listed.size := by omega
    have hn : lst listed j = false := by
      simp only [lst, Array.getD, hj', dif_pos] at h1 ⊢
      exact h1
    have hbs : ∀ i, ((Region.before ops).getD j 0).testBit i = true → lst listed i = true := by
      intro i hi
      obtain ⟨e, he, hb, hx⟩ := before_spec ho hi
      rcases hx with rfl | hx
      · exact h2 e he hb
      · exact hc e.on (h2 e he hb) i hx
    have hfl := filter_lt listed hn ops.size hlts
    have hc' : Closed2 ops (lst (listed.setIfInBounds j true)) := by
      rw [lst_set hj']
      intro k hk i hi
      simp only [addS, Bool.or_eq_true, beq_iff_eq] at hk ⊢
      rcases hk with hk | rfl
      · exact .inl (hc k hk i hi)
      · exact .inl (hbs i hi)
    rcases Nat.lt_trichotomy j n with hlt | hjn | hgt
    case inr.inl =>
      subst hjn
      exact hQ _ _ _ _ _ _ (fun k hk => Sn_iff.2 ⟨hk, hbs k (hfull k hk)⟩) I hsim _
    case inr.inr =>
      have hnb : ((Region.before ops).getD j 0).testBit n = false := by
        cases e : ((Region.before ops).getD j 0).testBit n with
        | false => rfl
        | true => have := hbs n e; rw [hnl] at this; cases this
      obtain ⟨x, hx⟩ := (hfree j hgt hlts).resolve_left (by rw [hnb]; simp)
      have hgd : ops.getD j default = o := by rw [Array.getD_eq_getD_getElem?, ho]; rfl
      rw [hgd] at hx
      obtain ⟨hdst, hxn, hgo⟩ := op_free ok (nt := nt) ho hx
      refine hgo a W F Q _ (fun f => frel_fn hF f) fun v' W' hnv hsz hfr henv => ?_
      refine ih (listed.setIfInBounds j true) a0 _ W' β (by simp [hs]) (by rw [lst_set hj']; simp only [addS, hnl, Bool.false_or]; simp; omega) hc' ?_ ?_ ?_
      · have hSn : Sn n (lst (listed.setIfInBounds j true)) = Sn n (lst listed) := by
          funext k
          rw [lst_set hj']
          simp only [Sn, addS]
          by_cases hk : k < n
          · have : (k == j) = false := by simp; omega
            rw [this, Bool.or_false]
          · have : Nat.blt k n = false := by
              cases e : Nat.blt k n with
              | false => rfl
              | true => exact absurd ((blt_iff _ _).1 e) hk
            rw [this, Bool.false_and, Bool.false_and]
        rw [hSn]
        exact ⟨I.le, fun b m e => Nat.lt_of_lt_of_le (I.dom b m e) hsz, I.only, fun b h1 h2 => let ⟨m, e, ob, ho, hr⟩ := I.rel b h1 h2; ⟨m, e, ob, hfr _ _ ho, hr⟩, I.inj, fun rb ob h hh => hfr _ _ (I.frame rb ob h hh), Nat.le_trans I.size hsz, I.new,
          ⟨henv.1.trans I.env.1, henv.2.1.trans I.env.2.1, henv.2.2.trans I.env.2.2⟩, I.tsz, I.tmp, I.def_⟩
      · obtain ⟨s1, s2, s3⟩ := hsim
        rw [lst_set hj', hdst]
        refine ⟨by simp [Act.put, s1], s2, fun y => ?_⟩
        rw [put_get]
        by_cases e : y = x ∧ x < a.tmps.size
        · rw [if_pos e]
          refine .inr ⟨⟨j, hgt, hlts, by simp [addS], hnb, by simp [dstIs, ho, hdst, e.1]⟩, hnv⟩
        · rw [if_neg e]
          exact (s3 y).imp id fun ⟨⟨k, q1, q2, q3, q4⟩, hb⟩ => ⟨⟨k, q1, q2, by simp [addS, q3], q4⟩, hb⟩
      · rw [lst_set hj']; omega
    case inl =>
    have hnS : Sn n (lst listed) j = false := by simp [Sn, hn]
    have hcl : Closed (Region.before ops) (Sn n (lst listed)) := fun k hk i hik hb => Sn_iff.2 ⟨by have := (Sn_iff.1 hk).1; omega, hc k (Sn_iff.1 hk).2 i hb⟩
    have hb : ∀ i, i < j → ((Region.before ops).getD j 0).testBit i = true → Sn n (lst listed) i = true := fun i hi h => Sn_iff.2 ⟨by omega, hbs i h⟩
    have pj := pre_step D hcl hlt hnS hb (hrw j hlt).1 (hrw j hlt).2 p0 I
    have st := D.step j o hlt ho
    have simat : ∀ i, i ∈ looksAt ops o → a.tmps.getD i undef = a0.tmps.getD i undef := by
      intro i hi
      rcases hsim.2.2 i with h | ⟨⟨k, q1, q2, q3, q4, q5⟩, _⟩
      · exact h
      · exfalso
        have hok : ops[k]? = some (ops[k]'q2) := by simp
        have hkd : (ops[k]'q2).dst = some i := by simpa [dstIs, hok] using q5
        rcases hap j k o _ (by omega) ho hok with h | h
        · have := hc k q3 j h; rw [hn] at this; cases this
        · simp only [apartB, Bool.and_eq_true] at h
          have h2 := h.2
          rw [hkd] at h2
          simp only [Bool.not_eq_true', List.contains_eq_mem, decide_eq_false_iff_not] at h2
          exact h2 hi
    have hSet : Sn n (lst (listed.setIfInBounds j true)) = addS (Sn n (lst listed)) j := by
      funext k
      rw [lst_set hj']
      simp only [Sn, addS]
      by_cases e : k = j
      · subst e; simp [hlt]
      · have : (k == j) = false := by simpa using e
        simp [this]
    refine st.run β W a F _ Q (hg.mono I.le) (hF.mono I.le) (fun x hx => ?_) (fun jg w dg h3 h4 h5 => ?_) pj (fun β' v' W' hv q => ?_)
    · have hok := st.opnds x hx
      cases x with
      | tmp i =>
        have hi := (blt_iff _ _).1 hok
        have := I.tmp i hi
        have hm : i ∈ looksAt ops o := List.mem_append_left _ (List.mem_filterMap.2 ⟨.tmp i, hx, rfl⟩)
        rw [tcont_eq D hd hap hcl hlt hnS hb hi ho hm, ← simat i hm] at this
        exact this
      | const v => exact VRel.flat β 10 v hok
      | global g =>
        obtain ⟨m, e, h1, h2⟩ := (hg.mono I.le).1 g ((blt_iff _ _).1 hok)
        have := VRel.ptr g 0 m e
        rw [h1, h2] at this; exact this
      | func f => exact .func f [] [] [] [] rfl (fun i v v' h => by simp at h) rfl (fun i v v' h => by simp at h)
    · have := I.tmp dg h5
      have hm : dg ∈ looksAt ops o := List.mem_append_right _ (by rw [h3]; simp [h4])
      rw [tcont_eq D hd hap hcl hlt hnS hb h5 ho hm, ← simat dg hm] at this
      exact ⟨this, by rw [hsim.1]; exact I.tsz⟩
    · refine ih (listed.setIfInBounds j true) (a0.put o.dst v') _ W' β' (by simp [hs]) (by rw [lst_set hj']; simp only [addS, hnl, Bool.false_or]; simp; omega) hc' ?_ ?_ ?_
      · rw [hSet]
        exact post_step D hcl hap hlt ho hnS hb (hrw j hlt).1 (hrw j hlt).2 p0 hrt hwt I hv q
      · exact hsim.put (fun k hk => by rw [lst_set hj']; simp [addS, hk]) _ _
      · rw [lst_set hj']; omega
theorem freeDst_lt {o : Oper} {x : Nat} (hf : freeDst tb nt o = some x) : x < nt ∧ o.dst = some x := by
  unfold freeDst at hf
  split at hf
  case h_2 => cases hf
  cases hg : o.guard with
  | some g => rw [hg] at hf; cases hf
  | none =>
    rw [hg] at hf
    simp only at hf
    split at hf
    case h_2 => cases hf
    rename_i d1 z hcomp
    cases hf
    rcases comp_inv (tb := tb) (nt := nt) (ops := #[]) (o := o) with hc | hc
    case inr => rw [hc] at hcomp; cases hcomp
    rw [hcomp] at hc
    exact ⟨hc.dlt x hc.dst.symm, hc.dst.symm⟩
theorem killL_ok (hd : nt < 8 ^ d) {B : Array Nat} {j : Nat} : ∀ (ks : List Nat) (t t' : T Value), killL tb nt d ops B j ks t = some t' →
    (∀ k ∈ ks, (k ≤ j ∨ (B.getD k 0).testBit j = true) ∨ ∃ x, freeDst tb nt (ops.getD k default) = some x ∧ t'.get x = .chan none ∧ asB (t.get x) = none) ∧
    (∀ y, y < nt → t'.get y = t.get y ∨ (t'.get y = .chan none ∧ asB (t.get y) = none)) := by
  intro ks
  induction ks with
  | nil => intro t t' h; simp only [killL] at h; cases h; exact ⟨fun k hk => by (cases hk), fun y _ => .inl rfl⟩
  | cons k ks ih =>
    intro t t' h
    simp only [killL] at h
    cases hb : Nat.ble k j || Nat.testBit (B.getD k 0) j with
    | true =>
      rw [hb] at h
      simp only at h
      obtain ⟨a, b⟩ := ih _ _ h
      refine ⟨fun k' hk' => ?_, b⟩
      rcases List.mem_cons.1 hk' with rfl | hk'
      · simp only [Bool.or_eq_true, ble_iff] at hb; exact .inl hb
      · exact a k' hk'
    | false =>
      rw [hb] at h
      simp only at h
      split at h
      · rename_i x hx
        split at h
        · rename_i hB
          have hxl := (freeDst_lt hx).1
          obtain ⟨a, b⟩ := ih _ _ h
          have gs : ∀ y, y < nt → (T.set d t x (.chan none)).get y = if y = x then .chan none else t.get y := fun y hy => T.get_set d t x y _ (by omega) (by omega)
          have fin : ∀ y, y < nt → t'.get y = t.get y ∨ (t'.get y = .chan none ∧ asB (t.get y) = none) := by
            intro y hy
            have := b y hy
            rw [gs y hy] at this
            by_cases e : y = x
            · subst e
              rw [if_pos rfl] at this
              exact .inr ⟨this.elim id (·.1), hB⟩
            · rw [if_neg e] at this; exact this
          refine ⟨fun k' hk' => ?_, fin⟩
          rcases List.mem_cons.1 hk' with rfl | hk'
          · refine .inr ⟨x, hx, ?_, hB⟩
            have := b x hxl
            rw [gs x hxl, if_pos rfl] at this
            exact this.elim id (·.1)
          · rcases a k' hk' with h | ⟨x', e1, e2, e3⟩
            · exact .inl h
            · refine .inr ⟨x', e1, e2, ?_⟩
              rw [gs x' (freeDst_lt e1).1] at e3
              by_cases e : x' = x
              · subst e; exact hB
              · rw [if_neg e] at e3; exact e3
        · cases h
      · cases h
theorem asB_not {β : Mp} {v v' : Value} (h : VRel β v v') (e : asB v = none) : ∀ b, v' ≠ .bool b := by
  intro b hb
  subst hb
  cases h with
  | bool b => cases e
  | dead _ h => exact h b rfl
  | sym k m _ e hs => exact (symR_one hs).1 b rfl
end
end Go.Ev
end
noncomputable section
namespace Go.Ev
variable [SyQ]
theorem Pre.congr {β : Mp} {H H' : Hp} {r w : Nat} {W W2 : World} (p : Pre β H H' r w W) (h : W2.heap = W.heap) : Pre β H H' r w W2 :=
  ⟨fun b hb ha => let ⟨m, e, o, ho, hr⟩ := p.rel b hb ha; ⟨m, e, o, by rw [h]; exact ho, hr⟩, p.inj, p.fresh, fun b m e => by rw [h]; exact p.dom b m e⟩
theorem Post.from {β β' : Mp} {H H' : Hp} {w : Nat} {W W1 W2 : World} (q : Post β β' H H' w W1 W2) (h : W1.heap = W.heap) (he : W1.os = W.os ∧ W1.tape = W.tape ∧ W1.output = W.output) : Post β β' H H' w W W2 :=
  ⟨q.le, q.only, q.rel, fun rb o h1 h2 => q.frame rb o (by rw [h]; exact h1) h2, by rw [← h]; exact q.size, q.dom, fun b m h1 h2 h3 => by rw [← h]; exact q.new b m h1 h2 h3, q.inj,
    ⟨q.env.1.trans he.1, q.env.2.1.trans he.2.1, q.env.2.2.trans he.2.2⟩⟩
theorem drawOk_inv {ops : Array Oper} (h : drawOk ops (Region.before ops) = true) : (∀ o ∈ ops.toList, noDef o = true) ∧ Forw ops ∧ ApOk ops (Region.before ops) := by
  simp only [drawOk, Bool.and_eq_true, List.all_eq_true, List.mem_range] at h
  obtain ⟨⟨h1, h2⟩, h3⟩ := h
  refine ⟨h1, fun j o ho e he hb => ?_, fun i j oi oj hij hi hj => ?_⟩
  · have hlt : j < ops.size := (Array.getElem?_eq_some_iff.1 ho).1
    have := h2 j hlt
    have hg : ops.getD j default = o := by
      rw [Array.getD_eq_getD_getElem?, ho]; rfl
    rw [hg] at this
    have := Array.all_eq_true_iff_forall_mem.1 this e he
    rw [hb] at this
    exact (blt_iff _ _).1 (by simpa using this)
  · have hlt : j < ops.size := (Array.getElem?_eq_some_iff.1 hj).1
    have := h3 j hlt i hij
    have hgi : ops.getD i default = oi := by rw [Array.getD_eq_getD_getElem?, hi]; rfl
    have hgj : ops.getD j default = oj := by rw [Array.getD_eq_getD_getElem?, hj]; rfl
    rw [hgi, hgj] at this
    simpa using this
section
variable {P : Program} {tb : Tb} {d nt n : Nat} {rnd : Option Nat} {ops : Array Oper} (D : Dr P tb d nt rnd ops (Region.before ops) n)
theorem post_all {β β1 : Mp} {W W1 : World} {a1 : Act} {S : Nat → Bool} {rt wt : Nat} {ds : List Deferred} (I : DInv D S β W rt wt ds β1 W1 a1) (hall : ∀ k, k < n → S k = true) : Post β β1 (D.H 0) (D.H n) wt W W1 := by
  have ca := fun b => D.cont_all hall b n (Nat.le_refl _)
  have scp : ∀ b, ((D.H 0).nx ≤ b ∨ wt.testBit b = true) → alive (D.H n) b → D.scope S rt wt b := by
    intro b hb hab
    rcases Nat.lt_or_ge b (D.H 0).nx with h0 | h0
    · exact .inl ⟨h0, .inr (hb.resolve_left (by omega))⟩
    · obtain ⟨k, hk, hkb⟩ := alloc_of D n (Nat.le_refl _) h0 hab.1
      exact .inr ⟨k, hk, hall k hk, hkb⟩
  have scw : ∀ b, ((D.H 0).nx ≤ b ∨ wt.testBit b = true) → alive (D.H n) b → D.wscope S wt b := by
    intro b hb hab
    rcases Nat.lt_or_ge b (D.H 0).nx with h0 | h0
    · exact .inl ⟨h0, hb.resolve_left (by omega)⟩
    · obtain ⟨k, hk, hkb⟩ := alloc_of D n (Nat.le_refl _) h0 hab.1
      exact .inr ⟨k, hk, hall k hk, hkb⟩
  refine ⟨I.le, fun b m e h0 => ?_, fun b hb hab => ?_, fun rb o h1 h2 => I.frame rb o h1 (fun b m hb => h2 b m hb), I.size, I.dom, fun b m hb h0 e => ?_, fun b c mb mc hb hc hab hac eb ec e => ?_, I.env⟩
  · obtain ⟨k, hk, _, hkb⟩ := I.only b m e h0
    have m1 := D.mono (i := 0) (j := k) (by omega) (by omega)
    have m2 := D.mono (i := k + 1) (j := n) (by omega) (by omega)
    omega
  · have := I.rel b (scp b hb hab) (by rw [ca]; exact hab.2)
    rw [ca] at this; exact this
  · rcases I.new b m hb h0 e with h | ⟨c, mc, hc, hcw, ec, erb, hdd⟩
    · exact .inl h
    · rw [ca] at hdd
      exact .inr ⟨c, mc, hc, hcw, ec, erb, fun hal => hal.2 hdd⟩
  · exact I.inj b c mb mc (scw b hb hab) (scp c hc hac) (by rw [ca]; exact hab.2) (by rw [ca]; exact hac.2) eb ec e
end
theorem compOs_take {tb : Tb} (nt : Nat) (ops : Array Oper) : ∀ (l : List Oper) (k : Nat), (compOs tb nt ops l).take k = compOs tb nt ops (l.take k)
  | [], k => by simp [compOs]
  | x :: xs, 0 => rfl
  | x :: xs, k + 1 => by simp only [compOs, List.take_succ_cons, compOs_take nt ops xs k]
theorem compOs_at {tb : Tb} (nt : Nat) (ops : Array Oper) : ∀ (l : List Oper) (k : Nat) (o : CO), (compOs tb nt ops l)[k]? = some o → ∃ x, l[k]? = some x ∧ o = compO tb nt ops x
  | [], k, o, h => by simp [compOs] at h
  | x :: xs, 0, o, h => by simp [compOs] at h; exact ⟨x, rfl, h.symm⟩
  | x :: xs, k + 1, o, h => by
    simp only [compOs, List.getElem?_cons_succ] at h
    obtain ⟨y, h1, h2⟩ := compOs_at nt ops xs k o h
    exact ⟨y, by simpa using h1, h2⟩
theorem region_draw {P : Program} {tb : Tb} (ok : TbOk P tb) {rec : Rec} (hrec : RecOk P tb.ng rec) {cx : Cx} (hd : cx.nt < 8 ^ cx.d) {ops : Array Oper} {id : Nat} (hdo : drawOk ops (Region.before ops) = true) {t : T Value} {ds : List Deferred} {H : Hp} {x : Ex}
    {t' : T Value} {ds' : List Deferred} {H' : Hp} {r' w' : Nat} (h : ofORd tb cx.nt cx.d ops (Region.before ops) (evOps rec ⟨cx.d, cx.nt, cx.rnd, true⟩ (compOs tb cx.nt ops ops.toList) 0 t ds H [] 0 0) = .mk x t' ds' H' r' w') (hw : H.wf) :
    Can H H' w' ∧ ∀ β W a F, GRel tb.ng β → FRel β cx.rnd F → ARel β cx.nt t ds a → Pre β H H' r' w' W → (Code.region id ops true).wpIn F 0 P (CPost β cx.nt H H' w' W x t' ds') a W := by
  obtain ⟨hnd, hfw, hap⟩ := drawOk_inv hdo
  unfold ofORd at h
  split at h
  · cases h
  · rename_i x0 t0 ds0 H0 acc r0 w0 hev
    split at h
    · cases hp : okPair (Region.before ops) acc with
      | false => rw [hp, Bc_f] at h; cases h
      | true =>
        rw [hp, Bc_t] at h; cases h
        have hl : ∀ (k : Nat) o, ops.toList[k]? = some o → ops[0 + k]? = some o := fun k o h => by simpa using h
        obtain ⟨es, c1, rfl, _, _, c5, _, _, c8⟩ := evOps_chain ok hrec (cx := ⟨cx.d, cx.nt, cx.rnd, true⟩) rfl ops (Region.before ops) ops.toList 0 hl hnd _ _ _ _ _ _ _ _ _ _ _ _ hev hw (okPair_iff _ _ hp)
        have c1' : Chain P tb cx.d cx.nt cx.rnd ops 0 (ops.toList.take ops.size) t H es t' H' := by rw [show ops.toList.take ops.size = ops.toList from List.take_of_length_le (by simp)]; exact c1
        obtain ⟨D, d1, d2, d3, d4, d5⟩ := dr_of (Nat.le_refl _) c1' c5 c8
        obtain ⟨r2, w2, e1, e2, hcan, _⟩ := evOps_ok ok hrec (cx := ⟨cx.d, cx.nt, cx.rnd, true⟩) hd ops ops.toList 0 hl _ _ _ _ _ _ _ _ _ _ _ _ _ hev hw
        rw [zero_lor'] at e1 e2
        subst e1 e2
        refine ⟨hcan, fun β W a F hg hF ha p => wpIn_region_any ok.mixed ?_⟩
        have hlst : lst (Array.replicate ops.size false) = fun _ => false := by
          funext k
          simp only [lst, Array.getD]
          split <;> simp
        have c0 : ∀ k b, D.cont (fun _ => false) k b = (D.H 0).blk b := by
          intro k b
          induction k with
          | zero => rfl
          | succ k ih => simp [Dr.cont, ih]
        have t0 : ∀ k y, D.tcont (fun _ => false) k y = (D.t 0).get y := by
          intro k y
          induction k with
          | zero => rfl
          | succ k ih => simp [Dr.tcont, ih]
        have nn : ∀ b, ¬ D.newIn (fun _ => false) b := fun b ⟨k, _, hs, _⟩ => by cases hs
        have p1 : Pre β (D.H 0) (D.H ops.size) r' w' { W with drawn := W.drawn + 1 } := by
          rw [d2, d4]; exact p.congr rfl
        refine draw_any D (β0 := β) (W0 := { W with drawn := W.drawn + 1 }) (rt := r') (wt := w') (r0 := r') (w0 := w') (ds := ds') hd hap hfw d5 p1 (sub_refl _) (sub_refl _) hg hF ?_ ops.size _ a _ β (by simp) ?_ ?_ ?_
        · intro S β1 W1 a1 hall I
          have ca := fun b => D.cont_all hall b ops.size (Nat.le_refl _)
          have scp : ∀ b, (H.nx ≤ b ∨ w'.testBit b = true) → alive H' b → D.scope S r' w' b := by
            intro b hb hab
            rcases Nat.lt_or_ge b (D.H 0).nx with h0 | h0
            · exact .inl ⟨h0, .inr (hb.resolve_left (by rw [← d2]; omega))⟩
            · obtain ⟨k, hk, hkb⟩ := alloc_of D ops.size (Nat.le_refl _) h0 (by rw [d4]; exact hab.1)
              exact .inr ⟨k, hk, hall k hk, hkb⟩
          have scw : ∀ b, (H.nx ≤ b ∨ w'.testBit b = true) → alive H' b → D.wscope S w' b := by
            intro b hb hab
            rcases Nat.lt_or_ge b (D.H 0).nx with h0 | h0
            · exact .inl ⟨h0, hb.resolve_left (by rw [← d2]; omega)⟩
            · obtain ⟨k, hk, hkb⟩ := alloc_of D ops.size (Nat.le_refl _) h0 (by rw [d4]; exact hab.1)
              exact .inr ⟨k, hk, hall k hk, hkb⟩
          have q : Post β β1 H H' w' { W with drawn := W.drawn + 1 } W1 := by
            refine ⟨I.le, fun b m e h0 => ?_, fun b hb hab => ?_, fun rb o h1 h2 => I.frame rb o h1 (fun b m hb => h2 b m (by rw [← d2]; exact hb)), I.size, I.dom, fun b m hb h0 e => ?_, fun b c mb mc hb hc hab hac eb ec e => ?_, I.env⟩
            · obtain ⟨k, hk, _, hkb⟩ := I.only b m e h0
              have m1 := D.mono (i := 0) (j := k) (by omega) (by omega)
              have m2 := D.mono (i := k + 1) (j := ops.size) (by omega) (by omega)
              rw [d2] at m1; rw [d4] at m2
              omega
            · have := I.rel b (scp b hb hab) (by rw [ca, d4]; exact hab.2)
              rw [ca, d4] at this; exact this
            · rcases I.new b m (by rw [d2]; exact hb) h0 e with h | ⟨c, mc, hc, hcw, ec, erb, hdd⟩
              · exact .inl h
              · rw [ca, d4] at hdd
                exact .inr ⟨c, mc, by rw [← d2]; exact hc, hcw, ec, erb, fun hal => hal.2 hdd⟩
            · exact I.inj b c mb mc (scw b hb hab) (scp c hc hac) (by rw [ca, d4]; exact hab.2) (by rw [ca, d4]; exact hac.2) eb ec e
          refine ⟨β1, trivial, ⟨⟨I.tsz, fun y v hv => ?_⟩, I.def_⟩, q.from rfl ⟨rfl, rfl, rfl⟩⟩
          have hy : y < cx.nt := by
            rcases Nat.lt_or_ge y cx.nt with h' | h'
            · exact h'
            · rw [Array.getElem?_eq_none (by rw [I.tsz]; exact h')] at hv; cases hv
          have := I.tmp y hy
          rw [tcont_all D hd hall hy ops.size (Nat.le_refl _), d3] at this
          rw [Array.getD_eq_getD_getElem?, hv] at this
          exact this
        · rw [hlst]; intro k hk; cases hk
        · rw [hlst]
          refine ⟨Mp.le.refl _, p1.dom, fun b m e h0 => (by rw [h0] at e; cases e), fun b hs hc => ?_, fun b c mb mc hsb hsc hcb hcc eb ec e => ?_, fun rb o h _ => h, Nat.le_refl _, fun b m _ h0 e => (by rw [h0] at e; cases e), ⟨rfl, rfl, rfl⟩, ha.1.1, fun y hy => ?_, ha.2⟩
          · rw [c0] at hc ⊢
            exact p1.rel b ((hs.resolve_right (nn b)).2) ((alive_iff _ _).2 hc)
          · rw [c0] at hcb hcc
            exact p1.inj b c mb mc ((hsb.resolve_right (nn b)).2) ((hsc.resolve_right (nn c)).2) ((alive_iff _ _).2 hcb) ((alive_iff _ _).2 hcc) eb ec e
          · rw [t0, d1]; exact trel_get ha.1 hy
        · refine Nat.le_trans (List.length_filter_le _ _) ?_
          simp
    · rename_i v
      split at h
      · cases h
      · rename_i j x1 x2 rest
        cases hp : okPair (Region.before ops) rest && panB (Region.before ops) j with
        | false => rw [hp, Bc_f] at h; cases h
        | true =>
          rw [hp, Bc_t] at h
          cases hkill : killL tb cx.nt cx.d ops (Region.before ops) j (List.range ops.size) t0 with
          | none => rw [hkill] at h; cases h
          | some tk =>
          rw [hkill] at h; cases h
          simp only [Bool.and_eq_true, panB, List.all_eq_true, List.mem_range] at hp
          obtain ⟨hp1, hp2⟩ := hp
          have hl : ∀ (k : Nat) o, ops.toList[k]? = some o → ops[0 + k]? = some o := fun k o h => by simpa using h
          obtain ⟨r2, w2, e1, e2, hcan, _⟩ := evOps_ok ok hrec (cx := ⟨cx.d, cx.nt, cx.rnd, true⟩) hd ops ops.toList 0 hl _ _ _ _ _ _ _ _ _ _ _ _ _ hev hw
          rw [zero_lor'] at e1 e2
          subst e1 e2
          obtain ⟨k, co, t1, ds1, H1, acc1, r1, w1, a1, a2, a3, a4⟩ := evOps_cut _ _ _ _ _ _ _ _ _ _ _ _ _ _ _ hev
          cases a4
          rw [Nat.zero_add] at a3 hp2 hkill
          obtain ⟨o, ho, rfl⟩ := compOs_at _ _ _ _ _ a1
          have hko : ops[k]? = some o := by simpa using ho
          have hk : k < ops.size := (Array.getElem?_eq_some_iff.1 hko).1
          rw [compOs_take] at a2
          have hlk : ∀ (i : Nat) o, (ops.toList.take k)[i]? = some o → ops[0 + i]? = some o := fun i o h => by
            rw [List.getElem?_take] at h
            split at h
            · simpa using h
            · cases h
          have hndk : ∀ o ∈ ops.toList.take k, noDef o = true := fun o h => hnd o (List.mem_of_mem_take h)
          obtain ⟨es, c1, rfl, _, _, c5, _, _, c8⟩ := evOps_chain ok hrec (cx := ⟨cx.d, cx.nt, cx.rnd, true⟩) rfl ops (Region.before ops) (ops.toList.take k) 0 hlk hndk _ _ _ _ _ _ _ _ _ _ _ _ a2 hw (okPair_iff _ _ hp1)
          obtain ⟨rk, wk, f1, f2, hck, _⟩ := evOps_ok ok hrec (cx := ⟨cx.d, cx.nt, cx.rnd, true⟩) hd ops (ops.toList.take k) 0 hlk _ _ _ _ _ _ _ _ _ _ _ _ _ a2 hw
          rw [zero_lor'] at f1 f2
          subst f1 f2
          obtain ⟨et, ed, rj, wj, g1, g2, hcj, hkj⟩ := op_pan ok hrec (cx := ⟨cx.d, cx.nt, cx.rnd, true⟩) hko a3 hck.wf
          subst et ed g1 g2
          obtain ⟨kl1, kl2⟩ := killL_ok hd _ _ _ hkill
          obtain ⟨D, d1, d2, d3, d4, d5⟩ := dr_of (Nat.le_of_lt hk) c1 c5 c8
          refine ⟨hcan, fun β W a F hg hF ha p => wpIn_region_any ok.mixed ?_⟩
          have hlst : lst (Array.replicate ops.size false) = fun _ => false := by
            funext k
            simp only [lst, Array.getD]
            split <;> simp
          have c0 : ∀ k b, D.cont (fun _ => false) k b = (D.H 0).blk b := by
            intro k b
            induction k with
            | zero => rfl
            | succ k ih => simp [Dr.cont, ih]
          have hsn : Sn k (fun _ => false) = fun _ => false := by funext x; simp [Sn]
          have tt0 : ∀ k y, D.tcont (fun _ => false) k y = (D.t 0).get y := by
            intro k y
            induction k with
            | zero => rfl
            | succ k ih => simp [Dr.tcont, ih]
          have nn : ∀ b, ¬ D.newIn (fun _ => false) b := fun b ⟨k, _, hs, _⟩ => by cases hs
          have p0 : Pre β H H' (Nat.lor r1 rj) (Nat.lor w1 wj) { W with drawn := W.drawn + 1 } := p.congr rfl
          have p1 : Pre β (D.H 0) (D.H k) r1 w1 { W with drawn := W.drawn + 1 } := by
            rw [d2, d4]; exact p0.first hcj
          refine draw_panF ok D hk (fun i hi => hp2 i hi) (fun i h1 h2 => ?_) (β0 := β) (W0 := { W with drawn := W.drawn + 1 }) (rt := r1) (wt := w1) (r0 := r1) (w0 := w1) (ds := ds') hd hap hfw d5 p1 (sub_refl _) (sub_refl _) hg hF ?_ ops.size _ a a _ β (by simp) (by rw [hlst]) ?_ ?_ ⟨rfl, rfl, fun y => .inl rfl⟩ ?_
          · rcases kl1 i (List.mem_range.2 h2) with (h | h) | ⟨x, h, _⟩
            · omega
            · exact .inl h
            · exact .inr ⟨x, h⟩
          · intro S SL β1 W1 a0 aa hall I hsim K
            have q := post_all D I hall
            rw [d2, d4] at q
            have tq : ∀ y, y < cx.nt → VRel β1 (t0.get y) (a0.tmps.getD y undef) := fun y hy => by
              have := I.tmp y hy
              rw [tcont_all D hd hall hy k (Nat.le_refl _), d3] at this
              exact this
            have simat : ∀ i, i ∈ looksAt ops o → aa.tmps.getD i undef = a0.tmps.getD i undef := by
              intro i hi
              rcases hsim.2.2 i with h | ⟨⟨k2, q1, q2, q3, q4, q5⟩, _⟩
              · exact h
              · exfalso
                have hok : ops[k2]? = some (ops[k2]'q2) := by simp
                have hkd : (ops[k2]'q2).dst = some i := by simpa [dstIs, hok] using q5
                rcases hap k k2 o _ (by omega) hko hok with h | h
                · rw [q4] at h; cases h
                · simp only [apartB, Bool.and_eq_true] at h
                  have h2 := h.2
                  rw [hkd] at h2
                  simp only [Bool.not_eq_true', List.contains_eq_mem, decide_eq_false_iff_not] at h2
                  exact h2 hi
            refine hkj β1 W1 aa F (hg.mono q.le) (hF.mono q.le) (fun x hx hok => ?_) (fun jg wg dg h3 h4 h5 => ?_) (Pre.second hck hcj p0 q) _ K fun β2 v' old W2 hno hv hpost => ?_
            · cases x with
              | tmp i =>
                have hi := (blt_iff _ _).1 hok
                have := tq i hi
                rw [← simat i (List.mem_append_left _ (List.mem_filterMap.2 ⟨.tmp i, hx, rfl⟩))] at this
                exact this
              | const v => exact VRel.flat β1 10 v hok
              | global g =>
                obtain ⟨m, e, h1, h2⟩ := (hg.mono q.le).1 g ((blt_iff _ _).1 hok)
                have := VRel.ptr g 0 m e
                rw [h1, h2] at this; exact this
              | func f => exact .func f [] [] [] [] rfl (fun i v v' h => by simp at h) rfl (fun i v v' h => by simp at h)
            · have := tq dg h5
              rw [← simat dg (List.mem_append_right _ (by rw [h3]; simp [h4]))] at this
              exact ⟨this, by rw [hsim.1]; exact I.tsz⟩
            · refine CPost.comp hck hcj p (q.from rfl ⟨rfl, rfl, rfl⟩) ⟨β2, ⟨v', old, rfl, hno, hv⟩, ⟨⟨by rw [hsim.1]; exact I.tsz, fun y u hu => ?_⟩, ?_⟩, hpost⟩
              · have hsz : aa.tmps.size = cx.nt := by rw [hsim.1]; exact I.tsz
                have hy : y < cx.nt := by
                  rcases Nat.lt_or_ge y cx.nt with h' | h'
                  · exact h'
                  · rw [Array.getElem?_eq_none (by rw [hsz]; exact h')] at hu; cases hu
                have hgu : aa.tmps.getD y undef = u := by rw [Array.getD_eq_getD_getElem?, hu]; rfl
                rcases hsim.2.2 y with h | ⟨⟨k2, q1, q2, q3, q4, q5⟩, hb⟩
                · have hv0 := (tq y hy).mono hpost.le
                  rw [← h, hgu] at hv0
                  rcases kl2 y hy with e | ⟨e, e2⟩
                  · rw [e]; exact hv0
                  · rw [e]; exact .dead _ (asB_not hv0 e2)
                · rcases kl1 k2 (List.mem_range.2 q2) with (h | h) | ⟨x, h, h2, _⟩
                  · omega
                  · rw [q4] at h; cases h
                  · have hok : ops[k2]? = some (ops[k2]'q2) := by simp
                    have hgd : ops.getD k2 default = ops[k2]'q2 := by rw [Array.getD_eq_getD_getElem?, hok]; rfl
                    rw [hgd] at h
                    have hd1 := (freeDst_lt h).2
                    have : x = y := by
                      have : (ops[k2]'q2).dst = some y := by simpa [dstIs, hok] using q5
                      rw [hd1] at this; exact Option.some.inj this
                    subst this
                    rw [h2, ← hgu]
                    exact .dead _ hb
              · have := I.def_.mono hpost.le
                rw [← hsim.2.1] at this
                exact this
          · rw [hlst]; intro k hk; cases hk
          · rw [hlst, hsn]
            refine ⟨Mp.le.refl _, p1.dom, fun b m e h0 => (by rw [h0] at e; cases e), fun b hs hc => ?_, fun b c mb mc hsb hsc hcb hcc eb ec e => ?_, fun rb o h _ => h, Nat.le_refl _, fun b m _ h0 e => (by rw [h0] at e; cases e), ⟨rfl, rfl, rfl⟩, ha.1.1, fun y hy => ?_, ha.2⟩
            · rw [c0] at hc ⊢
              exact p1.rel b ((hs.resolve_right (nn b)).2) ((alive_iff _ _).2 hc)
            · rw [c0] at hcb hcc
              exact p1.inj b c mb mc ((hsb.resolve_right (nn b)).2) ((hsc.resolve_right (nn c)).2) ((alive_iff _ _).2 hcb) ((alive_iff _ _).2 hcc) eb ec e
            · rw [tt0, d1]; exact trel_get ha.1 hy
          · refine Nat.le_trans (List.length_filter_le _ _) ?_
            simp
    · cases h
end Go.Ev
end
noncomputable section
namespace Go.Ev
variable [SyQ]
section
variable {F : Fence} {n : Nat} {P : Program} {Q : Exit → Act → World → Prop} {a : Act} {w : World}
theorem loopIn_next {c : Code} (h : c.wpIn F n P (Exit.then (loopIn F n P c Q) Q) a w) : loopIn F n P c Q a w := by
  intro b k cs hro hb hr
  obtain ⟨e, a₁, w₁, hq, harr⟩ := h b (.inLoop c :: k) cs hro hb hr
  cases e with
  | normal =>
    obtain ⟨e₂, a₂, w₂, hq₂, harr₂⟩ := hq b k cs hro hb hr
    exact ⟨e₂, a₂, w₂, hq₂, .of_steps (StepsIn.trans harr (.one (fenced_calm hb hr rfl) stepR_inLoop)) harr₂⟩
  | exit id => exact ⟨_, a₁, w₁, hq, .pass (x := .inLoop c) rfl (fun _ _ => .inl (by simp)) harr⟩
  | goto l => exact ⟨_, a₁, w₁, hq, .pass (x := .inLoop c) rfl (fun _ _ => .inl (by simp)) harr⟩
  | ret => exact ⟨_, a₁, w₁, hq, .pass (x := .inLoop c) rfl (fun _ _ => .inl (by simp)) harr⟩
  | panic ch => exact ⟨_, a₁, w₁, hq, .pass (x := .inLoop c) rfl (fun _ _ => .inl (by simp)) harr⟩
  | outgrown => exact ⟨_, a₁, w₁, hq, .pass (x := .inLoop c) rfl (fun _ _ => .inl (by simp)) harr⟩
theorem wpIn_of_loopIn {c : Code} (h : loopIn F n P c Q a w) : (Code.loop c).wpIn F n P Q a w := by
  intro b k cs hro hb hr
  obtain ⟨e, a', w', hq, harr⟩ := h b k cs hro hb hr
  exact ⟨e, a', w', hq, .of_steps (.one (fenced_calm hb hr rfl) stepR_loop) harr⟩
end
end Go.Ev
end
noncomputable section
namespace Go.Ev
variable [SyQ]
section
variable {P : Program} {tb : Tb} (ok : TbOk P tb)
def CodeOk (P : Program) (tb : Tb) (cx : Cx) (c : Code) (t : T Value) (ds : List Deferred) (H : Hp) (y : CR) : Prop := match y with
  | .fail => True
  | .mk x t' ds' H' r' w' => Can H H' w' ∧ ∀ β W a F, GRel tb.ng β → FRel β cx.rnd F → ARel β cx.nt t ds a → Pre β H H' r' w' W → c.wpIn F 0 P (CPost β cx.nt H H' w' W x t' ds') a W
theorem code_seq {cx : Cx} {c1 c2 : Code} {t : T Value} {ds : List Deferred} {H : Hp} {y : CR} {k : T Value → List Deferred → Hp → CR} (h1 : CodeOk P tb cx c1 t ds H y) (h2 : ∀ t ds H, H.wf → CodeOk P tb cx c2 t ds H (k t ds H)) :
    CodeOk P tb cx (.seq c1 c2) t ds H (CR.andThen y k) := by
  cases y with
  | fail => trivial
  | mk x t1 ds1 H1 r1 w1 =>
    obtain ⟨g1, g2⟩ := h1
    cases x with
    | normal =>
      show CodeOk P tb cx _ t ds H (CR.join r1 w1 (k t1 ds1 H1))
      have h2' := h2 t1 ds1 H1 g1.wf
      cases hk : k t1 ds1 H1 with
      | fail => trivial
      | mk x2 t2 ds2 H2 r2 w2 =>
        rw [hk] at h2'
        obtain ⟨g3, g4⟩ := h2'
        refine ⟨Can.comp g1 g3, fun β W a F hg hF ha p => wpIn_seq (wpIn_mono (g2 β W a F hg hF ha (p.first g3)) fun e a' W' hc => ?_)⟩
        obtain ⟨β1, hx, ha1, hp⟩ := hc
        cases e <;> try exact hx.elim
        exact wpIn_mono (g4 β1 W' a' F (hg.mono hp.le) (hF.mono hp.le) ha1 (Pre.second g1 g3 p hp)) fun e a2 W2 h => CPost.comp g1 g3 p hp h
    | _ =>
      refine ⟨g1, fun β W a F hg hF ha p => wpIn_seq (wpIn_mono (g2 β W a F hg hF ha p) fun e a' W' hc => ?_)⟩
      have hc' := hc
      obtain ⟨β1, hx, _⟩ := hc
      cases e <;> first | exact hc' | exact hx.elim
end
end Go.Ev
end
noncomputable section
namespace Go.Ev
variable [SyQ]
section
variable {P : Program} {tb : Tb} (ok : TbOk P tb) {cx : Cx} {t : T Value} {ds : List Deferred} {H : Hp}
theorem code_block {id : Nat} {c : Code} {y : CR} (h : CodeOk P tb cx c t ds H y) : CodeOk P tb cx (.block id c) t ds H (outBlock id y) := by
  cases y with
  | fail => trivial
  | mk x t1 ds1 H1 r1 w1 =>
    obtain ⟨g1, g2⟩ := h
    cases x with
    | exit j =>
      show CodeOk P tb cx _ t ds H (Bc (Nat.beq j id) _ _)
      cases e : Nat.beq j id with
      | true =>
        have := (beq_iff _ _).1 e; subst this
        refine ⟨g1, fun β W a F hg hF ha p => wpIn_block (wpIn_mono (g2 β W a F hg hF ha p) fun e a' W' hc => ?_)⟩
        obtain ⟨β1, hx, ha1, hp⟩ := hc
        cases e <;> try exact hx.elim
        have : j = _ := hx
        subst this
        simp only [Exit.inBlock, if_true]
        exact ⟨β1, trivial, ha1, hp⟩
      | false =>
        refine ⟨g1, fun β W a F hg hF ha p => wpIn_block (wpIn_mono (g2 β W a F hg hF ha p) fun e' a' W' hc => ?_)⟩
        obtain ⟨β1, hx, ha1, hp⟩ := hc
        cases e' <;> try exact hx.elim
        have : j = _ := hx
        subst this
        have hne : ¬ j = id := fun h => by rw [(beq_iff _ _).2 h] at e; cases e
        simp only [Exit.inBlock, hne, if_false]
        exact ⟨β1, rfl, ha1, hp⟩
    | _ =>
      refine ⟨g1, fun β W a F hg hF ha p => wpIn_block (wpIn_mono (g2 β W a F hg hF ha p) fun e a' W' hc => ?_)⟩
      obtain ⟨β1, hx, ha1, hp⟩ := hc
      cases e <;> first | exact ⟨β1, hx, ha1, hp⟩ | exact hx.elim
end
end Go.Ev
end
noncomputable section
namespace Go.Ev
variable [SyQ]
section
variable {P : Program} {tb : Tb} (ok : TbOk P tb) {cx : Cx} {t : T Value} {ds : List Deferred} {H : Hp}
theorem code_region {rec : Rec} (hrec : RecOk P tb.ng rec) (ok : TbOk P tb) (hd : cx.nt < 8 ^ cx.d) {ops : Array Oper} {id : Nat} (hw : H.wf) :
    CodeOk P tb cx (.region id ops false) t ds H (ofOR (evOps rec cx (compOs tb cx.nt ops ops.toList) 0 t ds H [] 0 0)) := by
  cases h : evOps rec cx (compOs tb cx.nt ops ops.toList) 0 t ds H [] 0 0 with
  | fail => trivial
  | mk x t' ds' H' acc r' w' =>
    have hl : ∀ (k : Nat) o, ops.toList[k]? = some o → ops[0 + k]? = some o := fun k o h => by simpa using h
    obtain ⟨r2, w2, e1, e2, hcan, hk⟩ := evOps_ok ok hrec hd ops ops.toList 0 hl _ _ _ _ _ _ _ _ _ _ _ _ _ h hw
    rw [zero_lor'] at e1 e2
    subst e1 e2
    refine ⟨hcan, fun β W a F hg hF ha p => wpIn_region ?_⟩
    have := hk β W a F hg hF ha p _ (fun e a' W' h => h)
    rw [List.range_eq_range']
    simpa using this
end
end Go.Ev
end
noncomputable section
namespace Go.Ev
variable [SyQ]
section
variable {P : Program} {tb : Tb} (ok : TbOk P tb) {cx : Cx} {t : T Value} {ds : List Deferred} {H : Hp}
theorem code_cond {c : Operand} {x y : Code} {z : CR} {b : Bool} (hok : okO tb cx.nt c = true) (hc : asB (evalO t c) = some b) (h : CodeOk P tb cx (if b then x else y) t ds H z) : CodeOk P tb cx (.cond c x y) t ds H z := by
  cases z with
  | fail => trivial
  | mk x1 t1 ds1 H1 r1 w1 =>
    obtain ⟨g1, g2⟩ := h
    refine ⟨g1, fun β W a F hg hF ha p => ?_⟩
    have hv := operand_ok hg ha.1 hok
    rw [asB_inv hc] at hv
    generalize hr : a.eval c = v' at hv
    cases hv
    exact wpIn_cond hr (g2 β W a F hg hF ha p)
end
end Go.Ev
end
noncomputable section
namespace Go.Ev
variable [SyQ]
section
variable {P : Program} {tb : Tb} (ok : TbOk P tb) {cx : Cx}
theorem code_loop {rec : Rec} (hrec : RecOk P tb.ng rec) (hd : cx.nt < 8 ^ cx.d) {b : Code} {t : T Value} {ds : List Deferred} {H : Hp} {y : CR} (h : CodeOk P tb cx b t ds H y) :
    (match CR.andThen y (fun t ds H => CR.ofTR (rec (.loop b cx t ds) H)) with
      | .fail => True
      | .mk x t' ds' H' r' w' => Can H H' w' ∧ ∀ β W a F, GRel tb.ng β → FRel β cx.rnd F → ARel β cx.nt t ds a → Pre β H H' r' w' W → loopIn F 0 P b (CPost β cx.nt H H' w' W x t' ds') a W) := by
  cases y with
  | fail => trivial
  | mk x t1 ds1 H1 r1 w1 =>
    obtain ⟨g1, g2⟩ := h
    cases x with
    | normal =>
      show (match CR.join r1 w1 (CR.ofTR (rec (.loop b cx t1 ds1) H1)) with | .fail => True | .mk .. => _)
      have hr := hrec (.loop b cx t1 ds1) H1 g1.wf
      cases hk : rec (.loop b cx t1 ds1) H1 with
      | k z => trivial
      | c z =>
        cases z with
        | fail => trivial
        | mk x2 t2 ds2 H2 r2 w2 =>
          rw [hk] at hr
          obtain ⟨g3, g4⟩ := hr hd
          refine ⟨Can.comp g1 g3, fun β W a F hg hF ha p => loopIn_next (wpIn_mono (g2 β W a F hg hF ha (p.first g3)) fun e a' W' hc => ?_)⟩
          obtain ⟨β1, hx, ha1, hp⟩ := hc
          cases e <;> try exact hx.elim
          have := g4 β1 W' a' F (hg.mono hp.le) (hF.mono hp.le) ha1 (Pre.second g1 g3 p hp)
          intro b' k cs h1 h2 h3
          obtain ⟨e, a2, W2, hq, harr⟩ := this b' k cs h1 h2 h3
          exact ⟨e, a2, W2, CPost.comp g1 g3 p hp hq, harr⟩
    | _ =>
      refine ⟨g1, fun β W a F hg hF ha p => loopIn_next (wpIn_mono (g2 β W a F hg hF ha p) fun e a' W' hc => ?_)⟩
      have hc' := hc
      obtain ⟨β1, hx, _⟩ := hc
      cases e <;> first | exact hc' | exact hx.elim
end
end Go.Ev
end
noncomputable section
namespace Go.Ev
variable [SyQ]
theorem Pre.less {β : Mp} {H H' : Hp} {r w r' w' : Nat} {W : World} (p : Pre β H H' r w W) (h : ∀ b, inS r' w' b → inS r w b) (hw : ∀ b, w'.testBit b = true → w.testBit b = true) : Pre β H H' r' w' W :=
  ⟨fun b hb => p.rel b (h b hb), fun b c mb mc hb hc => p.inj b c mb mc (hw b hb) (h c hc), p.fresh, p.dom⟩
theorem Fz_eq {α : Type} (n : Nat) (x : α) : Fz n x = x := by cases n <;> rfl
section
variable {P : Program} {tb : Tb} {cx : Cx} {t : T Value} {ds : List Deferred} {H : Hp}
theorem code_skip (hw : H.wf) : CodeOk P tb cx .skip t ds H (.mk .normal t ds H 0 0) :=
  ⟨Can.refl hw, fun β _ _ _ _ _ ha p => wpIn_skip ⟨β, trivial, ha, Post.refl p.dom⟩⟩
theorem code_label (hw : H.wf) (l : Nat) : CodeOk P tb cx (.label l) t ds H (.mk .normal t ds H 0 0) :=
  ⟨Can.refl hw, fun β _ _ _ _ _ ha p => wpIn_label ⟨β, trivial, ha, Post.refl p.dom⟩⟩
theorem code_ret (hw : H.wf) : CodeOk P tb cx .ret t ds H (.mk .ret t ds H 0 0) :=
  ⟨Can.refl hw, fun β _ _ _ _ _ ha p => wpIn_ret ⟨β, trivial, ha, Post.refl p.dom⟩⟩
theorem code_exit (hw : H.wf) (id : Nat) : CodeOk P tb cx (.exit id) t ds H (.mk (.exit id) t ds H 0 0) :=
  ⟨Can.refl hw, fun β _ _ _ _ _ ha p => wpIn_exit ⟨β, rfl, ha, Post.refl p.dom⟩⟩
theorem code_goto (hw : H.wf) (l : Nat) : CodeOk P tb cx (.goto l) t ds H (.mk (.goto l) t ds H 0 0) :=
  ⟨Can.refl hw, fun β _ _ _ _ _ ha p => wpIn_goto ⟨β, rfl, ha, Post.refl p.dom⟩⟩
theorem code_draw {rec : Rec} (ok : TbOk P tb) (hrec : RecOk P tb.ng rec) (hd : cx.nt < 8 ^ cx.d) {ops : Array Oper} {id : Nat} (hw : H.wf) :
    CodeOk P tb cx (.region id ops true) t ds H (Bc (drawOk ops (Region.before ops)) (ofORd tb cx.nt cx.d ops (Region.before ops) (evOps rec ⟨cx.d, cx.nt, cx.rnd, true⟩ (compOs tb cx.nt ops ops.toList) 0 t ds H [] 0 0)) .fail) := by
  cases hdo : drawOk ops (Region.before ops) with
  | false => rw [Bc_f]; trivial
  | true =>
    rw [Bc_t]
    cases h : ofORd tb cx.nt cx.d ops (Region.before ops) (evOps rec ⟨cx.d, cx.nt, cx.rnd, true⟩ (compOs tb cx.nt ops ops.toList) 0 t ds H [] 0 0) with
    | fail => trivial
    | mk x t' ds' H' r' w' => exact region_draw ok hrec hd hdo h hw
end
end Go.Ev
end
noncomputable section
namespace Go.Ev
variable [SyQ]
section
variable {P : Program} {tb : Tb} {cx : Cx} {t : T Value} {ds : List Deferred} {H : Hp}
theorem hasBody_inv (ok : TbOk P tb) {g : FuncId} (h : hasBody tb g = true) (args : Array Value) (W : World) : (callFunc g args).run P W = .ok (.enter g args) W := by
  unfold hasBody at h
  split at h
  · rename_i fn e
    have e1 := ok.fn _ _ e
    have e2 := ok.nog _ _ e
    have e3 : ¬ fn.name = "runtime.NumGoroutine" := by simpa using e2
    have e4 : ¬ fn.body = none := by intro h0; simp [h0] at *
    simp [callFunc, e1, e3, e4]
  · cases h
theorem putObj_setB (W : World) (r : Nat) (o : Obj) : W.putObj r o = World.setB W r o := rfl
theorem jump_ok {F : Fence} {Q : Exit → Act → World → Prop} {a : Act} {W : World} {rd : Bool} {pd : Option Code} {ex : Ex} (h : exOf rd pd = some ex)
    (hq : ∀ e, XRel (fun _ => none) ex e → Q e a W) : (match (generalizing := false) pd with | none => Q .normal a W | some c => c.wpIn F 0 P Q a W) := by
  unfold exOf at h
  split at h
  · cases rd with
    | true => rw [Bc_t] at h; cases h; exact hq .normal trivial
    | false => rw [Bc_f] at h; cases h
  · cases h; exact wpIn_ret (hq .ret trivial)
  · cases h; exact wpIn_exit (hq _ rfl)
  · cases h; exact wpIn_goto (hq _ rfl)
  · cases h
theorem exOf_state {rd : Bool} {pd : Option Code} {ex : Ex} (h : exOf rd pd = some ex) : (if rd then LoopState.ready else if pd.isSome then .done else .busy) ≠ .busy := by
  unfold exOf at h
  cases rd with
  | true => simp
  | false =>
    split at h
    · rw [Bc_f] at h; cases h
    all_goals first | (cases h; done) | simp
theorem xrel_none {β : Mp} {rd : Bool} {pd : Option Code} {ex : Ex} (h : exOf rd pd = some ex) {e : Exit} (hx : XRel (fun _ => none) ex e) : XRel β ex e := by
  unfold exOf at h
  split at h
  · cases rd with
    | true => rw [Bc_t] at h; cases h; cases e <;> first | trivial | exact hx.elim
    | false => rw [Bc_f] at h; cases h
  all_goals first | (cases h; cases e <;> first | exact hx | exact hx.elim) | (cases h; done)
theorem code_range {rec : Rec} (ok : TbOk P tb) (hrec : RecOk P tb.ng rec) {f : Operand} {ps : Array Tmp} {x y : Code} (hw : H.wf) :
    CodeOk P tb cx (.rangeFunc f ps x y) t ds H (evRange tb rec cx f ps.toList x y t ds H) := by
  unfold evRange
  cases hrnd : cx.rnd with
  | some l => trivial
  | none =>
    simp only []
    cases hok : (okO tb cx.nt f && ps.toList.all (fun p => Nat.blt p cx.nt)) with
    | false => rw [Bc_f]; trivial
    | true =>
      rw [Bc_t, alloc1_eq]
      by_cases h0 : H.room = true
      case neg => rw [if_neg h0]; trivial
      rw [if_pos h0]
      simp only []
      rw [alloc1_eq]
      by_cases h1 : (H.push (.obj (.deferred (some [])))).room = true
      case neg => rw [if_neg h1]; trivial
      rw [if_pos h1]
      simp only []
      cases hcv : callV (evalO t f) [.func (.yield (H.push (.obj (.deferred (some [])))).nx) #[] #[]] with
      | call g args =>
        simp only []
        cases hbody : hasBody tb g with
        | false => rw [Bc_f]; trivial
        | true =>
          rw [Bc_t]
          generalize hH1 : H.push (.obj (.deferred (some []))) = H1 at h1 hcv ⊢
          generalize hH2 : H1.push (.loop true none cx.nt t ps.toList x y H.nx) = H2
          have c1 : Can H H1 0 := by rw [← hH1]; exact can_push h0
          have c2 : Can H1 H2 0 := by rw [← hH2]; exact can_push h1
          have hk0 := hrec (.call g args) H2 c2.wf
          have n1 : H1.nx = H.nx + 1 := by rw [← hH1, nx_push]
          have head : ∀ (H3 : Hp) (w3 r3 : Nat) (β : Mp) (W : World) (a : Act) (fn : FuncId), Can H2 H3 w3 → GRel tb.ng β → ARel β cx.nt t ds a → Pre β H H3 r3 w3 W →
              ∃ β1 β2 W1 W2 m1, Post β β1 H H1 0 W W1 ∧ Pre β1 H1 H3 r3 w3 W1 ∧ Post β1 β2 H1 H2 0 W1 W2 ∧ Pre β2 H2 H3 r3 w3 W2 ∧ β2 H1.nx = some m1 ∧
                (Instr.enterLoop fn a.tmps ps x y none).run P W = .ok (m1.rb, [{ target := .collected W.heap.size, args := #[] }]) W2 ∧
                ARel β2 cx.nt t ({ target := .collected H.nx, args := #[] } :: ds) { a with defers := [{ target := .collected W.heap.size, args := #[] }] ++ a.defers } ∧
                ∃ args', (∃ d : Deferred, (resolve a.eval (rangeCall f m1.rb) 0).run P W2 = .ok d W2 ∧ (invoke d.target d.args).run P W2 = (callFunc g args').run P W2) ∧ LRel β2 args args'.toList := by
            intro H3 w3 r3 β W a fn c3 hg ha p
            have c23 : Can H1 H3 (Nat.lor 0 w3) := Can.comp c2 c3
            have p' : Pre β H H3 (Nat.lor 0 r3) (Nat.lor 0 (Nat.lor 0 w3)) W := by rw [zero_lor', zero_lor', zero_lor']; exact p
            have f0 : β H.nx = none := p.fresh H.nx (Nat.le_refl _) (Nat.lt_of_lt_of_le (by rw [n1]; omega) (c23.mono))
            let m0 : Bm := ⟨W.heap.size, 0, 0, 0⟩
            have q1 : Post β (β.put H.nx m0) H H1 0 W (World.pushB W (.deferred (some []))) := by
              rw [← hH1]; exact post_push _ _ m0 h0 rfl f0 ⟨rfl, rfl⟩ p.dom
            have p1 : Pre (β.put H.nx m0) H1 H3 (Nat.lor 0 r3) (Nat.lor 0 w3) (World.pushB W (.deferred (some []))) := by
              have := Pre.second (r2 := r3) c1 c23 p' q1
              rw [zero_lor']; exact this
            let m1 : Bm := ⟨(World.pushB W (.deferred (some []))).heap.size, 0, 0, 0⟩
            have f1 : (β.put H.nx m0) H1.nx = none := p1.fresh H1.nx (Nat.le_refl _) (Nat.lt_of_lt_of_le (by rw [← hH2, nx_push]; omega) c3.mono)
            have hdb : ((β.put H.nx m0).put H1.nx m1) H.nx = some m0 := by
              rw [Mp.put_ne _ _ (by rw [n1]; omega), Mp.put_same]
            have le1 : Mp.le β (β.put H.nx m0) := Mp.le_put m0 f0
            have le2 : Mp.le (β.put H.nx m0) ((β.put H.nx m0).put H1.nx m1) := Mp.le_put m1 f1
            have q2 : Post (β.put H.nx m0) ((β.put H.nx m0).put H1.nx m1) H1 H2 0 (World.pushB W (.deferred (some [])))
                (World.pushB (World.pushB W (.deferred (some []))) (.loop { state := .ready, pending := none, fn, tmps := a.tmps, params := ps, assign := x, body := y, defers := W.heap.size })) := by
              rw [← hH2]
              refine post_push _ _ m1 h1 rfl f1 ⟨a.tmps, fn, m0, .ready, rfl, hdb, ha.1.mono (le1.trans le2), rfl, rfl⟩ p1.dom
            have p2 := Pre.second (r2 := r3) c2 c3 p1 q2
            refine ⟨_, _, _, _, m1, q1, by rw [← zero_lor' r3, ← zero_lor' w3]; exact p1, q2, p2, Mp.put_same _ _ _, ?_, ⟨ha.1.mono (le1.trans le2), DsRel.cons ⟨⟨m0, hdb, rfl⟩, LRel.nil _⟩ (ha.2.mono (le1.trans le2))⟩, ?_⟩
            · rw [run_enterLoop_outer]
              have : W.heap.size + 1 = (World.pushB W (.deferred (some []))).heap.size := (push_size W _).symm
              show Result.ok (W.heap.size + 1, _) _ = _
              rw [this]; rfl
            · simp only [Bool.and_eq_true] at hok
              have hv := operand_ok hg ha.1 hok.1
              have hv2 := hv.mono (le1.trans le2)
              generalize hr : a.eval f = f' at hv2
              generalize evalO t f = fv at hcv hv2
              unfold callV at hcv
              cases hv2 <;> simp only [reduceCtorEq, R.call.injEq] at hcv
              rename_i f2 as as' cs cs' e1 e2 e3 e4
              obtain ⟨rfl, rfl⟩ := hcv
              refine ⟨((⟨as'⟩ : Array Value) ++ #[.func (.yield m1.rb) #[] #[]]) ++ (⟨cs'⟩ : Array Value), ⟨{ target := .fn (.func f2) ⟨cs'⟩, args := (⟨as'⟩ : Array Value) ++ #[.func (.yield m1.rb) #[] #[]] }, ?_, ?_⟩, ?_⟩
              · have hce : a.eval (.const (.func (.yield m1.rb) #[] #[])) = .func (.yield m1.rb) #[] #[] := rfl
                simp [resolve, rangeCall, Deferred.ofValue, hr, hce]
              · simp [invoke]
              · have hy : VRel ((β.put H.nx m0).put H1.nx m1) (.func (.yield H1.nx) #[] #[]) (.func (.yield m1.rb) #[] #[]) := .yield H1.nx m1 (Mp.put_same _ _ _)
                have := LRel.append (a := as) (a' := as') ⟨e1, e2⟩ (LRel.append (LRel.cons hy (LRel.nil _)) (b := cs) (b' := cs') ⟨e3, e4⟩)
                simpa using this
          cases hk : rec (.call g args) H2 with
          | c z => trivial
          | k z =>
            rw [hk] at hk0
            cases z with
            | fail n => trivial
            | drop um H3 r w => trivial
            | dpan v H3 r w => trivial
            | panic v H3 r w =>
              obtain ⟨c3, hcall⟩ := hk0
              refine ⟨by have := Can.comp c1 (Can.comp c2 c3); rwa [zero_lor', zero_lor'] at this, fun β W a F hg hF ha p => ?_⟩
              rw [hrnd] at hF
              have hF' : F = FW := hF
              subst hF'
              refine wpIn_rangeFunc fun fn _ => ?_
              obtain ⟨β1, β2, W1, W2, m1, q1, p1, q2, p2, em, he, ha2, args', ⟨d, hres, hinv⟩, hl⟩ := head H3 w r β W a fn c3 hg ha p
              have hg2 : GRel tb.ng β2 := hg.mono (q1.le.trans q2.le)
              have hco := hcall β2 W2 hg2 p2 args' hl
              have hent := hasBody_inv ok hbody args' W2
              refine ⟨m1.rb, _, W2, d, W2, g, args', W2, he, hres, fun _ _ => trivial, by rw [hinv]; exact hent, (fun h => by cases h), ?_⟩
              rcases hco with ⟨_, hc⟩ | ⟨v', W', hc, _⟩
              case inr => rw [hent] at hc; cases hc
              refine CallsIn.mono hc fun e W3 hR => ?_
              obtain ⟨β3, v', old, rfl, hno, hv', q3⟩ := hR
              refine ⟨β3, ⟨v', old, rfl, hno, hv'⟩, ha2.mono q3.le, ?_⟩
              have c23 : Can H1 H3 (Nat.lor 0 w) := Can.comp c2 c3
              have q23 := Post.comp (r1 := 0) (r2 := r) c2 c3 (by rw [zero_lor', zero_lor']; exact p1) q2 q3
              have := Post.comp (r1 := 0) (r2 := r) c1 c23 (by rw [zero_lor', zero_lor', zero_lor']; exact p) q1 q23
              rw [zero_lor', zero_lor'] at this
              exact this
            | ret v H3 r w =>
              obtain ⟨c3, hcall⟩ := hk0
              simp only [afterRange]
              cases hb : H3.blk H1.nx with
              | no => trivial
              | cells => trivial
              | obj => trivial
              | loop rd pd nt' t' ps' x' y' db' =>
                simp only []
                cases hex : exOf rd pd with
                | none => trivial
                | some ex =>
                  simp only []
                  have hal : alive H3 H1.nx := (alive_iff _ _).2 (by rw [hb]; simp)
                  have c4 : Can H3 (H3.put H1.nx .no) (bit H1.nx) := can_put c3.wf .no hal
                  have c34 : Can H2 (H3.put H1.nx .no) (Nat.lor w (bit H1.nx)) := Can.comp c3 c4
                  have c234 : Can H1 (H3.put H1.nx .no) (Nat.lor 0 (Nat.lor w (bit H1.nx))) := Can.comp c2 c34
                  refine ⟨by have := Can.comp c1 c234; rwa [zero_lor', zero_lor'] at this, fun β W a F hg hF ha p => ?_⟩
                  rw [hrnd] at hF
                  have hF' : F = FW := hF
                  subst hF'
                  refine wpIn_rangeFunc fun fn _ => ?_
                  obtain ⟨β1, β2, W1, W2, m1, q1, p1, q2, p2, em, he, ha2, args', ⟨d, hres, hinv⟩, hl⟩ := head _ _ r β W a fn c34 hg ha p
                  have hg2 : GRel tb.ng β2 := hg.mono (q1.le.trans q2.le)
                  have p2' : Pre β2 H2 (H3.put H1.nx .no) (Nat.lor r 0) (Nat.lor w (bit H1.nx)) W2 := by rw [lor_zero']; exact p2
                  have hco := hcall β2 W2 hg2 (p2'.first c4) args' hl
                  have hent := hasBody_inv ok hbody args' W2
                  refine ⟨m1.rb, _, W2, d, W2, g, args', W2, he, hres, fun _ _ => trivial, by rw [hinv]; exact hent, (fun h => by cases h), ?_⟩
                  rcases hco with ⟨_, hc⟩ | ⟨v', W', hc, _⟩
                  case inr => rw [hent] at hc; cases hc
                  refine CallsIn.mono hc fun e W3 hR => ?_
                  obtain ⟨β3, v', rfl, hv', q3⟩ := hR
                  have p4 : Pre β3 H3 (H3.put H1.nx .no) 0 (bit H1.nx) W3 := Pre.second c3 c4 p2' q3
                  obtain ⟨m, e4, o, ho, hr⟩ := p4.rel H1.nx (.inr ((bit_iff _ _).2 rfl)) hal
                  have := q3.le _ _ em
                  rw [e4] at this
                  cases this
                  rw [hb] at hr
                  obtain ⟨tmps, fn', md, st, rfl, _, _, _, hst⟩ := hr
                  have hend := run_endLoop (P := P) ho (by show st ≠ .busy; rw [hst]; exact exOf_state hex)
                  refine ⟨pd, _, hend, ?_⟩
                  rw [putObj_setB]
                  have q4 := post_put (o' := .loop { state := .exhausted, pending := pd, fn := fn', tmps := tmps, params := ps'.toArray, assign := x', body := y', defers := md.rb }) .no c3.wf hal e4 ho trivial p4.dom
                  have q34 := Post.comp c3 c4 p2' q3 q4
                  have q234 := Post.comp (r1 := 0) (r2 := r) c2 c34 (by rw [zero_lor', zero_lor']; exact p1) q2 q34
                  have q := Post.comp (r1 := 0) (r2 := r) c1 c234 (by rw [zero_lor', zero_lor', zero_lor']; exact p) q1 q234
                  rw [zero_lor', zero_lor'] at q
                  have hj := jump_ok (P := P) (F := FW) (Q := CPost β cx.nt H (H3.put H1.nx .no) (Nat.lor w (bit H1.nx)) W ex t ({ target := .collected H.nx, args := #[] } :: ds)) (a := { a with defers := [{ target := .collected W.heap.size, args := #[] }] ++ a.defers }) hex fun e hx => ⟨β3, xrel_none hex hx, ha2.mono (q3.le), q⟩
                  cases pd <;> exact hj
      | _ => trivial
end
end Go.Ev
end
noncomputable section
namespace Go.Ev
variable [SyQ]
section
variable {P : Program} {tb : Tb}
theorem setPs_ok {β : Mp} {d nt : Nat} (hd : nt < 8 ^ d) : ∀ (ps : List Tmp) (as as' : List Value) (t t' : T Value) (tmps : Array Value), setPs d nt ps as t = some t' → LRel β as as' → TRel β nt t tmps →
    ps.length = as'.length ∧ TRel β nt t' ((ps.zip as').foldl (fun tmps x => tmps.setIfInBounds x.1 x.2) tmps) := by
  intro ps
  induction ps with
  | nil =>
    intro as as' t t' tmps h hl ht
    cases as with
    | nil => have := hl.nil_inv; subst this; simp only [setPs, Option.some.injEq] at h; subst h; exact ⟨rfl, ht⟩
    | cons v as => simp [setPs] at h
  | cons p ps ih =>
    intro as as' t t' tmps h hl ht
    cases as with
    | nil => simp [setPs] at h
    | cons v as =>
      obtain ⟨v', as2, rfl, hv, hl'⟩ := hl.cons_inv
      simp only [setPs] at h
      cases hp : Nat.blt p nt with
      | false => rw [hp, Bc_f] at h; cases h
      | true =>
        rw [hp, Bc_t] at h
        have hput : TRel β nt (T.set d t p v) (tmps.setIfInBounds p v') := by
          have := trel_put (a := { tmps := tmps, defers := [] }) (dst := some p) hd ht (fun i hi => by cases hi; exact (blt_iff _ _).1 hp) hv
          exact this
        obtain ⟨h1, h2⟩ := ih as as2 _ _ _ h hl' hput
        refine ⟨by simp [h1], ?_⟩
        simpa using h2
theorem round_ok {rec : Rec} {l : Nat} {args : List Value} {H : Hp} (hw : H.wf)
    (hcode : ∀ (cx : Cx) c t ds H, cx.nt < 8 ^ cx.d → H.wf → CodeOk P tb cx c t ds H (evCC tb rec cx c t ds H)) :
    TaskOk P tb.ng (.round l args) H (evRound tb rec l args H) := by
  unfold evRound
  cases hb : H.blk l with
  | no => trivial
  | cells => trivial
  | obj => trivial
  | loop rd pd nt lt ps x y db =>
    cases rd with
    | false => trivial
    | true =>
    cases pd with
    | some c => trivial
    | none =>
    simp only []
    cases hs : setPs (dep nt) nt ps args lt with
    | none => trivial
    | some t =>
      simp only []
      have ha := hcode ⟨dep nt, nt, some l, false⟩ x t [] H (lt_dep nt) hw
      cases hea : evCC tb rec ⟨dep nt, nt, some l, false⟩ x t [] H with
      | fail => trivial
      | mk e1 t1 ds1 H1 r1 w1 =>
        rw [hea] at ha
        cases e1 with
        | normal =>
          cases ds1 with
          | cons d ds1 => trivial
          | nil =>
            simp only []
            cases hb1 : H1.blk l with
            | no => trivial
            | cells => trivial
            | obj => trivial
            | loop rd1 pd1 nt1 lt1 ps1 x1 y1 db1 =>
              cases rd1 with
              | false => trivial
              | true =>
              cases pd1 with
              | some c => trivial
              | none =>
              simp only []
              obtain ⟨c1, k1⟩ := ha
              have hal1 : alive H1 l := (alive_iff _ _).2 (by rw [hb1]; simp)
              have c2 : Can H1 (H1.put l (.loop false none nt1 lt1 ps1 x1 y1 db1)) (bit l) := can_put c1.wf _ hal1
              generalize hH1' : H1.put l (.loop false none nt1 lt1 ps1 x1 y1 db1) = H1' at c2 ⊢
              have hbd := hcode ⟨dep nt, nt, some l, false⟩ y t1 [] H1' (lt_dep nt) c2.wf
              cases heb : evCC tb rec ⟨dep nt, nt, some l, false⟩ y t1 [] H1' with
              | fail => trivial
              | mk e2 t2 ds2 H2 r2 w2 =>
                rw [heb] at hbd
                obtain ⟨c3, k3⟩ := hbd
                have main : ∀ (j : Option Code) (rdd : Bool) (nt2 : Nat) (lt2 : T Value) (ps2 : List Tmp) (x2 y2 : Code) (db2 : Nat), H2.blk l = .loop false none nt2 lt2 ps2 x2 y2 db2 →
                    (∀ e, XRel (fun _ => none) e2 e → ∀ β, XRel β e2 e) →
                    (∀ (R : Ending → World → Prop) β e (a' : Act) W', XRel β e2 e → (∃ v w', (Instr.endRound ((β l).elim 0 Bm.rb) j).run P W' = .ok v w' ∧ R (.returned v) w') → roundPost P ((β l).elim 0 Bm.rb) R e a' W') →
                    TaskOk P tb.ng (.round l args) H (.k (.ret (.bool j.isNone) (H2.put l (.loop j.isNone j nt2 lt2 ps2 x2 y2 db2)) (Nat.lor (Nat.lor (bit l) r1) r2) (Nat.lor (Nat.lor w1 (bit l)) (Nat.lor w2 (bit l))))) := by
                  intro j rdd nt2 lt2 ps2 x2 y2 db2 hb2 _ hpost
                  have hal2 : alive H2 l := (alive_iff _ _).2 (by rw [hb2]; simp)
                  have c4 : Can H2 (H2.put l (.loop j.isNone j nt2 lt2 ps2 x2 y2 db2)) (bit l) := can_put c3.wf _ hal2
                  generalize hH3 : H2.put l (.loop j.isNone j nt2 lt2 ps2 x2 y2 db2) = H3 at c4 ⊢
                  have c34 : Can H1' H3 (Nat.lor w2 (bit l)) := Can.comp c3 c4
                  have c234 : Can H1 H3 (Nat.lor (bit l) (Nat.lor w2 (bit l))) := Can.comp c2 c34
                  refine ⟨by have := Can.comp c1 c234; rwa [← lor_assoc'] at this, fun β W hg p m args' em hl => ?_⟩
                  have hbit : inS (Nat.lor (Nat.lor (bit l) r1) r2) (Nat.lor (Nat.lor w1 (bit l)) (Nat.lor w2 (bit l))) l := by
                    left; rw [lor_bit, lor_bit, (bit_iff l l).2 rfl]; rfl
                  obtain ⟨m', em', o, ho, hr⟩ := p.rel l hbit ((alive_iff _ _).2 (by rw [hb]; simp))
                  rw [em] at em'; cases em'
                  rw [hb] at hr
                  obtain ⟨tmps, fn, md, st, rfl, _, htr, _, hst⟩ := hr
                  obtain ⟨hlen, htr1⟩ := setPs_ok (lt_dep nt) _ _ _ _ _ _ hs hl htr
                  have hy := run_yield (P := P) (args := args') ho (by show args'.size = ps.toArray.size; have := Array.length_toList (xs := args'); simp only [List.size_toArray]; omega)
                  refine ⟨fn, _, x, y, hy, ?_⟩
                  refine roundIn_of_wpIn (n := 0) trivial ?_
                  have p' : Pre β H H3 (Nat.lor r1 (Nat.lor 0 (Nat.lor r2 0))) (Nat.lor w1 (Nat.lor (bit l) (Nat.lor w2 (bit l)))) W := by
                    rw [zero_lor', lor_zero', ← lor_assoc' w1]
                    exact p.less (fun b hb' => by
                      rcases hb' with h | h
                      · left; rw [lor_bit] at h; rw [lor_bit, lor_bit]; simp only [Bool.or_eq_true] at h ⊢; rcases h with h | h <;> simp [h]
                      · exact .inr h) fun b h => h
                  have htr1' : TRel β nt t ((ps.toArray.zip args').foldl (fun tmps (x : Tmp × Value) => tmps.setIfInBounds x.1 x.2) tmps) := by
                    have e : (ps.toArray.zip args').foldl (fun tmps (x : Tmp × Value) => tmps.setIfInBounds x.1 x.2) tmps = (ps.zip args'.toList).foldl (fun tmps x => tmps.setIfInBounds x.1 x.2) tmps := by
                      rw [← Array.foldl_toList]; simp
                    rw [e]; exact htr1
                  have w1' := k1 β W { tmps := (ps.toArray.zip args').foldl (fun tmps (x : Tmp × Value) => tmps.setIfInBounds x.1 x.2) tmps, defers := [] } (FW.inRound m.rb) hg ⟨m, em, rfl⟩ ⟨htr1', DsRel.nil β⟩ (p'.first c234)
                  refine wpIn_mono w1' fun e a1 W1 hc => ?_
                  obtain ⟨β1, hx, ha1, q1⟩ := hc
                  cases e <;> try exact hx.elim
                  have p2 := Pre.second c1 c234 p' q1
                  obtain ⟨m', em', o1, ho1, hr1⟩ := p2.rel l (inS_l (inS_w ((bit_iff l l).2 rfl))) hal1
                  have := q1.le _ _ em; rw [em'] at this; cases this
                  rw [hb1] at hr1
                  obtain ⟨tmps1, fn1, md1, st1, rfl, hmd1, htrb, hsh1, hst1⟩ := hr1
                  simp only [if_true] at hst1
                  subst hst1
                  have hbeg := run_beginRound (P := P) ho1 rfl
                  refine ⟨_, hbeg, ?_⟩
                  rw [putObj_setB]
                  have q2 := post_put (H := H1) (W := W1) (o' := .loop { state := .busy, pending := none, fn := fn1, tmps := tmps1, params := ps1.toArray, assign := x1, body := y1, defers := md1.rb }) (.loop false none nt1 lt1 ps1 x1 y1 db1) c1.wf hal1 em' ho1
                    ⟨tmps1, fn1, md1, .busy, rfl, hmd1, htrb, hsh1, rfl⟩ p2.dom
                  rw [hH1'] at q2
                  have p3 := Pre.second c2 c34 p2 q2
                  have w2' := k3 β1 _ a1 (FW.inRound m.rb) (hg.mono q1.le) ⟨m, em', rfl⟩ ha1 (p3.first c4)
                  refine wpIn_mono w2' fun e a2 W2 hc => ?_
                  obtain ⟨β2, hx2, ha2, q3⟩ := hc
                  have em2 : β2 l = some m := q3.le _ _ em'
                  have p4 := Pre.second c3 c4 p3 q3
                  obtain ⟨m', em3, o2, ho2, hr2⟩ := p4.rel l (.inr ((bit_iff l l).2 rfl)) hal2
                  rw [em2] at em3; cases em3
                  rw [hb2] at hr2
                  obtain ⟨tmps2, fn2, md2, st2, rfl, hmd2, htrc, hsh2, hst2⟩ := hr2
                  have hend := run_endRound (P := P) j ho2
                  have := hpost (RetP β H H3 (Nat.lor (Nat.lor w1 (bit l)) (Nat.lor w2 (bit l))) W (.bool j.isNone)) β2 e a2 W2 hx2
                  rw [em2] at this
                  refine this ⟨_, _, hend, β2, .bool j.isNone, rfl, .bool _, ?_⟩
                  rw [putObj_setB]
                  have q4 := post_put (H := H2) (W := W2) (o' := .loop { state := if j.isNone then .ready else .done, pending := j, fn := fn2, tmps := tmps2, params := ps2.toArray, assign := x2, body := y2, defers := md2.rb }) (.loop j.isNone j nt2 lt2 ps2 x2 y2 db2) c3.wf hal2 em2 ho2
                    ⟨tmps2, fn2, md2, _, rfl, hmd2, htrc, hsh2, by cases j <;> rfl⟩ p4.dom
                  rw [hH3] at q4
                  have q34 := Post.comp c3 c4 p3 q3 q4
                  have q234 := Post.comp c2 c34 p2 q2 q34
                  have q := Post.comp c1 c234 p' q1 q234
                  rw [← lor_assoc'] at q
                  exact q
                unfold endRound
                simp only []
                cases hb2 : H2.blk l with
                | no => trivial
                | cells => trivial
                | obj => trivial
                | loop rd2 pd2 nt2 lt2 ps2 x2 y2 db2 =>
                  cases rd2 with
                  | true => trivial
                  | false =>
                  cases pd2 with
                  | some c => trivial
                  | none =>
                  simp only []
                  cases e2 with
                  | normal =>
                    exact main none true nt2 lt2 ps2 x2 y2 db2 hb2 (fun e h β => by cases e <;> first | trivial | exact h.elim) (fun R β e a' W' hx h => by cases e <;> first | exact h | exact hx.elim)
                  | ret =>
                    exact main (some .ret) true nt2 lt2 ps2 x2 y2 db2 hb2 (fun e h β => by cases e <;> first | trivial | exact h.elim) (fun R β e a' W' hx h => by cases e <;> first | exact h | exact hx.elim)
                  | exit id =>
                    refine main (some (.exit id)) true nt2 lt2 ps2 x2 y2 db2 hb2 (fun e h β => by cases e <;> first | exact h | exact h.elim) (fun R β e a' W' hx h => ?_)
                    cases e <;> try exact hx.elim
                    have : id = _ := hx
                    subst this; exact h
                  | goto id =>
                    refine main (some (.goto id)) true nt2 lt2 ps2 x2 y2 db2 hb2 (fun e h β => by cases e <;> first | exact h | exact h.elim) (fun R β e a' W' hx h => ?_)
                    cases e <;> try exact hx.elim
                    have : id = _ := hx
                    subst this; exact h
                  | panic v => trivial
        | _ => trivial
end
end Go.Ev
end
