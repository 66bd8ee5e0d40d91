/-
  A part of the reckoner for the statements of a Go program: what it answers, the model answers. Holds for every program whose tables are as given.
-/
import Derived.Maps.RangeRun
import Derived.Test.YtgdejggelcpokaaGreatDoorG09
import Derived.Test.YtgdejggelcpokaaGreatDoorG12
set_option linter.unusedSimpArgs false
set_option linter.unusedVariables false
set_option linter.unusedSectionVars false

noncomputable section
namespace Go.Ev
open Go.RowKit (Below)
structure St (ng : Nat) (W0 : World) (β0 : Mp) (N0 : Nat) (β : Mp) (nt : Nat) (t : T Value) (ds : List Deferred) (H : Hp) (a : Act) (W : World) : Prop where
  wf : H.wf
  nx : N0 ≤ H.nx
  g : GRel ng β
  ar : ARel β nt t ds a
  rel : ∀ b, alive H b → ∃ m, β b = some m ∧ BOk β W (H.blk b) m
  fresh : ∀ b, H.nx ≤ b → β b = none
  dom : ∀ b m, β b = some m → m.rb < W.heap.size
  low : ∀ b m, b < N0 → β b = some m → m.rb < W0.heap.size
  high : ∀ b m, N0 ≤ b → alive H b → β b = some m → W0.heap.size ≤ m.rb
  inj : ∀ b c mb mc, N0 ≤ b → N0 ≤ c → alive H b → alive H c → β b = some mb → β c = some mc → mb.rb = mc.rb → b = c
  old : Below W0.heap.size W0 W
  le : Mp.le β0 β
abbrev envS (N0 : Nat) : Env := ⟨N0, fun _ => True, fun _ => False⟩
section
variable {ng : Nat} {W0 : World} {β0 : Mp} {N0 : Nat} {β : Mp} {nt : Nat} {t : T Value} {ds : List Deferred} {H : Hp} {a : Act} {W : World}
theorem St.hi (s : St ng W0 β0 N0 β nt t ds H a W) {b c : Nat} {mb mc : Bm} (hb : N0 ≤ b) (ab : alive H b) (ac : alive H c) (eb : β b = some mb) (ec : β c = some mc) (e : mb.rb = mc.rb) : b = c := by
  rcases Nat.lt_or_ge c N0 with hc | hc
  · have := s.low c mc hc ec
    have := s.high b mb hb ab eb
    omega
  · exact s.inj b c mb mc hb hc ab ac eb ec e
theorem St.pre (s : St ng W0 β0 N0 β nt t ds H a W) {H' : Hp} {r w : Nat} (hok : (envS N0).ok r w H') : Pre β H H' r w W := by
  refine ⟨fun b _ ha => s.rel b ha, fun b c mb mc hw _ ab ac eb ec e => ?_, fun b hb _ => s.fresh b hb, s.dom⟩
  have hb : N0 ≤ b := by
    rcases Nat.lt_or_ge b N0 with h | h
    · exact (hok.wr b h hw).elim
    · exact h
  exact s.hi hb ab ac eb ec e
theorem St.post (s : St ng W0 β0 N0 β nt t ds H a W) {H' : Hp} {r w : Nat} (hok : (envS N0).ok r w H') (hcan : Can H H' w) {β' : Mp} {W' : World} (q : Post β β' H H' w W W') {t' : T Value} {ds' : List Deferred} {a' : Act} (ha' : ARel β' nt t' ds' a') : St ng W0 β0 N0 β' nt t' ds' H' a' W' := by
  have hwN : ∀ b, w.testBit b = true → N0 ≤ b := fun b hw => by
    rcases Nat.lt_or_ge b N0 with h | h
    · exact (hok.wr b h hw).elim
    · exact h
  have hsome : ∀ b m, β' b = some m → b < H.nx → β b = some m := fun b m e hb => by
    cases h : β b with
    | none => have := q.only b m e h; omega
    | some m2 => have := q.le b m2 h; rw [e] at this; cases this; rfl
  have hal : ∀ b, alive H' b → b < H.nx → alive H b := fun b ha hb => by
    cases hw : w.testBit b with
    | true => exact hcan.wal b hb hw
    | false => exact (alive_iff H b).2 (by rw [← hcan.keep b hb hw]; exact ha.2)
  have hnw : ∀ b m, alive H' b → b < H.nx → w.testBit b = false → β b = some m → ∀ c mc, w.testBit c = true → c < H.nx → β c = some mc → mc.rb ≠ m.rb := fun b m ha hb hw e c mc hcw hc ec heq => by
    have := s.hi (hwN c hcw) (hcan.wal c hc hcw) (hal b ha hb) ec e heq
    rw [this] at hcw; rw [hcw] at hw; cases hw
  refine ⟨hcan.wf, Nat.le_trans s.nx hcan.mono, s.g.mono q.le, ha', fun b ha => ?_, fun b hb => ?_, q.dom, fun b m hb e => s.low b m hb (hsome b m e (Nat.lt_of_lt_of_le hb s.nx)), fun b m hb ha e => ?_, fun b c mb mc hb hc ab ac eb ec heq => ?_, s.old.trans ?_, s.le.trans q.le⟩
  · by_cases hnew : H.nx ≤ b ∨ w.testBit b = true
    · exact q.rel b hnew ha
    · have hb : b < H.nx := by
        rcases Nat.lt_or_ge b H.nx with h | h
        · exact h
        · exact absurd (.inl h) hnew
      have hw : w.testBit b = false := by
        cases h : w.testBit b with
        | false => rfl
        | true => exact absurd (.inr h) hnew
      obtain ⟨m, e, o, ho, hr⟩ := s.rel b (hal b ha hb)
      refine ⟨m, q.le b m e, o, ?_, ?_⟩
      · exact q.frame m.rb o ho fun c mc hc hcw ec => hnw b m ha hb hw e c mc hcw hc ec
      · rw [hcan.keep b hb hw]; exact hr.mono q.le
  · cases e : β' b with
    | none => rfl
    | some m =>
      have := q.only b m e (s.fresh b (Nat.le_trans hcan.mono hb))
      omega
  · rcases Nat.lt_or_ge b H.nx with h | h
    · exact s.high b m hb (hal b ha h) (hsome b m e h)
    · rcases q.new b m h (s.fresh b h) e with h2 | ⟨c, mc, h1, h2, h3, h4, h5⟩
      · exact Nat.le_trans s.old.size h2
      · rw [← h4]; exact s.high c mc (hwN c h2) (hcan.wal c h1 h2) h3
  ·
    by_cases hbn : H.nx ≤ b ∨ w.testBit b = true
    · by_cases hcn : H.nx ≤ c ∨ w.testBit c = true
      · exact q.inj b c mb mc hbn hcn ab ac eb ec heq
      · exact (one hsome hal hwN b c mb mc hb hc ab ac eb ec heq hbn hcn)
    · by_cases hcn : H.nx ≤ c ∨ w.testBit c = true
      · exact (one hsome hal hwN c b mc mb hc hb ac ab ec eb heq.symm hcn hbn).symm
      · have hb' : b < H.nx := by
          rcases Nat.lt_or_ge b H.nx with h | h
          · exact h
          · exact absurd (.inl h) hbn
        have hc' : c < H.nx := by
          rcases Nat.lt_or_ge c H.nx with h | h
          · exact h
          · exact absurd (.inl h) hcn
        exact s.inj b c mb mc hb hc (hal b ab hb') (hal c ac hc') (hsome b mb eb hb') (hsome c mc ec hc') heq
  · refine ⟨q.env.1, q.env.2.1, q.env.2.2, q.size, fun k hk => ?_⟩
    cases ho : W.heap[k]? with
    | none =>
      have := Array.getElem?_eq_none_iff.1 ho
      have := s.old.size
      omega
    | some o =>
      exact q.frame k o ho fun b m hb hwb e he => by
        have := s.high b m (hwN b hwb) (hcan.wal b hb hwb) e
        omega
where
  one (hsome : ∀ b m, β' b = some m → b < H.nx → β b = some m) (hal : ∀ b, alive H' b → b < H.nx → alive H b) (hwN : ∀ b, w.testBit b = true → N0 ≤ b) (b c : Nat) (mb mc : Bm) (hb : N0 ≤ b) (hc : N0 ≤ c) (ab : alive H' b) (ac : alive H' c) (eb : β' b = some mb) (ec : β' c = some mc) (heq : mb.rb = mc.rb)
      (hbn : H.nx ≤ b ∨ w.testBit b = true) (hcn : ¬ (H.nx ≤ c ∨ w.testBit c = true)) : b = c := by
    have hc' : c < H.nx := by
      rcases Nat.lt_or_ge c H.nx with h | h
      · exact h
      · exact absurd (.inl h) hcn
    have ec' := hsome c mc ec hc'
    have ac' := hal c ac hc'
    rcases Nat.lt_or_ge b H.nx with h | h
    · exact s.inj b c mb mc hb hc (hal b ab h) ac' (hsome b mb eb h) ec' heq
    · rcases q.new b mb h (s.fresh b h) eb with h2 | ⟨c', mc', h1, h2, h3, h4, h5⟩
      · have := s.dom c mc ec'
        omega
      · have := s.hi (hwN c' h2) (hcan.wal c' h1 h2) ac' h3 ec' (h4.trans heq)
        subst this
        exact absurd ac h5
end
section
variable (P : Program) (tb : Tb) (W0 : World) (β0 : Mp) (N0 : Nat)
def SK (cx : Cx) (k : KC) (t : T Value) (ds : List Deferred) (H : Hp) (K : Ex → T Value → List Deferred → Hp → Prop) : Prop :=
  ∀ c, kcomp tb cx.nt c = k → ∀ β W a, St tb.ng W0 β0 N0 β cx.nt t ds H a W → c.wpIn FW 0 P (fun e a' W' => ∃ β' x t' ds' H', XRel β' x e ∧ St tb.ng W0 β0 N0 β' cx.nt t' ds' H' a' W' ∧ K x t' ds' H') a W
end
section
variable {P : Program} {tb : Tb} {W0 : World} {β0 : Mp} {N0 : Nat} {cx : Cx} {t : T Value} {ds : List Deferred} {H : Hp} {K K' : Ex → T Value → List Deferred → Hp → Prop}
theorem SK.mono {k : KC} (h : SK P tb W0 β0 N0 cx k t ds H K) (hk : ∀ x t' ds' H', K x t' ds' H' → K' x t' ds' H') : SK P tb W0 β0 N0 cx k t ds H K' := fun c hc β W a s =>
  wpIn_mono (h c hc β W a s) fun e a' W' ⟨β', x, t', ds', H', h1, h2, h3⟩ => ⟨β', x, t', ds', H', h1, h2, hk _ _ _ _ h3⟩
theorem SK.of_wk (ok : TbOk P tb) (hlp : LpOk P tb) {sp : Nat → List Value → Hp → Option (Value × Hp × Nat × Nat)} (hsp : SpOk P tb.ng sp) {k : KC} (hr : cx.rnd = none) (hd : cx.nt < 2 ^ cx.d) (h : WK tb sp (envS N0) cx k t ds H K) : SK P tb W0 β0 N0 cx k t ds H K := by
  intro c hc β W a s
  obtain ⟨N, x, t', ds', H', r, w, hev, hok, hn, hK⟩ := h c hc
  have hc := evCC_ok ok hlp (ev_ok ok hlp hsp N) c cx t ds H hd s.wf
  rw [hev] at hc
  obtain ⟨hcan, hk⟩ := hc
  refine wpIn_mono (hk β W a FW s.g (by rw [hr]; rfl) s.ar (s.pre hok)) fun e a' W' hq => ?_
  obtain ⟨β', hx, ha', q⟩ := hq
  exact ⟨β', x, t', ds', H', hx, s.post hok hcan q ha', hK⟩
theorem SK.seq {a b : KC} (h : SK P tb W0 β0 N0 cx a t ds H fun x t1 ds1 H1 => match x with | .normal => SK P tb W0 β0 N0 cx b t1 ds1 H1 K | y => K y t1 ds1 H1) : SK P tb W0 β0 N0 cx (.seq a b) t ds H K := by
  intro c hc β W act s
  obtain ⟨x, y, rfl, ha, hb⟩ := kcomp_seq hc
  refine wpIn_seq (wpIn_mono (h x ha β W act s) fun e a' W' hq => ?_)
  obtain ⟨β', x1, t', ds', H', hx, s', hK⟩ := hq
  cases x1 with
  | normal =>
    cases e <;> try exact hx.elim
    exact hK y hb β' W' a' s'
  | _ => cases e <;> first | exact ⟨β', _, t', ds', H', hx, s', hK⟩ | exact hx.elim
theorem SK.cond {c : Operand} {a b : KC} {v : Bool} (hv : asB (evalO t c) = some v) (h : SK P tb W0 β0 N0 cx (if v then a else b) t ds H K) : SK P tb W0 β0 N0 cx (.cond c a b) t ds H K := by
  intro code hc β W act s
  obtain ⟨x, y, rfl, ha, hb, hok⟩ := kcomp_cond hc
  have hv' := operand_ok s.g s.ar.1 hok
  rw [asB_inv hv] at hv'
  generalize hr : act.eval c = v' at hv'
  cases hv'
  refine wpIn_cond hr ?_
  cases v with
  | true => exact h x ha β W act s
  | false => exact h y hb β W act s
theorem SK.block {id : Nat} {b : KC} (h : SK P tb W0 β0 N0 cx b t ds H (inBl id K)) : SK P tb W0 β0 N0 cx (.block id b) t ds H K := by
  intro code hc β W act s
  obtain ⟨x, rfl, hb⟩ := kcomp_block hc
  refine wpIn_block (wpIn_mono (h x hb β W act s) fun e a' W' hq => ?_)
  obtain ⟨β', x1, t', ds', H', hx, s', hK⟩ := hq
  cases x1 with
  | exit j =>
    cases e <;> try exact hx.elim
    have : j = _ := hx
    subst this
    have hK' : (if j = id then K .normal t' ds' H' else K (.exit j) t' ds' H') := hK
    by_cases hj : j = id
    · subst hj
      simp only [Exit.inBlock, if_true]
      rw [if_pos rfl] at hK'
      exact ⟨β', .normal, t', ds', H', trivial, s', hK'⟩
    · simp only [Exit.inBlock, hj, if_false]
      rw [if_neg hj] at hK'
      exact ⟨β', .exit j, t', ds', H', rfl, s', hK'⟩
  | _ => cases e <;> first | exact ⟨β', _, t', ds', H', hx, s', hK⟩ | exact hx.elim
theorem SK.loop_ind {d : Code} {b : KC} (I : Nat → T Value → List Deferred → Hp → Prop)
    (h : ∀ n t ds H, I n t ds H → SK P tb W0 β0 N0 cx b t ds H fun x t1 ds1 H1 => match x with | .normal => ∃ m, m < n ∧ I m t1 ds1 H1 | y => K y t1 ds1 H1) : ∀ n t ds H, I n t ds H → SK P tb W0 β0 N0 cx (.loop d b) t ds H K := by
  intro n t ds H hI c hc β W a s
  obtain ⟨rfl, hb, hh⟩ := kcomp_loop hc
  refine wpIn_of_loopIn ?_
  have key : ∀ n t ds H β W a, I n t ds H → St tb.ng W0 β0 N0 β cx.nt t ds H a W → loopIn FW 0 P d (fun e a' W' => ∃ β' x t' ds' H', XRel β' x e ∧ St tb.ng W0 β0 N0 β' cx.nt t' ds' H' a' W' ∧ K x t' ds' H') a W := by
    intro n
    induction n using Nat.strongRecOn with
    | _ n ih =>
      intro t ds H β W a hI s
      refine loopIn_next (wpIn_mono (h n t ds H hI d hb β W a s) fun e a' W' hq => ?_)
      obtain ⟨β', x1, t', ds', H', hx, s', hK⟩ := hq
      cases x1 with
      | normal =>
        cases e <;> try exact hx.elim
        obtain ⟨m, hm, hI'⟩ := hK
        exact ih m hm t' ds' H' β' W' a' hI' s'
      | _ => cases e <;> first | exact ⟨β', _, t', ds', H', hx, s', hK⟩ | exact hx.elim
  exact key n t ds H β W a hI s
theorem SK.revive {k : KC} {b : Nat} {m : Bm} {x : Blk} (hb : b < N0) (e0 : β0 b = some m) (hm : m.rb < W0.heap.size) (hx : ∀ β, Mp.le β0 β → BOk β W0 x m) (h : SK P tb W0 β0 N0 cx k t ds (H.put b x) K) : SK P tb W0 β0 N0 cx k t ds H K := by
  intro c hc β W a s
  have hlt : b < H.nx := Nat.lt_of_lt_of_le hb s.nx
  have hblk : ∀ c, c ≠ b → (H.put b x).blk c = H.blk c := fun c hc => blk_put_ne s.wf x hlt hc
  have hal : ∀ c, c ≠ b → alive (H.put b x) c → alive H c := fun c hc ha => (alive_iff H c).2 (by rw [← hblk c hc]; exact ha.2)
  refine h c hc β W a { s with wf := wf_put s.wf b x, nx := by rw [nx_put]; exact s.nx, rel := fun c ha => ?_, fresh := fun c hc => s.fresh c (by rw [nx_put] at hc; exact hc), high := fun c m' hc ha e => s.high c m' hc (hal c (by omega) ha) e, inj := fun c d mc md hc hd ac ad ec ed he => s.inj c d mc md hc hd (hal c (by omega) ac) (hal d (by omega) ad) ec ed he }
  by_cases he : c = b
  · subst he
    obtain ⟨o, ho, hr⟩ := hx β s.le
    refine ⟨m, s.le _ _ e0, o, ?_, ?_⟩
    · rw [s.old.block m.rb hm]; exact ho
    · rw [blk_put x s.wf hlt, if_pos rfl]; exact hr
  · rw [hblk c he]
    exact s.rel c (hal c he ha)
theorem calls_of_sk (ok : TbOk P tb) (hlp : LpOk P tb) {f : FuncId} {fn : Func} {c : Code} {k : KC} {args : List Value} {args' : Array Value} {β : Mp} (hf : tb.fn f = some fn) (hb : fn.body = some c) (hk : kcomp tb fn.ntmps c = k) (hn : args.length ≤ fn.ntmps)
    (s : ∀ a : Act, ARel β fn.ntmps (enterT fn args) [] a → St tb.ng W0 β0 N0 β fn.ntmps (enterT fn args) [] H a W0) (hl : LRel β args args'.toList) {R : Value → Hp → Prop}
    (h : SK P tb W0 β0 N0 (cxOf fn) k (enterT fn args) [] H (Leaves tb (envS N0) fn R)) :
    Calls P f args' W0 fun e W' => ∃ β' v v' H', e = .returned v' ∧ VRel β' v v' ∧ R v H' ∧ Below W0.heap.size W0 W' := by
  refine (callsIn_wide (n := 0)).1 (callsIn_of_wp_marks (ok.fn _ _ hf) hb trivial ?_)
  have hT := enter_rel (fn := fn) hl hn
  refine wpIn_mono (h c hk β W0 _ (s _ ⟨hT, DsRel.nil β⟩)) fun e a' W' hq => ?_
  obtain ⟨β1, x, t1, ds1, H1, hx, s1, hx1, rfl, l, r, hres, hok, hR⟩ := hq
  have hu := unwind_ok (nt := fn.ntmps) (res := fn.results.toList) (t := t1) (ds := []) (m := .returning) ok (ev_ok ok hlp (sp := fun _ _ _ => none) (fun f args H v H' r w _ h => by cases h) 0) s1.wf
  have hev : evUnwind tb (ev tb (fun _ _ _ => none) 0) fn.ntmps fn.results.toList t1 [] .returning H1 = .k (.ret (resV l) H1 r 0) := by simp only [evUnwind, hres]
  rw [hev] at hu
  have hlv := hu.2 β1 W' s1.g (s1.pre hok) fn a'.tmps a'.defers .returning rfl s1.ar.1 s1.ar.2 trivial (by simp)
  have hfin := LeavesInM.mono (R' := fun e W' => ∃ β' v v' H', e = .returned v' ∧ VRel β' v v' ∧ R v H' ∧ Below W0.heap.size W0 W') (fun e W2 hh => by
    obtain ⟨β2, v', rfl, hv, q⟩ := hh
    refine ⟨β2, resV l, v', H1, rfl, hv, hR, s1.old.trans ⟨q.env.1, q.env.2.1, q.env.2.2, q.size, fun k hk => ?_⟩⟩
    cases ho : W'.heap[k]? with
    | none =>
      have := Array.getElem?_eq_none_iff.1 ho
      have := s1.old.size
      omega
    | some o => exact q.frame k o ho fun b m _ hwb _ => by simp at hwb) _ _ _ hlv
  rcases hx1 with rfl | rfl
  · cases e <;> first | exact hfin | exact hx.elim
  · cases e <;> first | exact hfin | exact hx.elim
end
end Go.Ev
end

noncomputable section
namespace Go.Ev
open Go.RowKit (Below)
section
variable (P : Program) (tb : Tb) (W0 : World) (β0 : Mp) (N0 : Nat)
def SC (cx : Cx) (c : Code) (t : T Value) (ds : List Deferred) (H : Hp) (K : Ex → T Value → List Deferred → Hp → Prop) : Prop :=
  ∀ β W a, St tb.ng W0 β0 N0 β cx.nt t ds H a W → c.wpIn FW 0 P (fun e a' W' => ∃ β' x t' ds' H', XRel β' x e ∧ St tb.ng W0 β0 N0 β' cx.nt t' ds' H' a' W' ∧ K x t' ds' H') a W
end
section
variable {P : Program} {tb : Tb} {W0 : World} {β0 : Mp} {N0 : Nat} {cx : Cx} {t : T Value} {ds : List Deferred} {H : Hp} {K K' : Ex → T Value → List Deferred → Hp → Prop}
theorem SC.mono {c : Code} (h : SC P tb W0 β0 N0 cx c t ds H K) (hk : ∀ x t' ds' H', K x t' ds' H' → K' x t' ds' H') : SC P tb W0 β0 N0 cx c t ds H K' := fun β W a s =>
  wpIn_mono (h β W a s) fun e a' W' ⟨β', x, t', ds', H', h1, h2, h3⟩ => ⟨β', x, t', ds', H', h1, h2, hk _ _ _ _ h3⟩
theorem SK.of_sc {k : KC} (h : ∀ c, kcomp tb cx.nt c = k → SC P tb W0 β0 N0 cx c t ds H K) : SK P tb W0 β0 N0 cx k t ds H K := h
theorem SC.of_sk {c : Code} {k : KC} (hc : kcomp tb cx.nt c = k) (h : SK P tb W0 β0 N0 cx k t ds H K) : SC P tb W0 β0 N0 cx c t ds H K := h c hc
theorem SC.seq {x y : Code} (h : SC P tb W0 β0 N0 cx x t ds H fun z t1 ds1 H1 => match z with | .normal => SC P tb W0 β0 N0 cx y t1 ds1 H1 K | z => K z t1 ds1 H1) : SC P tb W0 β0 N0 cx (.seq x y) t ds H K := by
  intro β W act s
  refine wpIn_seq (wpIn_mono (h β W act s) fun e a' W' hq => ?_)
  obtain ⟨β', x1, t', ds', H', hx, s', hK⟩ := hq
  cases x1 with
  | normal =>
    cases e <;> try exact hx.elim
    exact hK β' W' a' s'
  | _ => cases e <;> first | exact ⟨β', _, t', ds', H', hx, s', hK⟩ | exact hx.elim
theorem SC.block {id : Nat} {b : Code} (h : SC P tb W0 β0 N0 cx b t ds H (inBl id K)) : SC P tb W0 β0 N0 cx (.block id b) t ds H K := by
  intro β W act s
  refine wpIn_block (wpIn_mono (h β W act s) fun e a' W' hq => ?_)
  obtain ⟨β', x1, t', ds', H', hx, s', hK⟩ := hq
  cases x1 with
  | exit j =>
    cases e <;> try exact hx.elim
    have : j = _ := hx
    subst this
    have hK' : (if j = id then K .normal t' ds' H' else K (.exit j) t' ds' H') := hK
    by_cases hj : j = id
    · subst hj
      simp only [Exit.inBlock, if_true]
      rw [if_pos rfl] at hK'
      exact ⟨β', .normal, t', ds', H', trivial, s', hK'⟩
    · simp only [Exit.inBlock, hj, if_false]
      rw [if_neg hj] at hK'
      exact ⟨β', .exit j, t', ds', H', rfl, s', hK'⟩
  | _ => cases e <;> first | exact ⟨β', _, t', ds', H', hx, s', hK⟩ | exact hx.elim
theorem SC.loop_ind {d : Code} (I : Nat → T Value → List Deferred → Hp → Prop)
    (h : ∀ n t ds H, I n t ds H → SC P tb W0 β0 N0 cx d t ds H fun x t1 ds1 H1 => match x with | .normal => ∃ m, m < n ∧ I m t1 ds1 H1 | y => K y t1 ds1 H1) : ∀ n t ds H, I n t ds H → SC P tb W0 β0 N0 cx (.loop d) t ds H K := by
  intro n t ds H hI β W a s
  refine wpIn_of_loopIn ?_
  have key : ∀ n t ds H β W a, I n t ds H → St tb.ng W0 β0 N0 β cx.nt t ds H a W → loopIn FW 0 P d (fun e a' W' => ∃ β' x t' ds' H', XRel β' x e ∧ St tb.ng W0 β0 N0 β' cx.nt t' ds' H' a' W' ∧ K x t' ds' H') a W := by
    intro n
    induction n using Nat.strongRecOn with
    | _ n ih =>
      intro t ds H β W a hI s
      refine loopIn_next (wpIn_mono (h n t ds H hI β W a s) fun e a' W' hq => ?_)
      obtain ⟨β', x1, t', ds', H', hx, s', hK⟩ := hq
      cases x1 with
      | normal =>
        cases e <;> try exact hx.elim
        obtain ⟨m, hm, hI'⟩ := hK
        exact ih m hm t' ds' H' β' W' a' hI' s'
      | _ => cases e <;> first | exact ⟨β', _, t', ds', H', hx, s', hK⟩ | exact hx.elim
  exact key n t ds H β W a hI s
theorem SC.first (ok : TbOk P tb) (hlp : LpOk P tb) {sp : Nat → List Value → Hp → Option (Value × Hp × Nat × Nat)} (hsp : SpOk P tb.ng sp) (hr : cx.rnd = none) (hd : cx.nt < 2 ^ cx.d) {id : Nat} {ops : Array Oper} {o : Oper} {l : List Oper} (hops : ops.toList = o :: l) (hg : o.guard = none) (hne : ∀ cc, o.op ≠ .defer cc)
    (h : ∀ β W a, St tb.ng W0 β0 N0 β cx.nt t ds H a W → ∃ β1 t1 H1 W1 v', (execOp a.eval o).run P W = .ok (.value v') W1 ∧ St tb.ng W0 β0 N0 β1 cx.nt t1 ds H1 (a.put o.dst v') W1 ∧ WO tb sp (envS N0) cx (compOs tb cx.nt ops l) t1 ds H1 (K .normal)) :
    SC P tb W0 β0 N0 cx (.region id ops false) t ds H K := by
  intro β W a s
  obtain ⟨β1, t1, H1, W1, v', hrun, s1, N, t', ds', H', r, w, hev, hok, hn, hK⟩ := h β W a s
  refine wpIn_region ?_
  have hsz : ops.size = l.length + 1 := by rw [← Array.length_toList, hops]; rfl
  have ho : ops[0]? = some o := by rw [← Array.getElem?_toList, hops]; rfl
  have hl : ∀ k : Nat, l[k]? = ops[1 + k]? := fun k => by rw [← Array.getElem?_toList, hops, Nat.add_comm 1 k, List.getElem?_cons_succ]
  rw [List.range_eq_range', hsz, List.range'_succ]
  have hwant : Region.wanted o (yielded ops a.tmps) = true := by unfold Region.wanted; rw [hg]
  simp only [wpOpsIn, ho, hwant, if_true]
  refine ⟨fun f _ => trivial, ?_⟩
  rw [Oper.semAt_eq _ _ _ hne]
  refine skip_value (v' := v') (.inl hrun) ?_
  obtain ⟨acc', hev⟩ := hev 1 [] 0 0
  obtain ⟨r2, w2, e1, e2, hcan, hk⟩ := evOps_ok ok (ev_ok ok hlp hsp N) hd ops l 1 hl _ _ _ _ _ _ _ _ _ _ _ _ _ hev s1.wf
  rw [zero_lor', zero_lor'] at e1
  rw [zero_lor', zero_lor'] at e2
  subst e1 e2
  have hF : FRel β1 cx.rnd FW := by rw [hr]; rfl
  refine hk β1 W1 _ FW s1.g hF s1.ar (s1.pre hok) _ fun e a' W' hq => ?_
  obtain ⟨β', hx, ha', q⟩ := hq
  exact ⟨β', .normal, t', ds', H', hx, s1.post hok hcan q ha', hK⟩
theorem next_step {β : Mp} {W : World} {a : Act} (s : St tb.ng W0 β0 N0 β cx.nt t ds H a W) (hd : cx.nt < 2 ^ cx.d) {o : Oper} {it : Nat} {dst : Tmp} (ho : o.op = .next (.tmp it) false) (hdst : o.dst = some dst) (hlt : dst < cx.nt) (hit : it < cx.nt) {r m since last clock : Nat} {seen : Array Nat} {es : Array MapEntry}
    (hr : H.blk r = .obj (.mapIter (some m) since seen last)) (hm : H.blk m = .obj (.map es clock)) (hN : N0 ≤ r) (hg : t.get it = .pointer (some ⟨r, 0, none⟩)) (hold : ∀ e ∈ es.toList, e.born < since) (hsl : since ≤ last) :
    ((∀ e ∈ es.toList, seen.contains e.born = true) ∧ ∃ v', (execOp a.eval o).run P W = .ok (.value v') W ∧ St tb.ng W0 β0 N0 β cx.nt (putT cx.d t (some dst) (.tuple #[.bool false])) ds H (a.put o.dst v') W) ∨
    ∃ e ∈ es.toList, seen.contains e.born = false ∧ ∃ v' W1, (execOp a.eval o).run P W = .ok (.value v') W1 ∧
      St tb.ng W0 β0 N0 β cx.nt (putT cx.d t (some dst) (.tuple #[.bool true, e.key, e.val])) ds (H.put r (.obj (.mapIter (some m) since (seen.push e.born) clock))) (a.put o.dst v') W1 := by
  have ar : alive H r := (alive_iff H r).2 (by rw [hr]; simp)
  have am : alive H m := (alive_iff H m).2 (by rw [hm]; simp)
  obtain ⟨mr, er, or_, hor, hrr⟩ := s.rel r ar
  obtain ⟨mm, em, om, hom, hrm⟩ := s.rel m am
  rw [hr] at hrr
  rw [hm] at hrm
  obtain ⟨m2, e2, rfl, hsh⟩ := hrr
  rw [em] at e2; cases e2
  obtain ⟨es', rfl, hmr, _⟩ := hrm
  have hv : VRel β (t.get it) (a.eval (.tmp it)) := trel_get s.ar.1 hit
  rw [hg] at hv
  generalize hav : a.eval (.tmp it) = av at hv
  cases hv with | ptr _ _ m3 e3 =>
  rw [er] at e3; cases e3
  have hold' : ∀ x ∈ es'.toList, x.born < since := fun x hx => by
    obtain ⟨i, hi⟩ := List.mem_iff_getElem?.1 hx
    have hl : i < es.toList.length := by
      rcases Nat.lt_or_ge i es'.toList.length with h' | h'
      · rw [hmr.1]; exact h'
      · simp [List.getElem?_eq_none h'] at hi
    have he : es.toList[i]? = some es.toList[i] := by simp [hl]
    rw [← (hmr.2 i _ _ he hi).2.2]
    exact hold _ (List.getElem_mem hl)
  have hexec : execOp a.eval o = (fun v => Next.value v) <$> Instr.next (a.eval (.tmp it)) false o.type := by
    unfold execOp; rw [ho]; rfl
  have hp : (⟨mr.rb, 0 + mr.sh, none⟩ : Addr) = ⟨mr.rb, 0, none⟩ := by rw [hsh]
  rw [hp] at hav
  rcases run_next_at (P := P) W o.type mr.rb mm.rb since last seen es' clock hor hom hold' hsl with ⟨h0, hrun⟩ | ⟨e', he', w1, hal, hrun⟩
  · refine .inl ⟨fun e hem => ?_, .tuple #[.bool false], ?_, ?_⟩
    · obtain ⟨i, hi⟩ := List.mem_iff_getElem?.1 hem
      have hl : i < es'.toList.length := by
        rcases Nat.lt_or_ge i es.toList.length with h' | h'
        · rw [← hmr.1]; exact h'
        · simp [List.getElem?_eq_none h'] at hi
      have he : es'.toList[i]? = some es'.toList[i] := by simp [hl]
      rw [(hmr.2 i _ _ hi he).2.2]
      cases hc : seen.contains es'.toList[i].born with
      | true => rfl
      | false =>
        exfalso
        have hmem : es'.toList[i] ∈ (leftOf es' seen).toList := by
          unfold leftOf
          rw [Array.toList_filter, List.mem_filter]
          exact ⟨List.getElem_mem hl, by rw [hc]; rfl⟩
        have : (leftOf es' seen).toList.length = 0 := by rw [Array.length_toList]; exact h0
        rw [List.length_eq_zero_iff.1 this] at hmem
        cases hmem
    · rw [hexec, hav]
      simp [hrun]
    · have hl : LRel β [Value.bool false] [Value.bool false] := LRel.cons (.bool _) (LRel.nil β)
      have ha' : ARel β cx.nt (putT cx.d t (some dst) (.tuple #[.bool false])) ds (a.put o.dst (.tuple #[.bool false])) := by
        have := arel_put (dst := some dst) hd s.ar (fun i hi => by cases hi; exact hlt) (.tuple _ _ hl.1 hl.2)
        rw [hdst]; exact this
      exact { s with ar := ha' }
  · have hmem : e' ∈ es'.toList ∧ seen.contains e'.born = false := by
      unfold leftOf at he'
      rw [Array.toList_filter, List.mem_filter] at he'
      exact ⟨he'.1, by simpa using he'.2⟩
    obtain ⟨i, hi⟩ := List.mem_iff_getElem?.1 hmem.1
    have hl : i < es.toList.length := by
      rcases Nat.lt_or_ge i es'.toList.length with h' | h'
      · rw [hmr.1]; exact h'
      · simp [List.getElem?_eq_none h'] at hi
    have he : es.toList[i]? = some es.toList[i] := by simp [hl]
    obtain ⟨k1, k2, k3⟩ := hmr.2 i _ _ he hi
    refine .inr ⟨es.toList[i], List.getElem_mem hl, by rw [k3]; exact hmem.2, .tuple #[.bool true, e'.key, e'.val], Go.ChangeMaps.setBlock w1 mr.rb (.mapIter (some mm.rb) since (seen.push e'.born) clock), ?_, ?_⟩
    · rw [hexec, hav]
      simp [hrun]
    · have q : Post β β H (H.put r (.obj (.mapIter (some m) since (seen.push es.toList[i].born) clock))) (bit r) W (Go.ChangeMaps.setBlock w1 mr.rb (.mapIter (some mm.rb) since (seen.push e'.born) clock)) := by
        have q0 := post_put (o' := .mapIter (some mm.rb) since (seen.push e'.born) clock) (.obj (.mapIter (some m) since (seen.push es.toList[i].born) clock)) s.wf ar er hor ⟨mm, em, by rw [k3], hsh⟩ s.dom
        refine q0.congr ?_ ?_
        · rcases hal with rfl | rfl <;> rfl
        · rcases hal with rfl | rfl <;> exact ⟨rfl, rfl, rfl⟩
      have hlr : LRel β [Value.bool true, es.toList[i].key, es.toList[i].val] [Value.bool true, e'.key, e'.val] := LRel.cons (.bool _) (LRel.cons k1 (LRel.cons k2 (LRel.nil β)))
      have ha' : ARel β cx.nt (putT cx.d t (some dst) (.tuple #[.bool true, es.toList[i].key, es.toList[i].val])) ds (a.put o.dst (.tuple #[.bool true, e'.key, e'.val])) := by
        have := arel_put (dst := some dst) hd s.ar (fun i hi => by cases hi; exact hlt) (.tuple _ _ hlr.1 hlr.2)
        rw [hdst]; exact this
      exact s.post (r := 0) (w := bit r) (.write (by rw [nx_put]; exact ar.1) fun h => absurd h (by show ¬ r < N0; omega)) (can_put s.wf _ ar) q ha'
theorem entry_step {β : Mp} {W : World} {a : Act} (s : St tb.ng W0 β0 N0 β cx.nt t ds H a W) (hd : cx.nt < 2 ^ cx.d) {o : Oper} {it : Nat} {dst : Tmp} (ho : o.op = .entry (.tmp it)) (hdst : o.dst = some dst) (hlt : dst < cx.nt) (hit : it < cx.nt) {r m since clock : Nat} {seen : Array Nat} {es : Array MapEntry} {e : MapEntry}
    (hr : H.blk r = .obj (.mapIter (some m) since (seen.push e.born) clock)) (hm : H.blk m = .obj (.map es clock)) (hg : t.get it = .pointer (some ⟨r, 0, none⟩)) (he : e ∈ es.toList) (hnd : (es.toList.map (·.born)).Nodup) :
    ∃ v', (execOp a.eval o).run P W = .ok (.value v') W ∧ St tb.ng W0 β0 N0 β cx.nt (putT cx.d t (some dst) (.tuple #[e.key, e.val])) ds H (a.put o.dst v') W := by
  have ar : alive H r := (alive_iff H r).2 (by rw [hr]; simp)
  have am : alive H m := (alive_iff H m).2 (by rw [hm]; simp)
  obtain ⟨mr, er, or_, hor, hrr⟩ := s.rel r ar
  obtain ⟨mm, em, om, hom, hrm⟩ := s.rel m am
  rw [hr] at hrr
  rw [hm] at hrm
  obtain ⟨m2, e2, rfl, hsh⟩ := hrr
  rw [em] at e2; cases e2
  obtain ⟨es', rfl, hmr, _⟩ := hrm
  have hv : VRel β (t.get it) (a.eval (.tmp it)) := trel_get s.ar.1 hit
  rw [hg] at hv
  generalize hav : a.eval (.tmp it) = av at hv
  cases hv with | ptr _ _ m3 e3 =>
  rw [er] at e3; cases e3
  have hp : (⟨mr.rb, 0 + mr.sh, none⟩ : Addr) = ⟨mr.rb, 0, none⟩ := by rw [hsh]
  rw [hp] at hav
  have hborn : es'.toList.map (·.born) = es.toList.map (·.born) := by
    apply List.ext_getElem
    · simpa using hmr.1.symm
    · intro i h1 h2
      simp only [List.length_map] at h1 h2
      rw [List.getElem_map, List.getElem_map]
      exact (hmr.2 i _ _ (List.getElem?_eq_getElem h2) (List.getElem?_eq_getElem h1)).2.2.symm
  obtain ⟨i, hi⟩ := List.mem_iff_getElem?.1 he
  have hl : i < es'.toList.length := by
    rcases Nat.lt_or_ge i es.toList.length with h' | h'
    · rw [← hmr.1]; exact h'
    · simp [List.getElem?_eq_none h'] at hi
  obtain ⟨k1, k2, k3⟩ := hmr.2 i _ _ hi (List.getElem?_eq_getElem hl)
  have hrun := run_entry_at (P := P) W mr.rb mm.rb since seen es' clock es'.toList[i] (by rw [← k3]; exact hor) hom (List.getElem_mem hl) (by rw [hborn]; exact hnd)
  have hexec : execOp a.eval o = (fun v => Next.value v) <$> Instr.entry (a.eval (.tmp it)) := by
    unfold execOp; rw [ho]; rfl
  refine ⟨.tuple #[es'.toList[i].key, es'.toList[i].val], ?_, ?_⟩
  · rw [hexec, hav]
    simp [hrun]
  · have hlr : LRel β [e.key, e.val] [es'.toList[i].key, es'.toList[i].val] := LRel.cons k1 (LRel.cons k2 (LRel.nil β))
    have ha' : ARel β cx.nt (putT cx.d t (some dst) (.tuple #[e.key, e.val])) ds (a.put o.dst (.tuple #[es'.toList[i].key, es'.toList[i].val])) := by
      have := arel_put (dst := some dst) hd s.ar (fun i hi => by cases hi; exact hlt) (.tuple _ _ hlr.1 hlr.2)
      rw [hdst]; exact this
    exact { s with ar := ha' }
end
end Go.Ev
end
