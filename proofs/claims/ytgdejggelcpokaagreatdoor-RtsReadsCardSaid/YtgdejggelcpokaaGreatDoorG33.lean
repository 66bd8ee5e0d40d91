/-
  A part of the proof that pliantlaw15.RtsReads returns true and leaves its arguments alone. Conditions: those of the card in the last text.
-/
import Derived.KernelRfl
import Derived.Test.YtgdejggelcpokaaGreatDoorG17
import Derived.Test.YtgdejggelcpokaaGreatDoorG27
import Derived.Test.YtgdejggelcpokaaGreatDoorG30
import Derived.Test.YtgdejggelcpokaaGreatDoorG32
set_option linter.unusedSimpArgs false
set_option linter.unusedVariables false
set_option linter.unusedSectionVars false

noncomputable section
namespace Go.Proofs.RS
open Go Go.Ev Go.Proofs
open Go.RowKit (Below)
theorem lp_ok : LpOk Tryz.prog Tb0 := LpOk.none fun _ _ => rfl
theorem noEsc_run (x : Value) (W : World) : (callFunc 198 #[x]).run Tryz.prog W = .ok (.value x) W := by
  have h := run_callFunc_extern (e := Extern.AbiNoEscape.same) Tryz.func198 (by kernel_rfl) (by kernel_rfl) (by kernel_rfl) (by kernel_rfl) #[x] W
  rw [h]; rfl
theorem sp_ok : SpOk Tryz.prog NG sp0 := by
  intro f args H v H' r w hw h
  unfold sp0 at h
  cases h0 : Nat.beq f 153 with
  | true =>
    rw [h0, Bc_t] at h
    rw [(beq_iff _ _).1 h0]
    exact spZero_ok tb_ok lp_ok hw h
  | false =>
  rw [h0, Bc_f] at h
  cases h3 : Nat.beq f 40 with
  | true =>
    rw [h3, Bc_t] at h
    rw [(beq_iff _ _).1 h3]
    exact spNew_ok tb_ok lp_ok hw h
  | false =>
  rw [h3, Bc_f] at h
  cases h1 : Nat.beq f 198 with
  | true =>
    rw [h1, Bc_t] at h
    have hf := (beq_iff _ _).1 h1
    rw [hf]
    exact spNoEsc_ok noEsc_run hw h
  | false =>
    rw [h1, Bc_f] at h
    cases h2 : Nat.beq f 312 with
    | true =>
      rw [h2, Bc_t] at h
      have hf := (beq_iff _ _).1 h2
      rw [hf]
      exact spMake_ok (ps := Tryz.f312.params) (t := 45) (by kernel_rfl) Tryz.func312 (by kernel_rfl) (by kernel_rfl) (by kernel_rfl) (by kernel_rfl) h
    | false => rw [h2, Bc_f] at h; cases h
theorem blk_pow (b : Nat) : Hpow.blk b = if b = 5 then g5 else .no := by
  unfold Hpow
  rw [blk_mk]
  by_cases h : b < NG
  · rw [if_pos h]
    have h' : b < 11 := h
    by_cases h5 : b = 5
    · subst h5; rfl
    · rw [if_neg h5]
      have : ∀ k, k < 11 → k ≠ 5 → (T.set 20 (T.e Blk.no) 5 g5).get k = .no := by
        intro k hk hne
        match k, hk with
        | 0, _ => rfl
        | 1, _ => rfl
        | 2, _ => rfl
        | 3, _ => rfl
        | 4, _ => rfl
        | 5, _ => exact absurd rfl hne
        | 6, _ => rfl
        | 7, _ => rfl
        | 8, _ => rfl
        | 9, _ => rfl
        | 10, _ => rfl
      exact this b h' h5
  · rw [if_neg h, if_neg]
    rintro rfl
    exact h (by decide)
theorem g5_cells : ∃ t, g5 = .cells t 20 391 0 0 21 ∧ ∀ (i : Nat) v, pow10[i]? = some v → t.get i = v := by
  obtain ⟨t, h1, h2⟩ := blkL_eq pow10 391 0
  refine ⟨t, ?_, h2⟩
  show frB false 0 21 (blkL pow10 391 0) = _
  rw [h1]; rfl
theorem pow10_int (i : Nat) (hi : i < 20) : ∃ n, pow10[i]? = some (.int .u64 n) := by
  match i, hi with
  | 0, _ => exact ⟨_, rfl⟩
  | 1, _ => exact ⟨_, rfl⟩
  | 2, _ => exact ⟨_, rfl⟩
  | 3, _ => exact ⟨_, rfl⟩
  | 4, _ => exact ⟨_, rfl⟩
  | 5, _ => exact ⟨_, rfl⟩
  | 6, _ => exact ⟨_, rfl⟩
  | 7, _ => exact ⟨_, rfl⟩
  | 8, _ => exact ⟨_, rfl⟩
  | 9, _ => exact ⟨_, rfl⟩
  | 10, _ => exact ⟨_, rfl⟩
  | 11, _ => exact ⟨_, rfl⟩
  | 12, _ => exact ⟨_, rfl⟩
  | 13, _ => exact ⟨_, rfl⟩
  | 14, _ => exact ⟨_, rfl⟩
  | 15, _ => exact ⟨_, rfl⟩
  | 16, _ => exact ⟨_, rfl⟩
  | 17, _ => exact ⟨_, rfl⟩
  | 18, _ => exact ⟨_, rfl⟩
  | 19, _ => exact ⟨_, rfl⟩
  | i + 20, h => exact absurd h (by omega)
theorem g5_any {β β' : Mp} {m : Bm} {W : World} (h : BOk β W g5 m) : BOk β' W g5 m := by
  obtain ⟨o, ho, hr⟩ := h
  obtain ⟨t, hg, ht⟩ := g5_cells
  rw [hg] at hr ⊢
  obtain ⟨cs, fr, h1, h2, h3, h4, h5, h6, h7⟩ := hr
  refine ⟨o, ho, cs, fr, h1, h2, h3, h4, h5, fun i hi => ?_, h7⟩
  obtain ⟨a, v', b, c⟩ := h6 i hi
  obtain ⟨n, hn⟩ := pow10_int i hi
  rw [ht i _ hn] at a c ⊢
  cases c
  exact ⟨a, _, b, .int _ _⟩
theorem sane_calls {β : Mp} {m : Bm} (hg : GRel NG β) (h5 : β 5 = some m) (W : World) (hb : BOk β W g5 m) (hd : ∀ b m, β b = some m → m.rb < W.heap.size) : Calls Tryz.prog 6 #[] W fun e W' => e = .returned (.bool true) ∧ Below W.heap.size W W' := by
  obtain ⟨H', r, w, hev, hw⟩ := retTrue_inv sane_run
  let βp : Mp := fun b => if b < NG then β b else none
  have hgp : GRel NG βp := fun g hlt => by
    obtain ⟨m, h1, h2⟩ := hg g hlt
    exact ⟨m, by show (if g < NG then β g else none) = _; rw [if_pos hlt]; exact h1, h2⟩
  have hal : ∀ b, alive Hpow b → b = 5 := fun b ha => by
    have := ha.2
    rw [blk_pow] at this
    by_cases e : b = 5
    · exact e
    · rw [if_neg e] at this; exact absurd rfl this
  have p : Pre βp Hpow H' r w W := by
    refine ⟨fun b _ ha => ?_, fun b c mb mc _ _ ha hc _ _ _ => by rw [hal b ha, hal c hc], fun b hb _ => ?_, fun b m' e => ?_⟩
    · have e := hal b ha; subst e
      refine ⟨m, by show (if 5 < NG then β 5 else none) = _; rw [if_pos (by decide)]; exact h5, ?_⟩
      rw [blk_pow, if_pos rfl]
      exact g5_any hb
    · have hb' : NG ≤ b := hb
      show (if b < NG then β b else none) = none
      rw [if_neg (by omega)]
    · have e' : (if b < NG then β b else none) = some m' := e
      split at e'
      · exact hd b m' e'
      · cases e'
  refine (ev_calls tb_ok lp_ok sp_ok (args' := #[]) (H := Hpow) (by show NG ≤ 1048576; decide) hev (by kernel_rfl) hgp (LRel.nil _) p).mono fun e W' hR => ?_
  obtain ⟨β', v', rfl, hv, q⟩ := hR
  cases hv
  refine ⟨rfl, q.env.1, q.env.2.1, q.env.2.2, q.size, fun k hk => ?_⟩
  cases ho : W.heap[k]? with
  | none => have := Array.getElem?_eq_none_iff.1 ho; omega
  | some o =>
    exact q.frame k o ho fun b m hb hwb => by
      have hb' : b < NG := hb
      rw [hw b hb'] at hwb; cases hwb
open Classical in
noncomputable def spSane (args : List Value) (H : Hp) : Option (Value × Hp × Nat × Nat) :=
  if args = [] ∧ H.blk 5 = g5 then some (.bool true, H, bit 5, 0) else none
theorem spSane_at {H : Hp} (h : H.blk 5 = g5) : spSane [] H = some (.bool true, H, bit 5, 0) := by
  unfold spSane; rw [if_pos ⟨rfl, h⟩]
theorem spSane_ok {args : List Value} {H : Hp} {v : Value} {H' : Hp} {r w : Nat} (hw : H.wf) (h : spSane args H = some (v, H', r, w)) : TaskOk Tryz.prog NG (.call 6 args) H (.k (.ret v H' r w)) := by
  unfold spSane at h
  split at h
  · rename_i hc
    obtain ⟨rfl, h5⟩ := hc
    simp only [Option.some.injEq, Prod.mk.injEq] at h
    obtain ⟨rfl, rfl, rfl, rfl⟩ := h
    refine ⟨Can.refl hw, fun β W hg p => ?_⟩
    intro args' hl
    have e0 := hl.nil_inv
    have ea : args' = #[] := by obtain ⟨l⟩ := args'; simp at e0; subst e0; rfl
    subst ea
    have ha : alive H 5 := (alive_iff H 5).2 (by rw [h5]; obtain ⟨t, hg, _⟩ := g5_cells; rw [hg]; simp)
    obtain ⟨m, hm, hb⟩ := p.rel 5 (.inl ((bit_iff 5 5).2 rfl)) ha
    rw [h5] at hb
    refine .inl ⟨hasBody_inv tb_ok (by kernel_rfl) _ _, callsIn_wide.2 ((sane_calls hg hm W hb p.dom).mono fun e W' hR => ?_)⟩
    obtain ⟨rfl, hB⟩ := hR
    refine ⟨β, .bool true, rfl, .bool true, ?_⟩
    refine ⟨Mp.le.refl _, (fun b m h h' => by rw [h'] at h; cases h), fun b hb ha => ?_, fun rb o ho _ => ?_, hB.size, fun b m e => Nat.lt_of_lt_of_le (p.dom b m e) hB.size, (fun b m _ h h' => by rw [h] at h'; cases h'), fun b c mb mc hb _ ha => ?_, ⟨hB.os, hB.tape, hB.output⟩⟩
    · have := ha.1
      rcases hb with hb | hb
      · omega
      · simp at hb
    · have hlt : rb < W.heap.size := by
        rcases Nat.lt_or_ge rb W.heap.size with h' | h'
        · exact h'
        · rw [Array.getElem?_eq_none h'] at ho; cases ho
      rw [hB.block rb hlt]; exact ho
    · have := ha.1
      rcases hb with hb | hb
      · omega
      · simp at hb
  · cases h
end Go.Proofs.RS
end

noncomputable section
namespace Go.Proofs.RS
open Go Go.Ev Go.Proofs
theorem insL : InsL Tryz.prog where
  mixed := mixed_ok
  f139 := Tryz.func118
  f140 := Tryz.func120
  f227 := Tryz.func160
  t0 := Tryz.underlying0
  a0 := Tryz.isAgg0
  z0 := Tryz.sizeOf0
  v0 := Tryz.zeroValue0
  t3 := Tryz.underlying3
  a3 := Tryz.isAgg3
  z3 := Tryz.sizeOf3
  v3 := Tryz.zeroValue3
  t4 := Tryz.underlying4
  a4 := Tryz.isAgg4
  z4 := Tryz.sizeOf4
  v4 := Tryz.zeroValue4
  t51 := Tryz.underlying63
  a51 := Tryz.isAgg63
  z51 := Tryz.sizeOf63
  v51 := Tryz.zeroValue63
  t52 := Tryz.underlying64
  a52 := Tryz.isAgg64
  z52 := Tryz.sizeOf64
  v52 := Tryz.zeroValue64
  z50 := Tryz.sizeOf77
  i50 := by kernel_rfl
noncomputable def spL (f : Nat) (args : List Value) (H : Hp) : Option (Value × Hp × Nat × Nat) :=
  Bc (Nat.beq f 6) (spSane args H) (Bc (Nat.beq f 118) (spInsert args H) (Bc (Nat.beq f 120) (spDel args H) (sp0 f args H)))
theorem beq_no {a b : Nat} (h : a ≠ b) : Nat.beq a b = false := by
  cases hh : Nat.beq a b with
  | false => rfl
  | true => exact absurd ((beq_iff _ _).1 hh) h
theorem spL_k : SpK spL where
  none := fun f args H h1 h2 h3 h4 h5 h6 h7 => by unfold spL sp0; rw [beq_no h1, beq_no h2, beq_no h3, beq_no h4, beq_no h5, beq_no h6, beq_no h7]; rfl
  ins := fun args H => rfl
  del := fun args H => rfl
theorem spL_ok : SpOk Tryz.prog NG spL := by
  intro f args H v H' r w hw h
  unfold spL at h
  cases h1 : Nat.beq f 6 with
  | true =>
    rw [h1, Bc_t] at h
    rw [(beq_iff _ _).1 h1]
    exact spSane_ok hw h
  | false =>
    rw [h1, Bc_f] at h
    cases h2 : Nat.beq f 118 with
    | true =>
      rw [h2, Bc_t] at h
      rw [(beq_iff _ _).1 h2]
      exact spInsert_ok insL (hasBody_inv tb_ok (by kernel_rfl)) hw h
    | false =>
      rw [h2, Bc_f] at h
      cases h3 : Nat.beq f 120 with
      | true =>
        rw [h3, Bc_t] at h
        rw [(beq_iff _ _).1 h3]
        exact spDel_ok insL Tryz.zeroValue77 (hasBody_inv tb_ok (by kernel_rfl)) hw h
      | false => rw [h3, Bc_f] at h; exact sp_ok f args H v H' r w hw h
end Go.Proofs.RS
end
