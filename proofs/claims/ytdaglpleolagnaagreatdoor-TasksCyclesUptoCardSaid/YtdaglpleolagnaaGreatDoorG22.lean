/-
  A part of the proof that pliantlaw25.TasksCycles returns true and leaves its argument alone. Conditions: those of the card in the last text.
-/
import Derived.Ground.Names2Prog
import Derived.Ground.NamesProg
import Derived.KernelRfl
import Derived.Shelf.Slices.CompactI
import Derived.Shelf.Slices.In.SortNone
import Derived.Shelf.Sort.Plain
import Derived.Test.YtdaglpleolagnaaGreatDoorProg
import GoSem.ClaimJoined
import Derived.Test.YtdaglpleolagnaaGreatDoorG00
import Derived.Test.YtdaglpleolagnaaGreatDoorG02
import Derived.Test.YtdaglpleolagnaaGreatDoorG18
import Derived.Test.YtdaglpleolagnaaGreatDoorG19
import Derived.Test.YtdaglpleolagnaaGreatDoorG21
set_option linter.unusedSimpArgs false
set_option linter.unusedVariables false

noncomputable section
namespace Go.Proofs.K25
open Go Go.Ev Go.Proofs
open Go.RowKit (Below)
theorem noEsc_run (x : Value) (W : World) : (callFunc 273 #[x]).run Tryz.prog W = .ok (.value x) W := by
  have h := run_callFunc_extern (e := Extern.AbiNoEscape.same) Tryz.func273 (by kernel_rfl) (by kernel_rfl) (by kernel_rfl) (by kernel_rfl) #[x] W
  rw [h]; rfl
theorem sp_ok : SpOk Tryz.prog NG sp0 := by
  intro f args H v H' r w hw h
  unfold sp0 at h
  cases h1 : Nat.beq f 273 with
  | true =>
    rw [h1, Bc_t] at h
    have hf := (beq_iff _ _).1 h1
    rw [hf]
    exact spNoEsc_ok noEsc_run hw h
  | false =>
    rw [h1, Bc_f] at h
    cases h2 : Nat.beq f 336 with
    | true =>
      rw [h2, Bc_t] at h
      have hf := (beq_iff _ _).1 h2
      rw [hf]
      exact spMake_ok (ps := Tryz.f336.params) (t := 95) (by kernel_rfl) Tryz.func336 (by kernel_rfl) (by kernel_rfl) (by kernel_rfl) (by kernel_rfl) h
    | false => rw [h2, Bc_f] at h; cases h
theorem sane_calls (W : World) (hW : NG ≤ W.heap.size) : Calls Tryz.prog 4 #[] W fun e W' => e = .returned (.bool true) ∧ Below W.heap.size W W' :=
  closed_calls tb_ok sp_ok (by decide) (by kernel_rfl) sane_run W hW
end Go.Proofs.K25
end

noncomputable section
set_option linter.unusedSimpArgs false
set_option linter.unusedVariables false
namespace Go.Proofs.K25
open Go Go.Ev Go.Proofs Go.Cyc
open Go.RowKit (Below)
/-! ### From a world to the function heap, and back -/
/-- a slice of pairs in a world -/
def SlOk (W : World) (v : Value) (ws : Ws) : Prop :=
  (v = .slice none 0 0 ∧ ws = []) ∨ ∃ blk off cap cs ty fr, v = .slice (some ⟨blk, off, none⟩) ws.length cap ∧ W.heap[blk]? = some (.cells cs ty fr) ∧
    ∀ (i : Nat) p, ws[i]? = some p → cs[off + i * 2]? = some (vI p.1) ∧ cs[off + i * 2 + 1]? = some (vI p.2)
def pairCells (ws : Ws) : List Value := ws.flatMap fun p => [vI p.1, vI p.2]
theorem pairCells_len (ws : Ws) : (pairCells ws).length = ws.length * 2 := by
  induction ws with
  | nil => rfl
  | cons p ws ih => unfold pairCells at *; rw [List.flatMap_cons, List.length_append, ih]; simp; omega
theorem pairCells_get : ∀ (ws : Ws) (i : Nat) p, ws[i]? = some p → (pairCells ws)[i * 2]? = some (vI p.1) ∧ (pairCells ws)[i * 2 + 1]? = some (vI p.2) := by
  intro ws
  induction ws with
  | nil => intro i p h; simp at h
  | cons q ws ih =>
    intro i p h
    have e : pairCells (q :: ws) = vI q.1 :: vI q.2 :: pairCells ws := rfl
    rw [e]
    cases i with
    | zero => simp at h; subst h; exact ⟨rfl, rfl⟩
    | succ i =>
      have h' : ws[i]? = some p := by simpa using h
      have := ih i p h'
      rw [show (i + 1) * 2 = i * 2 + 1 + 1 from by omega]
      simpa using this
theorem pairCells_inv (ws : Ws) (j : Nat) (hj : j < ws.length * 2) : ∃ i p, ws[i]? = some p ∧ ((j = i * 2 ∧ (pairCells ws)[j]? = some (vI p.1)) ∨ (j = i * 2 + 1 ∧ (pairCells ws)[j]? = some (vI p.2))) := by
  have hi : j / 2 < ws.length := by omega
  refine ⟨j / 2, ws[j / 2], by simp [hi], ?_⟩
  obtain ⟨h1, h2⟩ := pairCells_get ws (j / 2) ws[j / 2] (by simp [hi])
  rcases Nat.mod_two_eq_zero_or_one j with h | h
  · left; have e : j = j / 2 * 2 := by omega
    exact ⟨e, by rw [← e] at h1; exact h1⟩
  · right; have e : j = j / 2 * 2 + 1 := by omega
    exact ⟨e, by rw [← e] at h2; exact h2⟩
abbrev envR (H : Hp) : Env := ⟨H.nx, fun _ => True, fun _ => False⟩
theorem run_law {sp : Nat → List Value → Hp → Option (Value × Hp × Nat × Nat)} (hsp : SpOk Tryz.prog NG sp) {f : FuncId} (hb : hasBody Tb0 f = true) (W : World) (hW : NG ≤ W.heap.size) {v : Value} {ws : Ws} (hv : SlOk W v ws)
    (h : ∀ (H : Hp) (v0 : Value), H.isFn = true → PairsR (envR H) H v0 ws → EC Tb0 sp (envR H) f [v0] H fun r _ => r = .bool true) :
    Calls Tryz.prog f #[v] W fun e W' => e = .returned (.bool true) ∧ Below W.heap.size W W' := by
  -- whatever the heap, its map and the slice: what the run leaves
  have fin : ∀ (H : Hp) (v0 : Value) (β : Mp), H.isFn = true → PairsR (envR H) H v0 ws → GRel NG β → VRel β v0 v → (∀ H' r w, H.nx ≤ H'.nx → Pre β H H' r w W) →
      Calls Tryz.prog f #[v] W fun e W' => e = .returned (.bool true) ∧ Below W.heap.size W W' := by
    intro H v0 β hf hp hg hvr hpre
    obtain ⟨N, r, H', rd, wr, hev, hok, hle, rfl⟩ := h H v0 hf hp
    refine (ev_calls tb_ok hsp (args' := #[v]) (fn_wf hf) hev hb hg (LRel.cons hvr (LRel.nil _)) (hpre H' rd wr hle)).mono fun e W' hR => ?_
    obtain ⟨β', v', rfl, hv', q⟩ := hR
    cases hv'
    refine ⟨rfl, q.env.1, q.env.2.1, q.env.2.2, q.size, fun k hk => ?_⟩
    cases ho : W.heap[k]? with
    | none => have := Array.getElem?_eq_none_iff.1 ho; omega
    | some o => exact q.frame k o ho fun b m hb hwb => (hok.wr b hb hwb).elim
  have hg0 : ∀ m : Option Bm, GRel NG (fun b => if b < NG then some ⟨b, 0, 0, 0⟩ else if b = NG then m else none) := fun m g hlt => ⟨⟨g, 0, 0, 0⟩, by simp [hlt], rfl, rfl⟩
  rcases hv with ⟨rfl, rfl⟩ | ⟨blk, off, cap, cs, ty, fr, rfl, hblk, hcell⟩
  · have hdead : ∀ b, ¬ alive (Hp.fn (fun _ => .no) (NG + 1)) b := fun b ha => ha.2 (by
      show Bc (Nat.blt b (NG + 1)) Blk.no Blk.no = _
      cases Nat.blt b (NG + 1) <;> rfl)
    refine fin (.fn (fun _ => .no) (NG + 1)) (.slice none 0 0) _ rfl (.nil 0 none) (hg0 none) (.sl0 0 0) fun H' r w hle => ⟨fun b _ ha => absurd ha (hdead b), fun b c mb mc _ _ ha => absurd ha (hdead b), fun b hb _ => ?_, fun b m e => ?_⟩
    · have hb' : NG + 1 ≤ b := hb
      try simp only
      rw [if_neg (by omega), if_neg (by omega)]
    · try simp only at e
      split at e
      · cases e; show b < _; omega
      · split at e <;> cases e
  · have hlt : blk < W.heap.size := by
      rcases Nat.lt_or_ge blk W.heap.size with h' | h'
      · exact h'
      · rw [Array.getElem?_eq_none h'] at hblk; cases hblk
    let m : Bm := ⟨blk, off, cs.size, 2⟩
    have hcap : CapRel m 0 (2 * cap) cap := ⟨fun _ => by omega, fun h => by omega⟩
    have hvr : ∀ β : Mp, β NG = some m → VRel β (.slice (some ⟨NG, 0, none⟩) ws.length (2 * cap)) (.slice (some ⟨blk, off, none⟩) ws.length cap) := fun β e => by
      have := VRel.sl NG 0 ws.length (2 * cap) cap m e hcap
      simpa [m] using this
    have hβ : (fun b => if b < NG then some (⟨b, 0, 0, 0⟩ : Bm) else if b = NG then some m else none) NG = some m := by simp
    have hdom : ∀ b m', (fun b => if b < NG then some (⟨b, 0, 0, 0⟩ : Bm) else if b = NG then some m else none) b = some m' → m'.rb < W.heap.size := fun b m' e => by
      try simp only at e
      split at e
      · cases e; show b < _; omega
      · split at e
        · cases e; exact hlt
        · cases e
    obtain ⟨t, hb1, hb2⟩ := blkL_eq (pairCells ws) ty 3
    let x : Blk := .cells t (pairCells ws).length ty 3 0 (cs.size + 1)
    let H : Hp := .fn (fun b => Bc (Nat.beq b NG) (Bc (Nat.beq ws.length 0) .no x) .no) (NG + 1)
    have hH : ∀ b, H.blk b = if b = NG ∧ ws.length ≠ 0 then x else .no := by
      intro b
      show Bc (Nat.blt b (NG + 1)) (Bc (Nat.beq b NG) (Bc (Nat.beq ws.length 0) .no x) .no) .no = _
      by_cases e : b = NG
      · subst e
        rw [(blt_iff _ _).2 (Nat.lt_succ_self _), (beq_iff NG NG).2 rfl, Bc_t, Bc_t]
        cases hl : ws.length with
        | zero => simp [Bc_t]
        | succ n =>
          have : Nat.beq (n + 1) 0 = false := rfl
          rw [this, Bc_f]; simp
      · have h1 : Nat.beq b NG = false := by
          cases hh : Nat.beq b NG with
          | false => rfl
          | true => exact absurd ((beq_iff _ _).1 hh) e
        rw [h1, Bc_f, if_neg (fun h => e h.1)]
        cases Nat.blt b (NG + 1) <;> rfl
    refine fin H (.slice (some ⟨NG, 0, none⟩) ws.length (2 * cap)) _ rfl ?_ (hg0 (some m)) (hvr _ hβ) fun H' r w hle => ⟨fun b _ ha => ?_, fun b c mb mc _ _ ha hc _ _ _ => ?_, fun b hb _ => ?_, hdom⟩
    · cases ws with
      | nil => exact .nil _ _
      | cons p ws =>
        refine .inRow NG 0 (2 * cap) ty 3 (p :: ws) (pairCells (p :: ws)) ⟨t, 0, cs.size + 1, by rw [hH, if_pos ⟨rfl, by simp⟩], hb2⟩ (fun _ => trivial) fun i q hq => ?_
        have := pairCells_get (p :: ws) i q hq
        simpa using this
    · have h1 := ha.2
      rw [hH] at h1
      by_cases e : b = NG ∧ ws.length ≠ 0
      · obtain ⟨rfl, hne⟩ := e
        refine ⟨m, hβ, .cells cs ty fr, hblk, ?_⟩
        rw [hH, if_pos ⟨rfl, hne⟩]
        have hlast : off + ws.length * 2 ≤ cs.size := by
          have hi : ws.length - 1 < ws.length := by omega
          obtain ⟨_, h2⟩ := hcell (ws.length - 1) ws[ws.length - 1] (by simp [hi])
          rcases Nat.lt_or_ge (off + (ws.length - 1) * 2 + 1) cs.size with h' | h'
          · omega
          · rw [Array.getElem?_eq_none h'] at h2; cases h2
        refine ⟨cs, fr, rfl, rfl, by rw [pairCells_len]; exact hlast, (fun h => by cases h), (fun k h => by cases h; rfl), fun j hj => ?_, .inr (.inr ⟨rfl, Nat.lt_succ_self _⟩)⟩
        rw [pairCells_len] at hj
        obtain ⟨i, p, hp, h3 | h3⟩ := pairCells_inv ws j hj
        · obtain ⟨rfl, h4⟩ := h3
          rw [hb2 _ _ h4]
          exact ⟨rfl, vI p.1, by have := (hcell i p hp).1; exact this, .int _ _⟩
        · obtain ⟨rfl, h4⟩ := h3
          rw [hb2 _ _ h4]
          exact ⟨rfl, vI p.2, by have := (hcell i p hp).2; exact this, .int _ _⟩
      · rw [if_neg e] at h1; exact absurd rfl h1
    · have h1 := ha.2
      have h2 := hc.2
      rw [hH] at h1 h2
      by_cases e1 : b = NG ∧ ws.length ≠ 0
      · by_cases e2 : c = NG ∧ ws.length ≠ 0
        · rw [e1.1, e2.1]
        · rw [if_neg e2] at h2; exact absurd rfl h2
      · rw [if_neg e1] at h1; exact absurd rfl h1
    · have hb' : NG + 1 ≤ b := hb
      try simp only
      rw [if_neg (by omega), if_neg (by omega)]
/-- what sane() comes to, for the evaluator -/
def spSane (args : List Value) (H : Hp) : Option (Value × Hp × Nat × Nat) := match args with
  | [] => some (.bool true, H, 0, 0)
  | _ => none
theorem spSane_ok {args : List Value} {H : Hp} {v : Value} {H' : Hp} {r w : Nat} (hw : H.wf) (h : spSane args H = some (v, H', r, w)) : TaskOk Tryz.prog NG (.call 4 args) H (.k (.ret v H' r w)) := by
  unfold spSane at h
  split at h
  · simp only [Option.some.injEq, Prod.mk.injEq] at h
    obtain ⟨rfl, rfl, rfl, rfl⟩ := h
    refine ⟨Can.refl hw, fun β W hg p => ?_⟩
    intro args' hl
    have e0 := hl.nil_inv
    have ea : args' = #[] := by obtain ⟨l⟩ := args'; simp at e0; subst e0; rfl
    subst ea
    have hW : NG ≤ W.heap.size := by
      obtain ⟨m, h1, h2, _⟩ := hg 11 (by decide)
      have := p.dom _ _ h1
      show 12 ≤ _
      omega
    refine .inl ⟨hasBody_inv tb_ok (by kernel_rfl) _ _, callsIn_wide.2 ((sane_calls W hW).mono fun e W' hR => ?_)⟩
    obtain ⟨rfl, hB⟩ := hR
    refine ⟨β, .bool true, rfl, .bool true, ?_⟩
    refine ⟨Mp.le.refl _, (fun b m h h' => by rw [h'] at h; cases h), fun b hb ha => ?_, fun rb o ho _ => ?_, hB.size, fun b m e => Nat.lt_of_lt_of_le (p.dom b m e) hB.size, (fun b m _ h h' => by rw [h] at h'; cases h'), fun b c mb mc hb _ ha => ?_, ⟨hB.os, hB.tape, hB.output⟩⟩
    · have := ha.1
      rcases hb with hb | hb
      · omega
      · simp at hb
    · have hlt : rb < W.heap.size := by
        rcases Nat.lt_or_ge rb W.heap.size with h' | h'
        · exact h'
        · rw [Array.getElem?_eq_none h'] at ho; cases ho
      rw [hB.block rb hlt]; exact ho
    · have := ha.1
      rcases hb with hb | hb
      · omega
      · simp at hb
  · cases h
end Go.Proofs.K25
end

noncomputable section
set_option linter.unusedSimpArgs false
set_option linter.unusedVariables false
namespace Go.Proofs.K25
open Go Go.Ev Go.Proofs Go.Cyc
open Go.RowKit (Below)
/-! pliant/pliantlaw25.TasksCycles: function 3, 11 temporaries, parameters [22], results [t2] -/
noncomputable def law_body : Code := (Tryz.f3.body).getD .skip
-- law.go:111
def law_r0 : List CO := [
    ⟨(some 2), none, .mv (.const (.bool false))⟩]
-- law.go:112
def law_r1 : List CO := [
    ⟨(some 3), none, .call (.func 4) []⟩,
    ⟨(some 4), none, .mv (.tmp 3)⟩,
    ⟨(some 5), (some (4, true)), .mv (.tmp 0)⟩,
    ⟨(some 6), (some (4, true)), .call (.func 6) [(.tmp 5)]⟩,
    ⟨(some 7), (some (4, true)), .mv (.tmp 0)⟩,
    ⟨(some 8), (some (4, true)), .call (.func 7) [(.tmp 7)]⟩,
    ⟨(some 9), (some (4, true)), .call (.func 5) [(.tmp 6), (.tmp 8)]⟩,
    ⟨(some 10), none, .pick (.tmp 4) (.tmp 9) (.const (.bool false))⟩,
    ⟨(some 2), none, .mv (.tmp 10)⟩]
noncomputable def law_k : KC :=
  (.seq (.reg law_r0)
  (.seq (.reg law_r1)
  .ret))
theorem law_comp : kcomp Tb0 Tryz.f3.ntmps law_body = law_k := by kernel_rfl
theorem law_some : Tryz.f3.body = some law_body := rfl

/-! pliant/pliantref25.SameInts: function 5, 26 temporaries, parameters [25, 25], results [t4] -/
noncomputable def smi_body : Code := (Tryz.f5.body).getD .skip
-- ref.go:1092
def smi_r0 : List CO := [
    ⟨(some 4), none, .mv (.const (.bool false))⟩]
-- ref.go:1093
def smi_r1 : List CO := [
    ⟨(some 6), none, .mv (.tmp 0)⟩,
    ⟨(some 7), none, .len 1 (.tmp 6)⟩,
    ⟨(some 8), none, .mv (.tmp 1)⟩,
    ⟨(some 9), none, .len 1 (.tmp 8)⟩,
    ⟨(some 10), none, .eq true (.one .i) (.tmp 7) (.tmp 9)⟩]
-- ref.go:1094
def smi_r2 : List CO := [
    ⟨(some 4), none, .mv (.const (.bool false))⟩]
-- ref.go:1096
def smi_r3 : List CO := [
    ⟨(some 5), none, .mv (.const (.int .i64 (0)))⟩]
-- ref.go:1096
def smi_r4 : List CO := [
    ⟨(some 11), none, .mv (.tmp 5)⟩,
    ⟨(some 12), none, .mv (.tmp 0)⟩,
    ⟨(some 13), none, .len 1 (.tmp 12)⟩,
    ⟨(some 14), none, .bin .lss (.tmp 11) (.tmp 13)⟩]
-- ref.go:1097
def smi_r5 : List CO := [
    ⟨(some 17), none, .mv (.tmp 0)⟩,
    ⟨(some 18), none, .mv (.tmp 5)⟩,
    ⟨(some 19), none, .iaS 1 (.tmp 17) (.tmp 18)⟩,
    ⟨(some 20), none, .ld1 (.tmp 19)⟩,
    ⟨(some 21), none, .mv (.tmp 1)⟩,
    ⟨(some 22), none, .mv (.tmp 5)⟩,
    ⟨(some 23), none, .iaS 1 (.tmp 21) (.tmp 22)⟩,
    ⟨(some 24), none, .ld1 (.tmp 23)⟩,
    ⟨(some 25), none, .eq true (.one .i) (.tmp 20) (.tmp 24)⟩]
-- ref.go:1098
def smi_r6 : List CO := [
    ⟨(some 4), none, .mv (.const (.bool false))⟩]
-- ref.go:1096
def smi_r7 : List CO := [
    ⟨(some 15), none, .mv (.tmp 5)⟩,
    ⟨(some 16), none, .bin .add (.tmp 15) (.const (.int .i64 (1)))⟩,
    ⟨(some 5), none, .mv (.tmp 16)⟩]
noncomputable def smi_l8 : KC :=
  (.seq (.seq (.reg smi_r4)
  (.cond (.tmp 14) .skip
   (.exit 0)))
  (.seq (.block 1 (.seq (.draw #[0, 0, 3, 7, 0, 0, 48, 112, 255] smi_r5)
   (.cond (.tmp 25) (.seq (.reg smi_r6)
    .ret)
    .skip)))
  (.reg smi_r7)))
-- ref.go:1101
def smi_r9 : List CO := [
    ⟨(some 4), none, .mv (.const (.bool true))⟩]
noncomputable def smi_k : KC :=
  (.seq (.reg smi_r0)
  (.seq (.seq (.reg smi_r1)
  (.cond (.tmp 10) (.seq (.reg smi_r2)
   .ret)
   .skip))
  (.seq (.seq (.reg smi_r3)
  (.block 0 (.loop smi_body.sr.sr.sl.sr.bl.lp smi_l8)))
  (.seq (.reg smi_r9)
  .ret))))
theorem smi_comp : kcomp Tb0 Tryz.f5.ntmps smi_body = smi_k := by kernel_rfl
theorem smi_some : Tryz.f5.body = some smi_body := rfl

abbrev cx5 : Cx := ⟨5, 26, none, false⟩
section
variable {sp : Nat → List Value → Hp → Option (Value × Hp × Nat × Nat)} {e : Env}
set_option maxRecDepth 10000 in
set_option maxHeartbeats 4000000 in
theorem sameInts_ok (h5 : ∀ args H, sp 5 args H = none) {H : Hp} {v0 v1 : Value} {L : List Int} (h0 : NumsR e H v0 L) (h1 : NumsR e H v1 L) (hlen : L.length < 4611686018427387904) :
    EC Tb0 sp e 5 [v0, v1] H fun v H' => v = .bool true ∧ H' = H := by
  refine EC.intro (fn := Tryz.f5) (c := smi_body) (h5 _ _) (by rfl) smi_some smi_comp (by show 2 ≤ 26; decide) ?_
  have g0 : (enterT Tryz.f5 [v0, v1]).get 0 = v0 := by rw [enterT_get (by show 2 ≤ 26; decide) (by show 0 < 26; decide)]; rfl
  have g1 : (enterT Tryz.f5 [v0, v1]).get 1 = v1 := by rw [enterT_get (by show 2 ≤ 26; decide) (by show 1 < 26; decide)]; rfl
  revert g0 g1
  generalize enterT Tryz.f5 [v0, v1] = t0
  intro g0 g1
  show WK Tb0 sp e cx5 smi_k t0 [] H _
  have k0 := h0.len
  have k1 := h1.len
  unfold smi_k
  refine WK.seq (WK.reg_rr (fun t' => t'.get 0 = v0 ∧ t'.get 1 = v1) ?_ ?_)
  · simp (config := { maxSteps := 1000000 }) only [smi_r0, WOR, wants_none', run, evalO_const, Rv_eq, ok_zero, true_and, get_putT (d := 5), g0, g1, Nat.reducePow, Nat.reduceLT, Nat.reduceEqDiff, reduceIte, and_self]
  rintro t1 ⟨g0, g1⟩
  have hd : decide ((L.length : Int) = (L.length : Int)) = true := decide_eq_true rfl
  refine WK.seq (WK.seq (WK.reg_rr (fun t' => t'.get 0 = v0 ∧ t'.get 1 = v1 ∧ t'.get 10 = .bool false) ?_ ?_))
  · simp (config := { maxSteps := 1000000 }) only [smi_r1, WOR, wants_none', run, evalO_tmp, Rv_eq, ok_zero, true_and, get_putT (d := 5), g0, g1, k0, k1, exEq_int, decide_true, Bc_t, Bool.not_true, Nat.reducePow, Nat.reduceLT, Nat.reduceEqDiff, reduceIte, and_self]
  rintro t2 ⟨g0, g1, g10⟩
  refine WK.cond (v := false) (by rw [evalO_tmp, g10]; rfl) (WK.skip ?_)
  refine WK.seq (WK.seq (WK.reg_rr (fun t' => t'.get 0 = v0 ∧ t'.get 1 = v1 ∧ t'.get 5 = vI (0 : Nat)) ?_ ?_))
  · simp (config := { maxSteps := 1000000 }) only [smi_r3, WOR, wants_none', run, evalO_const, Rv_eq, ok_zero, true_and, get_putT (d := 5), g0, g1, Nat.reducePow, Nat.reduceLT, Nat.reduceEqDiff, reduceIte, and_self]
    rfl
  rintro t3 ⟨g0, g1, g5⟩
  refine WK.block (WK.loop_ind (fun m t' ds' H' => ds' = [] ∧ H' = H ∧ ∃ i : Nat, m = L.length - i ∧ i ≤ L.length ∧ t'.get 0 = v0 ∧ t'.get 1 = v1 ∧ t'.get 5 = vI i) ?_ L.length t3 [] H ⟨rfl, rfl, 0, by omega, by omega, g0, g1, g5⟩)
  clear g0 g1 g5
  rintro m t4 ds H ⟨rfl, rfl, i, rfl, hi, g0, g1, g5⟩
  unfold smi_l8
  refine WK.seq (WK.seq (WK.reg_rr (fun t' => t'.get 14 = .bool (decide ((i : Int) < (L.length : Int))) ∧ Lo 6 t4 t') ?_ ?_))
  · simp (config := { maxSteps := 1000000 }) only [smi_r4, WOR, wants_none', run, evalO_tmp, evalO_const, Rv_eq, Ro_some, ok_zero, true_and, get_putT (d := 5), g0, g5, k0, binV_lss, Nat.reducePow, Nat.reduceLT, Nat.reduceEqDiff, if_false, reduceIte]
    intro j hj
    simp (disch := omega) only [putT_lo (d := 5)]
  rintro t5 ⟨h14, hlo⟩
  have f0 := (hlo 0 (by omega)).trans g0
  have f1 := (hlo 1 (by omega)).trans g1
  have f5 := (hlo 5 (by omega)).trans g5
  by_cases hlt : i < L.length
  case neg =>
    refine WK.cond (v := false) (by rw [evalO_tmp, h14, decide_eq_false (by omega)]; rfl) (WK.exit ?_)
    show WK Tb0 sp e cx5 _ t5 [] H _
    refine WK.seq (WK.reg_rr (fun t' => t'.get 4 = .bool true) ?_ ?_)
    · simp (config := { maxSteps := 1000000 }) only [smi_r9, WOR, wants_none', run, evalO_const, Rv_eq, ok_zero, true_and, get_putT (d := 5), Nat.reducePow, Nat.reduceLT, Nat.reduceEqDiff, reduceIte]
    intro t6 h4
    refine WK.ret ⟨.inr rfl, rfl, [.bool true], 0, ?_, .zero _ _, rfl, rfl⟩
    show resL Tb0 26 t6 H [.tmp 4] = _
    simp only [resL, h4]; rfl
  refine WK.cond (v := true) (by rw [evalO_tmp, h14, decide_eq_true (by omega)]; rfl) (WK.skip ?_)
  obtain ⟨z, hz⟩ : ∃ z, L[i]? = some z := ⟨L[i], by simp [hlt]⟩
  obtain ⟨b1, m1, m2, m3⟩ := h0.read hz
  obtain ⟨b2, n1, n2, n3⟩ := h1.read hz
  have hzz : decide (z = z) = true := decide_eq_true rfl
  refine WK.seq (WK.block (WK.seq (WK.draw_rr (fun t' => t'.get 25 = .bool false ∧ Lo 6 t5 t') ?_ ?_)))
  · simp (config := { maxSteps := 1000000 }) only [smi_r5, WOR, wants_none', run, evalO_tmp, evalO_const, Rv_eq, Ro_some, ok_zero, true_and, get_putT (d := 5), f0, f1, f5, m1, m2, m3, n1, n2, n3, exEq_int, decide_true, Bc_t, Bool.not_true, Nat.reducePow, Nat.reduceLT, Nat.reduceEqDiff, if_false, reduceIte]
    intro j hj
    simp (disch := omega) only [putT_lo (d := 5)]
  rintro t6 ⟨h25, lo6⟩
  have e0 := (lo6 0 (by omega)).trans f0
  have e1 := (lo6 1 (by omega)).trans f1
  have e5 := (lo6 5 (by omega)).trans f5
  refine WK.cond (v := false) (by rw [evalO_tmp, h25]; rfl) (WK.skip ?_)
  have hwr : wrapF .i64 ((i : Int) + 1) = ((i + 1 : Nat) : Int) := by rw [wrapF_i64 (by omega) (by omega)]; omega
  refine WK.reg_rr (fun t' => t'.get 0 = v0 ∧ t'.get 1 = v1 ∧ t'.get 5 = vI (i + 1 : Nat)) ?_ ?_
  · simp (config := { maxSteps := 1000000 }) only [smi_r7, WOR, wants_none', run, evalO_tmp, evalO_const, Rv_eq, Ro_some, ok_zero, true_and, get_putT (d := 5), e0, e1, e5, binV_add, hwr, Nat.reducePow, Nat.reduceLT, Nat.reduceEqDiff, if_false, reduceIte, and_self]
  rintro t7 ⟨d0, d1, d5⟩
  exact ⟨L.length - (i + 1), by omega, rfl, rfl, i + 1, rfl, by omega, d0, d1, d5⟩
abbrev cx3 : Cx := ⟨4, 11, none, false⟩
set_option maxRecDepth 10000 in
set_option maxHeartbeats 4000000 in
theorem law_ec (h3 : ∀ args H, sp 3 args H = none) (h4 : ∀ H, sp 4 [] H = some (.bool true, H, 0, 0)) (h5 : ∀ args H, sp 5 args H = none) (h6 : ∀ args H, sp 6 args H = none) (h7 : ∀ args H, sp 7 args H = none) (h21 : ∀ args H, sp 21 args H = spSort args H) (h22 : ∀ args H, sp 22 args H = spComp args H) (h23 : ∀ args H, sp 23 args H = none) (h57 : ∀ args H, sp 57 args H = none)
    {H : Hp} {v0 : Value} {ws : Ws} (hf : H.isFn = true) (he : e.n0 ≤ H.nx) (hpw : PairsR e H v0 ws) (hwl : ws.length < 1099511627776) : EC Tb0 sp e 3 [v0] H fun r _ => r = .bool true := by
  refine EC.intro (fn := Tryz.f3) (c := law_body) (h3 _ _) (by rfl) law_some law_comp (by show 1 ≤ 11; decide) ?_
  have g0 : (enterT Tryz.f3 [v0]).get 0 = v0 := by rw [enterT_get (by show 1 ≤ 11; decide) (by show 0 < 11; decide)]; rfl
  revert g0
  generalize enterT Tryz.f3 [v0] = t0
  intro g0
  show WK Tb0 sp e cx3 law_k t0 [] H _
  unfold law_k
  refine WK.seq (WK.reg_rr (fun t' => t'.get 0 = v0) ?_ ?_)
  · simp (config := { maxSteps := 1000000 }) only [law_r0, WOR, wants_none', run, evalO_const, Rv_eq, ok_zero, true_and, get_putT (d := 4), g0, Nat.reducePow, Nat.reduceLT, Nat.reduceEqDiff, reduceIte]
  intro t1 g0
  refine WK.seq (WK.reg_gg (fun t' _ => t'.get 2 = .bool true) ?_ ?_)
  · simp (config := { maxSteps := 1000000 }) only [law_r1, WOG, WOGk, wants_none', run, evalO_tmp, evalO_const, evalO_func, evalL, callV_func, Rv_eq, Ro_some, ok_zero, true_and, get_putT (d := 4), g0, Nat.reducePow, Nat.reduceLT, Nat.reduceEqDiff, reduceIte, Nat.le_refl]
    refine EC.of_sp (h4 H) (.zero _ _) (Nat.le_refl _) ?_
    simp (config := { maxSteps := 1000000 }) only [WOG, WOGk, wants_none', run, evalO_tmp, evalO_const, evalO_func, evalL, callV_func, Rv_eq, Ro_some, ok_zero, true_and, get_putT (d := 4), g0, wants_some, wantsV_tt, Nat.reducePow, Nat.reduceLT, Nat.reduceEqDiff, reduceIte, Nat.le_refl]
    refine (tcycle_ok h6 h21 h22 hf he hpw hwl).mono fun v1 H1 hle1 hv1 => ?_
    obtain ⟨hk1, out, hn1, hc1, hlo1⟩ := hv1
    simp (config := { maxSteps := 1000000 }) only [WOG, WOGk, wants_none', run, evalO_tmp, evalO_const, evalO_func, evalL, callV_func, Rv_eq, Ro_some, ok_zero, true_and, get_putT (d := 4), g0, wants_some, wantsV_tt, Nat.reducePow, Nat.reduceLT, Nat.reduceEqDiff, reduceIte, Nat.le_refl]
    refine (rcycle_ok h57 h23 h7 hk1.fn (Nat.le_trans he hk1.nx) (hpw.of_blk hk1.old) hwl).mono fun v2 H2 hle2 hv2 => ?_
    obtain ⟨hk2, out2, hn2, hc2⟩ := hv2
    have heq := hc1.unique hc2
    subst heq
    simp (config := { maxSteps := 1000000 }) only [WOG, WOGk, wants_none', run, evalO_tmp, evalO_const, evalO_func, evalL, callV_func, Rv_eq, Ro_some, ok_zero, true_and, get_putT (d := 4), g0, wants_some, wantsV_tt, Nat.reducePow, Nat.reduceLT, Nat.reduceEqDiff, reduceIte, Nat.le_refl]
    refine (sameInts_ok h5 ((hn1.kept hk2).numsR he) (hn2.numsR (Nat.le_trans he hk1.nx)) (by omega)).mono fun v3 H3 hle3 hv3 => ?_
    obtain ⟨rfl, rfl⟩ := hv3
    simp (config := { maxSteps := 1000000 }) only [WOG, WOGk, wants_none', run, evalO_tmp, evalO_const, evalO_func, evalL, callV_func, Rv_eq, Ro_some, ok_zero, true_and, get_putT (d := 4), g0, wants_some, wantsV_tt, exPick_t, Nat.reducePow, Nat.reduceLT, Nat.reduceEqDiff, reduceIte, Nat.le_refl]
  intro t2 H2 h2
  refine WK.ret ⟨.inr rfl, rfl, [.bool true], 0, ?_, .zero _ _, rfl⟩
  show resL Tb0 11 t2 H2 [.tmp 2] = _
  simp only [resL, h2]; rfl
end
theorem grow_nil (W : World) : Sort.grow W #[] = W := by
  unfold Sort.grow
  rw [Array.append_empty]
/-- all that stands in for a walk -/
def spL (f : Nat) (args : List Value) (H : Hp) : Option (Value × Hp × Nat × Nat) :=
  Bc (Nat.beq f 4) (spSane args H) (Bc (Nat.beq f 21) (spSort args H) (Bc (Nat.beq f 22) (spComp args H) none))
theorem spL_ok (hs : ∀ (blk off cap : Nat) (zs : List Int) (W : World), Sort.Holds (Value.int .i64) W blk off zs.toArray → blk < W.heap.size → zs.length < 4611686018427387904 →
      Calls Tryz.prog 21 #[.slice (some ⟨blk, off, none⟩) zs.length cap] W fun e W' => e = .returned (.tuple #[]) ∧ ∃ n os, W' = Sort.grow (Sort.putRow (Value.int .i64) (Sort.ahead W n) blk off (zs.mergeSort fun x y => decide (x ≤ y)).toArray) os)
    (hsn : ∀ (p : Option Addr) (cap : Nat) (W : World), Calls Tryz.prog 21 #[.slice p 0 cap] W fun e W' => e = .returned (.tuple #[]) ∧ W' = W)
    (hc : ∀ (blk off cap : Nat) (zs : List Int) (W : World), Sort.Holds (Value.int .i64) W blk off zs.toArray → zs.length ≤ 9223372036854775807 → zs.length ≤ cap →
      Calls Tryz.prog 22 #[.slice (some ⟨blk, off, none⟩) zs.length cap] W fun e W' => e = .returned (.slice (some ⟨blk, off, none⟩) (Lib.compact zs).length cap) ∧ ∃ q, W' = Sort.putRow (Value.int .i64) (Sort.ahead W q) blk off (Lib.compact zs ++ List.replicate (zs.length - (Lib.compact zs).length) 0).toArray)
    (hcn : ∀ (a : Option Addr) (cap : Nat) (W : World), Calls Tryz.prog 22 #[.slice a 0 cap] W fun e W' => e = .returned (.slice a 0 cap) ∧ W' = W) : SpOk Tryz.prog NG spL := by
  intro f args H v H' r w hw h
  unfold spL at h
  cases h1 : Nat.beq f 4 with
  | true =>
    rw [h1, Bc_t] at h
    rw [(beq_iff _ _).1 h1]
    exact spSane_ok hw h
  | false =>
    rw [h1, Bc_f] at h
    cases h2 : Nat.beq f 21 with
    | true =>
      rw [h2, Bc_t] at h
      rw [(beq_iff _ _).1 h2]
      rcases spOr_inv h with h | h
      · exact spRow_ok (rv' := fun _ _ _ _ => U) sortI_len (hasBody_inv tb_ok (by kernel_rfl)) (fun β b o c c' m zs _ _ => vrel_U β) (fun blk off cap zs W hH hb hl _ => hs blk off cap zs W hH hb hl) hw h
      · exact spNil_ok (hasBody_inv tb_ok (by kernel_rfl)) (fun β c => vrel_U β) (fun c W => hsn none c W) hw h
    | false =>
      rw [h2, Bc_f] at h
      cases h3 : Nat.beq f 22 with
      | true =>
        rw [h3, Bc_t] at h
        rw [(beq_iff _ _).1 h3]
        rcases spOr_inv h with h | h
        · refine spRow_ok (rv' := fun b o c zs => .slice (some ⟨b, o, none⟩) (Lib.compact zs).length c) compI_len (hasBody_inv tb_ok (by kernel_rfl)) (fun β b o c c' m zs e hc => .sl b o _ c c' m e hc) (fun blk off cap zs W hH hb hl hcap => (hc blk off cap zs W hH (by omega) hcap).mono fun e W' hR => ?_) hw h
          obtain ⟨rfl, q, rfl⟩ := hR
          exact ⟨rfl, q, #[], (grow_nil _).symm⟩
        · exact spNil_ok (hasBody_inv tb_ok (by kernel_rfl)) (fun β c => .sl0 0 c) (fun c W => hcn none c W) hw h
      | false => rw [h3, Bc_f] at h; cases h
theorem law_of (hsp : SpOk Tryz.prog NG spL) (W : World) (hW : NG ≤ W.heap.size) {v : Value} {ws : Ws} (hv : SlOk W v ws) (hwl : ws.length < 1099511627776) :
    Calls Tryz.prog 3 #[v] W fun e W' => e = .returned (.bool true) ∧ Below W.heap.size W W' :=
  run_law hsp (by kernel_rfl) W hW hv fun H v0 hf hp => law_ec (fun _ _ => rfl) (fun _ => rfl) (fun _ _ => rfl) (fun _ _ => rfl) (fun _ _ => rfl) (fun _ _ => rfl) (fun _ _ => rfl) (fun _ _ => rfl) (fun _ _ => rfl) hf (Nat.le_refl _) hp hwl
end Go.Proofs.K25
end

noncomputable section
/-
  DERIVED: THE SHELF's CONTRACTS AT THIS DUMP, IN PLAIN WORDS (tools/lay-plain.mjs out of 'YtdaglpleolagnaaGreatDoorShelf.lean', which tools/lay-shelf.mjs wrote): THE SAME DECLARATIONS UNDER THE SAME NAMES: 'import', 'namespace', 'open', 'def', 'theorem' AND NOTHING ELSE: no command of the shelf's: FOR A HAND-IN. Each laying: the table of numbers ('.._ren') and one theorem, a field a fact of the dump's own or the kernel's comparison; each contract: ONE APPLICATION.
-/
namespace Go.Proofs
open Go.Shelf
def Tryz.lays189_ren : Go.Shelf.Ren := ⟨fun | 189 => 21 | 125 => 56 | 257 => 55 | 128 => 119 | 129 => 120 | 294 => 110 | 295 => 111 | 296 => 112 | 297 => 113 | 298 => 114 | 299 => 115 | 216 => 116 | 300 => 117 | 301 => 118 | 328 => 195 | 329 => 196 | 330 => 197 | 331 => 198 | 332 => 199 | 215 => 108 | 343 => 267 | n => n, fun | 28 => 25 | 3 => 3 | 46 => 136 | 0 => 0 | 51 => 206 | 53 => 208 | 4 => 4 | 183 => 199 | 182 => 198 | 131 => 74 | 5 => 5 | 9 => 9 | 218 => 303 | 222 => 307 | 228 => 387 | 229 => 388 | n => n, fun | n => n⟩
theorem Tryz.lays189 : Go.Proofs.Lays.n189 Tryz.prog Tryz.lays189_ren := {
  mixed := by kernel_rfl
  f125 := Tryz.func56.trans (congrArg some (by kernel_rfl))
  f128 := Tryz.func119.trans (congrArg some (by kernel_rfl))
  f129 := Tryz.func120.trans (congrArg some (by kernel_rfl))
  f189 := Tryz.func21.trans (congrArg some (by kernel_rfl))
  f215 := Tryz.func108.trans (congrArg some (by kernel_rfl))
  f216 := Tryz.func116.trans (congrArg some (by kernel_rfl))
  f257 := Tryz.func55.trans (congrArg some (by kernel_rfl))
  f294 := Tryz.func110.trans (congrArg some (by kernel_rfl))
  f295 := Tryz.func111.trans (congrArg some (by kernel_rfl))
  f296 := Tryz.func112.trans (congrArg some (by kernel_rfl))
  f297 := Tryz.func113.trans (congrArg some (by kernel_rfl))
  f298 := Tryz.func114.trans (congrArg some (by kernel_rfl))
  f299 := Tryz.func115.trans (congrArg some (by kernel_rfl))
  f300 := Tryz.func117.trans (congrArg some (by kernel_rfl))
  f301 := Tryz.func118.trans (congrArg some (by kernel_rfl))
  f328 := Tryz.func195.trans (congrArg some (by kernel_rfl))
  f329 := Tryz.func196.trans (congrArg some (by kernel_rfl))
  f330 := Tryz.func197.trans (congrArg some (by kernel_rfl))
  f331 := Tryz.func198.trans (congrArg some (by kernel_rfl))
  f332 := Tryz.func199.trans (congrArg some (by kernel_rfl))
  f343 := Tryz.func267.trans (congrArg some (by kernel_rfl))
  t0 := Tryz.underlying0
  a0 := Tryz.isAgg0
  z0 := Tryz.sizeOf0
  v0 := Tryz.zeroValue0
  t3 := Tryz.underlying3
  a3 := Tryz.isAgg3
  z3 := Tryz.sizeOf3
  v3 := Tryz.zeroValue3
  t4 := Tryz.underlying4
  a4 := Tryz.isAgg4
  z4 := Tryz.sizeOf4
  v4 := Tryz.zeroValue4
  t5 := Tryz.underlying5
  a5 := Tryz.isAgg5
  z5 := Tryz.sizeOf5
  v5 := Tryz.zeroValue5
  t9 := Tryz.underlying9
  a9 := Tryz.isAgg9
  z9 := Tryz.sizeOf9
  v9 := Tryz.zeroValue9
  t28 := Tryz.underlying25
  a28 := Tryz.isAgg25
  z28 := Tryz.sizeOf25
  v28 := Tryz.zeroValue25
  t46 := Tryz.underlying136
  a46 := Tryz.isAgg136
  z46 := Tryz.sizeOf136
  v46 := Tryz.zeroValue136
  t51 := Tryz.underlying206
  a51 := Tryz.isAgg206
  z51 := Tryz.sizeOf206
  v51 := Tryz.zeroValue206
  t53 := Tryz.underlying208
  a53 := Tryz.isAgg208
  z53 := Tryz.sizeOf208
  v53 := Tryz.zeroValue208
  t131 := Tryz.underlying74
  a131 := Tryz.isAgg74
  z131 := Tryz.sizeOf74
  v131 := Tryz.zeroValue74
  t182 := Tryz.underlying198
  a182 := Tryz.isAgg198
  z182 := Tryz.sizeOf198
  v182 := Tryz.zeroValue198
  t183 := Tryz.underlying199
  a183 := Tryz.isAgg199
  z183 := Tryz.sizeOf199
  v183 := Tryz.zeroValue199
  t218 := Tryz.underlying303
  a218 := Tryz.isAgg303
  z218 := Tryz.sizeOf303
  v218 := Tryz.zeroValue303
  t222 := Tryz.underlying307
  a222 := Tryz.isAgg307
  z222 := Tryz.sizeOf307
  v222 := Tryz.zeroValue307
  t228 := Tryz.underlying387
  a228 := Tryz.isAgg387
  z228 := Tryz.sizeOf387
  v228 := Tryz.zeroValue387
  t229 := Tryz.underlying388
  a229 := Tryz.isAgg388
  z229 := Tryz.sizeOf388
  v229 := Tryz.zeroValue388 }
open Go.Sort Go.RowKit in
/-- slices.Sort at a slice of ints -/
theorem Tryz.slices_Sort_int (blk off cap : Nat) (zs : List Int) (w : World) (hH : Holds (Value.int .i64) w blk off zs.toArray) (hblk : blk < w.heap.size) (hsz : zs.length < 4611686018427387904) :
    Calls Tryz.prog 21 #[.slice (some ⟨blk, off, none⟩) zs.length cap] w fun e w' =>
      e = .returned (.tuple #[]) ∧ ∃ n os, w' = grow (putRow (Value.int .i64) (Sort.ahead w n) blk off (zs.mergeSort fun x y => decide (x ≤ y)).toArray) os := Any.slices_Sort_int Tryz.lays189 blk off cap zs w hH hblk hsz
open Go.RowKit Go.Sort in
/-- .. of no element -/
theorem Tryz.slices_Sort_int_none (p : Option Addr) (cap : Nat) (w : World) :
    Calls Tryz.prog 21 #[.slice p 0 cap] w fun e w' => e = .returned (.tuple #[]) ∧ w' = w := Any.slices_Sort_int_none Tryz.lays189 p cap w
def Tryz.laysC20_ren : Go.Shelf.Ren := ⟨fun | 20 => 22 | n => n, fun | 22 => 25 | 3 => 3 | 4 => 4 | 0 => 0 | n => n, fun | n => n⟩
theorem Tryz.laysC20 : Go.Proofs.Lays2.n20 Tryz.prog Tryz.laysC20_ren := {
  mixed := by kernel_rfl
  f20 := Tryz.func22.trans (congrArg some (by kernel_rfl))
  t0 := Tryz.underlying0
  a0 := Tryz.isAgg0
  z0 := Tryz.sizeOf0
  v0 := Tryz.zeroValue0
  t3 := Tryz.underlying3
  a3 := Tryz.isAgg3
  z3 := Tryz.sizeOf3
  v3 := Tryz.zeroValue3
  t4 := Tryz.underlying4
  a4 := Tryz.isAgg4
  z4 := Tryz.sizeOf4
  v4 := Tryz.zeroValue4
  t22 := Tryz.underlying25
  a22 := Tryz.isAgg25
  z22 := Tryz.sizeOf25
  v22 := Tryz.zeroValue25
  i3 := by kernel_rfl }
open Go.RowKit Go.Sort Go.Lib in
/-- slices.Compact at a slice of ints -/
theorem Tryz.slices_Compact_int (blk off cap : Nat) (zs : List Int) (w : World) (hH : Holds (Value.int .i64) w blk off zs.toArray) (hsz : zs.length ≤ 9223372036854775807) (hcap : zs.length ≤ cap) :
    Calls Tryz.prog 22 #[.slice (some ⟨blk, off, none⟩) zs.length cap] w fun e w' => e = .returned (.slice (some ⟨blk, off, none⟩) (Lib.compact zs).length cap) ∧ ∃ q, w' = putRow (Value.int .i64) (Sort.ahead w q) blk off (Lib.compact zs ++ List.replicate (zs.length - (Lib.compact zs).length) 0).toArray := Any.slices_Compact_int Tryz.laysC20 blk off cap zs w hH hsz hcap
open Go.RowKit Go.Sort in
/-- .. of no element -/
theorem Tryz.slices_Compact_int_empty (a : Option Addr) (cap : Nat) (w : World) :
    Calls Tryz.prog 22 #[.slice a 0 cap] w fun e w' => e = .returned (.slice a 0 cap) ∧ w' = w := Any.slices_Compact_int_empty Tryz.laysC20 a cap w
end Go.Proofs
end

noncomputable section
namespace Go.Proofs.K25
open Go Go.Ev Go.Proofs Go.Cyc
open Go.RowKit (Below)
theorem spL_fits : SpOk Tryz.prog NG spL := spL_ok Tryz.slices_Sort_int Tryz.slices_Sort_int_none Tryz.slices_Compact_int Tryz.slices_Compact_int_empty
/-- TasksCycles: whatever pairs come in, it returns true and touches nothing that was there -/
theorem law_calls (W : World) (hW : NG ≤ W.heap.size) {v : Value} {ws : Ws} (hv : SlOk W v ws) (hwl : ws.length < 1099511627776) :
    Calls Tryz.prog 3 #[v] W fun e W' => e = .returned (.bool true) ∧ Below W.heap.size W W' := law_of spL_fits W hW hv hwl
end Go.Proofs.K25
end

noncomputable section
namespace Go.Ev
/-! ### The closure of calls, by a table and a mask; the book of a type -/
def closB (ld : Nat → List Nat) : Nat → List Nat → Nat → List Nat → Option (List Nat)
  | 0, _, _, _ => none
  | n + 1, todo, m, acc => match todo with
    | [] => some acc.reverse
    | f :: todo => Bc (Nat.testBit m f) (closB ld n todo m acc) (closB ld n (ld f ++ todo) (Nat.lor m (bit f)) (f :: acc))
theorem closB_ok {P : Program} {ld : Nat → List Nat} (hl : ∀ f, (P.funcs[f]?).elim [] P.leadsTo = ld f) : ∀ (n : Nat) (todo : List Nat) (m : Nat) (acc r : List Nat), (∀ f, m.testBit f = acc.contains f) → closB ld n todo m acc = some r → ∀ k, n ≤ k → P.closureVia k todo acc = r := by
  intro n
  induction n with
  | zero => intro todo m acc r _ h; cases h
  | succ n ih =>
    intro todo m acc r hm h k hk
    obtain ⟨k', rfl⟩ : ∃ k', k = k' + 1 := ⟨k - 1, by omega⟩
    cases todo with
    | nil =>
      simp only [closB, Option.some.injEq] at h
      subst h
      rfl
    | cons f todo =>
      simp only [closB] at h
      simp only [Program.closureVia]
      cases hb : Nat.testBit m f with
      | true =>
        rw [hb, Bc_t] at h
        have hc : acc.contains f = true := by rw [← hm, hb]
        rw [if_pos hc]
        exact ih todo m acc r hm h k' (by omega)
      | false =>
        rw [hb, Bc_f] at h
        have hc : ¬ (acc.contains f = true) := by rw [← hm, hb]; simp
        rw [if_neg hc, hl f]
        refine ih _ _ _ r (fun g => ?_) h k' (by omega)
        have e1 : (Nat.lor m (bit f)).testBit g = (m.testBit g || (bit f).testBit g) := Nat.testBit_or m (bit f) g
        rw [e1, hm g, List.contains_cons]
        have e2 : (bit f).testBit g = (g == f) := by
          cases hg : (bit f).testBit g with
          | true => have := (bit_iff f g).1 hg; subst this; simp
          | false =>
            cases he : (g == f) with
            | false => rfl
            | true =>
              have : g = f := by simpa using he
              subst this
              rw [(bit_iff g g).2 rfl] at hg; cases hg
        rw [e2, Bool.or_comm]
theorem closure_of {P : Program} {ld : Nat → List Nat} {n f : Nat} {r : List Nat} (hl : ∀ f, (P.funcs[f]?).elim [] P.leadsTo = ld f) (h : closB ld n [f] 0 [] = some r) (hn : n ≤ 1 + (P.funcs.toList.map fun g => (P.leadsTo g).length + 1).sum) : P.closure f = r :=
  closB_ok hl n [f] 0 [] r (fun g => by simp) h _ hn
theorem grown_add {P : Program} : ∀ (a b : Nat) (S : List TypeId), P.grown (a + b) S = P.grown b (P.grown a S) := by
  intro a
  induction a with
  | zero => intro b S; rw [Nat.zero_add]; rfl
  | succ a ih => intro b S; rw [show a + 1 + b = (a + b) + 1 from by omega]; exact ih b (P.grow S)
theorem grown_fix {P : Program} {S : List TypeId} (h : P.grow S = S) : ∀ n, P.grown n S = S := by
  intro n
  induction n with
  | zero => rfl
  | succ n ih => show P.grown n (P.grow S) = S; rw [h]; exact ih
theorem book_of {P : Program} {t k : Nat} {S : List TypeId} (hk : k ≤ P.types.size) (h1 : P.grown k [t] = S) (h2 : P.grow S = S) : P.book t = S := by
  unfold Program.book
  rw [show P.types.size = k + (P.types.size - k) from by omega, grown_add, h1]
  exact grown_fix h2 _
end Go.Ev
end
