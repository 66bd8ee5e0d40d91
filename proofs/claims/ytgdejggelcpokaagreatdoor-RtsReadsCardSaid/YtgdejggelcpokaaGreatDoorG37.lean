/-
  A part of the proof that pliantlaw15.RtsReads returns true and leaves its arguments alone. Conditions: those of the card in the last text.
-/
import Derived.ChangeArms
import Derived.Deep.Slices
import Derived.OpenShut
import Derived.Test.YtgdejggelcpokaaGreatDoorG36
set_option linter.unusedSimpArgs false
set_option linter.unusedVariables false
set_option linter.unusedSectionVars false

noncomputable section
namespace Go.Ev
theorem ArgS.flat {ng : Nat} {W : World} {β : Mp} {H : Hp} (h : ArgS ng W β H) {α : Type} {Q : α → List Value → Prop} (hq : ∀ x vs, Q x vs → vs.all oneC = true ∧ ∀ β : Mp, LRel β vs vs) {v : Value} {l : List α} (hv : SlW W 1 Q v l) :
    ∃ H' β' v0, ArgS ng W β' H' ∧ Mp.le β β' ∧ Kept H H' ∧ H'.nx ≤ H.nx + 1 ∧ VRel β' v0 v ∧ RowR eT H' 1 Q v0 l := by
  rcases hv with ⟨rfl, rfl⟩ | ⟨a, rfl, rfl⟩ | ⟨blk, off, cap, cs, ty, fr, rfl, hblk, hfit, hcell⟩
  · exact ⟨H, β, .slice none 0 0, h, Mp.le.refl _, .refl h.fn, by omega, .sl0 0 0, .nil 0⟩
  · exact ⟨H, β, .slice (some ⟨0, 0, some 0⟩) 0 0, h, Mp.le.refl _, .refl h.fn, by omega, .slX 0 0 0 a, .odd 0 0 0⟩
  · have hat : ∀ (i : Nat) x, l[i]? = some x → ∃ u, cs[off + i]? = some u ∧ Q x [u] := fun i x hx => by
      obtain ⟨vs, h1, h2, h3⟩ := hcell i x hx
      match vs, h1 with
      | [u], _ => exact ⟨u, by have := h2 0 u rfl; rwa [Nat.mul_one, Nat.add_zero] at this, h3⟩
    let L := (cs.toList.drop off).take l.length
    have hLl : L.length = l.length := by
      show ((cs.toList.drop off).take l.length).length = _
      have : cs.toList.length = cs.size := rfl
      rw [List.length_take, List.length_drop]; omega
    have hLg : ∀ i, i < l.length → L[i]? = cs[off + i]? := fun i hi => by
      show ((cs.toList.drop off).take l.length)[i]? = _
      rw [List.getElem?_take, if_pos hi, List.getElem?_drop, Array.getElem?_toList]
    have hfit' : off + L.length ≤ cs.size := by omega
    obtain ⟨H2, β2, b1, b2, b3, bn, b4, b5⟩ := h.push (L := L) 1 hblk hfit' (fun i u hu => by
      have hi : i < l.length := by
        rcases Nat.lt_or_ge i L.length with h' | h'
        · omega
        · rw [List.getElem?_eq_none h'] at hu; cases hu
      obtain ⟨u', h1, h2⟩ := hat i l[i] (by simp [hi])
      rw [hLg i hi, h1] at hu
      cases hu
      obtain ⟨k1, k2⟩ := hq _ _ h2
      refine ⟨by simpa using k1, u, h1, ?_⟩
      obtain ⟨w, e1, e2⟩ := (k2 β).get (i := 0) (v := u) rfl
      cases e1
      exact e2) l.length cap
    refine ⟨H2, β2, _, b1, b2, b3, ?_, b5, RowR.inRow H.nx 0 (2 * cap) ty 2 l L b4 (fun h => absurd h (Nat.not_lt_zero _)) (by omega) fun i x hx => ?_⟩
    · omega
    · have hi : i < l.length := by
        rcases Nat.lt_or_ge i l.length with h' | h'
        · exact h'
        · rw [List.getElem?_eq_none h'] at hx; cases hx
      obtain ⟨u, h1, h2⟩ := hat i x hx
      refine ⟨by omega, ?_⟩
      have h3 : L[i]? = some u := (hLg i hi).trans h1
      have : (L.drop (0 + i * 1)).take 1 = [u] := by
        rw [Nat.zero_add, Nat.mul_one]
        have hlt : i < L.length := by omega
        rw [List.drop_eq_getElem_cons hlt]
        rw [List.getElem?_eq_getElem hlt] at h3
        rw [Option.some.inj h3]; rfl
      rw [this]; exact h2
end Go.Ev
namespace Go.Proofs.RS
open Go Go.Ev Go.Proofs Go.Ds
open Go.RowKit (Below)
def PowW (W : World) : Prop := ∃ cs fr, W.heap[5]? = some (.cells cs 391 fr) ∧ cs.size = 20 ∧ ∀ (i : Nat) v, pow10[i]? = some v → cs[i]? = some v
def βS : Mp := fun b => if b < NG then some ⟨b, 0, if b = 5 then 20 else 0, 0⟩ else none
def HS : Hp := .fn (fun b => Bc (Nat.beq b 5) g5 .no) NG
theorem HS_5 : HS.blk 5 = g5 := rfl
theorem HS_no {b : Nat} (h : b ≠ 5) : HS.blk b = .no := by
  show Bc (Nat.blt b 11) (Bc (Nat.beq b 5) g5 .no) .no = .no
  rw [show Nat.beq b 5 = false from by
    cases hh : Nat.beq b 5 with
    | false => rfl
    | true => exact absurd ((beq_iff _ _).1 hh) h]
  cases Nat.blt b 11 <;> rfl
theorem pow_bok {W : World} (h : PowW W) (β : Mp) : BOk β W g5 ⟨5, 0, 20, 0⟩ := by
  obtain ⟨cs, fr, h1, h2, h3⟩ := h
  obtain ⟨t, hg, ht⟩ := g5_cells
  rw [hg]
  refine ⟨.cells cs 391 fr, h1, cs, fr, rfl, h2, by decide, fun _ => ⟨rfl, rfl⟩, (fun k h => by cases h), fun i hi => ?_, .inr (.inr ⟨rfl, by decide⟩)⟩
  obtain ⟨n, hn⟩ := pow10_int i hi
  rw [ht i _ hn]
  exact ⟨rfl, _, by rw [Nat.zero_add]; exact h3 i _ hn, .int _ _⟩
theorem start5 {W : World} (hW : NG ≤ W.heap.size) (h : PowW W) : ArgS NG W βS HS := by
  refine ⟨rfl, fun g hlt => ⟨⟨g, 0, if g = 5 then 20 else 0, 0⟩, if_pos hlt, rfl, rfl⟩, fun b ha => ?_, fun b hb => ?_, fun b m e => ?_⟩
  · have hb : b = 5 := by
      by_cases hb : b = 5
      · exact hb
      · exact absurd (HS_no hb) ha.2
    subst hb
    exact ⟨⟨5, 0, 20, 0⟩, rfl, by rw [HS_5]; exact pow_bok h _⟩
  · have hb' : NG ≤ b := hb
    show (if b < NG then _ else none) = none
    rw [if_neg (by omega)]
  · have e' : (if b < NG then some (⟨b, 0, if b = 5 then 20 else 0, 0⟩ : Bm) else none) = some m := e
    split at e'
    · cases e'; show b < _; omega
    · cases e'
theorem strQ_flat : ∀ (x : Str) vs, strQ x vs → vs.all oneC = true ∧ ∀ β : Mp, LRel β vs vs := fun x vs h => by
  unfold strQ at h; subst h
  exact ⟨rfl, fun β => .cons (.string _) (.nil β)⟩
theorem intQ_flat : ∀ (x : Int) vs, intQ x vs → vs.all oneC = true ∧ ∀ β : Mp, LRel β vs vs := fun x vs h => by
  unfold intQ at h; subst h
  exact ⟨rfl, fun β => .cons (.int _ _) (.nil β)⟩
theorem row13 {H H' : Hp} {α : Type} {Q : α → List Value → Prop} {v : Value} {l : List α} (h : RowR eT H 1 Q v l) (hk : ∀ b, b < H.nx → H'.blk b = H.blk b) : RowR (envS 13) H' 1 Q v l :=
  RowR.env (RowR.mono h hk fun _ _ h => h) (fun _ _ h => h) fun _ _ _ _ => trivial
theorem law_calls (W : World) (hW : NG ≤ W.heap.size) (h5 : PowW W) {lv kv : Value} {l : List Str} {ks : List Int} (hl : SlW W 1 strQ lv l) (hk : SlW W 1 intQ kv ks) :
    Calls Tryz.prog 5 #[lv, kv] W fun e W' => e = .returned (.bool true) ∧ Below W.heap.size W W' := by
  obtain ⟨H1, β1, l0, a1, a2, a3, a4, a5, a6⟩ := (start5 hW h5).flat strQ_flat hl
  obtain ⟨H2, β2, k0, b1, b2, b3, b4, b5, b6⟩ := a1.flat intQ_flat hk
  have hn : H2.nx ≤ 13 := by have : HS.nx = 11 := rfl; omega
  have hblk : ∀ b, b < 11 → H2.blk b = H0.blk b := fun b hb => by
    have hlt : b < HS.nx := hb
    rw [b3.old b (by have := a3.nx; omega), a3.old b hlt]
    by_cases h : b = 5
    · subst h; rfl
    · rw [HS_no h, H0_no h]
  have hsk := law_sk (W0 := W) (β0 := β2) b1 hn hblk (row13 a6 b3.old) (row13 b6 fun _ _ => rfl)
  have hal : ∀ b, alive H0 b → b = 5 := fun b ha => by
    by_cases hb : b = 5
    · exact hb
    · exact absurd (H0_no hb) ha.2
  refine (calls_of_sk (β := β2) tb_ok lp_ok (f := 5) (fn := Tryz.f5) (by rfl) law_some law_comp (by show 2 ≤ 269; decide) (args' := #[lv, kv]) (fun a ha => ?_) (LRel.cons (a5.mono b2) (LRel.cons b5 (LRel.nil _))) hsk).mono fun e W' hR => ?_
  · refine ⟨trivial, Nat.le_refl _, b1.g, ha, fun b hb => ?_, fun b hb => b1.fresh b (by have : H0.nx = 13 := rfl; omega), b1.dom, fun b m _ e => b1.dom b m e, fun b m hge hb _ => ?_, fun b c mb mc hb _ hab _ _ _ _ => ?_, .refl _ _, Mp.le.refl _⟩
    · have e := hal b hb; subst e
      obtain ⟨m, e1, e2⟩ := b1.rel 5 ((alive_iff _ _).2 (by rw [hblk 5 (by decide), H0_5]; obtain ⟨t, hg, _⟩ := g5_cells; rw [hg]; simp))
      refine ⟨m, e1, ?_⟩
      rw [hblk 5 (by decide)] at e2
      exact e2
    · have := hal b hb; omega
    · have := hal b hab; omega
  · obtain ⟨β', v, v', H', rfl, hv, rfl, hB⟩ := hR
    cases hv
    exact ⟨rfl, hB⟩
end Go.Proofs.RS
end

noncomputable section
namespace Go.Ev
open Go Go.ChangeShapes Go.Deep
structure Bulky (H : Type) (bk : DataW H → Nat) (bka : List (DataW H) → Nat) : Prop where
  sl : ∀ D S, bka D ≤ bk (.slice D S)
  ag : ∀ D, bka D ≤ bk (.agg D)
  mem : ∀ D d, d ∈ D → bk d ≤ bka D
  len : ∀ D, D.length ≤ bka D
section
variable {H : Type} {enc : TypeId × Value → H} {P : Program} {W : World} {held : Bool} {bk : DataW H → Nat} {bka : List (DataW H) → Nat}
theorem slW_of {α : Type} (bb : Bulky H bk bka) {t e : TypeId} {w : Nat} {Q : α → List Value → Prop} {B : α → DataW H → Prop} (ht : P.underlying t = some (.slice e)) (hw : P.cellsOf e = w) (hw0 : 0 < w)
    (hQ : ∀ n cs x, DataW.trod enc P W 0 (fun _ => true) held n e cs = some x → cs.length = w → ∃ y, Q y cs ∧ B y x.1)
    {fuel : Nat} {v : Value} {x : DataW H × List MemPlace} (h : DataW.trod enc P W 0 (fun _ => true) held fuel t [v] = some x) :
    ∃ l : List α, SlW W w Q v l ∧ l.length ≤ bk x.1 ∧ ∀ y ∈ l, ∃ d, B y d ∧ bk d ≤ bk x.1 := by
  rcases open_slice ht h with ⟨hcs, _⟩ | ⟨a, len, cap, m, n, D, Pl, hcs, _, hl, hm, hmm, hx, hcell⟩
  · simp only [List.cons.injEq, and_true] at hcs
    exact ⟨[], .inl ⟨hcs, rfl⟩, Nat.zero_le _, fun y hy => by cases hy⟩
  · simp only [List.cons.injEq, and_true] at hcs
    subst hcs
    replace hmm : m = cap := by rw [hmm, if_pos rfl]
    subst hmm
    rw [hw] at hcell
    cases m with
    | zero =>
      obtain rfl : len = 0 := by omega
      exact ⟨[], .inr (.inl ⟨a, rfl, rfl⟩), Nat.zero_le _, fun y hy => by cases hy⟩
    | succ m =>
      have hblk : ∃ cs ty fr, a.spot = none ∧ W.heap[a.block]? = some (.cells cs ty fr) := by
        obtain ⟨c, h1, h2⟩ := hcell 0 (by omega)
        obtain ⟨_, h3, h4⟩ := World.cells?_some h1
        have h5 := h4 0 hw0
        have hz : (a.add (0 * w)).add 0 = a := by unfold Addr.add; simp
        rw [hz] at h5
        have h6 : ∃ v, W.cell? a = some v := ⟨c[0], by rw [h5]; simp [h3, hw0]⟩
        obtain ⟨v, h7⟩ := h6
        unfold World.cell? at h7
        split at h7
        · rename_i cs ty fr hb
          split at h7
          · cases h7
          · rename_i hs
            refine ⟨cs, ty, fr, ?_, hb⟩
            cases hsp : a.spot with
            | none => rfl
            | some k => rw [hsp] at hs; exact absurd rfl hs
        · cases h7
      obtain ⟨cs, ty, fr, hspot, hblk⟩ := hblk
      obtain ⟨blk, off, spot⟩ := a
      simp only at hspot hblk
      subst hspot
      have hadd : ∀ k j, (Addr.add ⟨blk, off, none⟩ k).add j = ⟨blk, off + k + j, none⟩ := by
        intro k j
        rw [add_add]
        unfold Addr.add
        split
        · rename_i hk; rw [show k = 0 by omega, show j = 0 by omega]; rfl
        · simp [Nat.add_assoc]
      have hat : ∀ i, i < m + 1 → ∃ vs : List Value, vs.length = w ∧ (∀ (j : Nat) v, vs[j]? = some v → cs[off + i * w + j]? = some v) ∧ DataW.trod enc P W 0 (fun _ => true) held n e vs = some (D i, Pl i) := by
        intro i hi
        obtain ⟨c, h1, h2⟩ := hcell i hi
        obtain ⟨_, h3, h4⟩ := World.cells?_some h1
        refine ⟨c, h3, fun j v hv => ?_, h2⟩
        have hj : j < w := by
          rcases Nat.lt_or_ge j w with h' | h'
          · exact h'
          · rw [List.getElem?_eq_none (by omega)] at hv; cases hv
        have h5 := h4 j hj
        rw [hadd, hv] at h5
        simpa [World.cell?, hblk] using h5
      have hel : ∀ i, i < len → ∃ y : α, (∃ vs : List Value, vs.length = w ∧ (∀ (j : Nat) v, vs[j]? = some v → cs[off + i * w + j]? = some v) ∧ Q y vs) ∧ B y (D i) := by
        intro i hi
        obtain ⟨vs, h1, h2, h3⟩ := hat i (by omega)
        obtain ⟨y, h4, h5⟩ := hQ _ _ _ h3 h1
        exact ⟨y, ⟨vs, h1, h2, h4⟩, h5⟩
      let f : Fin len → α := fun i => Classical.choose (hel i.1 i.2)
      have hf : ∀ i : Fin len, (∃ vs : List Value, vs.length = w ∧ (∀ (j : Nat) v, vs[j]? = some v → cs[off + i.1 * w + j]? = some v) ∧ Q (f i) vs) ∧ B (f i) (D i.1) := fun i => Classical.choose_spec (hel i.1 i.2)
      have hlen : (List.ofFn f).length = len := List.length_ofFn
      have hget : ∀ (i : Nat) y, (List.ofFn f)[i]? = some y → ∃ h : i < len, f ⟨i, h⟩ = y := by
        intro i y hy
        rcases Nat.lt_or_ge i len with h' | h'
        · refine ⟨h', ?_⟩
          rw [List.getElem?_eq_getElem (by omega), List.getElem_ofFn] at hy
          exact Option.some.inj hy
        · rw [List.getElem?_eq_none (by omega)] at hy; cases hy
      have hD : x.1 = .slice ((List.range len).map D) ((List.range (m + 1 - len)).map fun j => D (len + j)) := by rw [hx]
      have hbk : bka ((List.range len).map D) ≤ bk x.1 := by rw [hD]; exact bb.sl _ _
      refine ⟨List.ofFn f, .inr (.inr ⟨blk, off, m + 1, cs, ty, fr, by rw [hlen], hblk, ?_, fun i y hi => ?_⟩), ?_, fun y hy => ?_⟩
      · rw [hlen]
        have hfit : ∀ i, i < m + 1 → off + i * w + w ≤ cs.size := by
          intro i hi
          obtain ⟨vs, h1, h2, _⟩ := hat i hi
          have := h2 (w - 1) vs[w - 1] (by simp)
          have hlt : off + i * w + (w - 1) < cs.size := by
            rcases Nat.lt_or_ge (off + i * w + (w - 1)) cs.size with h' | h'
            · exact h'
            · rw [Array.getElem?_eq_none h'] at this; cases this
          omega
        cases len with
        | zero => have := hfit 0 (by omega); omega
        | succ k => have := hfit k (by omega); rw [Nat.add_mul, Nat.one_mul]; omega
      · obtain ⟨h', rfl⟩ := hget i y hi
        exact (hf ⟨i, h'⟩).1
      · rw [hlen]
        have := bb.len ((List.range len).map D)
        rw [List.length_map, List.length_range] at this
        omega
      · obtain ⟨i, hi⟩ := List.getElem?_of_mem hy
        obtain ⟨h', rfl⟩ := hget i y hi
        refine ⟨D i, (hf ⟨i, h'⟩).2, ?_⟩
        have := bb.mem ((List.range len).map D) (D i) (List.mem_map.2 ⟨i, List.mem_range.2 h', rfl⟩)
        omega
end
end Go.Ev
end
