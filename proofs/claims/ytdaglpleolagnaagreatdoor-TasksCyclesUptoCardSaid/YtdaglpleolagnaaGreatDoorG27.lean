/-
  A part of the proof that pliantlaw25.TasksCycles returns true and leaves its argument alone. Conditions: those of the card in the last text.
-/
import Derived.Below
import Derived.Deep.DeepHandedRow
import Derived.Deep.DeepWitnessRowRef
import Derived.Deep.Slices
import Derived.LaidHandle
import Derived.LaidLaws
import Derived.OpenShut
import Derived.ProofKit
import Derived.WalkKit
import Derived.Test.YtdaglpleolagnaaGreatDoorG22
import Derived.Test.YtdaglpleolagnaaGreatDoorG26
set_option linter.unusedSimpArgs false
set_option linter.unusedVariables false

noncomputable section
set_option linter.unusedSimpArgs false
set_option linter.unusedVariables false
namespace Go.Proofs.YtdaglpleolagnaaGreatDoor.tasksCycles
open Go.ChangeShapes Go.WideShapes Go.ChangeAt Go.RowKit Go.Deep
open Go.Proofs.K25 (SlOk law_calls NG)
theorem own : ownKnob Tryz.prog.godebug = none := by kernel_rfl
theorem bulk_one {H : Type} (d : DataW H) : 1 ≤ Rows.uptoBulk d := by
  cases d with
  | lit l => cases l <;> simp [Rows.uptoBulk]
  | nil => simp [Rows.uptoBulk]
  | ptr d => simp [Rows.uptoBulk]
  | slice elems spare => simp [Rows.uptoBulk]
  | agg parts => simp [Rows.uptoBulk]
  | iface t d => simp [Rows.uptoBulk]
  | map entries => simp [Rows.uptoBulk]
  | held h => simp [Rows.uptoBulk]
theorem bulk_len {H : Type} (l : List (DataW H)) : l.length ≤ Rows.uptoBulkAll l := by
  induction l with
  | nil => simp [Rows.uptoBulkAll]
  | cons x r ih => have := bulk_one x; simp only [Rows.uptoBulkAll, List.length_cons]; omega
theorem cells69 : Tryz.prog.cellsOf 69 = 2 := by kernel_rfl
theorem cells3 : Tryz.prog.cellsOf 3 = 1 := by kernel_rfl
set_option maxRecDepth 100000 in
/-- a pair's cells -/
theorem pair_of {H : Type} {enc : TypeId × Value → H} {w : World} {base : Nat} {spare : Nat → Bool} {held : Bool} {fuel : Nat} {cs : List Value} {x : DataW H × List MemPlace} (hlen : cs.length = 2) (h : DataW.trod enc Tryz.prog w base spare held fuel 69 cs = some x) : ∃ a b : Int, cs = [.int .i64 a, .int .i64 b] := by
  obtain ⟨xs, m, rfl, rfl, h1, h2, h3⟩ := DataW.trod_array Tryz.underlying69 h
  match cs, hlen with
  | [c0, c1], _ =>
    have e0 := h3 0 (by omega)
    have e1 := h3 1 (by omega)
    rw [cells3] at e0 e1
    obtain ⟨x0, hx0⟩ : ∃ x0, xs[0]? = some x0 := ⟨xs[0], by simp [h2]⟩
    obtain ⟨x1, hx1⟩ : ∃ x1, xs[1]? = some x1 := ⟨xs[1], by simp [h2]⟩
    rw [hx0] at e0
    rw [hx1] at e1
    obtain ⟨a, ha, _⟩ := DataW.trod_int Tryz.underlying3 e0
    obtain ⟨b, hb, _⟩ := DataW.trod_int Tryz.underlying3 e1
    simp at ha hb
    exact ⟨a, b, by rw [ha, hb]⟩
theorem addr_add (b o k : Nat) : Addr.add ⟨b, o, none⟩ k = ⟨b, o + k, none⟩ := by
  unfold Addr.add
  split
  · rename_i h; subst h; rfl
  · rfl
set_option maxRecDepth 100000 in
theorem contract (H : Type) (enc : TypeId × Value → H) (W : World) (base : Nat) (args : Array Value) (ds gs : List (DataW H)) (before : List MemPlace)
    (hval : ∀ (j : Nat) t v, Tryz.f3.params[j]? = some t → args[j]? = some v → Value.okWide Tryz.prog W .any base t v)
    (hW : DataW.Whole enc Tryz.prog Tryz.f3.params.toList Rows.tasksCyclesSpec.vars false W args.toList ds gs before) (hk : Rows.uptoSmall H (ds ++ gs) = true) (hS : W.ShapedOpen Tryz.prog) :
    Calls Tryz.prog 3 args W fun e W' => ∃ v, e = .returned v ∧ Rows.tasksCyclesSpec.post enc Tryz.prog Tryz.f3 false true false false W args v W' := by
  have hNG : NG ≤ W.heap.size := by
    have h0 : (((begin Tryz.prog (fun _ _ => 0) default).world.heap[11]?).bind Obj.row?).isSome = true := by kernel_rfl
    obtain ⟨⟨zero, t⟩, h1⟩ := Option.isSome_iff_exists.1 h0
    obtain ⟨cs, h2, _⟩ := hS.1 11 zero t (by show 11 < Tryz.prog.globals.size; rw [show Tryz.prog.globals.size = 12 from by kernel_rfl]; decide) h1
    rcases Nat.lt_or_ge 11 W.heap.size with h' | h'
    · show 12 ≤ _; omega
    · rw [Array.getElem?_eq_none h'] at h2; cases h2
  have hW' := hW
  obtain ⟨p, q, hA0, hV, rfl, hfz, hnd⟩ := hW
  have hA : DataW.TrodAll enc Tryz.prog W 0 (fun _ => true) true Tryz.f3.params.toList args.toList ds p := hA0
  rw [Tryz.params3] at hA hval
  obtain ⟨v0, vs0, d0, ds0, p0, q0, hargs, rfl, rfl, h0, r0⟩ := trodAll_cons hA
  obtain ⟨rfl, rfl, rfl⟩ := trodAll_nil r0
  obtain rfl : args = #[v0] := by cases args; simp_all
  obtain ⟨rfl, rfl⟩ := trodVars_none hV
  obtain ⟨a0, len0, cap0, rfl⟩ := okWide_slice Tryz.underlying22 (hval 0 22 v0 rfl rfl)
  have k0 := h0
  have lt0 : ∀ x ∈ p0, x.block < W.heap.size := by obtain ⟨m, hm⟩ := k0; exact DataW.trod_lt m _ _ _ hm
  have hbulk : Rows.uptoBulk d0 ≤ 1048576 := by
    have := of_decide_eq_true hk
    simp only [List.append_nil, Rows.uptoBulkAll] at this
    omega
  have hok := hval 0 22 _ rfl rfl
  obtain ⟨ws, hsl, hwl⟩ : ∃ ws, SlOk W (.slice a0 len0 cap0) ws ∧ ws.length < 1099511627776 := by
    obtain ⟨fuel, hf⟩ := h0
    rcases open_slice Tryz.underlying22 hf with ⟨hcs, _⟩ | ⟨a, len, cap, m, n, D, Pl, hcs, _, hl, hm, hmm, hx, hcell⟩
    · simp [Value.cells] at hcs
      obtain ⟨rfl, rfl, rfl⟩ := hcs
      exact ⟨[], .inl ⟨rfl, rfl⟩, by decide⟩
    · simp [Value.cells] at hcs
      obtain ⟨rfl, rfl, rfl⟩ := hcs
      have hlm : len0 ≤ m := by rw [hmm]; split <;> omega
      rw [cells69] at hcell
      -- where the block lies
      have hhas : ∃ cs ty fr, a.spot = none ∧ W.heap[a.block]? = some (.cells cs ty fr) := by
        have h1 : Value.okWide Tryz.prog W .any base 22 (.slice (some a) len0 cap0) := hok
        simp only [Value.okWide, Tryz.underlying22, Cell.okWide, Cell.ok, World.has] at h1
        obtain ⟨_, _, _, hs, row, cells, hsh, _⟩ := h1
        unfold World.shape? at hsh
        revert hsh
        cases hb : W.heap[a.block]? with
        | none => intro hsh; cases hsh
        | some o => cases o with
          | cells cs ty fr => exact fun _ => ⟨cs, ty, fr, hs, rfl⟩
          | _ => intro hsh; cases hsh
      obtain ⟨cs, ty, fr, hspot, hblk⟩ := hhas
      obtain ⟨blk, off, spot⟩ := a
      simp only at hspot hblk
      subst hspot
      have hpair : ∀ i, i < len0 → ∃ p : Int × Int, cs[off + i * 2]? = some (.int .i64 p.1) ∧ cs[off + i * 2 + 1]? = some (.int .i64 p.2) := by
        intro i hi
        obtain ⟨c, h1, h2⟩ := hcell i (by omega)
        obtain ⟨_, h3, h4⟩ := World.cells?_some h1
        obtain ⟨x, y, rfl⟩ := pair_of h3 h2
        have q0 := h4 0 (by omega)
        have q1 := h4 1 (by omega)
        refine ⟨(x, y), ?_, ?_⟩
        · rw [addr_add, addr_add] at q0
          simpa [World.cell?, hblk] using q0
        · rw [addr_add, addr_add] at q1
          simpa [World.cell?, hblk, Nat.add_assoc] using q1
      have hp : ∃ f : Nat → Int × Int, ∀ i, i < len0 → cs[off + i * 2]? = some (.int .i64 (f i).1) ∧ cs[off + i * 2 + 1]? = some (.int .i64 (f i).2) :=
        ⟨fun i => if h : i < len0 then Classical.choose (hpair i h) else (0, 0), fun i hi => by simp only [dif_pos hi]; exact Classical.choose_spec (hpair i hi)⟩
      obtain ⟨f, hfp⟩ := hp
      refine ⟨(List.range len0).map f, .inr ⟨blk, off, cap0, cs, ty, fr, by simp, hblk, fun i p hi => ?_⟩, ?_⟩
      · have hlt : i < len0 := by
          rcases Nat.lt_or_ge i len0 with h' | h'
          · exact h'
          · rw [List.getElem?_eq_none (by simp; omega)] at hi; cases hi
        rw [List.getElem?_map, List.getElem?_range hlt] at hi
        have hi' : f i = p := by simpa using hi
        rw [← hi']; exact hfp i hlt
      · have hb : len0 ≤ Rows.uptoBulk d0 := by
          have hd : d0 = DataW.slice ((List.range len0).map D) ((List.range (m - len0)).map fun j => D (len0 + j)) := by rw [Prod.mk.injEq] at hx; exact hx.1
          rw [hd]
          have := bulk_len ((List.range len0).map D)
          simp only [List.length_map, List.length_range] at this
          simp only [Rows.uptoBulk]
          omega
        simp only [List.length_map, List.length_range]
        omega
  refine (law_calls W hNG hsl hwl).mono fun e W' ⟨he, bel⟩ => ?_
  subst he
  exact ⟨_, rfl, _, _, _, [], _, [], hW', trodAll_mk1 (shut_bool Tryz.underlying4 _), trodAll_cons_mk (Below.trod f_laid read22 (of_decide_eq_true (by kernel_rfl)) k0 bel lt0) trodAll_mk0, rfl, bel.frame _, fun h => by cases h⟩
end Go.Proofs.YtdaglpleolagnaaGreatDoor.tasksCycles
end
