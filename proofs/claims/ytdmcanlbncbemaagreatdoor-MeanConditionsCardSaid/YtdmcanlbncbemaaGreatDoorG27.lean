/-
  A part of the proof that pliantlaw16.MeanConditions returns true and leaves its arguments alone. Conditions: those of the card in the last text.
-/
import Derived.Test.YtdmcanlbncbemaaGreatDoorG21
import Derived.Test.YtdmcanlbncbemaaGreatDoorG26
set_option linter.unusedSimpArgs false
set_option linter.unusedVariables false
set_option linter.unusedSectionVars false
noncomputable section
namespace Go.Proofs.CN
open Go Go.Ev Go.Proofs Go.Ev.SM Go.Proofs.MN
def spAs (args : List Value) (H : Hp) : Ans := match args with
  | [.iface e (.agg ⟨[.string s]⟩), .iface f (.pointer (some ⟨b, 0, none⟩))] => Bc (Nat.beq e 297 && Nat.beq f 299) (match H.blk 7 with
    | .cells t n _ _ _ _ => Bc (isSyC 999 (t.get 0) && (Nat.blt 0 n && Nat.blt 7 H.nx)) (match wrN H b 0 [.string s] with
      | some H' => some (.bool true, H', Nat.lor 128 (bit b), bit b)
      | none => none) none
    | _ => none) none
  | _ => none
theorem ent193 (args : Array Value) (W : World) : (callFunc 193 args).run Tryz.prog W = .ok (.enter 193 args) W := by kernel_rfl
theorem spAs_ok {Q : (Nat → Int) → Prop} {hk : HkOp → List Value → Option Value} {hok0 : HkOk (PW Q) hk} {args : List Value} {H H' : Hp} {v : Value} {r w : Nat} (hw : H.wf) (h : spAs args H = some (v, H', r, w)) : @TaskOk (SyC (PW Q) hk hok0) Tryz.prog NG (.call 193 args) H (.k (.ret v H' r w)) := by
  letI := SyC (PW Q) hk hok0
  unfold spAs at h
  split at h
  case h_2 => cases h
  rename_i e s f b
  replace h := bc_some h
  obtain ⟨h1, h⟩ := h
  rw [Bool.and_eq_true, beq_iff, beq_iff] at h1
  obtain ⟨rfl, rfl⟩ := h1
  split at h
  case h_2 => cases h
  rename_i t7 n7 ty7 op7 lo7 hi7 h7
  replace h := bc_some h
  obtain ⟨h2, h⟩ := h
  simp only [Bool.and_eq_true, blt_iff] at h2
  obtain ⟨h2, h3, h4⟩ := h2
  have h2 := isSyC_inv h2
  cases hwr : wrN H b 0 [.string s] with
  | none => rw [hwr] at h; cases h
  | some H1 =>
  rw [hwr] at h
  cases h
  refine ⟨(can_wr hw hwr).1, fun β W hg p args' hl => .inl ⟨ent193 _ _, callsIn_wide.2 ?_⟩⟩
  have hgK := hg
  obtain ⟨hg1, sm, ⟨zs, rfl, hl4, hr4, hQ⟩, tb⟩ := hg
  obtain ⟨a1, l1, e1, ha1, hl⟩ := hl.cons_inv
  obtain ⟨a2, l2, e2, ha2, hl⟩ := hl.cons_inv
  have := hl.nil_inv; subst this
  subst e2
  have ha1 := flat_eq 10 _ _ (rfl : flatV 10 (.iface 297 (.agg ⟨[.string s]⟩)) = true) ha1
  subst ha1
  cases ha2 with | iface _ _ p2 ha2 =>
  cases ha2 with | ptr _ _ m em =>
  have hargs : args' = #[.iface 297 (.agg #[.string s]), .iface 299 (.pointer (some ⟨m.rb, 0 + m.sh, none⟩))] := Array.ext' e1
  subst hargs
  have al7 : alive H 7 := ⟨h4, by rw [h7]; exact fun h => by cases h⟩
  obtain ⟨m7, em7, o7, ho7, cs7, fr7, rfl, q1, q2, q3, q4, q5, q6⟩ := (by have := p.rel 7 (.inl (by rw [show Nat.lor 128 (bit b) = 128 ||| bit b from rfl, Nat.testBit_or, show Nat.testBit 128 7 = true from by decide, Bool.true_or])) al7; rw [h7] at this; exact this : ∃ m, β 7 = some m ∧ BOk β W (.cells t7 n7 ty7 op7 lo7 hi7) m)
  obtain ⟨m7', em7', hm7, hs7⟩ := hg1 7 (by decide)
  rw [em7] at em7'; cases em7'
  obtain ⟨_, v7, hv7, hr7⟩ := q5 0 h3
  rw [h2] at hr7
  have hv : v7 = hdl := (real_of (semZ_sc zs) tb (v := sy 999) rfl).1 hr7
  subst hv
  have hcell7 : W.cell? ⟨7, 0, none⟩ = some (.iface 418 (.agg #[.pointer (some ⟨15, 290, none⟩)])) := by
    unfold World.cell?
    rw [hm7] at ho7
    rw [ho7]
    rw [hs7] at hv7
    exact hv7
  obtain ⟨t, n, ty, op, lo, hi, hb, hle, hth, _⟩ := wrN_inv hwr
  have hlive := (can_wr hw hwr).2
  have hbit : inS (Nat.lor 128 (bit b)) (bit b) b := .inr (by simp [bit])
  obtain ⟨m', em', o', ho', cs, fr, rfl, g1, g2, g3, g4, g5, g6⟩ := (by have := p.rel b hbit hlive; rw [hb] at this; exact this : ∃ m, β b = some m ∧ BOk β W (.cells t n ty op lo hi) m)
  rw [em] at em'; cases em'
  have hle' : 0 + 1 ≤ n := hle
  obtain ⟨_, old, hold, _⟩ := g5 0 (by omega)
  have hct : W.cell? ⟨m.rb, 0 + m.sh, none⟩ = some old := by
    unfold World.cell?
    rw [ho', Nat.zero_add]; exact hold
  have hft : W.frozen? ⟨m.rb, 0 + m.sh, none⟩ = false := by
    unfold World.frozen?
    rw [ho']
    have := thawed_ok hth g6 (by show m.sh + 0 + 1 ≤ m.tot; omega) m.sh (by omega) (by show m.sh < m.sh + 0 + 1; omega)
    show (decide (fr.1 ≤ 0 + m.sh) && decide (0 + m.sh < fr.2)) = false
    rw [Nat.zero_add, ← Bool.not_eq_true, Bool.and_eq_true, decide_eq_true_eq, decide_eq_true_eq]; exact this
  obtain ⟨o1, hst, hpost⟩ := (write_ok (P := Tryz.prog) hw hwr em (LRel.cons (.string s) (LRel.nil β)) rfl).2 p hbit
  have hrun : (storeCells ⟨m.rb, 0 + m.sh, none⟩ [.string s]).run Tryz.prog W = .ok () (W.setCell ⟨m.rb, 0 + m.sh, none⟩ (.string s)) := by
    simp [storeCells, Addr.add]
    rw [run_store Tryz.prog W ⟨m.rb, m.sh, none⟩ _ _ (by rfl)]
    rw [Nat.zero_add] at hct hft
    simp [hct, hft]
  rw [hrun] at hst
  have hse : W.setCell ⟨m.rb, 0 + m.sh, none⟩ (.string s) = World.setB W m.rb o1 := by injection hst
  have hlt : m.rb < W.heap.size := p.dom b m em
  refine (as_hit s ⟨m.rb, 0 + m.sh, none⟩ old W hcell7 hct hft).mono fun ev W' hR => ?_
  obtain ⟨rfl, rfl⟩ := hR
  refine ⟨β, _, rfl, .bool true, ?_⟩
  rw [← hse] at hpost
  rw [World.setCell_alloc_past _ _ _ _ (by simp only [World.alloc, Array.size_push]; omega), World.setCell_alloc_past _ _ _ _ (by simp only [World.alloc, Array.size_push]; omega), World.setCell_alloc_past _ _ _ _ (by simp only [World.alloc, Array.size_push]; omega), World.setCell_alloc_past _ _ _ _ hlt]
  exact hpost.grow (os := #[_, _, _, _]) (by simp only [World.alloc, Array.push_eq_append, Array.append_assoc]; rfl) ⟨rfl, rfl, rfl⟩
def etB : Blk := blkL [sy 999] 370 0
def glob3 : List (Nat × Blk) := globL ++ [(7, etB)]
def lawJ (u : Bool) : Clm := ⟨3, [sy 11000, sy 9000, sy 10000, .bool u], glob3, NG, .bool true, [], NG, 204, 0⟩
def spJ (cl : List Clm) (f : Nat) (args : List Value) (H : Hp) : Ans := Bc (Nat.beq f 193) (npS (spAs args H)) (spL lt0 cl f args H)
noncomputable def runJ (u : Bool) (m8 : Nat) : Bool := @clB (SyHk (hk0 ⟨3, false, false, false, m8⟩)) (spJ ([clSane] ++ fitL T15)) tab0 (lawJ u) []
end Go.Proofs.CN
end
