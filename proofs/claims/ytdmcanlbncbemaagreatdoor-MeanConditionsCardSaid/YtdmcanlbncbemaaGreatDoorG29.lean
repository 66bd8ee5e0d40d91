/-
  A part of the proof that pliantlaw16.MeanConditions returns true and leaves its arguments alone. Conditions: those of the card in the last text.
-/
import Derived.Below
import Derived.Deep.DeepHandedRow
import Derived.Deep.DeepLaidRun
import Derived.Deep.DeepWitnessRowRef
import Derived.Deep.Slices
import Derived.KernelRfl
import Derived.LaidHandle
import Derived.LaidLaws
import Derived.Lib.LaidTab
import Derived.OpenShut
import Derived.ProofKit
import Derived.Test.YtdmcanlbncbemaaGreatDoorRows
import Derived.WalkKit
import Derived.Test.YtdmcanlbncbemaaGreatDoorG09
import Derived.Test.YtdmcanlbncbemaaGreatDoorG25
import Derived.Test.YtdmcanlbncbemaaGreatDoorG28
set_option linter.unusedSimpArgs false
set_option linter.unusedVariables false
set_option linter.unusedSectionVars false
noncomputable section
namespace Go.Proofs.CN
open Go Go.Ev Go.Proofs Go.Ev.SM Go.Proofs.MN
open Go.RowKit (Below)
section
variable {K : Nat} {k a b : Int}
theorem cs3 {m8 : Nat} (hk : (k.tmod 4 + 4).tmod 4 = 3) (hm : (m8 : Int) = zB b % 8) : CsOk ⟨3, false, false, false, m8⟩ (zsK 3 k a b) where
  z := {
    a := rfl, b := rfl, bz := fun h => (by cases h), bn := fun h => (by cases h), k1 := rfl, k2 := rfl, k3 := hk, nb := rfl, ab := rfl, r := fun h => (by cases h), rn := fun h => (by cases h),
    w0 := fun h => (by cases h), s6 := rfl, a8 := rfl, b8 := rfl, n1 := fun h => (by cases h), n0 := fun h => (by rcases h with h | h <;> cases h), n2 := fun h => (by cases h), m8 := fun _ => hm }
  h4 := z4_bd
  h3 := fun _ => z4_bd (K := 3)
variable {hk : HkOp → List Value → Option Value} {u : Bool}
theorem law3 (h0 : (k.tmod 4 + 4).tmod 4 = 3) {hok : HkOk (PW (One (zsK 3 k a b))) hk} : Cl (zsK 3 k a b) hk hok (lawJ u) := by
  obtain ⟨m, hm⟩ : ∃ m : Nat, (m : Int) = zB b % 8 := ⟨(zB b % 8).toNat, by omega⟩
  have hm8 : m < 8 := by omega
  have hcs : CsOk ⟨3, false, false, false, m⟩ (zsK 3 k a b) := cs3 h0 hm
  have hr : runJ u m = true := by
    rcases (by omega : m = 0 ∨ m = 1 ∨ m = 2 ∨ m = 3 ∨ m = 4 ∨ m = 5 ∨ m = 6 ∨ m = 7) with rfl | rfl | rfl | rfl | rfl | rfl | rfl | rfl <;> cases u
    · exact bool_of jF0
    · exact bool_of jT0
    · exact bool_of jF1
    · exact bool_of jT1
    · exact bool_of jF2
    · exact bool_of jT2
    · exact bool_of jF3
    · exact bool_of jT3
    · exact bool_of jF4
    · exact bool_of jT4
    · exact bool_of jF5
    · exact bool_of jT5
    · exact bool_of jF6
    · exact bool_of jT6
    · exact bool_of jF7
    · exact bool_of jT7
  letI := SyC (PW (One (zsK 3 k a b))) (hk0 ⟨3, false, false, false, m⟩) (hk0_ok hcs)
  have hsp : SpOk Tryz.prog NG (spJ ([clSane] ++ fitL T15)) := by
    intro f args H v H' r w hw h
    unfold spJ at h
    cases h1 : Nat.beq f 193 with
    | true => rw [h1, Bc_t] at h; rw [(beq_iff _ _).1 h1]; exact np_task h fun h => spAs_ok hw h
    | false =>
      rw [h1, Bc_f] at h
      refine spL_ok (cl := [clSane] ++ fitL T15) (lt := lt0) (fun s _ f l v e => by cases e) (fun x hx => ?_) f args H v H' r w hw h
      rcases List.mem_append.1 hx with hx | hx
      · simp only [List.mem_cons, List.mem_nil_iff, or_false] at hx
        subst hx; exact cl_sane
      · exact fitL15 zA_bd zB_bd (show -32767 ≤ z3 3 a b ∧ z3 3 a b ≤ 32767 from z4_bd (K := 3)) (show -32767 ≤ z4 3 a b ∧ z4 3 a b ≤ 32767 from z4_bd) x hx
  have := clB_ok (sp := spJ ([clSane] ++ fitL T15)) hsp (tab := tab0) TabOk.none hr
  exact ⟨ClOk.hk this.1, this.2⟩
end
def totV (W : World) (b : Nat) : Nat := match W.heap[b]? with | some (.cells cs _ _) => cs.size | _ => 0
structure GlC (W : World) : Prop where
  size : NG ≤ W.heap.size
  cells : ∀ x ∈ globL, ∀ β, BOk β W x.2 ⟨x.1, 0, totV W x.1, 0⟩
  et : W.heap[7]? = some (.cells #[hdl] 370 (0, 0))
def mpC (W : World) (zs : Nat → Int) : Mp := fun b => if b < NG then some ⟨b, 0, totV W b, 0⟩ else if SY ≤ b then some (encS (semZ zs) (b - SY)) else none
theorem ng_sy : NG < SY := by unfold SY NG; decide
theorem mpC_g {W : World} {zs : Nat → Int} {b : Nat} (h : b < NG) : mpC W zs b = some ⟨b, 0, totV W b, 0⟩ := by unfold mpC; rw [if_pos h]
theorem mpC_s {W : World} {zs : Nat → Int} : Tbc (semZ zs) (mpC W zs) := fun k => by
  have := ng_sy
  unfold mpC; rw [if_neg (by omega), if_pos (by omega), Nat.add_sub_cancel_left]
theorem encS_rb (s : Sem) (k : Nat) : (encS s k).rb = 0 := by
  unfold encS
  split
  · rfl
  · generalize s k = v
    unfold encB
    split <;> rfl
theorem et_ok {W : World} {zs : Nat → Int} (g : GlC W) : BOk (mpC W zs) W etB ⟨7, 0, totV W 7, 0⟩ := by
  have h := g.et
  obtain ⟨t, ht, hc⟩ := blkL_eq [sy 999] 370 0
  unfold etB
  rw [ht]
  have htot : totV W 7 = 1 := by unfold totV; rw [h]; rfl
  refine ⟨_, h, #[hdl], (0, 0), rfl, htot.symm, by show 0 + 1 ≤ totV W 7; omega, fun _ => ⟨rfl, htot⟩, fun k h => (by cases h), fun i hi => ?_, ?_⟩
  · have hi : i = 0 := by have : i < 1 := hi; omega
    subst hi
    have e := hc 0 (sy 999) rfl
    rw [e]
    refine ⟨rfl, hdl, rfl, .sym 999 _ _ (mpC_s 999) ?_⟩
    have : encS (semZ zs) 999 = encB hdl := rfl
    rw [this]
    exact (symR_enc rfl).2 rfl
  · exact .inl ⟨Nat.le_refl _, .inl rfl⟩
theorem pre_c {c : Clm} (hp : c.pre = globL ∨ c.pre = glob3) (F : Fits NG c) (hw : c.w = 0) (h1 : c.h1.nx = c.h0.nx) {W : World} (g : GlC W) (zs : Nat → Int) {P : Sem → Prop} {hk : HkOp → List Value → Option Value} {hok : HkOk P hk} : @Pre (mpC W zs) c.h0 c.h1 c.r c.w W := by
  have hs := g.size
  refine ⟨fun b _ ha => ?_, fun b d _ _ hb => ?_, fun b h2 h3 => by omega, fun b m e => ?_⟩
  · letI := SyC P hk hok
    obtain ⟨B, hB, e, _⟩ := h0_blk F ha
    have hB : (b, B) ∈ globL ∨ (b, B) = (7, etB) := by
      rcases hp with hp | hp
      · rw [hp] at hB; exact .inl hB
      · rw [hp] at hB
        rcases List.mem_append.1 hB with h | h
        · exact .inl h
        · exact .inr (List.mem_singleton.1 h)
    rcases hB with hB | hB
    · have hlt : b < NG := by
        simp only [globL, List.mem_cons, Prod.mk.injEq, List.mem_nil_iff, or_false] at hB
        rcases hB with ⟨rfl, _⟩ | ⟨rfl, _⟩ | ⟨rfl, _⟩ <;> decide
      exact ⟨_, mpC_g hlt, by rw [e]; exact g.cells _ hB _⟩
    · cases hB
      exact ⟨_, mpC_g (by decide), by rw [e]; exact et_ok g⟩
  · rw [hw] at hb; simp at hb
  · unfold mpC at e
    split at e
    · have e := Option.some.inj e
      rw [← e]; show b < _; omega
    split at e
    · have e := Option.some.inj e
      rw [← e, encS_rb]; have : 0 < NG := by decide
      omega
    · cases e
theorem below_of {β β' : Mp} {H H' : Hp} {W W' : World} (q : Post β β' H H' 0 W W') : Below W.heap.size W W' := by
  refine ⟨q.env.1, q.env.2.1, q.env.2.2, q.size, fun k hk => ?_⟩
  cases ho : W.heap[k]? with
  | none => have := Array.getElem?_eq_none_iff.1 ho; omega
  | some o => exact q.frame k o ho fun b m hb hwb => by simp at hwb
theorem calls_of {P : Program} {f : FuncId} {args : Array Value} {W : World} {R : Ending → World → Prop} (hb : (callFunc f args).run P W = .ok (.enter f args) W) (h : CallOk P f args W R) : Calls P f args W R := by
  rcases h with ⟨_, hc⟩ | ⟨v', W', hc, _⟩
  · exact callsIn_wide.1 hc
  · rw [hb] at hc; cases hc
theorem ent3 (args : Array Value) (W : World) : (callFunc 3 args).run Tryz.prog W = .ok (.enter 3 args) W := by kernel_rfl
def hkN : HkOp → List Value → Option Value := fun _ _ => none
theorem hkN_ok (zs : Nat → Int) : HkOk (PW (One zs)) hkN := ⟨fun s ⟨z, e, _⟩ => by rw [e]; exact semZ_sc z, fun s _ h l v e => by cases e⟩
theorem law_go {W : World} (g : GlC W) {K : Nat} {k a b : Int} {u : Bool} {c : Clm} (hc : Cl (zsK K k a b) hkN (hkN_ok _) c) (hp : c.pre = globL ∨ c.pre = glob3) (hw : c.w = 0) (h1 : c.h1.nx = c.h0.nx) (hf : c.f = 3) (ha : c.args = [sy 11000, sy 9000, sy 10000, .bool u]) (hv : c.v = .bool true) :
    Calls Tryz.prog 3 #[.int .i64 k, .int .i64 a, .int .i64 b, .bool u] W fun e W' => e = .returned (.bool true) ∧ Below W.heap.size W W' := by
  letI := SyC (PW (One (zsK K k a b))) hkN (hkN_ok _)
  have hE := (task_EP (P := Tryz.prog)).1 hc.1
  have hg : GRel NG (mpC W (zsK K k a b)) := ⟨fun x hx => ⟨_, mpC_g hx, rfl, rfl⟩, _, pw_of, mpC_s⟩
  have hl : LRel (mpC W (zsK K k a b)) c.args (#[Value.int .i64 k, .int .i64 a, .int .i64 b, .bool u]).toList := by
    rw [ha]
    refine LRel.cons ((real_of (semZ_sc _) mpC_s (v := sy 11000) rfl).2 ?_) (LRel.cons ((real_of (semZ_sc _) mpC_s (v := sy 9000) rfl).2 ?_) (LRel.cons ((real_of (semZ_sc _) mpC_s (v := sy 10000) rfl).2 ?_) (LRel.cons (.bool u) (LRel.nil _))))
    · exact (atN (zsK K k a b) 11).symm
    · exact (atN (zsK K k a b) 9).symm
    · exact (atN (zsK K k a b) 10).symm
  have := hE.2 (mpC W (zsK K k a b)) W hg (pre_c (hok := hkN_ok (zsK K k a b)) hp hc.2 hw h1 g _) _ hl
  rw [hf] at this
  refine (calls_of (ent3 _ W) this).mono fun e W' hR => ?_
  obtain ⟨β', v', he, hv', q⟩ := hR
  rw [hv] at he hv'
  have he : e = .returned v' := he
  cases hv'
  rw [hw] at q
  exact ⟨he, below_of q⟩
theorem law_calls {W : World} (g : GlC W) (k a b : Int) (u : Bool) : Calls Tryz.prog 3 #[.int .i64 k, .int .i64 a, .int .i64 b, .bool u] W fun e W' => e = .returned (.bool true) ∧ Below W.heap.size W W' := by
  have h1 := tmod_bd k (m := 4) (by decide)
  have h2 : (k.tmod 4 + 4).tmod 4 = (k.tmod 4 + 4) % 4 := Int.tmod_eq_emod_of_nonneg (by omega)
  rcases (by omega : (k.tmod 4 + 4) % 4 = 0 ∨ (k.tmod 4 + 4) % 4 = 1 ∨ (k.tmod 4 + 4) % 4 = 2 ∨ (k.tmod 4 + 4) % 4 = 3) with h | h | h | h
  · exact law_go g (law0 (a := a) (b := b) (u := u) (h2.trans h)) (.inl rfl) rfl rfl rfl rfl rfl
  · exact law_go g (law1 (a := a) (b := b) (u := u) (h2.trans h)) (.inl rfl) rfl rfl rfl rfl rfl
  · exact law_go g (law2 (a := a) (b := b) (u := u) (h2.trans h)) (.inl rfl) rfl rfl rfl rfl rfl
  · exact law_go g (law3 (a := a) (b := b) (u := u) (h2.trans h)) (.inr rfl) rfl rfl rfl rfl rfl
end Go.Proofs.CN
end
noncomputable section
namespace Go.Proofs.YtdmcanlbncbemaaGreatDoor.meanConditions
open Go.ChangeShapes Go.WideShapes Go.RowKit Go.Lib
open Go.Ev (Blk blkL blkL_eq VRel BOk oneC)
open Go.Proofs.CN (GlC totV hdl)
open Go.Proofs.MN (globL NG)
theorem pieces {m : Nat} : ∀ (L : List (List Value)) (cs : List Value), cs.length = L.length * m → (∀ i l, L[i]? = some l → (cs.drop (i * m)).take m = l) → cs = L.flatten
  | [], cs, h, _ => by simpa using h
  | l :: L, cs, h, hp => by
    have h0 := hp 0 l rfl
    rw [Nat.zero_mul, List.drop_zero] at h0
    have ih := pieces (m := m) L (cs.drop m) (by rw [List.length_drop, h, List.length_cons, Nat.succ_mul]; omega) (fun i l' hl => by
      have := hp (i + 1) l' (by simpa using hl)
      rw [List.drop_drop, ← this]
      congr 2
      rw [Nat.succ_mul]; omega)
    rw [List.flatten_cons, ← ih, ← h0, List.take_append_drop]
def rowD {H : Type} (k : IntKind) (zs : List Int) : DataW H := .agg (zs.map fun z => .lit (.int k z))
def rowV (k : IntKind) (zs : List Int) : List Value := zs.map fun z => .int k z
section
variable {H : Type} {enc : TypeId × Value → H} {P : Program} {w : World} {base : Nat} {sp : Nat → Bool} {held : Bool}
theorem cells_of_struct {t e : TypeId} {fs : Array Field} {k : IntKind} (ht : P.underlying t = some (.struct fs)) (he : P.underlying e = some (.int k)) (hce : P.cellsOf e = 1) (hct : P.cellsOf t = fs.size)
    (hfs : ∀ (i : Nat) (f : Field), fs[i]? = some f → f.type = e ∧ f.offset = i) {fuel : Nat} {cs : List Value} {zs : List Int} {p : List MemPlace}
    (h : DataW.trod enc P w base sp held fuel t cs = some (rowD k zs, p)) : cs = rowV k zs := by
  obtain ⟨xs, n, rfl, hx, hl, hxl, hp⟩ := DataW.trod_struct ht h
  have hxs : xs.map (·.1) = zs.map fun z => (DataW.lit (.int k z) : DataW H) := by
    have := congrArg Prod.fst hx
    simpa [rowD] using this.symm
  have hzl : zs.length = fs.size := by
    have := congrArg List.length hxs
    simp at this; omega
  apply List.ext_getElem?
  intro i
  by_cases hi : i < fs.size
  · obtain ⟨h1, h2⟩ := hfs i fs[i] (by simp [hi])
    have hq := hp i fs[i] (by simp [hi])
    rw [h1, h2, hce, List.getElem?_eq_getElem (by omega)] at hq
    obtain ⟨z, hc, hz, _⟩ := DataW.trod_int he hq
    have e1 : cs[i]? = some (.int k z) := by
      have := congrArg (·[0]?) hc
      simpa [List.getElem?_take, List.getElem?_drop] using this
    have e2 : (xs.map (·.1))[i]? = some (DataW.lit (.int k z) : DataW H) := by
      rw [List.getElem?_map, List.getElem?_eq_getElem (by omega), hz]; rfl
    rw [hxs] at e2
    simp only [List.getElem?_map, Option.map_eq_some_iff, DataW.lit.injEq, Lit.int.injEq, true_and] at e2
    obtain ⟨z', hz', rfl⟩ := e2
    simp [rowV, e1, hz']
  · rw [List.getElem?_eq_none (by omega), List.getElem?_eq_none (by simp [rowV]; omega)]
theorem cells_of_rows {t e : TypeId} {n m : Nat} {k : IntKind} (ht : P.underlying t = some (.array n e)) (hce : P.cellsOf e = m) (hct : P.cellsOf t = n * m)
    (hr : ∀ (fuel : Nat) (cs : List Value) (zs : List Int) (p : List MemPlace), DataW.trod enc P w base sp held fuel e cs = some (rowD k zs, p) → cs = rowV k zs)
    {fuel : Nat} {cs : List Value} {zss : List (List Int)} {p : List MemPlace} (h : DataW.trod enc P w base sp held fuel t cs = some (.agg (zss.map (rowD k)), p)) : cs = (zss.map (rowV k)).flatten := by
  obtain ⟨xs, q, rfl, hx, hl, hxl, hp⟩ := DataW.trod_array ht h
  have hxs : xs.map (·.1) = zss.map (rowD k) := by
    have := congrArg Prod.fst hx
    simpa using this.symm
  have hzl : zss.length = n := by
    have := congrArg List.length hxs
    simp at this; omega
  refine pieces (m := m) _ _ (by rw [hl, hct, List.length_map, hzl]) fun i l hi => ?_
  rw [List.getElem?_map, Option.map_eq_some_iff] at hi
  obtain ⟨zs, hzs, rfl⟩ := hi
  have hin : i < n := by
    rcases Nat.lt_or_ge i n with h' | h'
    · exact h'
    · rw [List.getElem?_eq_none (by omega)] at hzs; cases hzs
  have hq := hp i hin
  rw [hce, List.getElem?_eq_getElem (by omega)] at hq
  have e2 : (xs[i]).1 = rowD k zs := by
    have : (xs.map (·.1))[i]? = some (xs[i]).1 := by rw [List.getElem?_map, List.getElem?_eq_getElem (by omega)]; rfl
    rw [hxs, List.getElem?_map, hzs] at this
    exact (Option.some.inj this).symm
  exact hr _ _ zs (xs[i]).2 (by rw [hq, ← e2])
end
theorem laidMet_drop {P : Program} {x : String × DataW Unit} {l : List (String × DataW Unit)} {w : World} (h : laidMet P (x :: l) w) : laidMet P l w := by
  obtain ⟨n, d⟩ := x
  obtain ⟨ps, ⟨g, t, cs, fuel, p, q, h1, h2, h3, h4, h5, rfl⟩, hn, hc⟩ := h
  refine ⟨q, h5, (List.nodup_append.1 hn).2.1, fun b off hm => hc b off (List.mem_append.2 (.inr hm))⟩
theorem laid_mem {P : Program} {w : World} {n : String} {d : DataW Unit} : ∀ {l : List (String × DataW Unit)}, laidMet P l w → (n, d) ∈ l →
    ∃ (enc : TypeId × Value → Unit) (base : Nat) (sp : Nat → Bool) (held : Bool) (g : Nat) (t : TypeId) (cs : Array Value) (fuel : Nat) (p : List MemPlace), P.globalNamed n = some g ∧ (P.globals[g]?).map (·.type) = some t ∧ w.var? P n = some cs ∧ DataW.trod enc P w base sp held fuel t cs.toList = some (d, p)
  | [], _, hm => by cases hm
  | (n', d') :: l, h, hm => by
    rcases List.mem_cons.1 hm with e | hm
    · cases e
      obtain ⟨ps, ⟨g, t, cs, fuel, p, q, h1, h2, h3, h4, h5, rfl⟩, hn, hc⟩ := h
      exact ⟨_, _, _, _, g, t, cs, fuel, p, h1, h2, h3, h4⟩
    · exact laid_mem (laidMet_drop h) hm
theorem glob_ok {W : World} {g : Nat} {ty : TypeId} {L : List Value} {name : String} {cs c : Array Value} (hg : Tryz.prog.globalNamed name = some g) (hv : W.var? Tryz.prog name = some cs) (hcs : cs.toList = L)
    (hfl : ∀ v ∈ L, ∃ k z, v = .int k z) (hb : W.heap[g]? = some (.cells c ty (0, 0))) (hsz : c.size = L.length) (β : Go.Ev.Mp) : BOk β W (blkL L ty 0) ⟨g, 0, totV W g, 0⟩ := by
  obtain ⟨t, h1, h2⟩ := blkL_eq L ty 0
  rw [h1]
  have ht : totV W g = c.size := by unfold totV; rw [hb]
  refine ⟨_, hb, c, (0, 0), rfl, ht.symm, by show 0 + L.length ≤ totV W g; omega, fun _ => ⟨rfl, by show totV W g = _; omega⟩, (fun k h => by cases h), fun i hi => ?_, .inl ⟨Nat.le_refl _, .inl rfl⟩⟩
  have hL : L[i]? = some L[i] := List.getElem?_eq_getElem hi
  have hc := World.var?_cell hg hv i
  have e1 : c[i]? = some L[i] := by
    have : W.cell? ⟨g, i, none⟩ = c[i]? := by simp [World.cell?, hb]
    rw [← this, hc, ← hL, ← hcs, Array.getElem?_toList]
  obtain ⟨k, z, hz⟩ := hfl L[i] (List.getElem_mem hi)
  rw [h2 i _ hL]
  refine ⟨by rw [hz]; rfl, L[i], by show c[0 + i]? = _; rw [Nat.zero_add]; exact e1, by rw [hz]; exact .int _ _⟩
def pows : List Int := [1, 10, 100, 1000, 10000, 100000, 1000000, 10000000, 100000000, 1000000000, 10000000000, 100000000000, 1000000000000, 10000000000000, 100000000000000, 1000000000000000, 10000000000000000, 100000000000000000, 1000000000000000000, 10000000000000000000]
def shs : List (List Int) := [[0, 0, 0, 0, 0], [0, 0, 0, 0, 0], [1, 1, 1, 1, 0], [0, 0, 0, 0, 1], [0, 0, 1, 1, 1], [0, 0, 0, 0, 3], [0, 0, 0, 8, 1], [0, 0, 0, 1, 0], [0, 0, 0, 0, 7], [0, 0, 0, 0, 6], [0, 0, 0, 0, 6], [1, 2, 0, 0, 1], [0, 1, 1, 1, 0], [0, 0, 0, 0, 1], [0, 0, 0, 0, 1], [0, 0, 0, 16, 26], [1, 16, 0, 0, 10], [1, 1, 0, 1, 2], [1, 1, 1, 1, 2], [1, 1, 1, 1, 2], [0, 0, 1, 1, 2], [2, 2, 0, 0, 0], [0, 0, 0, 0, 0]]
def ops : List (List Int) := [[0, 0], [0, 0], [0, 1], [0, 1], [1, 0], [1, 0], [2, 0], [2, 0], [2, 0], [2, 0], [2, 0], [1, 0], [2, 0], [2, 0], [2, 0], [2, 0], [2, 0], [1, 0], [2, 0], [3, 0], [2, 0], [1, 0], [2, 0], [3, 0], [2, 0], [-1, 0], [0, 0], [0, 0], [0, 0], [0, 0], [1, 1], [1, 1]]
theorem e_pow : (Rows.laid_internal_strconv_uint64pow10 : DataW Unit) = tabData .u64 pows := rfl
theorem e_sh : (Rows.laid_pliant_core_shapes : DataW Unit) = .agg (shs.map (rowD .i8)) := rfl
theorem e_op : (Rows.laid_pliant_core_operands : DataW Unit) = .agg (ops.map (rowD .i8)) := rfl
theorem b_pow : Go.Ev.SM.pwB = blkL (rowV .u64 pows) 214 0 := by kernel_rfl
theorem b_sh : Go.Ev.SM.shB = blkL (shs.map (rowV .i8)).flatten 272 0 := by kernel_rfl
theorem b_op : Go.Ev.SM.opB = blkL (ops.map (rowV .i8)).flatten 345 0 := by kernel_rfl
theorem g_pow : Tryz.prog.globalNamed "internal/strconv.uint64pow10" = some 2 := by kernel_rfl
theorem g_sh : Tryz.prog.globalNamed "pliant/core.shapes" = some 3 := by kernel_rfl
theorem g_op : Tryz.prog.globalNamed "pliant/core.operands" = some 6 := by kernel_rfl
theorem t_pow : (Tryz.prog.globals[2]?).map (·.type) = some 214 := by kernel_rfl
theorem t_sh : (Tryz.prog.globals[3]?).map (·.type) = some 272 := by kernel_rfl
theorem t_op : (Tryz.prog.globals[6]?).map (·.type) = some 345 := by kernel_rfl
theorem u214 : Tryz.prog.underlying 214 = some (.array 20 66) := by kernel_rfl
theorem u66 : Tryz.prog.underlying 66 = some (.int .u64) := by kernel_rfl
theorem u272 : Tryz.prog.underlying 272 = some (.array 23 271) := by kernel_rfl
theorem u345 : Tryz.prog.underlying 345 = some (.array 32 344) := by kernel_rfl
theorem u344 : Tryz.prog.underlying 344 = some (.array 2 269) := by kernel_rfl
theorem u269 : Tryz.prog.underlying 269 = some (.int .i8) := by kernel_rfl
theorem c66 : Tryz.prog.cellsOf 66 = 1 := by kernel_rfl
theorem c214 : Tryz.prog.cellsOf 214 = 20 := by kernel_rfl
theorem c269 : Tryz.prog.cellsOf 269 = 1 := by kernel_rfl
theorem c271 : Tryz.prog.cellsOf 271 = 5 := by kernel_rfl
theorem c272 : Tryz.prog.cellsOf 272 = 115 := by kernel_rfl
theorem c344 : Tryz.prog.cellsOf 344 = 2 := by kernel_rfl
theorem c345 : Tryz.prog.cellsOf 345 = 64 := by kernel_rfl
def shapeOk (d : Option TypeDesc) : Bool := match d with
  | some (.struct fs) => Nat.beq fs.size 5 && (List.range 5).all fun i => match fs[i]? with | some f => Nat.beq f.type 269 && Nat.beq f.offset i | none => false
  | _ => false
theorem sh_ok : shapeOk (Tryz.prog.underlying 271) = true := by kernel_rfl
theorem u271 : ∃ fs : Array Field, Tryz.prog.underlying 271 = some (.struct fs) ∧ fs.size = 5 ∧ ∀ (i : Nat) (f : Field), fs[i]? = some f → f.type = 269 ∧ f.offset = i := by
  have h := sh_ok
  revert h
  generalize Tryz.prog.underlying 271 = d
  intro h
  unfold shapeOk at h
  split at h
  · rename_i fs
    simp only [Bool.and_eq_true, List.all_eq_true, List.mem_range] at h
    have hs : fs.size = 5 := Nat.eq_of_beq_eq_true h.1
    refine ⟨fs, rfl, hs, fun i f hf => ?_⟩
    have hi : i < 5 := by
      rcases Nat.lt_or_ge i 5 with h' | h'
      · exact h'
      · rw [Array.getElem?_eq_none (by omega)] at hf; cases hf
    have := h.2 i hi
    rw [hf] at this
    simp only [Bool.and_eq_true] at this
    exact ⟨Nat.eq_of_beq_eq_true this.1, Nat.eq_of_beq_eq_true this.2⟩
  · cases h
theorem ints_mem {k : IntKind} {zss : List (List Int)} : ∀ v ∈ (zss.map (rowV k)).flatten, ∃ k z, v = Value.int k z := fun v hv => by
  obtain ⟨l, hl, hv⟩ := List.mem_flatten.1 hv
  obtain ⟨zs, _, rfl⟩ := List.mem_map.1 hl
  obtain ⟨z, _, rfl⟩ := List.mem_map.1 hv
  exact ⟨k, z, rfl⟩
theorem row_at {W : World} (hS : W.ShapedOpen Tryz.prog) {g n : Nat} {ty : TypeId} (hg : g < 15) (h0 : (((begin Tryz.prog (fun _ _ => 0) default).world.heap[g]?).bind Obj.row?).map (fun x => (x.1.size, x.2)) = some (n, ty)) :
    ∃ c, W.heap[g]? = some (.cells c ty (0, 0)) ∧ c.size = n := by
  obtain ⟨⟨zero, t⟩, h1, h2⟩ := Option.map_eq_some_iff.1 h0
  simp only [Prod.mk.injEq] at h2
  obtain ⟨h2, rfl⟩ := h2
  obtain ⟨cs, h3, h4, _⟩ := hS.1 g zero t (by rw [show Tryz.prog.globals.size = 15 from by kernel_rfl]; exact hg) h1
  exact ⟨cs, h3, by rw [h4]; exact h2⟩
theorem r_pow : (((begin Tryz.prog (fun _ _ => 0) default).world.heap[2]?).bind Obj.row?).map (fun x => (x.1.size, x.2)) = some (20, 214) := by kernel_rfl
theorem r_sh : (((begin Tryz.prog (fun _ _ => 0) default).world.heap[3]?).bind Obj.row?).map (fun x => (x.1.size, x.2)) = some (115, 272) := by kernel_rfl
theorem r_op : (((begin Tryz.prog (fun _ _ => 0) default).world.heap[6]?).bind Obj.row?).map (fun x => (x.1.size, x.2)) = some (64, 345) := by kernel_rfl
theorem r_et : (((begin Tryz.prog (fun _ _ => 0) default).world.heap[7]?).bind Obj.row?).map (fun x => (x.1.size, x.2)) = some (1, 370) := by kernel_rfl
theorem g_et : Tryz.prog.globalNamed "errors.errorType" = some 7 := by kernel_rfl
theorem r_last : (((begin Tryz.prog (fun _ _ => 0) default).world.heap[14]?).bind Obj.row?).isSome = true := by kernel_rfl
theorem globs {W : World} (hS : W.ShapedOpen Tryz.prog) {l : List (String × DataW Unit)} (hL : laidMet Tryz.prog l W) (h1 : ("internal/strconv.uint64pow10", Rows.laid_internal_strconv_uint64pow10) ∈ l) (h2 : ("pliant/core.shapes", Rows.laid_pliant_core_shapes) ∈ l) (h3 : ("pliant/core.operands", Rows.laid_pliant_core_operands) ∈ l) (h4 : W.var? Tryz.prog "errors.errorType" = some #[hdl]) : GlC W := by
  refine ⟨?_, fun x hx β => ?_, ?_⟩
  · obtain ⟨⟨zero, t⟩, h1⟩ := Option.isSome_iff_exists.1 r_last
    obtain ⟨cs, h2, _⟩ := hS.1 14 zero t (by rw [show Tryz.prog.globals.size = 15 from by kernel_rfl]; decide) h1
    rcases Nat.lt_or_ge 14 W.heap.size with h' | h'
    · show 15 ≤ _; omega
    · rw [Array.getElem?_eq_none h'] at h2; cases h2
  · simp only [globL, List.mem_cons, List.mem_nil_iff, or_false] at hx
    rcases hx with rfl | rfl | rfl
    · obtain ⟨enc, base, sp, held, g, t, cs, fuel, p, e1, e2, e3, e4⟩ := laid_mem hL h1
      obtain rfl := Option.some.inj (g_pow.symm.trans e1)
      obtain rfl := Option.some.inj (t_pow.symm.trans e2)
      obtain ⟨c, hc, hn⟩ := row_at hS (by decide) r_pow
      rw [e_pow] at e4
      have := cells_of_tab u214 u66 c66 c214 e4
      show BOk β W Go.Ev.SM.pwB ⟨2, 0, totV W 2, 0⟩
      rw [b_pow]
      exact glob_ok g_pow e3 this (fun v hv => by obtain ⟨z, _, rfl⟩ := List.mem_map.1 hv; exact ⟨_, z, rfl⟩) hc (by rw [hn]; rfl) β
    · obtain ⟨enc, base, sp, held, g, t, cs, fuel, p, e1, e2, e3, e4⟩ := laid_mem hL h2
      obtain rfl := Option.some.inj (g_sh.symm.trans e1)
      obtain rfl := Option.some.inj (t_sh.symm.trans e2)
      obtain ⟨c, hc, hn⟩ := row_at hS (by decide) r_sh
      rw [e_sh] at e4
      obtain ⟨fs, f1, f2, f3⟩ := u271
      have := cells_of_rows (m := 5) u272 c271 c272 (fun fuel cs zs p h => cells_of_struct f1 u269 c269 (by rw [c271, f2]) f3 h) e4
      show BOk β W Go.Ev.SM.shB ⟨3, 0, totV W 3, 0⟩
      rw [b_sh]
      exact glob_ok g_sh e3 this ints_mem hc (by rw [hn]; rfl) β
    · obtain ⟨enc, base, sp, held, g, t, cs, fuel, p, e1, e2, e3, e4⟩ := laid_mem hL h3
      obtain rfl := Option.some.inj (g_op.symm.trans e1)
      obtain rfl := Option.some.inj (t_op.symm.trans e2)
      obtain ⟨c, hc, hn⟩ := row_at hS (by decide) r_op
      rw [e_op] at e4
      have := cells_of_rows (m := 2) u345 c344 c345 (fun fuel cs zs p h => cells_of_tab u344 u269 c269 c344 h) e4
      show BOk β W Go.Ev.SM.opB ⟨6, 0, totV W 6, 0⟩
      rw [b_op]
      exact glob_ok g_op e3 this ints_mem hc (by rw [hn]; rfl) β
  · obtain ⟨c, hc, hn⟩ := row_at hS (by decide) r_et
    unfold World.var? at h4
    rw [g_et] at h4
    have h4 : (match (W.heap[7]? : Option Obj) with | some (Obj.cells cs _ _) => some cs | _ => none) = some #[hdl] := h4
    rw [hc] at h4
    rw [hc, Option.some.inj h4]
end Go.Proofs.YtdmcanlbncbemaaGreatDoor.meanConditions
end
noncomputable section
namespace Go.Proofs.YtdmcanlbncbemaaGreatDoor.meanConditions
open Go.ChangeShapes Go.WideShapes Go.ChangeAt Go.RowKit Go.Deep
open Go.Proofs.CN (law_calls hdl)
open Go.Proofs.MN (NG)
theorem own : ownKnob Tryz.prog.godebug = none := by kernel_rfl
theorem params3 : Tryz.f3.params = #[3, 3, 3, 4] := by kernel_rfl
theorem u3 : Tryz.prog.underlying 3 = some (.int .i64) := by kernel_rfl
theorem u4 : Tryz.prog.underlying 4 = some .bool := by kernel_rfl
theorem f_laid : laidOutB Tryz.prog = true := by kernel_rfl
theorem read3 : Tryz.prog.readableRec 3 = true := by kernel_rfl
theorem read4 : Tryz.prog.readableRec 4 = true := by kernel_rfl
theorem rt_t : (Tryz.prog.cutTypes.find? (·.1 == "internal/reflectlite.rtype")).map (·.2) = some 418 := by kernel_rfl
theorem oneRow : ((List.range 654).filter fun t => Tryz.prog.rowNamed t [101, 114, 114, 111, 114]) = [290] := by kernel_rfl
theorem tsize : Tryz.prog.types.size = 654 := by kernel_rfl
theorem th290 : typeHandle Tryz.prog 290 = .pointer (some ⟨15, 290, none⟩) := by kernel_rfl
theorem handles_one : (Rows.meanConditionsRow.laid.filter fun x => x.2.handleName?.isSome) = [("errors.errorType", Rows.laid_errors_errorType)] := by kernel_rfl
theorem handle_of_laid {W : World} (hL : laidMetH Tryz.prog Rows.meanConditionsRow.laid W) : W.var? Tryz.prog "errors.errorType" = some #[hdl] := by
  unfold laidMetH at hL
  rw [handles_one] at hL
  have h' := hL.2
  obtain ⟨name, u, ty, e1, e2, e3, e4, e5⟩ := h' _ (List.mem_singleton.2 rfl)
  have en : name = [101, 114, 114, 111, 114] := (Option.some.inj e1).symm
  subst en
  obtain rfl := Option.some.inj (rt_t.symm.trans e2)
  have hm : ty ∈ (List.range 654).filter fun t => Tryz.prog.rowNamed t [101, 114, 114, 111, 114] := List.mem_filter.2 ⟨List.mem_range.2 (by rw [← tsize]; exact e3), e4⟩
  rw [oneRow] at hm
  obtain rfl := List.mem_singleton.1 hm
  rw [th290] at e5
  exact e5
theorem laid_one (W : World) (hL : laidMetH Tryz.prog Rows.meanConditionsRow.laid W) : laidMet Tryz.prog (Rows.meanConditionsRow.laid.filter fun x => x.2.handleName?.isNone) W := by
  unfold laidMetH at hL
  split at hL
  · rename_i h
    exfalso
    have : (Rows.meanConditionsRow.laid.filter fun x => x.2.handleName?.isSome).length = 1 := by kernel_rfl
    rw [h] at this; cases this
  · exact hL.1
set_option maxRecDepth 100000 in
theorem contract (H : Type) (enc : TypeId × Value → H) (W : World) (base : Nat) (args : Array Value) (ds gs : List (DataW H)) (before : List MemPlace)
    (hval : ∀ (j : Nat) t v, Tryz.f3.params[j]? = some t → args[j]? = some v → Value.okWide Tryz.prog W .any base t v)
    (hW : DataW.Whole enc Tryz.prog Tryz.f3.params.toList Rows.meanConditionsSpec.vars false W args.toList ds gs before) (hL : laidMetH Tryz.prog Rows.meanConditionsRow.laid W) (hS : W.ShapedOpen Tryz.prog) :
    Calls Tryz.prog 3 args W fun e W' => ∃ v, e = .returned v ∧ Rows.meanConditionsSpec.post enc Tryz.prog Tryz.f3 false true false false W args v W' := by
  have hG := globs hS (laid_one W hL) (by simp [Rows.meanConditionsRow, List.mem_filter]; rfl) (by simp [Rows.meanConditionsRow, List.mem_filter]; rfl) (by simp [Rows.meanConditionsRow, List.mem_filter]; rfl) (handle_of_laid hL)
  have hW' := hW
  obtain ⟨p, q, hA0, hV, rfl, hfz, hnd⟩ := hW
  have hA : DataW.TrodAll enc Tryz.prog W 0 (fun _ => true) true Tryz.f3.params.toList args.toList ds p := hA0
  rw [params3] at hA hval
  obtain ⟨v0, vs0, d0, ds0, p0, q0, hargs, rfl, rfl, h0, r0⟩ := trodAll_cons hA
  obtain ⟨v1, vs1, d1, ds1, p1, q1, rfl, rfl, rfl, h1, r1⟩ := trodAll_cons r0
  obtain ⟨v2, vs2, d2, ds2, p2, q2, rfl, rfl, rfl, h2, r2⟩ := trodAll_cons r1
  obtain ⟨v3, vs3, d3, ds3, p3, q3, rfl, rfl, rfl, h3, r3⟩ := trodAll_cons r2
  obtain ⟨rfl, rfl, rfl⟩ := trodAll_nil r3
  obtain rfl : args = #[v0, v1, v2, v3] := by cases args; simp_all
  obtain ⟨rfl, rfl⟩ := trodVars_none hV
  obtain ⟨z, rfl⟩ := okWide_int u3 (hval 0 3 v0 rfl rfl)
  obtain ⟨za, rfl⟩ := okWide_int u3 (hval 1 3 v1 rfl rfl)
  obtain ⟨zb, rfl⟩ := okWide_int u3 (hval 2 3 v2 rfl rfl)
  obtain ⟨th, rfl⟩ := okWide_bool u4 (hval 3 4 v3 rfl rfl)
  have k0 := h0
  have k1 := h1
  have k2 := h2
  have k3 := h3
  have lt0 : ∀ x ∈ p0, x.block < W.heap.size := by obtain ⟨m, hm⟩ := k0; exact DataW.trod_lt m _ _ _ hm
  have lt1 : ∀ x ∈ p1, x.block < W.heap.size := by obtain ⟨m, hm⟩ := k1; exact DataW.trod_lt m _ _ _ hm
  have lt2 : ∀ x ∈ p2, x.block < W.heap.size := by obtain ⟨m, hm⟩ := k2; exact DataW.trod_lt m _ _ _ hm
  have lt3 : ∀ x ∈ p3, x.block < W.heap.size := by obtain ⟨m, hm⟩ := k3; exact DataW.trod_lt m _ _ _ hm
  refine (law_calls hG z za zb th).mono fun e W' ⟨he, bel⟩ => ?_
  subst he
  exact ⟨_, rfl, _, _, _, [], _, [], hW', trodAll_mk1 (shut_bool u4 _), trodAll_cons_mk (Below.trod f_laid read3 (of_decide_eq_true (by kernel_rfl)) k0 bel lt0) (trodAll_cons_mk (Below.trod f_laid read3 (of_decide_eq_true (by kernel_rfl)) k1 bel lt1) (trodAll_cons_mk (Below.trod f_laid read3 (of_decide_eq_true (by kernel_rfl)) k2 bel lt2) (trodAll_cons_mk (Below.trod f_laid read4 (of_decide_eq_true (by kernel_rfl)) k3 bel lt3) trodAll_mk0))), rfl, bel.frame _, fun h => by cases h⟩
end Go.Proofs.YtdmcanlbncbemaaGreatDoor.meanConditions
end
noncomputable section
namespace Go.Proofs.YtdmcanlbncbemaaGreatDoor.meanConditions
open Go.ChangeShapes Go.WideShapes Go.ChangeAt Go.RowKit Go.Deep
def flat : Nat → DataW Unit → List Value
  | 0, _ => []
  | n + 1, .agg ps => ps.flatMap (flat n)
  | _ + 1, .lit (.int k z) => [.int k z]
  | _ + 1, _ => []
def setRow (b : Nat) (cs : Array Value) (h : Array Obj) : Array Obj := h.modify b fun
  | .cells _ t frozen => .cells cs t frozen
  | o => o
def laidRows (n : Nat) (h : Array Obj) : Array Obj :=
  let h := setRow 2 ⟨flat 4 Rows.laid_internal_strconv_uint64pow10⟩ h
  let h := setRow 3 ⟨flat 4 Rows.laid_pliant_core_shapes⟩ h
  let h := setRow 4 ⟨flat 4 Rows.laid_math_bits_deBruijn32tab⟩ h
  let h := setRow 5 ⟨flat 4 Rows.laid_math_bits_deBruijn64tab⟩ h
  let h := setRow 6 ⟨flat 4 Rows.laid_pliant_core_operands⟩ h
  let h := setRow 8 ⟨flat 4 Rows.laid_pliant_picture_punched⟩ h
  let h := setRow 10 #[.iface 624 (.pointer (some ⟨n, 0, none⟩))] h
  let h := setRow 11 #[.iface 624 (.pointer (some ⟨n + 1, 0, none⟩))] h
  let h := setRow 12 ⟨flat 4 Rows.laid_unicode_utf8_first⟩ h
  let h := setRow 13 ⟨flat 4 Rows.laid_unicode_utf8_acceptRanges⟩ h
  h
noncomputable def laidWorld (os : Os) : World :=
  let w0 := World.holding Tryz.prog os ⟨#[.cells #[.string ⟨#[105, 110, 118, 97, 108, 105, 100, 32, 115, 121, 110, 116, 97, 120]⟩] 626, .cells #[.string ⟨#[118, 97, 108, 117, 101, 32, 111, 117, 116, 32, 111, 102, 32, 114, 97, 110, 103, 101]⟩] 626], #[], []⟩
  { w0 with heap := setRow 7 #[.iface 418 (.agg #[typeHandle Tryz.prog 290])] (laidRows (World.settled Tryz.prog os).heap.size w0.heap) }
noncomputable abbrev witW (os : Os) : World := ((laidWorld os).forCall (fun _ _ => 0) ⟨#[], #[.int .i64 0, .int .i64 0, .int .i64 0, .bool false], []⟩)
theorem laid_vals (os : Os) : (DataW.laidRun Tryz.prog (witW os).memory 8 ((Rows.meanConditionsRow.laid.filter fun x => x.2.handleName?.isNone).map (·.1))).map (·.1) = some (Rows.meanConditionsRow.laid.filter fun x => x.2.handleName?.isNone) := by kernel_rfl
theorem laid_once (os : Os) : (DataW.laidRun Tryz.prog (witW os).memory 8 ((Rows.meanConditionsRow.laid.filter fun x => x.2.handleName?.isNone).map (·.1))).map (fun x => nodupB (x.2.map MemPlace.codeOf)) = some true := by kernel_rfl
theorem laid_rows (os : Os) : (DataW.laidRun Tryz.prog (witW os).memory 8 ((Rows.meanConditionsRow.laid.filter fun x => x.2.handleName?.isNone).map (·.1))).map (fun x => laidRowsB Tryz.prog (witW os).memory x.2) = some true := by kernel_rfl
theorem laid_run (os : Os) : laidMet Tryz.prog (Rows.meanConditionsRow.laid.filter fun x => x.2.handleName?.isNone) (witW os).memory := laidMet_of_run3 8 (laid_vals os) (laid_once os) (laid_rows os)
theorem laid_met (os : Os) : laidMetH Tryz.prog Rows.meanConditionsRow.laid (witW os).memory := laidMetH_of_parts (laid_run os) (by kernel_rfl)
theorem reads (os : Os) {H : Type} (enc : TypeId × Value → H) : ∃ places, DataW.whole enc Tryz.prog (witW os).memory Tryz.f3.params.toList Rows.meanConditionsSpec.vars false #[Value.int .i64 0, Value.int .i64 0, Value.int .i64 0, Value.bool false].toList 8 = some ([.lit (.int .i64 0), .lit (.int .i64 0), .lit (.int .i64 0), .lit (.bool false)], [], places) := ⟨[], by kernel_rfl⟩
set_option maxRecDepth 100000 in
theorem lifted (os : Os) (started : os.Started) (H : Type) (enc : TypeId × Value → H) (F : Stop.Interp) :
    ReturnsInHanded {} Tryz.checked os 3 .any ((OpenSpec.ofChange Rows.meanConditionsSpec).preRow enc Tryz.prog Tryz.f3 Rows.meanConditionsRow.domain false Rows.meanConditionsRow.laid) (((OpenSpec.ofChange Rows.meanConditionsSpec).at F).post enc Tryz.prog Tryz.f3 false true false false) := by
  obtain ⟨places, hx⟩ := reads os enc
  refine returnsInHanded_of_row (C := Tryz.checked) (s := OpenSpec.ofChange Rows.meanConditionsSpec) own started (by kernel_rfl) Tryz.func3
    (witness_row_atRef (enc := enc) (C := Tryz.checked) false (laidWorld os) #[.int .i64 0, .int .i64 0, .int .i64 0, .bool false] rfl (by kernel_rfl) (by kernel_rfl) (by kernel_rfl)
      (OpenSpec.preRow_of_cond 8 hx (by kernel_rfl) (fun k hk => by cases hk) (by kernel_rfl) (laid_met os))) ?_
  intro W base args ds gs before hval hW _ hcond _ hL hS _
  exact contract H enc W base args ds gs before hval hW hL hS
end Go.Proofs.YtdmcanlbncbemaaGreatDoor.meanConditions
end
