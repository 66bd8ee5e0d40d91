/-
  A part of the reckoner for the statements of a Go program: what it answers, the model answers. Holds for every program whose tables are as given.
-/
import Derived.Test.YtdmcanlbncbemaaGreatDoorG07
import Derived.Test.YtdmcanlbncbemaaGreatDoorG08
set_option linter.unusedSimpArgs false
set_option linter.unusedVariables false
set_option linter.unusedSectionVars false
noncomputable section
namespace Go.Ev
variable [SyQ]
def SameBlk (x y : Blk) : Prop := x = y ∨ ∃ t1 t2 n ty op lo hi, x = .cells t1 n ty op lo hi ∧ y = .cells t2 n ty op lo hi ∧ ∀ i, i < n → t1.get i = t2.get i
theorem SameBlk.orel {x y : Blk} (h : SameBlk x y) {β : Mp} {m : Bm} {o : Obj} (hr : ORel β m x o) : ORel β m y o := by
  rcases h with rfl | ⟨t1, t2, n, ty, op, lo, hi, rfl, rfl, hg⟩
  · exact hr
  · obtain ⟨cs, fr, h1, h2, h3, h4, h5, h6, h7⟩ := hr
    exact ⟨cs, fr, h1, h2, h3, h4, h5, fun i hi => by rw [← hg i hi]; exact h6 i hi, h7⟩
theorem SameBlk.dead {x y : Blk} (h : SameBlk x y) : x = .no ↔ y = .no := by
  rcases h with rfl | ⟨t1, t2, n, ty, op, lo, hi, rfl, rfl, hg⟩
  · exact Iff.rfl
  · exact ⟨fun h => (by cases h), fun h => (by cases h)⟩
theorem Post.same {β β' : Mp} {H H1 H2 : Hp} {w : Nat} {W W' : World} (q : Post β β' H H1 w W W') (hn : H2.nx = H1.nx) (hb : ∀ b, SameBlk (H1.blk b) (H2.blk b)) : Post β β' H H2 w W W' := by
  have ha : ∀ b, alive H2 b ↔ alive H1 b := fun b => by
    rw [alive_iff, alive_iff]
    exact not_congr (hb b).dead.symm
  refine ⟨q.le, fun b m h1 h2 => by rw [hn]; exact q.only b m h1 h2, fun b h1 h2 => ?_, q.frame, q.size, q.dom, fun b m h1 h2 h3 => ?_, fun b c mb mc h1 h2 h3 h4 => q.inj b c mb mc h1 h2 ((ha b).1 h3) ((ha c).1 h4), q.env⟩
  · obtain ⟨m, e, o, ho, hr⟩ := q.rel b h1 ((ha b).1 h2)
    exact ⟨m, e, o, ho, (hb b).orel hr⟩
  · rcases q.new b m h1 h2 h3 with h | ⟨c, mc, a1, a2, a3, a4, a5⟩
    · exact .inl h
    · exact .inr ⟨c, mc, a1, a2, a3, a4, fun h => a5 ((ha c).1 h)⟩
section
variable {P : Program} {tb : Tb} (ok : TbOk P tb) (hlp : LpOk P tb) {sp : Nat → List Value → Hp → Option (Value × Hp × Nat × Nat)} (hsp : SpOk P tb.ng sp)
include ok hlp hsp
theorem ec_task {f : FuncId} {args : List Value} {H H2 : Hp} {v : Value} {b : Nat} (hw : H.wf) {K : Value → Hp → Prop} (h : EC tb sp ⟨H.nx, fun c => c = b, fun _ => False⟩ f args H K)
    (hK : ∀ v' H', K v' H' → v' = v ∧ Can H H2 0 ∧ H2.nx = H'.nx ∧ ∀ b, SameBlk (H'.blk b) (H2.blk b)) :
    ∃ r w, TaskOk P tb.ng (.call f args) H (.k (.ret v H2 r w)) ∧ (∀ c, c < H.nx → r.testBit c = true → c = b) ∧ (∀ c, c < H.nx → w.testBit c = false) := by
  obtain ⟨N, v', H', r, w, hev, hok, hn, hk⟩ := h
  obtain ⟨rfl, hcan, hnx, hs⟩ := hK _ _ hk
  have t := ev_ok ok hlp hsp N (.call f args) H hw
  rw [hev] at t
  have hwl : ∀ c, c < H.nx → w.testBit c = false := fun c hc => by
    cases hh : w.testBit c with
    | false => rfl
    | true => exact (hok.wr c hc hh).elim
  refine ⟨r, w, ⟨⟨hcan.wf, hcan.mono, fun c h1 h2 => hcan.keep c h1 (by simp), fun c h1 h2 => by rw [hwl c h1] at h2; cases h2⟩, fun β W hg p => ?_⟩, fun c hc hh => hok.rd c hc hh, hwl⟩
  intro args' hl
  have p' : Pre β H H' r w W := ⟨p.rel, p.inj, fun c h1 h2 => p.fresh c h1 (by rw [hnx]; exact h2), p.dom⟩
  rcases t.2 β W hg p' args' hl with ⟨h1, h2⟩ | ⟨x, W', h1, β', y, h2, h3, h4⟩
  · refine .inl ⟨h1, callsIn_wide.2 ((callsIn_wide.1 h2).mono fun e W' hR => ?_)⟩
    obtain ⟨β', y, h2, h3, h4⟩ := hR
    exact ⟨β', y, h2, h3, h4.same hnx hs⟩
  · exact .inr ⟨x, W', h1, β', y, h2, h3, h4.same hnx hs⟩
omit ok hlp hsp in
theorem TaskOk.more {ng : Nat} {f : FuncId} {args : List Value} {H H' : Hp} {v : Value} {r w r' : Nat} (h : TaskOk P ng (.call f args) H (.k (.ret v H' r w))) (hr : ∀ c, alive H c → r.testBit c = true → r'.testBit c = true) (hw : ∀ c, c < H.nx → w.testBit c = false) (hcan : Can H H' 0) :
    TaskOk P ng (.call f args) H (.k (.ret v H' r' 0)) := by
  refine ⟨hcan, fun β W hg p => ?_⟩
  intro args' hl
  have p' : Pre β H H' r w W := by
    refine ⟨fun b hb ha => p.rel b ?_ ha, fun b c mb mc h1 h2 ha => ?_, p.fresh, p.dom⟩
    · rcases hb with hb | hb
      · exact .inl (hr b ha hb)
      · rw [hw b ha.1] at hb; cases hb
    · rw [hw b ha.1] at h1; cases h1
  have fin : ∀ {e W'}, RetP β H H' w W v e W' → RetP β H H' 0 W v e W' := fun {e W'} hR => by
    obtain ⟨β', y, h2, h3, q⟩ := hR
    refine ⟨β', y, h2, h3, ⟨q.le, q.only, fun b hb ha => q.rel b (hb.imp id fun h => by simp at h) ha, fun rb o h1 h2 => q.frame rb o h1 fun b m hb hwb => ?_, q.size, q.dom, fun b m h1 h2 h3 => ?_, fun b c mb mc h1 h2 => q.inj b c mb mc (h1.imp id fun h => by simp at h) (h2.imp id fun h => by simp at h), q.env⟩⟩
    · rw [hw b hb] at hwb; cases hwb
    · rcases q.new b m h1 h2 h3 with h | ⟨c, mc, a1, a2, _⟩
      · exact .inl h
      · rw [hw c a1] at a2; cases a2
  rcases h.2 β W hg p' args' hl with ⟨h1, h2⟩ | ⟨x, W', h1, h2⟩
  · exact .inl ⟨h1, callsIn_wide.2 ((callsIn_wide.1 h2).mono fun e W' hR => fin hR)⟩
  · exact .inr ⟨x, W', h1, fin h2⟩
end
theorem spNo_ok (P : Program) (ng : Nat) : SpOk P ng (fun _ _ _ => none) := fun f args H v H' r w _ h => by cases h
end Go.Ev
end
noncomputable section
namespace Go.Ev
variable [SyQ]
section
def Hp.isFn : Hp → Bool | .fn _ _ => true | .mk _ _ => false
theorem fn_room {H : Hp} (h : H.isFn = true) : H.room = true := by cases H with | mk => cases h | fn => rfl
theorem fn_wf {H : Hp} (h : H.isFn = true) : H.wf := by cases H with | mk => cases h | fn => trivial
theorem isFn_push (H : Hp) (x : Blk) : (H.push x).isFn = H.isFn := by cases H <;> rfl
theorem isFn_put (H : Hp) (b : Nat) (x : Blk) : (H.put b x).isFn = H.isFn := by cases H <;> rfl
structure Own (n ty : Nat) (H : Hp) (b : Nat) (v : Value) (L : List Value) : Prop where
  ge : n ≤ b
  form : (Row H b ty 0 L ∧ v = .slice (some ⟨b, 0, none⟩) L.length (2 * L.length)) ∨ (Row H b ty 2 L ∧ v = .slice (some ⟨b, 0, none⟩) L.length (2 * L.length + 1))
theorem Own.row {n ty : Nat} {H : Hp} {b : Nat} {v : Value} {L : List Value} (h : Own n ty H b v L) : ∃ op c, Row H b ty op L ∧ v = .slice (some ⟨b, 0, none⟩) L.length c := by
  rcases h.form with ⟨h1, h2⟩ | ⟨h1, h2⟩
  · exact ⟨_, _, h1, h2⟩
  · exact ⟨_, _, h1, h2⟩
theorem Own.lt {n ty : Nat} {H : Hp} {b : Nat} {v : Value} {L : List Value} (h : Own n ty H b v L) : b < H.nx := by obtain ⟨_, _, h, _⟩ := h.row; exact h.lt
theorem Own.of_blk {n ty : Nat} {H H' : Hp} {b : Nat} {v : Value} {L : List Value} (h : Own n ty H b v L) (e : H'.blk b = H.blk b) : Own n ty H' b v L :=
  ⟨h.ge, h.form.imp (fun ⟨a, c⟩ => ⟨a.of_blk e, c⟩) (fun ⟨a, c⟩ => ⟨a.of_blk e, c⟩)⟩
theorem Own.mono {n m ty : Nat} {H : Hp} {b : Nat} {v : Value} {L : List Value} (h : Own n ty H b v L) (hm : m ≤ n) : Own m ty H b v L := ⟨Nat.le_trans hm h.ge, h.form⟩
theorem alloc_bsl {H : Hp} (hf : H.isFn = true) (L : List Value) (ty len : Nat) : alloc1 (blkL L ty 0) H (fun i => mkSlV (some (i, 0)) len len false) 0 0 = .val (.slice (some ⟨H.nx, 0, none⟩) len (2 * len)) (H.push (blkL L ty 0)) 0 0 := by
  rw [alloc1_room (fn_room hf)]; rfl
theorem exFill_some (l : List Value) (k : List Value → R) : exFill (some l) k = k l := rfl
theorem fillL_nil (t : T Value) (c : List Value) : fillL t c [] = some c := rfl
theorem fillL_one {t : T Value} {z w : Value} {o : Operand} (h : cellsO (evalO t o) = some [w]) : fillL t [z] [(0, 1, o)] = some [w] := by
  simp only [fillL, h]; rfl
theorem Own.new {n ty : Nat} {H : Hp} (hf : H.isFn = true) (hn : n ≤ H.nx) (L : List Value) : Own n ty (H.push (blkL L ty 0)) H.nx (.slice (some ⟨H.nx, 0, none⟩) L.length (2 * L.length)) L := ⟨hn, .inl ⟨row_push (fn_room hf) L ty 0, rfl⟩⟩
theorem Env.ok.fresh {e : Env} {H : Hp} {b : Nat} (hb : b < H.nx) (hn : e.n0 ≤ b) : e.ok (bit b) 0 H := .read hb fun h => absurd h (by omega)
theorem Own.app {e : Env} {n ty by_ k r b : Nat} {H : Hp} {v x : Value} {L new : List Value} (ho : Own n ty H b v L) (he : e.n0 ≤ n) (hf : H.isFn = true) (hl : lenV x = some k) (hk : 0 < k) (hc : cellsOfV H 1 k x = some (new, r)) (hnew : new.length = k) (hr : e.ok r 0 H)
    (hb : (2 * (L.length + k) + 768) * by_ ≤ 140737488355328 ∧ L.length + k ≤ 140737488355328) :
    ∃ v' H1 r' w', exApp ty 1 by_ v x H = .val v' H1 r' w' ∧ e.ok r' w' H1 ∧ H1.nx = H.nx + 1 ∧ Own n ty H1 H.nx v' (L ++ new) ∧ H1.isFn = true ∧ ∀ c, c < H.nx → c ≠ b → H1.blk c = H.blk c := by
  have hlt := ho.lt
  have hge := ho.ge
  have hnx : n ≤ H.nx := by omega
  have hok : okBytes (L.length + k) by_ = true := okBytes_of hb.1 hb.2
  have hlen : (L ++ new).length = L.length + k := by rw [List.length_append, hnew]
  rcases ho.form with ⟨h1, rfl⟩ | ⟨h1, rfl⟩
  · refine ⟨_, _, _, _, exApp_shut (fn_room hf) h1 (m := L.length) (by omega) hl hk hc hok, ?_, ?_, ⟨hnx, .inr ⟨row_push (fn_room hf) (L ++ new) ty 2, by rw [hlen]⟩⟩, by rw [isFn_push]; exact hf, fun c hcl _ => blk_push_old (fn_room hf) _ hcl⟩
    · have h2 := hr.lor (Env.ok.fresh (e := e) (b := b) hlt (by omega)) (Nat.le_refl _)
      rw [lor_zero'] at h2
      exact ⟨h2.rd, h2.wr, fun c hcc => by rw [nx_push]; have := h2.lt c hcc; omega⟩
    · rw [nx_push]
  · refine ⟨_, _, _, _, exApp_open (fn_room hf) h1 (m := L.length) (by omega) hl hk hc hok, ?_, ?_, ⟨hnx, .inr ⟨?_, by rw [hlen]⟩⟩, by rw [isFn_push, isFn_put]; exact hf, fun c hcl hcb => ?_⟩
    · have h2 := hr.lor (Env.ok.write (e := e) (b := b) hlt (fun h => absurd h (by omega))) (Nat.le_refl _)
      rw [lor_zero', zero_lor'] at h2
      exact ⟨h2.rd, h2.wr, fun c hcc => by rw [nx_push, nx_put]; have := h2.lt c hcc; omega⟩
    · rw [nx_push, nx_put]
    · have := row_push (H := H.put b .no) (by rw [room_put]; exact (fn_room hf)) (L ++ new) ty 2
      rwa [nx_put] at this
    · rw [blk_push_old (by rw [room_put]; exact (fn_room hf)) _ (by rw [nx_put]; exact hcl), blk_put_ne (fn_wf hf) _ hlt hcb]
end
end Go.Ev
end
noncomputable section
namespace Go.Ev
variable [SyQ]
def Lo (k : Nat) (t t' : T Value) : Prop := ∀ j, j < k → t'.get j = t.get j
theorem putT_lo {d i j : Nat} (hj : j < i) (hi : i < 8 ^ d) (t : T Value) (v : Value) : (putT d t (some i) v).get j = t.get j := by
  rw [get_putT hi (by omega), if_neg (by omega)]
theorem Lo.trans {k : Nat} {t t' t'' : T Value} (h : Lo k t t') (g : Lo k t' t'') : Lo k t t'' := fun j hj => (g j hj).trans (h j hj)
theorem Lo.refl (k : Nat) (t : T Value) : Lo k t t := fun _ _ => rfl
theorem Lo.mono {k m : Nat} {t t' : T Value} (h : Lo k t t') (hm : m ≤ k) : Lo m t t' := fun j hj => h j (by omega)
theorem exUn_not (b : Bool) (H : Hp) : exUn .not (.bool b) H = .val (.bool (!b)) H 0 0 := by cases b <;> rfl
theorem callV_func (f : FuncId) (args : List Value) : callV (.func (.func f) #[] #[]) args = .call f args := by
  show R.call f ([] ++ (args ++ [])) = _
  simp
theorem alloc_ptr {H : Hp} (hf : H.isFn = true) (x : Blk) : alloc1 x H ptrTo 0 0 = .val (.pointer (some ⟨H.nx, 0, none⟩)) (H.push x) 0 0 := by rw [alloc1_room (fn_room hf)]; rfl
section
variable {tb : Tb} {sp : Nat → List Value → Hp → Option (Value × Hp × Nat × Nat)} {e : Env}
theorem WOR.mono {d : Nat} {H : Hp} {K K' : T Value → Prop} (hk : ∀ t', K' t' → K t') : ∀ {cos : List CO} {t : T Value}, WOR e d H K' cos t → WOR e d H K cos t := by
  intro cos
  induction cos with
  | nil => intro t h; exact hk t h
  | cons o cos ih =>
    intro t h
    rw [WOR] at h ⊢
    cases hg : wants t o.guard with
    | true =>
      rw [hg] at h
      revert h
      cases run o.op t H with
      | val v H' r w => exact fun h => ⟨h.1, h.2.1, h.2.2.1, ih h.2.2.2⟩
      | _ => exact fun h => h.elim
    | false => rw [hg] at h; exact ih h
theorem WK.reg_rr {cx : Cx} {cos : List CO} {t : T Value} {ds : List Deferred} {H : Hp} {K : Ex → T Value → List Deferred → Hp → Prop} (K' : T Value → Prop) (h : WOR e cx.d H K' cos t) (hk : ∀ t', K' t' → K .normal t' ds H) : WK tb sp e cx (.reg cos) t ds H K := WK.reg_r (h.mono hk)
theorem WK.draw_rr {cx : Cx} {B : Array Nat} {cos : List CO} {t : T Value} {ds : List Deferred} {H : Hp} {K : Ex → T Value → List Deferred → Hp → Prop} (K' : T Value → Prop) (h : WOR e cx.d H K' cos t) (hk : ∀ t', K' t' → K .normal t' ds H) : WK tb sp e cx (.draw B cos) t ds H K := WK.draw_r (h.mono hk)
theorem WOG.mono {tb : Tb} {d : Nat} {K K' : T Value → Hp → Prop} (hk : ∀ t' H', K' t' H' → K t' H') : ∀ {cos : List CO} {t : T Value} {H : Hp}, WOG tb sp e d K' cos t H → WOG tb sp e d K cos t H := by
  intro cos
  induction cos with
  | nil => intro t H h; rw [WOG] at *; exact hk t H h
  | cons o cos ih =>
    intro t H h
    rw [WOG] at h ⊢
    cases hg : wants t o.guard with
    | true =>
      rw [hg] at h
      revert h
      cases run o.op t H with
      | val v H' r w => exact fun h => ⟨h.1, h.2.1, ih h.2.2⟩
      | call f args => exact fun h => h.mono fun v H1 _ hh => by rw [WOGk] at *; exact ih hh
      | _ => exact fun h => h.elim
    | false => rw [hg] at h; exact ih h
theorem WK.reg_gg {tb : Tb} {cx : Cx} {cos : List CO} {t : T Value} {ds : List Deferred} {H : Hp} {K : Ex → T Value → List Deferred → Hp → Prop} (K' : T Value → Hp → Prop) (h : WOG tb sp e cx.d K' cos t H) (hk : ∀ t' H', K' t' H' → K .normal t' ds H') : WK tb sp e cx (.reg cos) t ds H K := WK.reg_g (h.mono hk)
structure Kept (H H' : Hp) : Prop where
  fn : H'.isFn = true
  nx : H.nx ≤ H'.nx
  old : ∀ b, b < H.nx → H'.blk b = H.blk b
theorem Kept.refl {H : Hp} (h : H.isFn = true) : Kept H H := ⟨h, Nat.le_refl _, fun _ _ => rfl⟩
theorem Kept.trans {H H1 H2 : Hp} (h : Kept H H1) (g : Kept H1 H2) : Kept H H2 := ⟨g.fn, Nat.le_trans h.nx g.nx, fun b hb => (g.old b (Nat.lt_of_lt_of_le hb h.nx)).trans (h.old b hb)⟩
end
section
variable {tb : Tb} {sp : Nat → List Value → Hp → Option (Value × Hp × Nat × Nat)} {e : Env}
variable {cx : Cx} {B : Array Nat} {o : CO} {cos : List CO} {i : Nat} {t : T Value} {ds : List Deferred} {H : Hp} {A : List En} {K : T Value → List Deferred → Hp → Prop}
theorem WD.pure {v : Value} (hg : o.guard = none) (hr : run o.op t H = .val v H 0 0) (hk : WD tb sp e cx B cos (i + 1) (putT cx.d t o.dst v) ds H A K) : WD tb sp e cx B (o :: cos) i t ds H A K := by
  refine WD.cons (by rw [hg]; rfl) ?_
  rw [hr]
  exact ⟨.zero e H, Nat.le_refl _, .inl ⟨rfl, rfl, rfl, hk⟩⟩
theorem WD.val {v : Value} {H1 : Hp} {r w : Nat} (R W : Nat → Prop) (hg : o.guard = none) (hr : run o.op t H = .val v H1 r w) (h1 : e.ok r w H1) (h2 : H.nx ≤ H1.nx) (hR : ∀ b, r.testBit b = true → R b) (hW : ∀ b, w.testBit b = true ∨ (H.nx ≤ b ∧ b < H1.nx) → W b) (hc : Chk B i R W A)
    (hk : WD tb sp e cx B cos (i + 1) (putT cx.d t o.dst v) ds H1 (⟨i, R, W⟩ :: A) K) : WD tb sp e cx B (o :: cos) i t ds H A K := by
  refine WD.cons (by rw [hg]; rfl) ?_
  rw [hr]
  exact ⟨h1, h2, .inr ⟨R, W, hR, hW, hc, hk⟩⟩
theorem _root_.Go.Ev.Chk.nil {R W : Nat → Prop} : Chk B i R W [] := fun en h => absurd h (by simp)
theorem _root_.Go.Ev.Chk.bit {R W : Nat → Prop} {en : En} (h : (B.getD i 0).testBit en.i = true) (hc : Chk B i R W A) : Chk B i R W (en :: A) := fun x hx => by
  rcases List.mem_cons.1 hx with rfl | hx
  · exact .inl h
  · exact hc x hx
theorem _root_.Go.Ev.Chk.apart {R W : Nat → Prop} {en : En} (h1 : ∀ b, en.W b → ¬ R b ∧ ¬ W b) (h2 : ∀ b, W b → ¬ en.R b) (hc : Chk B i R W A) : Chk B i R W (en :: A) := fun x hx => by
  rcases List.mem_cons.1 hx with rfl | hx
  · exact .inr ⟨h1, h2⟩
  · exact hc x hx
end
section
variable {tb : Tb} {sp : Nat → List Value → Hp → Option (Value × Hp × Nat × Nat)} {e : Env}
theorem WD.read {tb : Tb} {cx : Cx} {B : Array Nat} {o : CO} {cos : List CO} {i : Nat} {t : T Value} {ds : List Deferred} {H : Hp} {A : List En} {K : T Value → List Deferred → Hp → Prop} {v : Value} (b : Nat) (hg : o.guard = none) (hr : run o.op t H = .val v H (bit b) 0) (hok : e.ok (bit b) 0 H) (hc : Chk B i (fun c => c = b) (fun _ => False) A)
    (hk : WD tb sp e cx B cos (i + 1) (putT cx.d t o.dst v) ds H (⟨i, fun c => c = b, fun _ => False⟩ :: A) K) : WD tb sp e cx B (o :: cos) i t ds H A K :=
  WD.val _ _ hg hr hok (Nat.le_refl _) (fun c hc => (bit_iff _ _).1 hc) (fun c hc => by rcases hc with hc | hc <;> first | (simp at hc; done) | omega) hc hk
def OwnO (N ty : Nat) (H : Hp) (bo : Option Nat) (v : Value) (L : List Value) : Prop :=
  (bo = none ∧ v = .slice none 0 0 ∧ L = []) ∨ ∃ b, bo = some b ∧ Own N ty H b v L
theorem OwnO.lt {N ty : Nat} {H : Hp} {b : Nat} {v : Value} {L : List Value} (h : OwnO N ty H (some b) v L) : b < H.nx := by
  rcases h with ⟨h, _⟩ | ⟨b', h1, h2⟩
  · cases h
  · cases h1; exact h2.lt
theorem OwnO.ge {N ty : Nat} {H : Hp} {b : Nat} {v : Value} {L : List Value} (h : OwnO N ty H (some b) v L) : N ≤ b := by
  rcases h with ⟨h, _⟩ | ⟨b', h1, h2⟩
  · cases h
  · cases h1; exact h2.ge
theorem OwnO.of_blk {N ty : Nat} {H H' : Hp} {bo : Option Nat} {v : Value} {L : List Value} (h : OwnO N ty H bo v L) (e : ∀ b, bo = some b → b < H.nx → H'.blk b = H.blk b) : OwnO N ty H' bo v L := by
  rcases h with h | ⟨b, h1, h2⟩
  · exact .inl h
  · exact .inr ⟨b, h1, h2.of_blk (e b h1 h2.lt)⟩
theorem OwnO.nil (N ty : Nat) (H : Hp) : OwnO N ty H none (.slice none 0 0) [] := .inl ⟨rfl, rfl, rfl⟩
theorem appO {e : Env} {N ty by_ b2 : Nat} {bo : Option Nat} {H : Hp} {v w : Value} {L : List Value} (ho : OwnO N ty H bo v L) (hrow : Row H b2 ty 0 [w]) (he : e.n0 ≤ N) (hb2 : N ≤ b2) (hf : H.isFn = true) (hby : by_ ≤ 24) (hlen : L.length < 2199023255552) :
    ∃ v' H3 r w', exApp ty 1 by_ v (.slice (some ⟨b2, 0, none⟩) 1 (2 * 1)) H = .val v' H3 r w' ∧ e.ok r w' H3 ∧ H3.nx = H.nx + 1 ∧ Own N ty H3 H.nx v' (L ++ [w]) ∧ H3.isFn = true ∧ (∀ c, c < H.nx → bo ≠ some c → H3.blk c = H.blk c) ∧
      (∀ b, r.testBit b = true → b = b2 ∨ bo = some b) ∧ ∀ b, w'.testBit b = true → bo = some b := by
  have hlt2 := hrow.lt
  have hb : (2 * (L.length + 1) + 768) * by_ ≤ 140737488355328 := by
    have h1 : (2 * (L.length + 1) + 768) * by_ ≤ (2 * 2199023255552 + 768) * 24 := Nat.mul_le_mul (by omega) hby
    omega
  have hok : okBytes (L.length + 1) by_ = true := okBytes_of hb (by omega)
  have hc : cellsOfV H 1 1 (.slice (some ⟨b2, 0, none⟩) 1 (2 * 1)) = some ([w], bit b2) := cellsOf_slice hrow (by simp)
  have hr0 : e.ok (bit b2) 0 H := .fresh hlt2 (by omega)
  rcases ho with ⟨rfl, rfl, rfl⟩ | ⟨b, rfl, ho⟩
  · refine ⟨_, _, _, _, exApp_nil (fn_room hf) (n := 1) (new := [w]) rfl (by omega) hc hok, ⟨hr0.rd, hr0.wr, fun c hcc => by rw [nx_push]; have := hr0.lt c hcc; omega⟩, by rw [nx_push], ⟨by omega, .inr ⟨row_push (fn_room hf) _ ty 2, rfl⟩⟩, by rw [isFn_push]; exact hf,
      fun c hc _ => blk_push_old (fn_room hf) _ hc, fun b hb => .inl ((bit_iff _ _).1 hb), fun b hb => by simp at hb⟩
  · have hlt := ho.lt
    have hge := ho.ge
    have hlen2 : (L ++ [w]).length = L.length + 1 := by simp
    rcases ho.form with ⟨h1, rfl⟩ | ⟨h1, rfl⟩
    · refine ⟨_, _, _, _, exApp_shut (fn_room hf) h1 (m := L.length) (by omega) rfl (by omega) hc hok, ?_, by rw [nx_push], ⟨by omega, .inr ⟨row_push (fn_room hf) (L ++ [w]) ty 2, by rw [hlen2]⟩⟩, by rw [isFn_push]; exact hf,
        fun c hc _ => blk_push_old (fn_room hf) _ hc, fun c hcc => ?_, fun c hcc => by simp at hcc⟩
      · have h2 := hr0.lor (Env.ok.fresh (e := e) (b := b) hlt (by omega)) (Nat.le_refl _)
        rw [lor_zero'] at h2
        exact ⟨h2.rd, h2.wr, fun c hcc => by rw [nx_push]; have := h2.lt c hcc; omega⟩
      · rw [lor_bit, Bool.or_eq_true] at hcc
        rcases hcc with hcc | hcc
        · exact .inl ((bit_iff _ _).1 hcc)
        · exact .inr (by rw [(bit_iff _ _).1 hcc])
    · refine ⟨_, _, _, _, exApp_open (fn_room hf) h1 (m := L.length) (by omega) rfl (by omega) hc hok, ?_, by rw [nx_push, nx_put], ⟨by omega, .inr ⟨?_, by rw [hlen2]⟩⟩, by rw [isFn_push, isFn_put]; exact hf,
        fun c hcl hcb => ?_, fun c hcc => .inl ((bit_iff _ _).1 hcc), fun c hcc => by rw [(bit_iff _ _).1 hcc]⟩
      · have h2 := hr0.lor (Env.ok.write (e := e) (b := b) hlt (fun h => absurd h (by omega))) (Nat.le_refl _)
        rw [lor_zero', zero_lor'] at h2
        exact ⟨h2.rd, h2.wr, fun c hcc => by rw [nx_push, nx_put]; have := h2.lt c hcc; omega⟩
      · have := row_push (H := H.put b .no) (by rw [room_put]; exact (fn_room hf)) (L ++ [w]) ty 2
        rwa [nx_put] at this
      · rw [blk_push_old (by rw [room_put]; exact (fn_room hf)) _ (by rw [nx_put]; exact hcl), blk_put_ne (fn_wf hf) _ hlt (fun e => hcb (by rw [e]))]
theorem exSt_row {H : Hp} {b ty op : Nat} {L vs : List Value} (hf : H.isFn = true) (h : Row H b ty op L) (hl : vs.length = L.length) :
    ∃ H', exSt L.length (.pointer (some ⟨b, 0, none⟩)) (.agg ⟨vs⟩) H = .val U H' 0 (bit b) ∧ Row H' b ty op vs ∧ H'.nx = H.nx ∧ H'.isFn = true ∧ ∀ c, c ≠ b → H'.blk c = H.blk c := by
  have hlt := h.lt
  obtain ⟨t, h1, h2⟩ := h
  refine ⟨H.put b (.cells (wrL (dep L.length) vs 0 t) L.length ty op 0 0), ?_, ⟨wrL (dep L.length) vs 0 t, ?_, fun i v hv => ?_⟩, nx_put _ _ _, by rw [isFn_put]; exact hf, fun c hc => blk_put_ne (fn_wf hf) _ hlt hc⟩
  · have e1 : wrN H b 0 vs = some (H.put b (.cells (wrL (dep L.length) vs 0 t) L.length ty op 0 0)) := by
      unfold wrN; rw [h1]; simp only []
      rw [(ble_iff _ _).2 (by omega), thawed_zero]; rfl
    show (match some vs with | some vs => Bc (Nat.beq vs.length L.length) (match wrN H b 0 vs with | some H' => R.val U H' 0 (bit b) | none => .fail) .fail | none => .fail) = _
    simp only [e1, (beq_iff _ _).2 hl, Bc_t]
  · rw [blk_put _ (fn_wf hf) hlt, if_pos rfl, hl]
  · have hd := lt_dep L.length
    have hi : i < vs.length := by
      rcases Nat.lt_or_ge i vs.length with h' | h'
      · exact h'
      · rw [List.getElem?_eq_none h'] at hv; cases hv
    rw [wrL_get _ _ _ _ _ (by omega) (by omega), if_pos ⟨by omega, by omega⟩]
    simp [List.getD, hv]
theorem take2 {α : Type} {l : List α} {o : Nat} {a b : α} (h1 : l[o]? = some a) (h2 : l[o + 1]? = some b) : (l.drop o).take 2 = [a, b] := by
  apply List.ext_getElem?
  intro i
  rcases i with _ | _ | i
  · simp [h1]
  · simp [h2]
  · rw [List.getElem?_eq_none (by simp; omega), List.getElem?_eq_none (by simp)]
end
end Go.Ev
end
noncomputable section
namespace Go.Ev
variable [SyQ]
def Env.sub (e : Env) (N0 nx : Nat) : Env := ⟨nx, fun b => b < N0 ∧ (b < e.n0 → e.Rd b), fun _ => False⟩
section
variable (tb : Tb) (sp : Nat → List Value → Hp → Option (Value × Hp × Nat × Nat)) (e : Env) (N0 : Nat)
mutual
def WOQ (d : Nat) (K : T Value → Hp → Prop) : List CO → T Value → Hp → Prop
  | [], t, H => K t H
  | o :: cos, t, H => (match wants t o.guard with
    | true => (match run o.op t H with
      | .val v H1 r w => e.ok r 0 H1 ∧ w = 0 ∧ H.nx ≤ H1.nx ∧ (∀ b, r.testBit b = true → b < N0) ∧ WOQ d K cos (putT d t o.dst v) H1
      | .call f args => EC tb sp (e.sub N0 H.nx) f args H (WOQk d K cos t o.dst)
      | _ => False)
    | false => WOQ d K cos (putT d t o.dst U) H)
def WOQk (d : Nat) (K : T Value → Hp → Prop) (cos : List CO) (t : T Value) (dst : Option Tmp) : Value → Hp → Prop := fun v H1 => WOQ d K cos (putT d t dst v) H1
end
end
section
variable {tb : Tb} {sp : Nat → List Value → Hp → Option (Value × Hp × Nat × Nat)} {e : Env} {N0 : Nat}
def Tame (N0 nx : Nat) (A : List En) : Prop := ∀ en ∈ A, (∀ b, en.W b → N0 ≤ b ∧ b < nx) ∧ ∀ b, en.R b → b < nx
theorem Tame.mono {N0 nx nx' : Nat} {A : List En} (h : Tame N0 nx A) (hn : nx ≤ nx') : Tame N0 nx' A := fun en hm =>
  ⟨fun b hb => ⟨((h en hm).1 b hb).1, Nat.lt_of_lt_of_le ((h en hm).1 b hb).2 hn⟩, fun b hb => Nat.lt_of_lt_of_le ((h en hm).2 b hb) hn⟩
theorem Tame.chk {nx : Nat} {A : List En} {B : Array Nat} {i : Nat} {R W : Nat → Prop} (h : Tame N0 nx A) (hN : N0 ≤ nx) (hR : ∀ b, R b → b < N0 ∨ nx ≤ b) (hW : ∀ b, W b → nx ≤ b) : Chk B i R W A := by
  intro en hm
  obtain ⟨h1, h2⟩ := h en hm
  refine .inr ⟨fun b hb => ⟨fun hr => ?_, fun hw => ?_⟩, fun b hw hr => ?_⟩
  · have := h1 b hb
    rcases hR b hr with h | h <;> omega
  · have := h1 b hb; have := hW b hw; omega
  · have := h2 b hr; have := hW b hw; omega
theorem Tame.cons {nx nx' : Nat} {A : List En} {i : Nat} {R W : Nat → Prop} (h : Tame N0 nx A) (hn : nx ≤ nx') (hN : N0 ≤ nx) (hR : ∀ b, R b → b < nx') (hW : ∀ b, W b → nx ≤ b ∧ b < nx') : Tame N0 nx' (⟨i, R, W⟩ :: A) := by
  intro en hm
  rcases List.mem_cons.1 hm with rfl | hm
  · exact ⟨fun b hb => ⟨Nat.le_trans hN (hW b hb).1, (hW b hb).2⟩, hR⟩
  · exact h.mono hn en hm
theorem WD.of_woq {cx : Cx} {B : Array Nat} {K : T Value → Hp → Prop} {ds : List Deferred} (he : e.n0 ≤ N0) : ∀ {cos : List CO} {i : Nat} {t : T Value} {H : Hp} {A : List En}, N0 ≤ H.nx → Tame N0 H.nx A → WOQ tb sp e N0 cx.d K cos t H →
    WD tb sp e cx B cos i t ds H A (fun t' ds' H' => ds' = ds ∧ K t' H') := by
  intro cos
  induction cos with
  | nil => intro i t H A _ _ h; rw [WOQ] at h; exact WD.nil ⟨rfl, h⟩
  | cons o cos ih =>
    intro i t H A hN hA h
    rw [WOQ] at h
    cases hg : wants t o.guard with
    | false =>
      rw [hg] at h
      exact WD.skip hg (ih hN hA h)
    | true =>
      rw [hg] at h
      refine WD.cons hg ?_
      revert h
      cases run o.op t H with
      | val v H1 r w =>
        rintro ⟨h1, rfl, h2, h3, h4⟩
        refine ⟨h1, h2, .inr ⟨fun b => b < N0, fun b => H.nx ≤ b ∧ b < H1.nx, h3, fun b hb => ?_, hA.chk hN (fun b hb => .inl hb) (fun b hb => hb.1), ih (Nat.le_trans hN h2) (hA.cons h2 hN (fun b hb => ?_) fun b hb => hb) h4⟩⟩
        · rcases hb with hb | hb
          · simp at hb
          · exact hb
        · exact Nat.lt_of_lt_of_le hb (Nat.le_trans hN h2)
      | call f args =>
        intro h
        refine ⟨e.sub N0 H.nx, Nat.le_trans he hN, rfl, fun b hb hr => hr.2 hb, fun b _ hw => hw.elim, EC.mono h fun v H1 hle hk R W hR hW => ?_⟩
        rw [WOQk] at hk
        have hR' : ∀ b, R b → b < N0 ∨ H.nx ≤ b := fun b hb => by
          rcases (hR b).1 hb with h | h
          · exact .inl h.2.1
          · exact .inr h.1
        have hW' : ∀ b, W b → H.nx ≤ b ∧ b < H1.nx := fun b hb => by
          rcases (hW b).1 hb with h | h
          · exact h.2.elim
          · exact h
        refine ⟨hA.chk hN hR' (fun b hb => (hW' b hb).1), ih (Nat.le_trans hN hle) (hA.cons hle hN (fun b hb => ?_) hW') hk⟩
        rcases (hR b).1 hb with h | h
        · exact Nat.lt_of_lt_of_le h.1 hle
        · exact h.2
      | _ => exact fun h => h.elim
theorem WOQ.mono {d : Nat} {K K' : T Value → Hp → Prop} (hk : ∀ t' H', K' t' H' → K t' H') : ∀ {cos : List CO} {t : T Value} {H : Hp}, WOQ tb sp e N0 d K' cos t H → WOQ tb sp e N0 d K cos t H := by
  intro cos
  induction cos with
  | nil => intro t H h; rw [WOQ] at *; exact hk t H h
  | cons o cos ih =>
    intro t H h
    rw [WOQ] at h ⊢
    cases hg : wants t o.guard with
    | true =>
      rw [hg] at h
      revert h
      cases run o.op t H with
      | val v H' r w => exact fun h => ⟨h.1, h.2.1, h.2.2.1, h.2.2.2.1, ih h.2.2.2.2⟩
      | call f args => exact fun h => h.mono fun v H1 _ hh => by rw [WOQk] at *; exact ih hh
      | _ => exact fun h => h.elim
    | false => rw [hg] at h; exact ih h
theorem WK.draw_q {cx : Cx} {B : Array Nat} {cos : List CO} {t : T Value} {ds : List Deferred} {H : Hp} {K : Ex → T Value → List Deferred → Hp → Prop} (K' : T Value → Hp → Prop) (he : e.n0 ≤ H.nx)
    (h : WOQ tb sp e H.nx cx.d K' cos t H) (hk : ∀ t' H', K' t' H' → K .normal t' ds H') : WK tb sp e cx (.draw B cos) t ds H K := by
  refine WK.draw ?_
  obtain ⟨N, t', ds', H', r, w, h1, h2, h3, rfl, h4⟩ := WD.of_woq (B := B) (ds := ds) (i := 0) (A := []) he (Nat.le_refl _) (fun en hm => by cases hm) h
  exact ⟨N, t', _, H', r, w, h1, h2, h3, hk _ _ h4⟩
theorem bit_lt {b N0 : Nat} (h : b < N0) : ∀ c, (bit b).testBit c = true → c < N0 := fun c hc => by rw [(bit_iff b c).1 hc]; exact h
theorem zero_bit {N0 : Nat} : ∀ c, Nat.testBit 0 c = true → c < N0 := fun c hc => by simp at hc
end
end Go.Ev
end
noncomputable section
namespace Go.Ev
variable [SyQ]
inductive Cl where
  | p | q | l
def chkCl (B : Array Nat) : Nat → List Nat → List Cl → Bool
  | _, _, [] => true
  | i, ps, c :: cl => (match c with
    | .p => chkCl B (i + 1) ps cl
    | .q => chkCl B (i + 1) (i :: ps) cl
    | .l => ps.all (fun j => (B.getD i 0).testBit j) && chkCl B (i + 1) (i :: ps) cl)
def Env.subL (e : Env) (N0 nx : Nat) : Env := ⟨nx, fun b => b < e.n0 → e.Rd b, fun b => N0 ≤ b⟩
section
variable (tb : Tb) (sp : Nat → List Value → Hp → Option (Value × Hp × Nat × Nat)) (e : Env) (N0 : Nat)
mutual
def WOC (d : Nat) (K : T Value → Hp → Prop) : List CO → List Cl → T Value → Hp → Prop
  | [], _, t, H => K t H
  | _ :: _, [], _, _ => False
  | o :: cos, c :: cl, t, H => (match wants t o.guard with
    | true => (match run o.op t H with
      | .val v H1 r w => (match c with
        | .p => r = 0 ∧ w = 0 ∧ H1 = H ∧ WOC d K cos cl (putT d t o.dst v) H1
        | .q => e.ok r 0 H1 ∧ w = 0 ∧ H.nx ≤ H1.nx ∧ (∀ b, r.testBit b = true → b < N0) ∧ WOC d K cos cl (putT d t o.dst v) H1
        | .l => e.ok r w H1 ∧ H.nx ≤ H1.nx ∧ (∀ b, w.testBit b = true → N0 ≤ b) ∧ WOC d K cos cl (putT d t o.dst v) H1)
      | .call f args => (match c with
        | .p => False
        | .q => EC tb sp (e.sub N0 H.nx) f args H (WOCk d K cos cl t o.dst)
        | .l => EC tb sp (e.subL N0 H.nx) f args H (WOCk d K cos cl t o.dst))
      | _ => False)
    | false => WOC d K cos cl (putT d t o.dst U) H)
def WOCk (d : Nat) (K : T Value → Hp → Prop) (cos : List CO) (cl : List Cl) (t : T Value) (dst : Option Tmp) : Value → Hp → Prop := fun v H1 => WOC d K cos cl (putT d t dst v) H1
end
end
section
variable {tb : Tb} {sp : Nat → List Value → Hp → Option (Value × Hp × Nat × Nat)} {e : Env} {N0 : Nat}
theorem Chk.ord {B : Array Nat} {i : Nat} {R W : Nat → Prop} {A : List En} {ps : List Nat} (hA : ∀ en ∈ A, en.i ∈ ps) (h : ps.all (fun j => (B.getD i 0).testBit j) = true) : Chk B i R W A := fun en hm => .inl (List.all_eq_true.1 h _ (hA en hm))
theorem ps_cons {A : List En} {ps : List Nat} {i : Nat} {R W : Nat → Prop} (hA : ∀ en ∈ A, en.i ∈ ps) : ∀ en ∈ (⟨i, R, W⟩ :: A : List En), en.i ∈ i :: ps := fun en hm => by
  rcases List.mem_cons.1 hm with rfl | hm
  · exact List.mem_cons_self
  · exact List.mem_cons_of_mem _ (hA en hm)
theorem WD.of_woc {cx : Cx} {B : Array Nat} {K : T Value → Hp → Prop} {ds : List Deferred} (he : e.n0 ≤ N0) : ∀ {cos : List CO} {cl : List Cl} {ps : List Nat} {i : Nat} {t : T Value} {H : Hp} {A : List En}, N0 ≤ H.nx → Tame N0 H.nx A → (∀ en ∈ A, en.i ∈ ps) → chkCl B i ps cl = true → WOC tb sp e N0 cx.d K cos cl t H →
    WD tb sp e cx B cos i t ds H A (fun t' ds' H' => ds' = ds ∧ K t' H') := by
  intro cos
  induction cos with
  | nil => intro cl ps i t H A _ _ _ _ h; rw [WOC] at h; exact WD.nil ⟨rfl, h⟩
  | cons o cos ih =>
    intro cl ps i t H A hN hA hps hcl h
    cases cl with
    | nil => rw [WOC] at h; exact h.elim
    | cons c cl =>
    rw [WOC] at h
    cases hg : wants t o.guard with
    | false =>
      rw [hg] at h
      refine WD.skip hg ?_
      cases c with
      | p => exact ih hN hA hps (by simpa only [chkCl] using hcl) h
      | q => exact ih (ps := i :: ps) hN hA (fun en hm => List.mem_cons_of_mem _ (hps en hm)) (by simpa only [chkCl] using hcl) h
      | l => exact ih (ps := i :: ps) hN hA (fun en hm => List.mem_cons_of_mem _ (hps en hm)) (by simp only [chkCl, Bool.and_eq_true] at hcl; exact hcl.2) h
    | true =>
      rw [hg] at h
      refine WD.cons hg ?_
      revert h
      cases run o.op t H with
      | val v H1 r w =>
        cases c with
        | p =>
          rintro ⟨rfl, rfl, rfl, h⟩
          exact ⟨.zero _ _, Nat.le_refl _, .inl ⟨rfl, rfl, rfl, ih hN hA hps (by simpa only [chkCl] using hcl) h⟩⟩
        | q =>
          rintro ⟨h1, rfl, h2, h3, h4⟩
          refine ⟨h1, h2, .inr ⟨fun b => b < N0, fun b => H.nx ≤ b ∧ b < H1.nx, h3, fun b hb => ?_, hA.chk hN (fun b hb => .inl hb) (fun b hb => hb.1), ih (ps := i :: ps) (Nat.le_trans hN h2) (hA.cons h2 hN (fun b hb => ?_) fun b hb => hb) (ps_cons hps) (by simpa only [chkCl] using hcl) h4⟩⟩
          · rcases hb with hb | hb
            · simp at hb
            · exact hb
          · exact Nat.lt_of_lt_of_le hb (Nat.le_trans hN h2)
        | l =>
          rintro ⟨h1, h2, h3, h4⟩
          simp only [chkCl, Bool.and_eq_true] at hcl
          refine ⟨h1, h2, .inr ⟨fun b => r.testBit b = true, fun b => w.testBit b = true ∨ (H.nx ≤ b ∧ b < H1.nx), fun b hb => hb, fun b hb => hb, Chk.ord hps hcl.1, ih (ps := i :: ps) (Nat.le_trans hN h2) (fun en hm => ?_) (ps_cons hps) hcl.2 h4⟩⟩
          rcases List.mem_cons.1 hm with rfl | hm
          · refine ⟨fun b hb => ?_, fun b hb => h1.lt b (.inl hb)⟩
            rcases hb with hb | hb
            · exact ⟨h3 b hb, h1.lt b (.inr hb)⟩
            · exact ⟨Nat.le_trans hN hb.1, hb.2⟩
          · exact hA.mono h2 en hm
      | call f args =>
        cases c with
        | p => exact fun h => h.elim
        | q =>
          intro h
          refine ⟨e.sub N0 H.nx, Nat.le_trans he hN, rfl, fun b hb hr => hr.2 hb, fun b _ hw => hw.elim, EC.mono h fun v H1 hle hk R W hR hW => ?_⟩
          rw [WOCk] at hk
          have hR' : ∀ b, R b → b < N0 ∨ H.nx ≤ b := fun b hb => by
            rcases (hR b).1 hb with h | h
            · exact .inl h.2.1
            · exact .inr h.1
          have hW' : ∀ b, W b → H.nx ≤ b ∧ b < H1.nx := fun b hb => by
            rcases (hW b).1 hb with h | h
            · exact h.2.elim
            · exact h
          refine ⟨hA.chk hN hR' (fun b hb => (hW' b hb).1), ih (ps := i :: ps) (Nat.le_trans hN hle) (hA.cons hle hN (fun b hb => ?_) hW') (ps_cons hps) (by simpa only [chkCl] using hcl) hk⟩
          rcases (hR b).1 hb with h | h
          · exact Nat.lt_of_lt_of_le h.1 hle
          · exact h.2
        | l =>
          intro h
          simp only [chkCl, Bool.and_eq_true] at hcl
          refine ⟨e.subL N0 H.nx, Nat.le_trans he hN, rfl, fun b hb hr => hr hb, fun b hb hw => ?_, EC.mono h fun v H1 hle hk R W hR hW => ?_⟩
          · have hw' : N0 ≤ b := hw
            omega
          rw [WOCk] at hk
          refine ⟨Chk.ord hps hcl.1, ih (ps := i :: ps) (Nat.le_trans hN hle) (fun en hm => ?_) (ps_cons hps) hcl.2 hk⟩
          rcases List.mem_cons.1 hm with rfl | hm
          · refine ⟨fun b hb => ?_, fun b hb => ?_⟩
            · rcases (hW b).1 hb with h | h
              · exact ⟨h.2, Nat.lt_of_lt_of_le h.1 hle⟩
              · exact ⟨Nat.le_trans hN h.1, h.2⟩
            · rcases (hR b).1 hb with h | h
              · exact Nat.lt_of_lt_of_le h.1 hle
              · exact h.2
          · exact hA.mono hle en hm
      | _ => exact fun h => h.elim
theorem WOC.mono {d : Nat} {K K' : T Value → Hp → Prop} (hk : ∀ t' H', K' t' H' → K t' H') : ∀ {cos : List CO} {cl : List Cl} {t : T Value} {H : Hp}, WOC tb sp e N0 d K' cos cl t H → WOC tb sp e N0 d K cos cl t H := by
  intro cos
  induction cos with
  | nil => intro cl t H h; rw [WOC] at *; exact hk t H h
  | cons o cos ih =>
    intro cl t H h
    cases cl with
    | nil => rw [WOC] at h; exact h.elim
    | cons c cl =>
    rw [WOC] at h ⊢
    cases hg : wants t o.guard with
    | true =>
      rw [hg] at h
      revert h
      cases run o.op t H with
      | val v H' r w =>
        cases c with
        | p => exact fun h => ⟨h.1, h.2.1, h.2.2.1, ih h.2.2.2⟩
        | q => exact fun h => ⟨h.1, h.2.1, h.2.2.1, h.2.2.2.1, ih h.2.2.2.2⟩
        | l => exact fun h => ⟨h.1, h.2.1, h.2.2.1, ih h.2.2.2⟩
      | call f args =>
        cases c with
        | p => exact fun h => h.elim
        | q => exact fun h => h.mono fun v H1 _ hh => by rw [WOCk] at *; exact ih hh
        | l => exact fun h => h.mono fun v H1 _ hh => by rw [WOCk] at *; exact ih hh
      | _ => exact fun h => h.elim
    | false => rw [hg] at h; exact ih h
theorem WK.draw_c {cx : Cx} {B : Array Nat} {cos : List CO} {t : T Value} {ds : List Deferred} {H : Hp} {K : Ex → T Value → List Deferred → Hp → Prop} (cl : List Cl) (K' : T Value → Hp → Prop) (he : e.n0 ≤ H.nx) (hc : chkCl B 0 [] cl = true)
    (h : WOC tb sp e H.nx cx.d K' cos cl t H) (hk : ∀ t' H', K' t' H' → K .normal t' ds H') : WK tb sp e cx (.draw B cos) t ds H K := by
  refine WK.draw ?_
  obtain ⟨N, t', ds', H', r, w, h1, h2, h3, rfl, h4⟩ := WD.of_woc (B := B) (ds := ds) (i := 0) (A := []) (ps := []) he (Nat.le_refl _) (fun en hm => by cases hm) (fun en hm => by cases hm) hc h
  exact ⟨N, t', _, H', r, w, h1, h2, h3, hk _ _ h4⟩
end
end Go.Ev
end
noncomputable section
namespace Go.Ev
variable [SyQ]
inductive C4 where
  | p | q | l | x | u | y | z
def chkC4 (B : Array Nat) : Nat → List Nat → List Nat → List Nat → List C4 → Bool
  | _, _, _, _, [] => true
  | i, ps, qs, xs, c :: cl => (match c with
    | .p => chkC4 B (i + 1) ps qs xs cl
    | .q => xs.all (fun j => (B.getD i 0).testBit j) && chkC4 B (i + 1) (i :: ps) (i :: qs) xs cl
    | .l => ps.all (fun j => (B.getD i 0).testBit j) && chkC4 B (i + 1) (i :: ps) (i :: qs) xs cl
    | .x => ps.all (fun j => (B.getD i 0).testBit j) && chkC4 B (i + 1) (i :: ps) (i :: qs) (i :: xs) cl
    | .u => xs.all (fun j => (B.getD i 0).testBit j) && chkC4 B (i + 1) (i :: ps) qs xs cl
    | .y => qs.all (fun j => (B.getD i 0).testBit j) && chkC4 B (i + 1) (i :: ps) (i :: qs) (i :: xs) cl
    | .z => qs.all (fun j => (B.getD i 0).testBit j) && chkC4 B (i + 1) (i :: ps) (i :: qs) (i :: xs) cl)
def Env.subX (e : Env) (nx : Nat) : Env := ⟨nx, fun b => b < e.n0 → e.Rd b, fun b => b < e.n0 → e.Wr b⟩
section
variable (tb : Tb) (sp : Nat → List Value → Hp → Option (Value × Hp × Nat × Nat)) (e : Env) (N0 : Nat) (Us : Nat → Prop)
mutual
def WOX (d : Nat) (K : T Value → Hp → Prop) : List CO → List C4 → T Value → Hp → Prop
  | [], _, t, H => K t H
  | _ :: _, [], _, _ => False
  | o :: cos, c :: cl, t, H => (match wants t o.guard with
    | true => (match run o.op t H with
      | .val v H1 r w => (match c with
        | .p => r = 0 ∧ w = 0 ∧ H1 = H ∧ WOX d K cos cl (putT d t o.dst v) H1
        | .q => e.ok r 0 H1 ∧ w = 0 ∧ H.nx ≤ H1.nx ∧ (∀ b, r.testBit b = true → b < N0) ∧ WOX d K cos cl (putT d t o.dst v) H1
        | .l => e.ok r w H1 ∧ H.nx ≤ H1.nx ∧ (∀ b, w.testBit b = true → N0 ≤ b) ∧ WOX d K cos cl (putT d t o.dst v) H1
        | .x => e.ok r w H1 ∧ H.nx ≤ H1.nx ∧ WOX d K cos cl (putT d t o.dst v) H1
        | .u => e.ok r 0 H1 ∧ w = 0 ∧ H1 = H ∧ (∀ b, r.testBit b = true → b < N0 ∧ Us b) ∧ WOX d K cos cl (putT d t o.dst v) H1
        | .y => e.ok r w H1 ∧ H1.nx = H.nx ∧ r = 0 ∧ (∀ b, w.testBit b = true → ¬ Us b) ∧ WOX d K cos cl (putT d t o.dst v) H1
        | .z => e.ok r w H1 ∧ H.nx ≤ H1.nx ∧ (∀ b, w.testBit b = true ∨ (H.nx ≤ b ∧ b < H1.nx) → ¬ Us b) ∧ WOX d K cos cl (putT d t o.dst v) H1)
      | .call f args => (match c with
        | .p => False
        | .q => EC tb sp (e.sub N0 H.nx) f args H (WOXk d K cos cl t o.dst)
        | .l => EC tb sp (e.subL N0 H.nx) f args H (WOXk d K cos cl t o.dst)
        | .x => EC tb sp (e.subX H.nx) f args H (WOXk d K cos cl t o.dst)
        | _ => False)
      | _ => False)
    | false => WOX d K cos cl (putT d t o.dst U) H)
def WOXk (d : Nat) (K : T Value → Hp → Prop) (cos : List CO) (cl : List C4) (t : T Value) (dst : Option Tmp) : Value → Hp → Prop := fun v H1 => WOX d K cos cl (putT d t dst v) H1
end
end
section
variable {tb : Tb} {sp : Nat → List Value → Hp → Option (Value × Hp × Nat × Nat)} {e : Env} {N0 : Nat} {Us : Nat → Prop}
def TameX (N0 nx : Nat) (xs : List Nat) (A : List En) : Prop := ∀ en ∈ A, en.i ∈ xs ∨ ((∀ b, en.W b → N0 ≤ b ∧ b < nx) ∧ ∀ b, en.R b → b < nx)
theorem TameX.mono {nx nx' : Nat} {xs : List Nat} {A : List En} (h : TameX N0 nx xs A) (hn : nx ≤ nx') : TameX N0 nx' xs A := fun en hm =>
  (h en hm).imp id fun h => ⟨fun b hb => ⟨(h.1 b hb).1, Nat.lt_of_lt_of_le (h.1 b hb).2 hn⟩, fun b hb => Nat.lt_of_lt_of_le (h.2 b hb) hn⟩
theorem TameX.chk {nx : Nat} {xs : List Nat} {A : List En} {B : Array Nat} {i : Nat} {R W : Nat → Prop} (h : TameX N0 nx xs A) (hx : xs.all (fun j => (B.getD i 0).testBit j) = true) (hN : N0 ≤ nx) (hR : ∀ b, R b → b < N0 ∨ nx ≤ b) (hW : ∀ b, W b → nx ≤ b) : Chk B i R W A := by
  intro en hm
  rcases h en hm with h | ⟨h1, h2⟩
  · exact .inl (List.all_eq_true.1 hx _ h)
  refine .inr ⟨fun b hb => ⟨fun hr => ?_, fun hw => ?_⟩, fun b hw hr => ?_⟩
  · have := h1 b hb
    rcases hR b hr with h | h <;> omega
  · have := h1 b hb; have := hW b hw; omega
  · have := h2 b hr; have := hW b hw; omega
theorem TameX.cons {nx nx' : Nat} {xs : List Nat} {A : List En} {i : Nat} {R W : Nat → Prop} (h : TameX N0 nx xs A) (hn : nx ≤ nx') (hR : ∀ b, R b → b < nx') (hW : ∀ b, W b → N0 ≤ b ∧ b < nx') : TameX N0 nx' xs (⟨i, R, W⟩ :: A) := by
  intro en hm
  rcases List.mem_cons.1 hm with rfl | hm
  · exact .inr ⟨hW, hR⟩
  · exact h.mono hn en hm
theorem TameX.alone {nx nx' : Nat} {xs : List Nat} {A : List En} {i : Nat} {R W : Nat → Prop} (h : TameX N0 nx xs A) (hn : nx ≤ nx') : TameX N0 nx' (i :: xs) (⟨i, R, W⟩ :: A) := by
  intro en hm
  rcases List.mem_cons.1 hm with rfl | hm
  · exact .inl List.mem_cons_self
  · exact (h.mono hn en hm).imp (List.mem_cons_of_mem _) id
theorem TameX.more {nx : Nat} {xs : List Nat} {A : List En} (i : Nat) (h : TameX N0 nx xs A) : TameX N0 nx (i :: xs) A := fun en hm => (h en hm).imp (List.mem_cons_of_mem _) id
def Reads (Us : Nat → Prop) (qs : List Nat) (A : List En) : Prop := ∀ en ∈ A, en.i ∈ qs ∨ ((∀ b, en.R b → Us b) ∧ ∀ b, ¬ en.W b)
theorem Reads.cons {qs : List Nat} {A : List En} {i : Nat} {R W : Nat → Prop} (h : Reads Us qs A) : Reads Us (i :: qs) (⟨i, R, W⟩ :: A) := fun en hm => by
  rcases List.mem_cons.1 hm with rfl | hm
  · exact .inl List.mem_cons_self
  · exact (h en hm).imp (List.mem_cons_of_mem _) id
theorem Reads.more {qs : List Nat} {A : List En} (i : Nat) (h : Reads Us qs A) : Reads Us (i :: qs) A := fun en hm => (h en hm).imp (List.mem_cons_of_mem _) id
theorem WD.of_wox {cx : Cx} {B : Array Nat} {K : T Value → Hp → Prop} {ds : List Deferred} (he : e.n0 ≤ N0) : ∀ {cos : List CO} {cl : List C4} {ps qs xs : List Nat} {i : Nat} {t : T Value} {H : Hp} {A : List En}, N0 ≤ H.nx → TameX N0 H.nx xs A → (∀ en ∈ A, en.i ∈ ps) → Reads Us qs A → chkC4 B i ps qs xs cl = true → WOX tb sp e N0 Us cx.d K cos cl t H →
    WD tb sp e cx B cos i t ds H A (fun t' ds' H' => ds' = ds ∧ K t' H') := by
  intro cos
  induction cos with
  | nil => intro cl ps qs xs i t H A _ _ _ _ _ h; rw [WOX] at h; exact WD.nil ⟨rfl, h⟩
  | cons o cos ih =>
    intro cl ps qs xs i t H A hN hA hps hqs hcl h
    cases cl with
    | nil => rw [WOX] at h; exact h.elim
    | cons c cl =>
    rw [WOX] at h
    have hps' : ∀ en ∈ A, en.i ∈ i :: ps := fun en hm => List.mem_cons_of_mem _ (hps en hm)
    cases hg : wants t o.guard with
    | false =>
      rw [hg] at h
      refine WD.skip hg ?_
      cases c with
      | p => exact ih hN hA hps hqs (by simpa only [chkC4] using hcl) h
      | q => exact ih hN hA hps' (hqs.more i) (by simp only [chkC4, Bool.and_eq_true] at hcl; exact hcl.2) h
      | l => exact ih hN hA hps' (hqs.more i) (by simp only [chkC4, Bool.and_eq_true] at hcl; exact hcl.2) h
      | x => exact ih hN (hA.more i) hps' (hqs.more i) (by simp only [chkC4, Bool.and_eq_true] at hcl; exact hcl.2) h
      | u => exact ih hN hA hps' hqs (by simp only [chkC4, Bool.and_eq_true] at hcl; exact hcl.2) h
      | y => exact ih hN (hA.more i) hps' (hqs.more i) (by simp only [chkC4, Bool.and_eq_true] at hcl; exact hcl.2) h
      | z => exact ih hN (hA.more i) hps' (hqs.more i) (by simp only [chkC4, Bool.and_eq_true] at hcl; exact hcl.2) h
    | true =>
      rw [hg] at h
      refine WD.cons hg ?_
      revert h
      cases run o.op t H with
      | val v H1 r w =>
        cases c with
        | p =>
          rintro ⟨rfl, rfl, rfl, h⟩
          exact ⟨.zero _ _, Nat.le_refl _, .inl ⟨rfl, rfl, rfl, ih hN hA hps hqs (by simpa only [chkC4] using hcl) h⟩⟩
        | q =>
          rintro ⟨h1, rfl, h2, h3, h4⟩
          simp only [chkC4, Bool.and_eq_true] at hcl
          refine ⟨h1, h2, .inr ⟨fun b => b < N0, fun b => H.nx ≤ b ∧ b < H1.nx, h3, fun b hb => ?_, hA.chk hcl.1 hN (fun b hb => .inl hb) (fun b hb => hb.1), ih (Nat.le_trans hN h2) (hA.cons h2 (fun b hb => ?_) fun b hb => ⟨Nat.le_trans hN hb.1, hb.2⟩) (ps_cons hps) hqs.cons hcl.2 h4⟩⟩
          · rcases hb with hb | hb
            · simp at hb
            · exact hb
          · exact Nat.lt_of_lt_of_le hb (Nat.le_trans hN h2)
        | l =>
          rintro ⟨h1, h2, h3, h4⟩
          simp only [chkC4, Bool.and_eq_true] at hcl
          refine ⟨h1, h2, .inr ⟨fun b => r.testBit b = true, fun b => w.testBit b = true ∨ (H.nx ≤ b ∧ b < H1.nx), fun b hb => hb, fun b hb => hb, Chk.ord hps hcl.1, ih (Nat.le_trans hN h2) (hA.cons h2 (fun b hb => h1.lt b (.inl hb)) fun b hb => ?_) (ps_cons hps) hqs.cons hcl.2 h4⟩⟩
          rcases hb with hb | hb
          · exact ⟨h3 b hb, h1.lt b (.inr hb)⟩
          · exact ⟨Nat.le_trans hN hb.1, hb.2⟩
        | x =>
          rintro ⟨h1, h2, h4⟩
          simp only [chkC4, Bool.and_eq_true] at hcl
          exact ⟨h1, h2, .inr ⟨fun b => r.testBit b = true, fun b => w.testBit b = true ∨ (H.nx ≤ b ∧ b < H1.nx), fun b hb => hb, fun b hb => hb, Chk.ord hps hcl.1, ih (Nat.le_trans hN h2) (hA.alone h2) (ps_cons hps) hqs.cons hcl.2 h4⟩⟩
        | u =>
          rintro ⟨h1, rfl, rfl, h3, h4⟩
          simp only [chkC4, Bool.and_eq_true] at hcl
          refine ⟨h1, Nat.le_refl _, .inr ⟨fun b => b < N0 ∧ Us b, fun _ => False, h3, fun b hb => ?_, hA.chk hcl.1 hN (fun b hb => .inl hb.1) (fun b hb => hb.elim), ih hN (hA.cons (Nat.le_refl _) (fun b hb => Nat.lt_of_lt_of_le hb.1 hN) fun b hb => hb.elim) (ps_cons hps) ?_ hcl.2 h4⟩⟩
          · rcases hb with hb | hb
            · simp at hb
            · omega
          · intro en hm
            rcases List.mem_cons.1 hm with rfl | hm
            · exact .inr ⟨fun b hb => hb.2, fun b hb => hb⟩
            · exact hqs en hm
        | y =>
          rintro ⟨h1, h2, rfl, h3, h4⟩
          simp only [chkC4, Bool.and_eq_true] at hcl
          refine ⟨h1, by omega, .inr ⟨fun _ => False, fun b => ¬ Us b, fun b hb => by simp at hb, fun b hb => ?_, fun en hm => ?_, ih (by omega) (hA.alone (by omega)) (ps_cons hps) hqs.cons hcl.2 h4⟩⟩
          · rcases hb with hb | hb
            · exact h3 b hb
            · omega
          · rcases hqs en hm with hq | ⟨hq1, hq2⟩
            · exact .inl (List.all_eq_true.1 hcl.1 _ hq)
            · exact .inr ⟨fun b hb => absurd hb (hq2 b), fun b hb hr => hb (hq1 b hr)⟩
        | z =>
          rintro ⟨h1, h2, h3, h4⟩
          simp only [chkC4, Bool.and_eq_true] at hcl
          refine ⟨h1, h2, .inr ⟨fun b => r.testBit b = true, fun b => w.testBit b = true ∨ (H.nx ≤ b ∧ b < H1.nx), fun b hb => hb, fun b hb => hb, fun en hm => ?_, ih (Nat.le_trans hN h2) (hA.alone h2) (ps_cons hps) hqs.cons hcl.2 h4⟩⟩
          rcases hqs en hm with hq | ⟨hq1, hq2⟩
          · exact .inl (List.all_eq_true.1 hcl.1 _ hq)
          · exact .inr ⟨fun b hb => absurd hb (hq2 b), fun b hb hr => h3 b hb (hq1 b hr)⟩
      | call f args =>
        cases c with
        | p => exact fun h => h.elim
        | q =>
          intro h
          simp only [chkC4, Bool.and_eq_true] at hcl
          refine ⟨e.sub N0 H.nx, Nat.le_trans he hN, rfl, fun b hb hr => hr.2 hb, fun b _ hw => hw.elim, EC.mono h fun v H1 hle hk R W hR hW => ?_⟩
          rw [WOXk] at hk
          have hR' : ∀ b, R b → b < N0 ∨ H.nx ≤ b := fun b hb => by
            rcases (hR b).1 hb with h | h
            · exact .inl h.2.1
            · exact .inr h.1
          have hW' : ∀ b, W b → H.nx ≤ b ∧ b < H1.nx := fun b hb => by
            rcases (hW b).1 hb with h | h
            · exact h.2.elim
            · exact h
          refine ⟨hA.chk hcl.1 hN hR' (fun b hb => (hW' b hb).1), ih (Nat.le_trans hN hle) (hA.cons hle (fun b hb => ?_) fun b hb => ⟨Nat.le_trans hN (hW' b hb).1, (hW' b hb).2⟩) (ps_cons hps) hqs.cons hcl.2 hk⟩
          rcases (hR b).1 hb with h | h
          · exact Nat.lt_of_lt_of_le h.1 hle
          · exact h.2
        | l =>
          intro h
          simp only [chkC4, Bool.and_eq_true] at hcl
          refine ⟨e.subL N0 H.nx, Nat.le_trans he hN, rfl, fun b hb hr => hr hb, fun b hb hw => ?_, EC.mono h fun v H1 hle hk R W hR hW => ?_⟩
          · have hw' : N0 ≤ b := hw
            omega
          rw [WOXk] at hk
          refine ⟨Chk.ord hps hcl.1, ih (Nat.le_trans hN hle) (hA.cons hle (fun b hb => ?_) fun b hb => ?_) (ps_cons hps) hqs.cons hcl.2 hk⟩
          · rcases (hR b).1 hb with h | h
            · exact Nat.lt_of_lt_of_le h.1 hle
            · exact h.2
          · rcases (hW b).1 hb with h | h
            · exact ⟨h.2, Nat.lt_of_lt_of_le h.1 hle⟩
            · exact ⟨Nat.le_trans hN h.1, h.2⟩
        | x =>
          intro h
          simp only [chkC4, Bool.and_eq_true] at hcl
          refine ⟨e.subX H.nx, Nat.le_trans he hN, rfl, fun b hb hr => hr hb, fun b hb hw => hw hb, EC.mono h fun v H1 hle hk R W hR hW => ?_⟩
          rw [WOXk] at hk
          exact ⟨Chk.ord hps hcl.1, ih (Nat.le_trans hN hle) (hA.alone hle) (ps_cons hps) hqs.cons hcl.2 hk⟩
        | u => exact fun h => h.elim
        | y => exact fun h => h.elim
        | z => exact fun h => h.elim
      | _ => exact fun h => h.elim
theorem WK.draw_x {cx : Cx} {B : Array Nat} {cos : List CO} {t : T Value} {ds : List Deferred} {H : Hp} {K : Ex → T Value → List Deferred → Hp → Prop} (cl : List C4) (K' : T Value → Hp → Prop) (he : e.n0 ≤ H.nx) (hc : chkC4 B 0 [] [] [] cl = true)
    (h : WOX tb sp e H.nx Us cx.d K' cos cl t H) (hk : ∀ t' H', K' t' H' → K .normal t' ds H') : WK tb sp e cx (.draw B cos) t ds H K := by
  refine WK.draw ?_
  obtain ⟨N, t', ds', H', r, w, h1, h2, h3, rfl, h4⟩ := WD.of_wox (B := B) (ds := ds) (i := 0) (A := []) (ps := []) (qs := []) (xs := []) he (Nat.le_refl _) (fun en hm => by cases hm) (fun en hm => by cases hm) (fun en hm => by cases hm) hc h
  exact ⟨N, t', _, H', r, w, h1, h2, h3, hk _ _ h4⟩
end
end Go.Ev
end
noncomputable section
namespace Go.Ar
abbrev By := Nat → UInt8
end Go.Ar
namespace Go.Ev
variable [SyQ]
abbrev vN (z : Int) : Value := .int .i64 z
abbrev vS (s : List UInt8) : Value := .string ⟨⟨s⟩⟩
end Go.Ev
namespace Go.Ev
variable [SyQ]
section
variable {tb : Tb} {sp : Nat → List Value → Hp → Option (Value × Hp × Nat × Nat)} {e : Env} {N0 : Nat} {Us : Nat → Prop} {d : Nat} {K K1 : T Value → Hp → Prop} {cos : List CO} {t : T Value} {H : Hp}
theorem WOG.app : ∀ {A : List CO} {t : T Value} {H : Hp}, WOG tb sp e d K1 A t H → (∀ t' H', K1 t' H' → WOG tb sp e d K cos t' H') → WOG tb sp e d K (A ++ cos) t H := by
  intro A
  induction A with
  | nil => intro t H h hk; rw [WOG] at h; exact hk t H h
  | cons o A ih =>
    intro t H h hk
    rw [List.cons_append]
    rw [WOG] at h ⊢
    cases hg : wants t o.guard with
    | true =>
      rw [hg] at h
      revert h
      cases run o.op t H with
      | val v H' r w => exact fun h => ⟨h.1, h.2.1, ih h.2.2 hk⟩
      | call f args => exact fun h => EC.mono h fun v H1 _ hh => by rw [WOGk] at *; exact ih hh hk
      | _ => exact fun h => h.elim
    | false => rw [hg] at h; exact ih h hk
theorem WOG.cut (k : Nat) (K1 : T Value → Hp → Prop) (h : WOG tb sp e d K1 (cos.take k) t H) (hk : ∀ t' H', K1 t' H' → WOG tb sp e d K (cos.drop k) t' H') : WOG tb sp e d K cos t H := by
  have := WOG.app h hk
  rwa [List.take_append_drop] at this
theorem WOG.all (K1 : T Value → Hp → Prop) (h : WOG tb sp e d K1 cos t H) (hk : ∀ t' H', K1 t' H' → K t' H') : WOG tb sp e d K cos t H := h.mono hk
theorem WOG.nil (h : K t H) : WOG tb sp e d K [] t H := by rw [WOG]; exact h
theorem WOG.call {o : CO} {rest : List CO} {f : FuncId} {args : List Value} (hc : cos = o :: rest) (hg : wants t o.guard = true) (hr : run o.op t H = .call f args) (h : EC tb sp e f args H fun v H1 => WOG tb sp e d K rest (putT d t o.dst v) H1) : WOG tb sp e d K cos t H := by
  subst hc
  rw [WOG, hg, hr]
  exact EC.mono h fun v H1 _ hh => by rw [WOGk]; exact hh
theorem WOX.app {clB : List C4} : ∀ {A : List CO} {clA : List C4} {t : T Value} {H : Hp}, clA.length = A.length → WOX tb sp e N0 Us d K1 A clA t H → (∀ t' H', K1 t' H' → WOX tb sp e N0 Us d K cos clB t' H') → WOX tb sp e N0 Us d K (A ++ cos) (clA ++ clB) t H := by
  intro A
  induction A with
  | nil =>
    intro clA t H hl h hk
    obtain rfl : clA = [] := List.length_eq_zero_iff.1 hl
    rw [WOX] at h; exact hk t H h
  | cons o A ih =>
    intro clA t H hl h hk
    cases clA with
    | nil => cases hl
    | cons c clA =>
    have hl' : clA.length = A.length := by simpa using hl
    rw [List.cons_append, List.cons_append]
    rw [WOX] at h ⊢
    cases hg : wants t o.guard with
    | true =>
      rw [hg] at h
      revert h
      cases run o.op t H with
      | val v H' r w =>
        cases c with
        | p => exact fun h => ⟨h.1, h.2.1, h.2.2.1, ih hl' h.2.2.2 hk⟩
        | q => exact fun h => ⟨h.1, h.2.1, h.2.2.1, h.2.2.2.1, ih hl' h.2.2.2.2 hk⟩
        | l => exact fun h => ⟨h.1, h.2.1, h.2.2.1, ih hl' h.2.2.2 hk⟩
        | x => exact fun h => ⟨h.1, h.2.1, ih hl' h.2.2 hk⟩
        | u => exact fun h => ⟨h.1, h.2.1, h.2.2.1, h.2.2.2.1, ih hl' h.2.2.2.2 hk⟩
        | y => exact fun h => ⟨h.1, h.2.1, h.2.2.1, h.2.2.2.1, ih hl' h.2.2.2.2 hk⟩
        | z => exact fun h => ⟨h.1, h.2.1, h.2.2.1, ih hl' h.2.2.2 hk⟩
      | call f args =>
        cases c with
        | p => exact fun h => h.elim
        | q => exact fun h => EC.mono h fun v H1 _ hh => by rw [WOXk] at *; exact ih hl' hh hk
        | l => exact fun h => EC.mono h fun v H1 _ hh => by rw [WOXk] at *; exact ih hl' hh hk
        | x => exact fun h => EC.mono h fun v H1 _ hh => by rw [WOXk] at *; exact ih hl' hh hk
        | u => exact fun h => h.elim
        | y => exact fun h => h.elim
        | z => exact fun h => h.elim
      | _ => exact fun h => h.elim
    | false => rw [hg] at h; exact ih hl' h hk
theorem WOX.cut {cl : List C4} (k : Nat) (K1 : T Value → Hp → Prop) (hl : cl.length = cos.length) (h : WOX tb sp e N0 Us d K1 (cos.take k) (cl.take k) t H) (hk : ∀ t' H', K1 t' H' → WOX tb sp e N0 Us d K (cos.drop k) (cl.drop k) t' H') : WOX tb sp e N0 Us d K cos cl t H := by
  have := WOX.app (by rw [List.length_take, List.length_take, hl]) h hk
  rwa [List.take_append_drop, List.take_append_drop] at this
theorem WOX.mono (hk : ∀ t' H', K1 t' H' → K t' H') : ∀ {cos : List CO} {cl : List C4} {t : T Value} {H : Hp}, WOX tb sp e N0 Us d K1 cos cl t H → WOX tb sp e N0 Us d K cos cl t H := by
  intro cos
  induction cos with
  | nil => intro cl t H h; rw [WOX] at *; exact hk t H h
  | cons o cos ih =>
    intro cl t H h
    cases cl with
    | nil => rw [WOX] at h; exact h.elim
    | cons c cl =>
    rw [WOX] at h ⊢
    cases hg : wants t o.guard with
    | true =>
      rw [hg] at h
      revert h
      cases run o.op t H with
      | val v H' r w =>
        cases c with
        | p => exact fun h => ⟨h.1, h.2.1, h.2.2.1, ih h.2.2.2⟩
        | q => exact fun h => ⟨h.1, h.2.1, h.2.2.1, h.2.2.2.1, ih h.2.2.2.2⟩
        | l => exact fun h => ⟨h.1, h.2.1, h.2.2.1, ih h.2.2.2⟩
        | x => exact fun h => ⟨h.1, h.2.1, ih h.2.2⟩
        | u => exact fun h => ⟨h.1, h.2.1, h.2.2.1, h.2.2.2.1, ih h.2.2.2.2⟩
        | y => exact fun h => ⟨h.1, h.2.1, h.2.2.1, h.2.2.2.1, ih h.2.2.2.2⟩
        | z => exact fun h => ⟨h.1, h.2.1, h.2.2.1, ih h.2.2.2⟩
      | call f args =>
        cases c with
        | p => exact fun h => h.elim
        | q => exact fun h => h.mono fun v H1 _ hh => by rw [WOXk] at *; exact ih hh
        | l => exact fun h => h.mono fun v H1 _ hh => by rw [WOXk] at *; exact ih hh
        | x => exact fun h => h.mono fun v H1 _ hh => by rw [WOXk] at *; exact ih hh
        | u => exact fun h => h.elim
        | y => exact fun h => h.elim
        | z => exact fun h => h.elim
      | _ => exact fun h => h.elim
    | false => rw [hg] at h; exact ih h
theorem WOX.all {cl : List C4} (K1 : T Value → Hp → Prop) (h : WOX tb sp e N0 Us d K1 cos cl t H) (hk : ∀ t' H', K1 t' H' → K t' H') : WOX tb sp e N0 Us d K cos cl t H := WOX.mono hk h
theorem WOX.nil {cl : List C4} (h : K t H) : WOX tb sp e N0 Us d K [] cl t H := by rw [WOX]; exact h
theorem WOX.callq {cl cl' : List C4} {o : CO} {rest : List CO} {f : FuncId} {args : List Value} (hc : cos = o :: rest) (hl : cl = .q :: cl') (hg : wants t o.guard = true) (hr : run o.op t H = .call f args) (h : EC tb sp (e.sub N0 H.nx) f args H fun v H1 => WOX tb sp e N0 Us d K rest cl' (putT d t o.dst v) H1) : WOX tb sp e N0 Us d K cos cl t H := by
  subst hc; subst hl
  rw [WOX, hg, hr]
  exact EC.mono h fun v H1 _ hh => by rw [WOXk]; exact hh
theorem WOX.calll {cl cl' : List C4} {o : CO} {rest : List CO} {f : FuncId} {args : List Value} (hc : cos = o :: rest) (hl : cl = .l :: cl') (hg : wants t o.guard = true) (hr : run o.op t H = .call f args) (h : EC tb sp (e.subL N0 H.nx) f args H fun v H1 => WOX tb sp e N0 Us d K rest cl' (putT d t o.dst v) H1) : WOX tb sp e N0 Us d K cos cl t H := by
  subst hc; subst hl
  rw [WOX, hg, hr]
  exact EC.mono h fun v H1 _ hh => by rw [WOXk]; exact hh
theorem WOX.callx {cl cl' : List C4} {o : CO} {rest : List CO} {f : FuncId} {args : List Value} (hc : cos = o :: rest) (hl : cl = .x :: cl') (hg : wants t o.guard = true) (hr : run o.op t H = .call f args) (h : EC tb sp (e.subX H.nx) f args H fun v H1 => WOX tb sp e N0 Us d K rest cl' (putT d t o.dst v) H1) : WOX tb sp e N0 Us d K cos cl t H := by
  subst hc; subst hl
  rw [WOX, hg, hr]
  exact EC.mono h fun v H1 _ hh => by rw [WOXk]; exact hh
theorem WK.draw_xx {cx : Cx} {B : Array Nat} {ds : List Deferred} {K : Ex → T Value → List Deferred → Hp → Prop} (Us : Nat → Prop) (cl : List C4) (he : e.n0 ≤ H.nx) (hc : chkC4 B 0 [] [] [] cl = true)
    (h : WOX tb sp e H.nx Us cx.d (fun t' H' => K .normal t' ds H') cos cl t H) : WK tb sp e cx (.draw B cos) t ds H K := WK.draw_x cl _ he hc h fun _ _ h => h
end
theorem no_bits (P : Nat → Prop) : (∀ b, Nat.testBit 0 b = true → P b) ↔ True := by simp
theorem the_bit {b : Nat} {P : Nat → Prop} (h : P b) : ∀ c, (bit b).testBit c = true → P c := fun c hc => by rw [(bit_iff _ _).1 hc]; exact h
structure NB (H : Hp) (L : List Value) (ty : Nat) (H1 : Hp) : Prop where
  al : alloc1 (blkL L ty 0) H ptrTo 0 0 = .val (.pointer (some ⟨H.nx, 0, none⟩)) H1 0 0
  row : Row H1 H.nx ty 0 L
  kept : Kept H H1
  nx : H1.nx = H.nx + 1
theorem newB {H : Hp} (hf : H.isFn = true) (L : List Value) (ty : Nat) : ∃ H1, NB H L ty H1 :=
  ⟨H.push (blkL L ty 0), alloc_ptr hf _, row_push (fn_room hf) _ _ _, ⟨by rw [isFn_push]; exact hf, by rw [nx_push]; omega, fun b hb => blk_push_old (fn_room hf) _ hb⟩, nx_push _ _⟩
theorem NB.box {H H1 : Hp} {L : List Value} {ty : Nat} (h : NB H L ty H1) : exFill (some L) (fun l => alloc1 (blkL l ty 0) H ptrTo 0 0) = .val (.pointer (some ⟨H.nx, 0, none⟩)) H1 0 0 := h.al
structure WrB (H : Hp) (b ty op : Nat) (L : List Value) (H1 : Hp) : Prop where
  row : Row H1 b ty op L
  fn : H1.isFn = true
  nx : H1.nx = H.nx
  else_ : ∀ c, c ≠ b → H1.blk c = H.blk c
theorem wrN_at {H : Hp} {b ty op o : Nat} {L vs : List Value} (hf : H.isFn = true) (h : Row H b ty op L) (hle : o + vs.length ≤ L.length) : ∃ H1, wrN H b o vs = some H1 ∧ WrB H b ty op (L.take o ++ vs ++ L.drop (o + vs.length)) H1 := by
  obtain ⟨t, hb, ht⟩ := h
  have hlt : b < H.nx := ((alive_iff H b).2 (by rw [hb]; simp)).1
  refine ⟨H.put b (.cells (wrL (dep L.length) vs o t) L.length ty op 0 0), ?_, ?_, by rw [isFn_put]; exact hf, nx_put _ _ _, fun c hc => blk_put_ne (fn_wf hf) _ hlt hc⟩
  · unfold wrN
    rw [hb]
    simp only []
    rw [thawed_zero, Bool.and_true, (ble_iff _ _).2 hle, Bc_t]
  · have hlen : (L.take o ++ vs ++ L.drop (o + vs.length)).length = L.length := by
      rw [List.length_append, List.length_append, List.length_take, List.length_drop]; omega
    refine ⟨wrL (dep L.length) vs o t, ?_, fun i v hv => ?_⟩
    · rw [hlen, blk_put _ (fn_wf hf) hlt, if_pos rfl]
    · have hi : i < L.length := by
        rcases Nat.lt_or_ge i L.length with h | h
        · exact h
        · rw [List.getElem?_eq_none (by omega)] at hv; cases hv
      have hd : L.length < 8 ^ dep L.length := lt_dep _
      rw [wrL_get _ _ _ _ _ (by omega) (by omega)]
      by_cases h1 : o ≤ i ∧ i < o + vs.length
      · rw [if_pos h1]
        rw [List.getElem?_append_left (by rw [List.length_append, List.length_take]; omega), List.getElem?_append_right (by rw [List.length_take]; omega), List.length_take, Nat.min_eq_left (by omega)] at hv
        rw [List.getD_eq_getElem?_getD, hv]; rfl
      · rw [if_neg h1]
        by_cases h2 : i < o
        · rw [List.getElem?_append_left (by rw [List.length_append, List.length_take]; omega), List.getElem?_append_left (by rw [List.length_take]; omega), List.getElem?_take, if_pos h2] at hv
          exact ht i v hv
        · rw [List.getElem?_append_right (by rw [List.length_append, List.length_take]; omega), List.getElem?_drop, List.length_append, List.length_take, Nat.min_eq_left (by omega), show o + vs.length + (i - (o + vs.length)) = i by omega] at hv
          exact ht i v hv
theorem exStN_at {H : Hp} {b ty op o : Nat} {L vs : List Value} (hf : H.isFn = true) (h : Row H b ty op L) (hle : o + vs.length ≤ L.length) :
    ∃ H1, exSt vs.length (.pointer (some ⟨b, o, none⟩)) (.agg ⟨vs⟩) H = .val U H1 0 (bit b) ∧ WrB H b ty op (L.take o ++ vs ++ L.drop (o + vs.length)) H1 := by
  obtain ⟨H1, h1, h2⟩ := wrN_at hf h hle
  refine ⟨H1, ?_, h2⟩
  show (match some vs with | some vs' => Bc (Nat.beq vs'.length vs.length) (match wrN H b o vs' with | some H' => R.val U H' 0 (bit b) | none => .fail) .fail | none => .fail) = _
  simp only [h1, (beq_iff _ _).2 rfl, Bc_t]
theorem exSt_one {v : Value} (h : oneC v = true) (p : Value) (H : Hp) : exSt 1 p v H = exSt 1 p (.agg ⟨[v]⟩) H := by
  cases v <;> first | rfl | (cases h; done) | (rename_i ch; cases ch <;> first | rfl | cases h)
theorem exSt1_at {H : Hp} {b ty op o : Nat} {L : List Value} {v : Value} (hv : oneC v = true) (hf : H.isFn = true) (h : Row H b ty op L) (hle : o + 1 ≤ L.length) :
    ∃ H1, exSt 1 (.pointer (some ⟨b, o, none⟩)) v H = .val U H1 0 (bit b) ∧ WrB H b ty op (L.take o ++ [v] ++ L.drop (o + 1)) H1 := by
  obtain ⟨H1, h1, h2⟩ := exStN_at (vs := [v]) hf h hle
  exact ⟨H1, by rw [exSt_one hv]; exact h1, h2⟩
open Go.Ar (By)
def uB (u : UInt8) : Value := .int .u8 (.ofNat u.toNat)
def bys (f : By) (n : Nat) : List Value := (List.range n).map fun i => uB (f i)
def strF (f : By) (n : Nat) : List UInt8 := (List.range n).map f
theorem bys_len (f : By) (n : Nat) : (bys f n).length = n := by simp [bys]
theorem strF_len (f : By) (n : Nat) : (strF f n).length = n := by simp [strF]
theorem bys_get {f : By} {n i : Nat} (h : i < n) : (bys f n)[i]? = some (uB (f i)) := by simp [bys, h]
theorem strF_get {f : By} {n i : Nat} (h : i < n) : (strF f n)[i]? = some (f i) := by simp [strF, h]
theorem bys_congr {f g : By} {n : Nat} (h : ∀ i, i < n → f i = g i) : bys f n = bys g n := List.map_congr_left fun i hi => by rw [h i (List.mem_range.1 hi)]
theorem strF_congr {f g : By} {n : Nat} (h : ∀ i, i < n → f i = g i) : strF f n = strF g n := List.map_congr_left fun i hi => by rw [h i (List.mem_range.1 hi)]
theorem bys_cut {f : By} {n o k : Nat} (h : o + k ≤ n) : ((bys f n).drop o).take k = bys (fun i => f (o + i)) k := by
  apply List.ext_getElem?
  intro i
  rw [List.getElem?_take]
  split
  · rename_i hi
    rw [List.getElem?_drop, bys_get (by omega), bys_get hi]
  · rename_i hi
    rw [List.getElem?_eq_none (by rw [bys_len]; omega)]
def over (f : By) (o k : Nat) (g : By) : By := fun i => if o ≤ i ∧ i < o + k then g (i - o) else f i
theorem bys_over {f g : By} {n o k : Nat} (h : o + k ≤ n) : (bys f n).take o ++ bys g k ++ (bys f n).drop (o + k) = bys (over f o k g) n := by
  apply List.ext_getElem?
  intro i
  by_cases hi : i < n
  · rw [bys_get hi]
    unfold over
    by_cases h1 : i < o
    · rw [List.getElem?_append_left (by rw [List.length_append, List.length_take, bys_len, bys_len]; omega), List.getElem?_append_left (by rw [List.length_take, bys_len]; omega), List.getElem?_take, if_pos h1, bys_get hi, if_neg (by omega)]
    · by_cases h2 : i < o + k
      · rw [List.getElem?_append_left (by rw [List.length_append, List.length_take, bys_len, bys_len]; omega), List.getElem?_append_right (by rw [List.length_take, bys_len]; omega), List.length_take, bys_len, Nat.min_eq_left (by omega), bys_get (by omega), if_pos ⟨by omega, h2⟩]
      · rw [List.getElem?_append_right (by rw [List.length_append, List.length_take, bys_len, bys_len]; omega), List.getElem?_drop, List.length_append, List.length_take, bys_len, bys_len, Nat.min_eq_left (by omega), show o + k + (i - (o + k)) = i by omega, bys_get hi, if_neg (by omega)]
  · rw [List.getElem?_eq_none (by rw [List.length_append, List.length_append, List.length_take, List.length_drop, bys_len, bys_len]; omega), List.getElem?_eq_none (by rw [bys_len]; omega)]
theorem strOf_bys (f : By) (n : Nat) : strOf (bys f n) = some (strF f n) := by
  unfold strOf bys strF
  rw [show ((List.range n).map fun i => uB (f i)).all isU8 = true from List.all_eq_true.2 fun v hv => by obtain ⟨i, _, rfl⟩ := List.mem_map.1 hv; rfl, Bc_t, List.map_map]
  congr 1
  apply List.map_congr_left
  intro i _
  show UInt8.ofNat (Int.ofNat (f i).toNat).toNat = f i
  simp
theorem bytesV_eq (s : List UInt8) : bytesV s = bys (fun i => s.getD i 0) s.length := by
  apply List.ext_getElem?
  intro i
  unfold bytesV
  by_cases h : i < s.length
  · rw [bys_get h, List.getElem?_map, List.getElem?_eq_getElem h]
    simp [uB, List.getD, h]
  · rw [List.getElem?_eq_none (by simp; omega), List.getElem?_eq_none (by rw [bys_len]; omega)]
theorem strF_getD {f : By} {n i : Nat} (h : i < n) : (strF f n).getD i 0 = f i := by rw [List.getD_eq_getElem?_getD, strF_get h]; rfl
theorem bytesV_strF (f : By) (n : Nat) : bytesV (strF f n) = bys f n := by
  rw [bytesV_eq, strF_len]
  exact bys_congr fun i hi => strF_getD hi
theorem strF_take {f : By} {n k : Nat} (h : k ≤ n) : (strF f n).take k = strF f k := by
  apply List.ext_getElem?
  intro i
  rw [List.getElem?_take]
  split
  · rename_i hi; rw [strF_get (by omega), strF_get hi]
  · rename_i hi; rw [List.getElem?_eq_none (by rw [strF_len]; omega)]
abbrev ByU (H : Hp) (b ty : Nat) (f : By) (n : Nat) : Prop := Row H b ty 0 (bys f n)
theorem ByU.ld {H : Hp} {b ty n i : Nat} {f : By} (h : ByU H b ty f n) (hi : i < n) : exLd1 (.pointer (some ⟨b, i, none⟩)) H = .val (uB (f i)) H (bit b) 0 := exLd1_row h (bys_get hi)
theorem ByU.rdN {H : Hp} {b ty n o k : Nat} {f : By} (h : ByU H b ty f n) (hle : o + k ≤ n) : rdN H b o k = some (bys (fun i => f (o + i)) k) := by
  rw [rdN_row h (by rw [bys_len]; exact hle), bys_cut hle]
theorem ByU.toS {H : Hp} {b ty n o k c : Nat} {f : By} (h : ByU H b ty f n) (hle : o + k ≤ n) : exToS (.slice (some ⟨b, o, none⟩) k c) H = .val (vS (strF (fun i => f (o + i)) k)) H (bit b) 0 := by
  show (match Go.Ev.rdN H b o k with | some l => (match strOf l with | some s => R.val (.string ⟨⟨s⟩⟩) H (bit b) 0 | none => .fail) | none => .fail) = _
  rw [h.rdN hle]
  simp only [strOf_bys]
structure NS (H : Hp) (n : Nat) (H1 : Hp) : Prop where
  made : exMkSl 5 1 [.int .u8 0] (vN n) (vN n) H = .val (.slice (some ⟨H.nx, 0, none⟩) n (2 * n)) H1 0 0
  row : ByU H1 H.nx 5 (fun _ => 0) n
  kept : Kept H H1
  nx : H1.nx = H.nx + 1
theorem newS {H : Hp} (hf : H.isFn = true) {n : Nat} (hn : n ≤ 1099511627776) : ∃ H1, NS H n H1 := by
  refine ⟨H.push (.cells (.e (.int .u8 0)) n 5 0 0 0), ?_, ⟨.e (.int .u8 0), ?_, fun i v hv => ?_⟩, ⟨by rw [isFn_push]; exact hf, by rw [nx_push]; omega, fun b hb => blk_push_old (fn_room hf) _ hb⟩, nx_push _ _⟩
  · show Bc (Nat.ble n n && Nat.ble (n * 1) 1099511627776 && Nat.ble n 1099511627776) (alloc1 (.cells (.e (.int .u8 0)) n 5 0 0 0) H (fun i => mkSlV (some (i, 0)) n n false) 0 0) .fail = _
    rw [(ble_iff _ _).2 (Nat.le_refl n), (ble_iff _ _).2 (show n * 1 ≤ 1099511627776 by omega), (ble_iff _ _).2 hn]
    rw [show (true && true && true) = true from rfl, Bc_t, alloc1_room (fn_room hf)]
    rfl
  · rw [bys_len, blk_push _ (fn_room hf), if_pos rfl]
  · have hi : i < n := by
      rcases Nat.lt_or_ge i n with h | h
      · exact h
      · rw [List.getElem?_eq_none (by rw [bys_len]; exact h)] at hv; cases hv
    rw [bys_get hi] at hv
    exact Option.some.inj hv
structure OvB (H : Hp) (b ty : Nat) (f : By) (n : Nat) (H1 : Hp) : Prop where
  row : ByU H1 b ty f n
  fn : H1.isFn = true
  nx : H1.nx = H.nx
  else_ : ∀ c, c ≠ b → H1.blk c = H.blk c
theorem WrB.ov {H H1 : Hp} {b ty n o k : Nat} {f g : By} (hle : o + k ≤ n) (h : WrB H b ty 0 ((bys f n).take o ++ bys g k ++ (bys f n).drop (o + (bys g k).length)) H1) : OvB H b ty (over f o k g) n H1 := by
  obtain ⟨h1, h2, h3, h4⟩ := h
  rw [bys_len, bys_over hle] at h1
  exact ⟨h1, h2, h3, h4⟩
theorem wrNs_bys {H : Hp} {b ty n o k : Nat} {f g : By} (hf : H.isFn = true) (h : ByU H b ty f n) (hle : o + k ≤ n) : ∃ H1, wrNs H b o (bys g k) = some H1 ∧ OvB H b ty (over f o k g) n H1 := by
  obtain ⟨H2, h1, h2⟩ := wrN_at (vs := bys g k) hf h (by rw [bys_len, bys_len]; exact hle)
  obtain ⟨t, hb, ht⟩ := h
  have hlt : b < H.nx := ((alive_iff H b).2 (by rw [hb]; simp)).1
  unfold wrN at h1
  rw [hb] at h1
  simp only [] at h1
  rw [thawed_zero, Bool.and_true, (ble_iff _ _).2 (by rw [bys_len, bys_len]; exact hle), Bc_t] at h1
  have h1 := Option.some.inj h1
  refine ⟨H.put b (.cells (wrS (dep (bys f n).length) (bys g k) o t) (bys f n).length ty 0 0 0), ?_, ?_, by rw [isFn_put]; exact hf, nx_put _ _ _, fun c hc => blk_put_ne (fn_wf hf) _ hlt hc⟩
  · unfold wrNs
    rw [hb]
    simp only []
    rw [thawed_zero, Bool.and_true, (ble_iff _ _).2 (by rw [bys_len, bys_len]; exact hle), Bc_t]
  · have h3 := (h2.ov hle).row
    subst h1
    obtain ⟨t2, e1, e2⟩ := h3
    rw [blk_put _ (fn_wf hf) hlt, if_pos rfl, bys_len, bys_len] at e1
    refine ⟨wrS (dep (bys f n).length) (bys g k) o t, by rw [blk_put _ (fn_wf hf) hlt, if_pos rfl, bys_len, bys_len], fun i v hv => ?_⟩
    have hi : i < n := by
      rcases Nat.lt_or_ge i n with h | h
      · exact h
      · rw [List.getElem?_eq_none (by rw [bys_len]; exact h)] at hv; cases hv
    have hd := lt_dep (bys f n).length
    rw [bys_len] at hd
    have e3 := e2 i v hv
    have e4 : wrL (dep n) (bys g k) o t = t2 := by injection e1
    rw [← e3, ← e4, bys_len]
    exact wrS_get _ _ _ _ _ (by rw [bys_len]; omega) (by omega)
theorem asSl_sl (b o n c : Nat) : ∃ k op, asSl (.slice (some ⟨b, o, none⟩) n c) = some (some (b, o), n, k, op) := by
  rcases Nat.mod_two_eq_zero_or_one c with h | h
  · exact ⟨_, _, by rw [show c = 2 * (c / 2) by omega]; exact asSl_shut b o n (c / 2)⟩
  · exact ⟨_, _, by rw [show c = 2 * (c / 2) + 1 by omega]; exact asSl_open b o n (c / 2)⟩
theorem copyT {H : Hp} {b ty n o m c k : Nat} {f g : By} (hf : H.isFn = true) (h : ByU H b ty f n) (hk : k ≤ m) (hle : o + k ≤ n) : ∃ H1, exCopy 1 (.slice (some ⟨b, o, none⟩) m c) (vS (strF g k)) H = .val (vN k) H1 0 (bit b) ∧ OvB H b ty (over f o k g) n H1 := by
  obtain ⟨H1, h1, h2⟩ := wrNs_bys (g := g) hf h hle
  refine ⟨H1, ?_, h2⟩
  obtain ⟨kk, op, hs⟩ := asSl_sl b o m c
  unfold exCopy
  rw [hs, show lenV (vS (strF g k)) = some k from by show some (strF g k).length = _; rw [strF_len]]
  simp only []
  rw [show Nat.min k m = k from Nat.min_eq_left hk]
  have e : cellsOfV H 1 k (vS (strF g k)) = some (bys g k, 0) := by
    show Bc (Nat.beq 1 1) (some (bytesV ((strF g k).take k), 0)) none = _
    rw [strF_take (Nat.le_refl _), bytesV_strF]; rfl
  rw [e]
  simp only [h1]
  rfl
theorem copyB {H : Hp} {b ty n o m c k b2 ty2 n2 o2 c2 : Nat} {f g : By} (hf : H.isFn = true) (h : ByU H b ty f n) (h2 : ByU H b2 ty2 g n2) (hk : k ≤ m) (hle : o + k ≤ n) (hle2 : o2 + k ≤ n2) :
    ∃ H1, exCopy 1 (.slice (some ⟨b, o, none⟩) m c) (.slice (some ⟨b2, o2, none⟩) k c2) H = .val (vN k) H1 (bit b2) (bit b) ∧ OvB H b ty (over f o k fun i => g (o2 + i)) n H1 := by
  obtain ⟨H1, h1, h3⟩ := wrNs_bys (g := fun i => g (o2 + i)) hf h hle
  refine ⟨H1, ?_, h3⟩
  obtain ⟨kk, op, hs⟩ := asSl_sl b o m c
  unfold exCopy
  rw [hs, show lenV (.slice (some ⟨b2, o2, none⟩) k c2) = some k from rfl]
  simp only []
  rw [show Nat.min k m = k from Nat.min_eq_left hk]
  have e : cellsOfV H 1 k (.slice (some ⟨b2, o2, none⟩) k c2) = some (bys (fun i => g (o2 + i)) k, bit b2) := by
    show (match rdN H b2 o2 (k * 1) with | some l => some (l, bit b2) | none => none) = _
    rw [Nat.mul_one, h2.rdN hle2]
  rw [e]
  simp only [h1]
  rfl
theorem flat_rep (n : Nat) : (List.replicate n [Value.int .u8 0]).flatten = bys (fun _ => 0) n := by
  induction n with
  | zero => rfl
  | succ n ih =>
    rw [List.replicate_succ, List.flatten_cons, ih]
    apply List.ext_getElem?
    intro i
    by_cases h : i < n + 1
    · rw [bys_get h]
      cases i with
      | zero => rfl
      | succ i => rw [List.getElem?_append_right (by simp), List.length_singleton, Nat.add_sub_cancel, bys_get (by omega)]
    · rw [List.getElem?_eq_none (by rw [List.length_append, bys_len]; simp; omega), List.getElem?_eq_none (by rw [bys_len]; omega)]
theorem clearB {H : Hp} {b ty n o k c : Nat} {f : By} (hf : H.isFn = true) (h : ByU H b ty f n) (hle : o + k ≤ n) : ∃ H1, exClear [.int .u8 0] (.slice (some ⟨b, o, none⟩) k c) H = .val (.tuple #[]) H1 0 (bit b) ∧ OvB H b ty (over f o k fun _ => 0) n H1 := by
  obtain ⟨H1, h1, h2⟩ := wrN_at (vs := bys (fun _ => 0) k) hf h (by rw [bys_len, bys_len]; exact hle)
  refine ⟨H1, ?_, h2.ov hle⟩
  obtain ⟨kk, op, hs⟩ := asSl_sl b o k c
  unfold exClear
  rw [hs]
  simp only []
  rw [flat_rep, h1]
theorem ByU.st {H : Hp} {b ty n i : Nat} {f : By} {u : UInt8} (hf : H.isFn = true) (h : ByU H b ty f n) (hi : i < n) : ∃ H1, exSt 1 (.pointer (some ⟨b, i, none⟩)) (uB u) H = .val U H1 0 (bit b) ∧ OvB H b ty (over f i 1 fun _ => u) n H1 := by
  obtain ⟨H1, h1, h2⟩ := exSt1_at (v := uB u) (o := i) rfl hf h (by rw [bys_len]; omega)
  exact ⟨H1, h1, WrB.ov (k := 1) (g := fun _ => u) (by omega) h2⟩
theorem bnd_some {x : Nat} {dflt hi : Nat} (h : x ≤ hi) : bnd (some (vN (x : Nat))) dflt hi = some x := by
  show (match (some ((x : Nat) : Int)) with | some n => (match natI n with | some m => Bc (Nat.ble m hi) (some m) none | none => none) | none => none) = _
  show Bc (Nat.ble x hi) (some x) none = _
  rw [(ble_iff _ _).2 h, Bc_t]
theorem bnd_none {dflt hi : Nat} : bnd none dflt hi = some dflt := rfl
theorem slL_lh {b o n c l h : Nat} (H : Hp) (h1 : l ≤ h) (h2 : h ≤ c) (h3 : l < c) : exSlL 1 (.slice (some ⟨b, o, none⟩) n (2 * c)) (some (vN l)) (some (vN h)) none H = .val (.slice (some ⟨b, o + l, none⟩) (h - l) (2 * (c - l))) H 0 0 := by
  unfold exSlL
  rw [asSl_shut]
  simp only []
  have : bounds n c (some (vN l)) (some (vN h)) none = some (l, h, c) := by
    unfold bounds
    rw [show Bc ((none : Option Value).isSome && (some (vN (h : Int))).isNone) none (bnd none c c) = some c from rfl]
    simp only []
    rw [bnd_some h2]
    simp only []
    rw [bnd_some h1]
  rw [this]
  simp only []
  have e : Nat.beq c l = false := by
    cases hh : Nat.beq c l with
    | false => rfl
    | true => have := (beq_iff _ _).1 hh; omega
  rw [show (false && (none : Option Value).isNone) = false from rfl, Bc_f, e, Bc_f]
  simp only [shiftA, Nat.mul_one]
  rfl
theorem slL_l {b o n c l : Nat} (H : Hp) (h1 : l ≤ n) (h2 : n ≤ c) (h3 : l < c) : exSlL 1 (.slice (some ⟨b, o, none⟩) n (2 * c)) (some (vN l)) none none H = .val (.slice (some ⟨b, o + l, none⟩) (n - l) (2 * (c - l))) H 0 0 := by
  unfold exSlL
  rw [asSl_shut]
  simp only []
  have : bounds n c (some (vN l)) none none = some (l, n, c) := by
    unfold bounds
    rw [show Bc ((none : Option Value).isSome && (none : Option Value).isNone) none (bnd none c c) = some c from rfl]
    simp only [bnd_none]
    rw [bnd_some h1]
  rw [this]
  simp only []
  have e : Nat.beq c l = false := by
    cases hh : Nat.beq c l with
    | false => rfl
    | true => have := (beq_iff _ _).1 hh; omega
  rw [show (false && (none : Option Value).isNone) = false from rfl, Bc_f, e, Bc_f]
  simp only [shiftA, Nat.mul_one]
  rfl
theorem slL_e {b o n c : Nat} (H : Hp) (h2 : n ≤ c) : exSlL 1 (.slice (some ⟨b, o, none⟩) n (2 * c)) (some (vN c)) none none H = (if n = c then .val (.slice (some ⟨b, o, none⟩) 0 0) H 0 0 else .fail) := by
  unfold exSlL
  rw [asSl_shut]
  simp only []
  by_cases h : n = c
  · have : bounds n c (some (vN c)) none none = some (c, n, c) := by
      unfold bounds
      rw [show Bc ((none : Option Value).isSome && (none : Option Value).isNone) none (bnd none c c) = some c from rfl]
      simp only [bnd_none]
      rw [bnd_some (by omega)]
    rw [this, if_pos h]
    simp only []
    rw [show (false && (none : Option Value).isNone) = false from rfl, Bc_f, show Nat.beq c c = true from (beq_iff _ _).2 rfl, Bc_t, h, Nat.sub_self]
    rfl
  · have : bounds n c (some (vN c)) none none = none := by
      unfold bounds
      rw [show Bc ((none : Option Value).isSome && (none : Option Value).isNone) none (bnd none c c) = some c from rfl]
      simp only [bnd_none]
      have : bnd (some (vN (c : Int))) 0 n = none := by
        show Bc (Nat.ble c n) (some c) none = _
        have : Nat.ble c n = false := by
          cases hh : Nat.ble c n with
          | false => rfl
          | true => have := (ble_iff _ _).1 hh; omega
        rw [this, Bc_f]
      rw [this]
    rw [this, if_neg h]
theorem slL_h {b o n c h : Nat} (H : Hp) (h2 : h ≤ c) (h3 : 0 < c) : exSlL 1 (.slice (some ⟨b, o, none⟩) n (2 * c)) none (some (vN h)) none H = .val (.slice (some ⟨b, o, none⟩) h (2 * c)) H 0 0 := by
  unfold exSlL
  rw [asSl_shut]
  simp only []
  have : bounds n c none (some (vN h)) none = some (0, h, c) := by
    unfold bounds
    rw [show Bc ((none : Option Value).isSome && (some (vN (h : Int))).isNone) none (bnd none c c) = some c from rfl]
    simp only []
    rw [bnd_some h2]
    simp only [bnd_none]
  rw [this]
  simp only []
  have e : Nat.beq c 0 = false := by
    cases hh : Nat.beq c 0 with
    | false => rfl
    | true => have := (beq_iff _ _).1 hh; omega
  rw [show (false && (none : Option Value).isNone) = false from rfl, Bc_f, e, Bc_f]
  simp only [shiftA, Nat.zero_mul, Nat.sub_zero, Nat.add_zero]
  rfl
end Go.Ev
namespace Go.Ev
variable [SyQ]
theorem Yj : (!true) = false := rfl
theorem Yk : (!false) = true := rfl
theorem Yl (n : Nat) : 0 + n = n := Nat.zero_add n
theorem Ym (n : Nat) : n + 0 = n := rfl
theorem Yn (n : Nat) : n ≤ n := Nat.le_refl n
theorem Yo {α : Type} {n : Nat} {a : α} {l : List α} : (a :: l).take (n + 1) = a :: l.take n := rfl
theorem Yp {α : Type} {l : List α} : l.take 0 = [] := by cases l <;> rfl
theorem Yq {α : Type} {n : Nat} {a : α} {l : List α} : (a :: l).drop (n + 1) = l.drop n := rfl
theorem Yr {α : Type} {l : List α} : l.drop 0 = l := rfl
end Go.Ev
namespace Go.Ev
variable [SyQ]
abbrev iN (n : Nat) : Value := .int .i64 ((n : Nat) : Int)
abbrev pA (b o : Nat) : Value := .pointer (some ⟨b, o, none⟩)
abbrev sC (b o n c : Nat) : Value := .slice (some ⟨b, o, none⟩) n c
section
variable {tb : Tb} {sp : Nat → List Value → Hp → Option (Value × Hp × Nat × Nat)} {e : Env} {N0 : Nat} {Us : Nat → Prop} {d : Nat} {K : T Value → Hp → Prop} {cos : List CO} {t : T Value} {H : Hp}
theorem WOG.hide (h : ∀ K0 : T Value → Hp → Prop, (∀ t H, K t H → K0 t H) → WOG tb sp e d K0 cos t H) : WOG tb sp e d K cos t H := h K fun _ _ h => h
theorem WOX.hide {cl : List C4} (h : ∀ K0 : T Value → Hp → Prop, (∀ t H, K t H → K0 t H) → WOX tb sp e N0 Us d K0 cos cl t H) : WOX tb sp e N0 Us d K cos cl t H := h K fun _ _ h => h
end
end Go.Ev
namespace Go.Ev
variable [SyQ]
section
variable {H H' : Hp} {b b2 ty op : Nat} {L : List Value}
theorem Row.mv (h : Row H b ty op L) (k : Kept H H') : Row H' b ty op L := h.of_blk (k.old _ h.lt)
theorem Row.ot (h : Row H b ty op L) (he : ∀ c, c ≠ b2 → H'.blk c = H.blk c) (hn : b ≠ b2) : Row H' b ty op L := h.of_blk (he _ hn)
theorem Row.mo (h : Row H b ty op L) (he : ∀ c, c < H.nx → c ≠ b2 → H'.blk c = H.blk c) (hn : b ≠ b2) : Row H' b ty op L := h.of_blk (he _ h.lt hn)
theorem okr {e : Env} (h : Row H b ty op L) (hb : e.n0 ≤ b) : e.ok (bit b) 0 H := .read h.lt fun h => absurd h (by omega)
theorem okw {e : Env} (h : Row H b ty op L) (hb : e.n0 ≤ b) : e.ok 0 (bit b) H := .write h.lt fun h => absurd h (by omega)
end
end Go.Ev
namespace Go.Ev
variable [SyQ]
theorem Xo (d : Nat) {i j : Nat} (hi : i < 8 ^ d) (hj : j < 8 ^ d) (t : T Value) (v : Value) : (putT d t (some i) v).get j = if j = i then v else t.get j := get_putT hi hj t v
end Go.Ev
namespace Go.Ev
variable [SyQ]
section
variable {tb : Tb} {sp : Nat → List Value → Hp → Option (Value × Hp × Nat × Nat)} {e : Env} {f : FuncId} {fn : Func} {c : Code} {k : KC} {a0 a1 a2 a3 a4 : Value} {H : Hp} {K : Value → Hp → Prop} (hf : tb.fn f = some fn) (hb : fn.body = some c) (hk : kcomp tb fn.ntmps c = k)
include hf hb hk
theorem EC.i1 (hs : sp f [a0] H = none) (hn : 1 ≤ fn.ntmps) (h : ∀ t0 : T Value, t0.get 0 = a0 → WK tb sp e (cxOf fn) k t0 [] H (Leaves tb e fn K)) : EC tb sp e f [a0] H K := EC.intro hs hf hb hk hn (h _ (enterT_get (args := [a0]) hn (by omega)))
theorem EC.i2 (hs : sp f [a0, a1] H = none) (hn : 2 ≤ fn.ntmps) (h : ∀ t0 : T Value, t0.get 0 = a0 → t0.get 1 = a1 → WK tb sp e (cxOf fn) k t0 [] H (Leaves tb e fn K)) : EC tb sp e f [a0, a1] H K := EC.intro hs hf hb hk hn (h _ (enterT_get (args := [a0, a1]) hn (by omega)) (enterT_get (args := [a0, a1]) hn (by omega)))
theorem EC.i3 (hs : sp f [a0, a1, a2] H = none) (hn : 3 ≤ fn.ntmps) (h : ∀ t0 : T Value, t0.get 0 = a0 → t0.get 1 = a1 → t0.get 2 = a2 → WK tb sp e (cxOf fn) k t0 [] H (Leaves tb e fn K)) : EC tb sp e f [a0, a1, a2] H K := EC.intro hs hf hb hk hn (h _ (enterT_get (args := [a0, a1, a2]) hn (by omega)) (enterT_get (args := [a0, a1, a2]) hn (by omega)) (enterT_get (args := [a0, a1, a2]) hn (by omega)))
theorem EC.i4 (hs : sp f [a0, a1, a2, a3] H = none) (hn : 4 ≤ fn.ntmps) (h : ∀ t0 : T Value, t0.get 0 = a0 → t0.get 1 = a1 → t0.get 2 = a2 → t0.get 3 = a3 → WK tb sp e (cxOf fn) k t0 [] H (Leaves tb e fn K)) : EC tb sp e f [a0, a1, a2, a3] H K := EC.intro hs hf hb hk hn (h _ (enterT_get (args := [a0, a1, a2, a3]) hn (by omega)) (enterT_get (args := [a0, a1, a2, a3]) hn (by omega)) (enterT_get (args := [a0, a1, a2, a3]) hn (by omega)) (enterT_get (args := [a0, a1, a2, a3]) hn (by omega)))
theorem EC.i5 (hs : sp f [a0, a1, a2, a3, a4] H = none) (hn : 5 ≤ fn.ntmps) (h : ∀ t0 : T Value, t0.get 0 = a0 → t0.get 1 = a1 → t0.get 2 = a2 → t0.get 3 = a3 → t0.get 4 = a4 → WK tb sp e (cxOf fn) k t0 [] H (Leaves tb e fn K)) : EC tb sp e f [a0, a1, a2, a3, a4] H K := EC.intro hs hf hb hk hn (h _ (enterT_get (args := [a0, a1, a2, a3, a4]) hn (by omega)) (enterT_get (args := [a0, a1, a2, a3, a4]) hn (by omega)) (enterT_get (args := [a0, a1, a2, a3, a4]) hn (by omega)) (enterT_get (args := [a0, a1, a2, a3, a4]) hn (by omega)) (enterT_get (args := [a0, a1, a2, a3, a4]) hn (by omega)))
end
end Go.Ev
namespace Go.Ev
variable [SyQ]
def GT (t : T Value) : List (Nat × Value) → Prop
  | [] => True
  | (i, v) :: l => t.get i = v ∧ GT t l
theorem wF {x y : Int} (h : -9223372036854775808 ≤ x ∧ x ≤ 9223372036854775807 ∧ x = y) : Value.int .i64 (wrapF .i64 x) = .int .i64 y := congrArg _ ((wrapF_i64 h.1 h.2.1).trans h.2.2)
end Go.Ev
end
noncomputable section
namespace Go.Ev
variable [SyQ]
open Go.Ar (By)
theorem ofNat_toNat8 (n : Nat) : (UInt8.ofNat n).toNat = n % 256 := by simp
theorem wrapF_nat {n : Nat} (h : n ≤ 9223372036854775807) : wrapF .i64 ((n : Nat) : Int) = ((n : Nat) : Int) := wrapF_i64 (by omega) (by omega)
theorem wrapI_i64 {n : Int} (h1 : -9223372036854775808 ≤ n) (h2 : n ≤ 9223372036854775807) : IntKind.i64.wrap n = n := by
  rw [← wrapF_eq]; exact wrapF_i64 h1 h2
theorem dec_T {h : Decidable True} : @decide True h = true := decide_eq_true trivial
theorem dec_F {h : Decidable False} : @decide False h = false := decide_eq_false id
theorem exLen_str (s : List UInt8) (H : Hp) : exLen 0 (vS s) H = .val (vN s.length) H 0 0 := rfl
theorem OvB.refl {H : Hp} {b ty n : Nat} {f : By} (hf : H.isFn = true) (h : ByU H b ty f n) : OvB H b ty f n H := ⟨h, hf, rfl, fun _ _ => rfl⟩
theorem OvB.trans {H H1 H2 : Hp} {b ty n : Nat} {f g : By} (h : OvB H b ty f n H1) (k : OvB H1 b ty g n H2) : OvB H b ty g n H2 := ⟨k.row, k.fn, by rw [k.nx, h.nx], fun c hc => by rw [k.else_ c hc, h.else_ c hc]⟩
theorem OvB.as {H H1 : Hp} {b ty n : Nat} {f g : By} (h : OvB H b ty f n H1) (e : f = g) : OvB H b ty g n H1 := by rw [← e]; exact h
def bitU (u : UInt8) (i : Nat) : UInt8 := UInt8.ofNat (48 + u.toNat / 2 ^ (7 - i) % 2)
def bitsOf (u : UInt8) : List UInt8 := (List.range 8).map (bitU u)
theorem ByU.congr {H : Hp} {b ty n : Nat} {f g : By} (h : ByU H b ty f n) (e : ∀ i, i < n → f i = g i) : ByU H b ty g n := by
  show Row H b ty 0 (bys g n)
  rw [← bys_congr e]; exact h
theorem ByU.toS0 {H : Hp} {b ty n k c : Nat} {f : By} (h : ByU H b ty f n) (hle : 0 + k ≤ n) : exToS (.slice (some ⟨b, 0, none⟩) k c) H = .val (vS (strF f k)) H (bit b) 0 := by
  rw [h.toS hle]
  simp only [Nat.zero_add]
theorem slA_lh {b l h : Nat} (H : Hp) (h1 : l ≤ h) (h2 : h ≤ 65536) (h3 : l < 65536) : exSlA 65536 1 (.pointer (some ⟨b, 0, none⟩)) (some (vN ((l : Nat) : Int))) (some (vN ((h : Nat) : Int))) none H = .val (.slice (some ⟨b, l, none⟩) (h - l) (2 * (65536 - l))) H 0 0 := by
  have : bounds 65536 65536 (some (vN (l : Int))) (some (vN (h : Int))) none = some (l, h, 65536) := by
    unfold bounds
    rw [show Bc ((none : Option Value).isSome && (some (vN (h : Int))).isNone) none (bnd none 65536 65536) = some 65536 from rfl]
    simp only []
    rw [bnd_some h2]
    simp only []
    rw [bnd_some h1]
  show (match bounds 65536 65536 (some (vN (l : Int))) (some (vN (h : Int))) none with
    | none => R.fail
    | some (l, h, m) => Bc (Nat.beq m l) (R.v (mkSlV (some (b, 0)) (h - l) (m - l) false) H) (R.v (mkSlV (some (b, 0 + l * 1)) (h - l) (m - l) false) H)) = _
  rw [this]
  simp only []
  have e : Nat.beq 65536 l = false := by
    cases hh : Nat.beq 65536 l with
    | false => rfl
    | true => have := (beq_iff _ _).1 hh; omega
  rw [e, Bc_f, Nat.mul_one, Nat.zero_add]
  rfl
theorem slA_n {b p n : Nat} (H : Hp) (h1 : p + n ≤ 65536) (h2 : p < 65536) : exSlA 65536 1 (.pointer (some ⟨b, 0, none⟩)) (some (vN ((p : Nat) : Int))) (some (vN ((p + n : Nat) : Int))) none H = .val (.slice (some ⟨b, p, none⟩) n (2 * (65536 - p))) H 0 0 := by
  rw [slA_lh H (by omega) h1 h2, show p + n - p = n by omega]
theorem quo8 {n q : Nat} (h : n / 8 = q) (hn : n < 9223372036854775808) (H : Hp) : R.o (binV .quo (vN ((n : Nat) : Int)) (.int .i64 8)) H = .val (vN ((q : Nat) : Int)) H 0 0 := by
  have : binV .quo (vN ((n : Nat) : Int)) (.int .i64 8) = some (vN ((q : Nat) : Int)) := by
    show Bc (eqI 8 0) none (some (Value.int .i64 (wrapF .i64 (((n : Nat) : Int).tdiv 8)))) = _
    rw [show eqI 8 0 = false from rfl, Bc_f]
    have : ((n : Nat) : Int).tdiv 8 = ((q : Nat) : Int) := by rw [Int.tdiv_eq_ediv_of_nonneg (Int.natCast_nonneg _)]; omega
    rw [this, wrapF_nat (by omega)]
  rw [this]; rfl
theorem remK {n q k : Nat} (hk : 0 < k) (h : n % k = q) (H : Hp) : R.o (binV .rem (vN ((n : Nat) : Int)) (.int .i64 ((k : Nat) : Int))) H = .val (vN ((q : Nat) : Int)) H 0 0 := by
  have : binV .rem (vN ((n : Nat) : Int)) (.int .i64 ((k : Nat) : Int)) = some (vN ((q : Nat) : Int)) := by
    show Bc (eqI ((k : Nat) : Int) 0) none (some (Value.int .i64 (((n : Nat) : Int).tmod ((k : Nat) : Int)))) = _
    have e : eqI ((k : Nat) : Int) 0 = false := by
      rw [eqI_dec]; exact decide_eq_false (by omega)
    rw [e, Bc_f]
    have : ((n : Nat) : Int).tmod ((k : Nat) : Int) = ((q : Nat) : Int) := by
      rw [Int.tmod_eq_emod_of_nonneg (Int.natCast_nonneg _), ← h]; rfl
    rw [this]
  rw [this]; rfl
theorem rem8q {n q : Nat} (h : n % 8 = q) (H : Hp) : R.o (binV .rem (vN ((n : Nat) : Int)) (.int .i64 8)) H = .val (vN ((q : Nat) : Int)) H 0 0 := remK (k := 8) (by decide) h H
abbrev nB (n : Nat) : Value := .int .u8 ((n : Nat) : Int)
theorem uB_nB (u : UInt8) : uB u = nB u.toNat := rfl
theorem nB_uB {n : Nat} (h : n < 256) : nB n = uB (UInt8.ofNat n) := by
  show Value.int .u8 (.ofNat n) = Value.int .u8 (.ofNat (UInt8.ofNat n).toNat)
  rw [ofNat_toNat8, Nat.mod_eq_of_lt h]
theorem shr8u {n k : Nat} (hk : k < 8) : binV .shr (nB n) (vN ((k : Nat) : Int)) = some (nB (n / 2 ^ k)) := by
  show Bc (ltI (k : Int) 0) none (some (Value.int .u8 (((n : Nat) : Int).fdiv (2 ^ (min ((k : Int)).toNat IntKind.u8.bits))))) = _
  rw [show ltI (k : Int) 0 = false from by rw [ltI_dec]; exact decide_eq_false (by omega), Bc_f]
  have e : min ((k : Int)).toNat IntKind.u8.bits = k := by
    rw [Int.toNat_natCast]; exact Nat.min_eq_left (by show k ≤ 8; omega)
  rw [e]
  have : ((2 : Int) ^ k) = ((2 ^ k : Nat) : Int) := by simp
  rw [this, Int.fdiv_eq_ediv_of_nonneg _ (by exact Int.natCast_nonneg _)]
  congr 2
theorem wrap8 {n : Nat} (h : n < 256) : wrapF .u8 ((n : Nat) : Int) = ((n : Nat) : Int) := by
  show Bc (Nat.ble n (kmax .u8)) (Int.ofNat n) _ = _
  rw [(ble_iff _ _).2 (by show n ≤ 255; omega), Bc_t]; rfl
theorem and1 {n : Nat} (h : n < 256) : binV .and (nB n) (.int .u8 1) = some (nB (n % 2)) := by
  show some (Value.int .u8 (wrapF .u8 (.ofNat (Nat.land n 1)))) = _
  have : Nat.land n 1 = n % 2 := Nat.and_one_is_mod n
  rw [this]
  show some (Value.int .u8 (wrapF .u8 ((n % 2 : Nat) : Int))) = _
  rw [wrap8 (by omega)]
theorem add48 {n : Nat} (h : n < 2) : binV .add (.int .u8 48) (nB n) = some (nB (48 + n)) := by
  show some (Value.int .u8 (wrapF .u8 (48 + ((n : Nat) : Int)))) = _
  rw [show (48 + ((n : Nat) : Int)) = ((48 + n : Nat) : Int) by omega, wrap8 (by omega)]
def mixU (a u i : Nat) : Nat := 2 ^ (8 - i) * (u / 2 ^ (8 - i)) + a % 2 ^ (8 - i)
theorem mix_bit {a u i : Nat} (hu : u < 256) (j : Nat) : (mixU a u i).testBit j = if j < 8 - i then a.testBit j else u.testBit j := by
  unfold mixU
  rw [Nat.testBit_two_pow_mul_add _ (Nat.mod_lt _ (Nat.two_pow_pos _))]
  by_cases h : j < 8 - i
  · rw [if_pos h, if_pos h, Nat.testBit_mod_two_pow]; simp [h]
  · rw [if_neg h, if_neg h, Nat.testBit_div_two_pow]; congr 1; omega
theorem mix_lt {a u i : Nat} (ha : a < 256) (hu : u < 256) : mixU a u i < 256 := by
  have : mixU a u i < 2 ^ 8 := Nat.lt_pow_two_of_testBit _ fun j hj => by
    rw [mix_bit hu]
    have e1 : a.testBit j = false := Nat.testBit_lt_two_pow (Nat.lt_of_lt_of_le ha (show 256 ≤ 2 ^ j from Nat.pow_le_pow_right (n := 2) (by decide) hj))
    have e2 : u.testBit j = false := Nat.testBit_lt_two_pow (Nat.lt_of_lt_of_le hu (show 256 ≤ 2 ^ j from Nat.pow_le_pow_right (n := 2) (by decide) hj))
    rw [e1, e2]; simp
  exact this
theorem mix_zero {a u : Nat} (ha : a < 256) (hu : u < 256) : mixU a u 0 = a := by
  unfold mixU
  have e1 : u / 2 ^ (8 - 0) = 0 := Nat.div_eq_of_lt hu
  have e2 : a % 2 ^ (8 - 0) = a := Nat.mod_eq_of_lt ha
  rw [e1, e2]; omega
theorem mix_all (a u : Nat) : mixU a u 8 = u := by
  unfold mixU; simp [Nat.mod_one]
theorem shr128 {i : Nat} (h : i < 8) : binV .shr (.int .u8 128) (vN ((i : Nat) : Int)) = some (nB (2 ^ (7 - i))) := by
  have := shr8u (n := 128) h
  rw [show (128 : Nat) = 2 ^ 7 from rfl, Nat.pow_div (by omega) (by decide)] at this
  exact this
theorem u_bit {u i : Nat} (hi : i < 8) : u / 2 ^ (7 - i) % 2 = (if u.testBit (7 - i) then 1 else 0) := by
  rw [Nat.testBit_eq_decide_div_mod_eq]
  have := Nat.mod_lt (u / 2 ^ (7 - i)) (show 0 < 2 by decide)
  by_cases h : u / 2 ^ (7 - i) % 2 = 1
  · simp [h]
  · simp [h]; omega
theorem mix_or {a u i : Nat} (ha : a < 256) (hu : u < 256) (hi : i < 8) (hb : u / 2 ^ (7 - i) % 2 = 1) : binV .or (nB (mixU a u i)) (nB (2 ^ (7 - i))) = some (nB (mixU a u (i + 1))) := by
  have hb' : u.testBit (7 - i) = true := by rw [Nat.testBit_eq_decide_div_mod_eq]; simp [hb]
  have e : Nat.lor (mixU a u i) (2 ^ (7 - i)) = mixU a u (i + 1) := by
    apply Nat.eq_of_testBit_eq
    intro j
    show (mixU a u i ||| 2 ^ (7 - i)).testBit j = _
    rw [Nat.testBit_or, mix_bit hu, mix_bit hu, Nat.testBit_two_pow]
    by_cases h1 : 7 - i = j
    · subst h1
      rw [if_pos (by omega : 7 - i < 8 - i), if_neg (by omega : ¬ 7 - i < 8 - (i + 1)), hb']; simp
    · simp only [h1, decide_false, Bool.or_false]
      by_cases h2 : j < 8 - i
      · rw [if_pos h2, if_pos (by omega)]
      · rw [if_neg h2, if_neg (by omega)]
  show some (Value.int .u8 (wrapF .u8 (.ofNat (Nat.lor (mixU a u i) (2 ^ (7 - i)))))) = _
  rw [e]
  show some (Value.int .u8 (wrapF .u8 ((mixU a u (i + 1) : Nat) : Int))) = _
  rw [wrap8 (mix_lt ha hu)]
theorem mix_and {a u i : Nat} (ha : a < 256) (hu : u < 256) (hi : i < 8) (hb : u / 2 ^ (7 - i) % 2 = 0) : binV .andNot (nB (mixU a u i)) (nB (2 ^ (7 - i))) = some (nB (mixU a u (i + 1))) := by
  have hb' : u.testBit (7 - i) = false := by rw [Nat.testBit_eq_decide_div_mod_eq]; simp [hb]
  have hm := mix_lt (i := i) ha hu
  have hp : 2 ^ (7 - i) < 256 := Nat.pow_lt_pow_right (a := 2) (m := 7 - i) (n := 8) (by decide) (by omega)
  have e : (BitVec.ofInt 8 ((mixU a u i : Nat) : Int) &&& ~~~ (BitVec.ofInt 8 ((2 ^ (7 - i) : Nat) : Int))).toNat = mixU a u (i + 1) := by
    have e1 : (BitVec.ofInt 8 ((mixU a u i : Nat) : Int)) = BitVec.ofNat 8 (mixU a u i) := by simp
    have e2 : (BitVec.ofInt 8 ((2 ^ (7 - i) : Nat) : Int)) = BitVec.ofNat 8 (2 ^ (7 - i)) := BitVec.ofInt_natCast _ _
    rw [e1, e2]
    apply Nat.eq_of_testBit_eq
    intro j
    rw [BitVec.testBit_toNat, BitVec.getLsbD_and, BitVec.getLsbD_not, BitVec.getLsbD_ofNat, BitVec.getLsbD_ofNat, mix_bit hu, mix_bit hu, Nat.testBit_two_pow]
    by_cases h8 : j < 8
    · by_cases h1 : 7 - i = j
      · subst h1
        rw [if_neg (by omega : ¬ 7 - i < 8 - (i + 1)), hb']; simp
      · simp only [h1, decide_false, h8, decide_true, Bool.true_and, Bool.not_false, Bool.and_true, Bool.and_false]
        by_cases h2 : j < 8 - i
        · rw [if_pos h2, if_pos (by omega)]
        · rw [if_neg h2, if_neg (by omega)]
    · have e2 : u.testBit j = false := Nat.testBit_lt_two_pow (Nat.lt_of_lt_of_le hu (show 256 ≤ 2 ^ j from Nat.pow_le_pow_right (n := 2) (by decide) (show 8 ≤ j by omega)))
      have n1 : ¬ j < 8 - i := by omega
      have n2 : ¬ j < 8 - (i + 1) := by omega
      have n3 : ¬ j < 7 - i := by omega
      simp [h8, n1, n2, n3, e2]
  show some (Value.int .u8 (IntKind.u8.wrap ((BitVec.ofInt 8 ((mixU a u i : Nat) : Int) &&& ~~~ (BitVec.ofInt 8 ((2 ^ (7 - i) : Nat) : Int))).toNat : Nat))) = _
  rw [e, ← wrapF_eq, wrap8 (mix_lt ha hu)]
end Go.Ev
namespace Go.Ev
variable [SyQ]
open Go.Ar (By)
theorem bit_add (u : UInt8) (i : Nat) : binV .add (.int .u8 48) (nB (u.toNat / 2 ^ (7 - i) % 2)) = some (uB (bitU u i)) := by
  have := Nat.mod_lt (u.toNat / 2 ^ (7 - i)) (show 0 < 2 by decide)
  rw [add48 this, nB_uB (by omega)]; rfl
theorem ixS_bits {u : UInt8} {i : Nat} (h : i < 8) (H : Hp) : exIxS (vS (bitsOf u)) (vN ((i : Nat) : Int)) H = .val (uB (bitU u i)) H 0 0 := by
  have hl : (bitsOf u).length = 8 := by simp [bitsOf]
  have hg : (bitsOf u)[i]? = some (bitU u i) := by simp [bitsOf, h]
  have : idx (vN ((i : Nat) : Int)) (bitsOf u).length = some i := by
    show Bc (Nat.blt i (bitsOf u).length) (some i) none = _
    rw [(blt_iff _ _).2 (by rw [hl]; exact h)]; rfl
  show (match idx (vN ((i : Nat) : Int)) (bitsOf u).length with | some m => (match (bitsOf u)[m]? with | some c => R.v (.int .u8 (.ofNat c.toNat)) H | none => .fail) | none => .fail) = _
  rw [this]; simp only [hg]; rfl
theorem eq49_t {u : UInt8} {i : Nat} (h : u.toNat / 2 ^ (7 - i) % 2 = 1) (H : Hp) : exEq false (.one .i) (uB (bitU u i)) (.int .u8 49) H = .val (.bool true) H 0 0 := by
  have : bitU u i = 49 := by unfold bitU; rw [h]; rfl
  rw [this]; rfl
theorem eq49_f {u : UInt8} {i : Nat} (h : u.toNat / 2 ^ (7 - i) % 2 = 0) (H : Hp) : exEq false (.one .i) (uB (bitU u i)) (.int .u8 49) H = .val (.bool false) H 0 0 := by
  have : bitU u i = 48 := by unfold bitU; rw [h]; rfl
  rw [this]; rfl
theorem len_bits (u : UInt8) (H : Hp) : exLen 0 (vS (bitsOf u)) H = .val (vN ((8 : Nat))) H 0 0 := by
  show R.val (vN (((bitsOf u).length : Nat) : Int)) H 0 0 = _
  rw [show (bitsOf u).length = 8 by simp [bitsOf]]
def bitsP (u : UInt8) (i : Nat) : By := fun j => if j < i then bitU u j else 0
theorem bitsP_zero (u : UInt8) : (fun _ => 0 : By) = bitsP u 0 := by funext j; unfold bitsP; rw [if_neg (by omega)]
theorem bitsP_next {u : UInt8} {i : Nat} (j : Nat) : over (bitsP u i) i 1 (fun _ => bitU u i) j = bitsP u (i + 1) j := by
  unfold over bitsP
  by_cases h : i ≤ j ∧ j < i + 1
  · rw [if_pos h, if_pos (by omega), show j = i by omega]
  · rw [if_neg h]
    by_cases h2 : j < i
    · rw [if_pos h2, if_pos (by omega)]
    · rw [if_neg h2, if_neg (by omega)]
theorem bitsP_all (u : UInt8) : strF (bitsP u 8) 8 = bitsOf u := by
  unfold strF bitsOf
  apply List.map_congr_left
  intro i hi
  unfold bitsP; rw [if_pos (List.mem_range.1 hi)]
def memF (f : By) (p x : Nat) : By := over f p 1 fun _ => UInt8.ofNat x
theorem memF_at (f : By) (p x : Nat) : memF f p x p = UInt8.ofNat x := by unfold memF over; rw [if_pos (by omega)]
theorem memF_over {f : By} {p x y : Nat} (j : Nat) : over (memF f p x) p 1 (fun _ => UInt8.ofNat y) j = memF f p y j := by
  unfold memF over
  by_cases h : p ≤ j ∧ j < p + 1
  · rw [if_pos h, if_pos h]
  · rw [if_neg h, if_neg h, if_neg h]
theorem memF_zero (f : By) (p : Nat) (u : UInt8) : f = memF f p (mixU (f p).toNat u.toNat 0) := by
  funext j
  unfold memF over
  rw [mix_zero (f p).toNat_lt u.toNat_lt]
  by_cases h : p ≤ j ∧ j < p + 1
  · rw [if_pos h, show j = p by omega]; simp
  · rw [if_neg h]
theorem memF_all (f : By) (p : Nat) (u : UInt8) : memF f p (mixU (f p).toNat u.toNat 8) = over f p 1 fun _ => u := by
  unfold memF; rw [mix_all]; simp
theorem mem_or {f : By} {p i : Nat} {u : UInt8} (hi : i < 8) (hb : u.toNat / 2 ^ (7 - i) % 2 = 1) : binV .or (uB (memF f p (mixU (f p).toNat u.toNat i) p)) (nB (2 ^ (7 - i))) = some (uB (UInt8.ofNat (mixU (f p).toNat u.toNat (i + 1)))) := by
  rw [memF_at, ← nB_uB (mix_lt (f p).toNat_lt u.toNat_lt), mix_or (f p).toNat_lt u.toNat_lt hi hb, nB_uB (mix_lt (f p).toNat_lt u.toNat_lt)]
theorem mem_and {f : By} {p i : Nat} {u : UInt8} (hi : i < 8) (hb : u.toNat / 2 ^ (7 - i) % 2 = 0) : binV .andNot (uB (memF f p (mixU (f p).toNat u.toNat i) p)) (nB (2 ^ (7 - i))) = some (uB (UInt8.ofNat (mixU (f p).toNat u.toNat (i + 1)))) := by
  rw [memF_at, ← nB_uB (mix_lt (f p).toNat_lt u.toNat_lt), mix_and (f p).toNat_lt u.toNat_lt hi hb, nB_uB (mix_lt (f p).toNat_lt u.toNat_lt)]
end Go.Ev
end
