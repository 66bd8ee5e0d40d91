/-
  A part of the reckoner for the statements of a Go program: what it answers, the model answers. Holds for every program whose tables are as given.
-/
import Derived.KernelRfl
import Derived.Test.YtdaglpleolagnaaGreatDoorG10
import Derived.Test.YtdaglpleolagnaaGreatDoorG11
set_option linter.unusedSimpArgs false
set_option linter.unusedVariables false

noncomputable section
namespace Go.Ev
/-! ### Appending -/
section
theorem okBytes_of {need bytes : Nat} (h1 : (2 * need + 768) * bytes ≤ 140737488355328) (h2 : need ≤ 140737488355328) : okBytes need bytes = true := by
  unfold okBytes
  rw [(ble_iff _ _).2 h1, (ble_iff _ _).2 h2]; rfl
theorem rdN_all {H : Hp} {b ty op : Nat} {L : List Value} (h : Row H b ty op L) : rdN H b 0 L.length = some L := by
  rw [rdN_row h (by omega)]; simp
/-- the cells that are appended -/
theorem cellsOf_slice {H : Hp} {b ty op o n sz c : Nat} {L : List Value} (h : Row H b ty op L) (hle : o + n * sz ≤ L.length) : cellsOfV H sz n (.slice (some ⟨b, o, none⟩) n c) = some ((L.drop o).take (n * sz), bit b) := by
  unfold cellsOfV
  simp only [rdN_row h hle]
/-- append to nil -/
theorem exApp_nil {H : Hp} (hr : H.room = true) {ty sz by_ n r : Nat} {x : Value} {new : List Value} (hl : lenV x = some n) (hn : 0 < n) (hc : cellsOfV H sz n x = some (new, r)) (hb : okBytes n by_ = true) :
    exApp ty sz by_ (.slice none 0 0) x H = .val (.slice (some ⟨H.nx, 0, none⟩) n (2 * n + 1)) (H.push (blkL new ty (sz + 1))) r 0 := by
  unfold exApp
  simp only [hl, hc, asSl, Nat.zero_add]
  have h1 : Nat.ble n 0 = false := by rw [ble_f]; exact hn
  rw [h1, Bc_f, hb, Bc_t]
  show Bc (Nat.beq 0 0) _ _ = _
  rw [show Nat.beq 0 0 = true from rfl, Bc_t, alloc1_room hr]
  rfl
/-- append to a slice that was written down whole: its block stays -/
theorem exApp_shut {H : Hp} (hr : H.room = true) {ty sz by_ n m r b : Nat} {L : List Value} {x : Value} {new : List Value} (h : Row H b ty 0 L) (hL : L.length = m * sz) (hl : lenV x = some n) (hn : 0 < n) (hc : cellsOfV H sz n x = some (new, r)) (hb : okBytes (m + n) by_ = true) :
    exApp ty sz by_ (.slice (some ⟨b, 0, none⟩) m (2 * m)) x H = .val (.slice (some ⟨H.nx, 0, none⟩) (m + n) (2 * (m + n) + 1)) (H.push (blkL (L ++ new) ty (sz + 1))) (Nat.lor r (bit b)) 0 := by
  unfold exApp
  simp only [hl, hc, asSl_shut]
  have h1 : Nat.ble (m + n) m = false := by rw [ble_f]; omega
  rw [h1, Bc_f, hb, Bc_t, ← hL, rdN_all h]
  simp only []
  rw [Bc_f, alloc1_room hr]
  rfl
theorem thawed_zero (o k : Nat) : thawed o k 0 0 = true := by
  unfold thawed
  rw [show Nat.ble 0 0 = true from rfl]; rfl
/-- append to a slice that append has made: the canonical heap forgets the old block -/
theorem exApp_open {H : Hp} (hr : H.room = true) {ty sz by_ n m r b : Nat} {L : List Value} {x : Value} {new : List Value} (h : Row H b ty (sz + 1) L) (hL : L.length = m * sz) (hl : lenV x = some n) (hn : 0 < n) (hc : cellsOfV H sz n x = some (new, r)) (hb : okBytes (m + n) by_ = true) :
    exApp ty sz by_ (.slice (some ⟨b, 0, none⟩) m (2 * m + 1)) x H = .val (.slice (some ⟨H.nx, 0, none⟩) (m + n) (2 * (m + n) + 1)) ((H.put b .no).push (blkL (L ++ new) ty (sz + 1))) r (bit b) := by
  obtain ⟨t, h1, h2⟩ := h
  have hrow : Row H b ty (sz + 1) L := ⟨t, h1, h2⟩
  unfold exApp
  simp only [hl, hc, asSl_open]
  have h3 : Nat.ble (m + n) m = false := by rw [ble_f]; omega
  rw [h3, Bc_f, hb, Bc_t, ← hL, rdN_all hrow]
  simp only [h1]
  rw [Bc_t]
  have hcond : (Nat.beq (sz + 1) (Nat.succ sz) && Nat.beq (0 + L.length) L.length && Nat.beq ty ty && (Nat.ble 0 0 || Nat.ble 0 0) && thawed (0 + L.length) (n * sz) 0 0) = true := by
    rw [thawed_zero, (beq_iff (sz + 1) (Nat.succ sz)).2 rfl, (beq_iff (0 + L.length) L.length).2 (by omega), (beq_iff ty ty).2 rfl]; rfl
  rw [hcond, Bc_t, alloc1_room (by rw [room_put]; exact hr), nx_put]
  have hfr : frB (Nat.blt 0 0) (0 - 0) (0 - 0) (blkL (L ++ new) ty (Nat.succ sz)) = blkL (L ++ new) ty (sz + 1) := by
    obtain ⟨t2, e2, _⟩ := blkL_eq (L ++ new) ty (sz + 1)
    show frB (Nat.blt 0 0) (0 - 0) (0 - 0) (blkL (L ++ new) ty (sz + 1)) = _
    rw [e2]; rfl
  rw [hfr]
  rfl
end
/-! ### Maps with integer keys -/
section
def keyI : Value → Option Int
  | .int .i64 z => some z
  | _ => none
/-- where a key stands -/
def posK (k : Int) : List MapEntry → Nat → Option (Nat × Value)
  | [], _ => none
  | e :: es, i => if keyI e.key = some k then some (i, e.val) else posK k es (i + 1)
def intKeys (es : List MapEntry) : Prop := ∀ e ∈ es, ∃ z, e.key = .int .i64 z
theorem findK_int (k : Int) : ∀ (es : List MapEntry) (i : Nat), intKeys es → findK (.one .i) (.int .i64 k) es i = some (posK k es i) := by
  intro es
  induction es with
  | nil => intro i _; rfl
  | cons e es ih =>
    intro i h
    obtain ⟨z, hz⟩ := h e (by simp)
    have ih' := ih (i + 1) fun x hx => h x (by simp [hx])
    simp only [findK, posK, hz, keyI]
    have he : eqV (.one .i) (.int .i64 k) (.int .i64 z) = some (decide (k = z)) := by rw [← eqI_dec]; rfl
    rw [he]
    by_cases hkz : k = z
    · subst hkz; simp
    · rw [decide_eq_false hkz]
      have : ¬ (some z = some k) := fun h => hkz (by cases h; rfl)
      rw [if_neg this]; exact ih'
/-- a map as a function of its keys -/
def mapF (es : List MapEntry) (k : Int) : Option Value := (posK k es 0).map (·.2)
theorem posK_shift (k : Int) : ∀ (es : List MapEntry) (i : Nat), posK k es i = (posK k es 0).map fun x => (x.1 + i, x.2) := by
  intro es
  induction es with
  | nil => intro i; rfl
  | cons e es ih =>
    intro i
    simp only [posK]
    split
    · simp
    · rw [ih (i + 1), ih (0 + 1)]
      simp only [Option.map_map]
      congr 1
      funext x
      simp; omega
theorem mapF_nil (k : Int) : mapF [] k = none := rfl
theorem mapF_cons (e : MapEntry) (es : List MapEntry) (k : Int) : mapF (e :: es) k = if keyI e.key = some k then some e.val else mapF es k := by
  unfold mapF
  simp only [posK]
  split
  · rfl
  · rw [posK_shift k es (0 + 1)]; simp [Function.comp_def]
theorem mapF_append (a b : List MapEntry) (k : Int) : mapF (a ++ b) k = (mapF a k).or (mapF b k) := by
  induction a with
  | nil => rfl
  | cons e a ih =>
    rw [List.cons_append, mapF_cons, mapF_cons]
    split
    · rfl
    · exact ih
theorem posK_key {k : Int} : ∀ {es : List MapEntry} {n i : Nat} {v : Value}, posK k es n = some (i, v) → ∃ e, es[i - n]? = some e ∧ keyI e.key = some k ∧ n ≤ i := by
  intro es
  induction es with
  | nil => intro n i v h; cases h
  | cons e es ih =>
    intro n i v h
    simp only [posK] at h
    split at h
    · rename_i he; cases h; exact ⟨e, by simp, he, Nat.le_refl _⟩
    · obtain ⟨e', h1, h2, h3⟩ := ih h
      exact ⟨e', by rw [show i - n = (i - (n + 1)) + 1 from by omega]; simpa using h1, h2, by omega⟩
/-- a key is turned in its place -/
theorem mapF_modify (k : Int) (x : Value) : ∀ (es : List MapEntry) (i : Nat) (v : Value), posK k es 0 = some (i, v) → ∀ j, mapF (es.modify i fun e => { e with key := .int .i64 k, val := x }) j = if j = k then some x else mapF es j := by
  intro es
  induction es with
  | nil => intro i v h; cases h
  | cons e es ih =>
    intro i v h j
    simp only [posK] at h
    split at h
    · rename_i he
      simp only [Option.some.injEq, Prod.mk.injEq] at h
      obtain ⟨rfl, _⟩ := h
      simp only [List.modify_zero_cons, mapF_cons]
      by_cases hj : j = k
      · subst hj
        rw [if_pos (show keyI (.int .i64 j) = some j from rfl), if_pos rfl]
      · have : ¬ (some k = some j) := fun h => hj (by cases h; rfl)
        rw [if_neg (show ¬ keyI (.int .i64 k) = some j from this), if_neg hj, he, if_neg this]
    · rename_i he
      rw [posK_shift] at h
      cases hp : posK k es 0 with
      | none => rw [hp] at h; cases h
      | some y =>
        obtain ⟨i', v'⟩ := y
        rw [hp] at h
        simp only [Option.map_some, Option.some.injEq, Prod.mk.injEq] at h
        obtain ⟨rfl, rfl⟩ := h
        rw [show i' + (0 + 1) = Nat.succ i' from rfl, List.modify_succ_cons, mapF_cons, mapF_cons, ih i' v' hp j]
        by_cases hj : j = k
        · subst hj; rw [if_neg he, if_pos rfl, if_pos rfl]
        · rw [if_neg hj, if_neg hj]
theorem posK_none {k : Int} {es : List MapEntry} (h : posK k es 0 = none) : mapF es k = none := by unfold mapF; rw [h]; rfl
/-- a block that is a map with integer keys -/
def MapI (H : Hp) (b : Nat) (es : List MapEntry) : Prop := ∃ c, H.blk b = .obj (.map ⟨es⟩ c) ∧ intKeys es
theorem MapI.alive {H : Hp} {b : Nat} {es : List MapEntry} (h : MapI H b es) : alive H b := by obtain ⟨c, h, _⟩ := h; exact (alive_iff H b).2 (by rw [h]; simp)
theorem MapI.of_blk {H H' : Hp} {b : Nat} {es : List MapEntry} (h : MapI H b es) (e : H'.blk b = H.blk b) : MapI H' b es := by obtain ⟨c, h1, h2⟩ := h; exact ⟨c, e.trans h1, h2⟩
theorem exLkp_map {H : Hp} {b : Nat} {es : List MapEntry} (h : MapI H b es) (z : Value) (ok : Bool) (k : Int) :
    exLkp z ok (.one .i) (.map (some b)) (.int .i64 k) H = .val (match mapF es k with | some x => Bc ok (.tuple #[x, .bool true]) x | none => Bc ok (.tuple #[z, .bool false]) z) H (bit b) 0 := by
  obtain ⟨c, h1, h2⟩ := h
  have hm : mapOf H b = some (⟨es⟩, c) := by unfold mapOf; rw [h1]
  show (match mapOf H b with | none => R.fail | some (es, _) => _) = _
  rw [hm]
  simp only [findK_int k es 0 h2, mapF]
  cases posK k es 0 with
  | none => rfl
  | some y => rfl
/-- what a store makes of the entries -/
theorem exMup_map {H : Hp} {b : Nat} {es : List MapEntry} (h : MapI H b es) (k : Int) (x : Value) :
    ∃ es' c', exMup (.one .i) (.map (some b)) (.int .i64 k) x H = .val U (H.put b (.obj (.map ⟨es'⟩ c'))) 0 (bit b) ∧ intKeys es' ∧
      (∀ j, mapF es' j = if j = k then some x else mapF es j) ∧ es'.map (fun e => keyI e.key) = (if (mapF es k).isSome then es.map (fun e => keyI e.key) else es.map (fun e => keyI e.key) ++ [some k]) := by
  obtain ⟨c, h1, h2⟩ := h
  have hm : mapOf H b = some (⟨es⟩, c) := by unfold mapOf; rw [h1]
  cases hp : posK k es 0 with
  | some y =>
    obtain ⟨i, v⟩ := y
    refine ⟨es.modify i fun e => { e with key := .int .i64 k, val := x }, c, ?_, fun e he => ?_, mapF_modify k x es i v hp, ?_⟩
    · simp only [exMup, asM, hm, findK_int k es 0 h2, hp]
    · rw [List.mem_iff_getElem?] at he
      obtain ⟨j, hj⟩ := he
      rw [List.getElem?_modify] at hj
      cases hej : es[j]? with
      | none => rw [hej] at hj; simp at hj
      | some e0 =>
        rw [hej] at hj
        have hk0 := h2 e0 (List.mem_of_getElem? hej)
        have hj' : (if i = j then ({ e0 with key := .int .i64 k, val := x } : MapEntry) else e0) = e := Option.some.inj hj
        rw [← hj']
        split
        · exact ⟨k, rfl⟩
        · exact hk0
    · have hs : (mapF es k).isSome = true := by unfold mapF; rw [hp]; rfl
      rw [if_pos hs]
      obtain ⟨e, g1, g2, _⟩ := posK_key hp
      have g3 : es[i]? = some e := by simpa using g1
      apply List.ext_getElem?
      intro j
      rw [List.getElem?_map, List.getElem?_map, List.getElem?_modify]
      by_cases hij : i = j
      · subst hij
        rw [g3]
        show some (keyI (if i = i then ({ e with key := .int .i64 k, val := x } : MapEntry) else e).key) = some (keyI e.key)
        rw [if_pos rfl]
        exact congrArg some g2.symm
      · simp [hij]
  | none =>
    refine ⟨es ++ [{ key := .int .i64 k, val := x, born := c }], Nat.succ c, ?_, fun e he => ?_, fun j => ?_, ?_⟩
    · simp only [exMup, asM, hm, findK_int k es 0 h2, hp]
    · rcases List.mem_append.1 he with he | he
      · exact h2 e he
      · simp at he; subst he; exact ⟨k, rfl⟩
    · rw [mapF_append, mapF_cons, mapF_nil]
      by_cases hj : j = k
      · subst hj; rw [posK_none hp]; simp [keyI]
      · have : ¬ (some k = some j) := fun h => hj (by cases h; rfl)
        simp [hj, keyI, this]
    · have hs : ¬ ((mapF es k).isSome = true) := by rw [posK_none hp]; simp
      rw [if_neg hs]; simp [keyI]
end
end Go.Ev
end

noncomputable section
namespace Go.Ev
/-! ### Regions, as a formula that simp unfolds -/
section
variable (tb : Tb) (sp : Nat → List Value → Hp → Option (Value × Hp × Nat × Nat)) (e : Env)
/-- a region that only reads, in whatever order -/
def WOR (d : Nat) (H : Hp) (K : T Value → Prop) : List CO → T Value → Prop
  | [], t => K t
  | o :: cos, t => (match wants t o.guard with
    | true => (match run o.op t H with
      | .val v H' r w => H' = H ∧ w = 0 ∧ e.ok r 0 H ∧ WOR d H K cos (putT d t o.dst v)
      | _ => False)
    | false => WOR d H K cos (putT d t o.dst U))
mutual
/-- a region in text order -/
def WOG (d : Nat) (K : T Value → Hp → Prop) : List CO → T Value → Hp → Prop
  | [], t, H => K t H
  | o :: cos, t, H => (match wants t o.guard with
    | true => (match run o.op t H with
      | .val v H1 r w => e.ok r w H1 ∧ H.nx ≤ H1.nx ∧ WOG d K cos (putT d t o.dst v) H1
      | .call f args => EC tb sp e f args H (WOGk d K cos t o.dst)
      | _ => False)
    | false => WOG d K cos (putT d t o.dst U) H)
/-- what comes behind a call -/
def WOGk (d : Nat) (K : T Value → Hp → Prop) (cos : List CO) (t : T Value) (dst : Option Tmp) : Value → Hp → Prop := fun v H1 => WOG d K cos (putT d t dst v) H1
end
end
section
variable {tb : Tb} {sp : Nat → List Value → Hp → Option (Value × Hp × Nat × Nat)} {e : Env}
theorem WO.of_wog {cx : Cx} {K : T Value → Hp → Prop} {ds : List Deferred} : ∀ {cos : List CO} {t : T Value} {H : Hp}, WOG tb sp e cx.d K cos t H → WO tb sp e cx cos t ds H (fun t' ds' H' => ds' = ds ∧ K t' H') := by
  intro cos
  induction cos with
  | nil => intro t H h; rw [WOG] at h; exact WO.nil ⟨rfl, h⟩
  | cons o cos ih =>
    intro t H h
    rw [WOG] at h
    cases hg : wants t o.guard with
    | true =>
      rw [hg] at h
      refine WO.cons hg ?_
      revert h
      cases run o.op t H with
      | val v H1 r w => exact fun h => ⟨h.1, h.2.1, ih h.2.2⟩
      | call f args => exact fun h => EC.mono h fun v H1 _ hk => ih (by rw [WOGk] at hk; exact hk)
      | _ => exact fun h => h.elim
    | false =>
      rw [hg] at h
      exact WO.skip hg (ih h)
theorem okPair_reads (B : Array Nat) : ∀ {acc : Acc}, (∀ x ∈ acc, x.2.2 = 0) → okPair B acc = true := by
  have one : ∀ (b rj : Nat) (acc : Acc), (∀ x ∈ acc, x.2.2 = 0) → okOne b rj 0 acc = true := by
    intro b rj acc
    induction acc with
    | nil => intro _; rfl
    | cons x acc ih =>
      intro h
      obtain ⟨i, ri, wi⟩ := x
      have h0 : wi = 0 := h (i, ri, wi) (by simp)
      subst h0
      have ih' := ih fun y hy => h y (by simp [hy])
      simp only [okOne]
      cases Nat.testBit b i with
      | true => rw [Bc_t]; exact ih'
      | false =>
        rw [Bc_f]
        have e1 : Nat.land 0 (Nat.lor rj 0) = 0 := Nat.zero_and _
        have e2 : Nat.land 0 ri = 0 := Nat.zero_and _
        rw [e1, e2]; exact ih'
  intro acc
  induction acc with
  | nil => intro _; rfl
  | cons x acc ih =>
    intro h
    obtain ⟨i, ri, wi⟩ := x
    have h0 : wi = 0 := h (i, ri, wi) (by simp)
    subst h0
    simp only [okPair, Bool.and_eq_true]
    exact ⟨one _ _ _ fun y hy => h y (by simp [hy]), ih fun y hy => h y (by simp [hy])⟩
theorem wor_run {d : Nat} {H : Hp} {K : T Value → Prop} : ∀ {cos : List CO} {t : T Value}, WOR e d H K cos t →
    ∃ t' r, (∀ (rec : Rec) (cx : Cx) i ds acc r0 w0, cx.d = d → (∀ x ∈ acc, x.2.2 = 0) → ∃ acc', (∀ x ∈ acc', x.2.2 = 0) ∧ evOps rec cx cos i t ds H acc r0 w0 = .mk .normal t' ds H acc' (Nat.lor r0 r) (Nat.lor w0 0)) ∧ e.ok r 0 H ∧ K t' := by
  intro cos
  induction cos with
  | nil => intro t h; exact ⟨t, 0, fun rec cx i ds acc r0 w0 _ ha => ⟨acc, ha, by rw [lor_zero', lor_zero']; rfl⟩, .zero e H, h⟩
  | cons o cos ih =>
    intro t h
    rw [WOR] at h
    cases hg : wants t o.guard with
    | true =>
      rw [hg] at h
      simp only [] at h
      cases hr : run o.op t H with
      | val v H1 r w =>
        rw [hr] at h
        obtain ⟨rfl, rfl, h1, h2⟩ := h
        obtain ⟨t', r2, h3, h4, h5⟩ := ih h2
        refine ⟨t', Nat.lor r r2, fun rec cx i ds acc r0 w0 hd ha => ?_, by have := h1.lor h4 (Nat.le_refl _); rwa [lor_zero'] at this, h5⟩
        obtain ⟨acc', h6, h7⟩ := h3 rec cx (Nat.succ i) ds ((i, r, Nat.lor 0 (rng H1 H1)) :: acc) (Nat.lor r0 r) (Nat.lor w0 0) hd (fun x hx => by
          rcases List.mem_cons.1 hx with rfl | hx
          · show Nat.lor 0 (rng H1 H1) = 0
            rw [rng_none rfl]; rfl
          · exact ha x hx)
        refine ⟨acc', h6, ?_⟩
        subst hd
        simp only [evOps, hg, Bc_t, hr, stepR]
        rw [h7, lor_assoc', lor_assoc', lor_zero' 0]
      | _ => rw [hr] at h; exact h.elim
    | false =>
      rw [hg] at h
      obtain ⟨t', r2, h3, h4, h5⟩ := ih h
      refine ⟨t', r2, fun rec cx i ds acc r0 w0 hd ha => ?_, h4, h5⟩
      obtain ⟨acc', h6, h7⟩ := h3 rec cx (Nat.succ i) ds acc r0 w0 hd ha
      refine ⟨acc', h6, ?_⟩
      subst hd
      simp only [evOps, hg, Bc_f]
      exact h7
variable {cx : Cx} {t : T Value} {ds : List Deferred} {H : Hp} {K : Ex → T Value → List Deferred → Hp → Prop}
theorem WK.reg_r {cos : List CO} (h : WOR e cx.d H (fun t' => K .normal t' ds H) cos t) : WK tb sp e cx (.reg cos) t ds H K := by
  obtain ⟨t', r, h1, h2, h3⟩ := wor_run h
  intro c hc
  obtain ⟨id, ops, rfl, hcos⟩ := kcomp_reg hc
  obtain ⟨acc', _, h5⟩ := h1 (ev tb sp 0) cx 0 ds [] 0 0 rfl (fun x hx => by cases hx)
  refine ⟨0, .normal, t', ds, H, r, 0, ?_, h2, Nat.le_refl _, h3⟩
  simp only [evCC, hcos, h5, ofOR, zero_lor']
theorem WK.draw_r {B : Array Nat} {cos : List CO} (h : WOR e cx.d H (fun t' => K .normal t' ds H) cos t) : WK tb sp e cx (.draw B cos) t ds H K := by
  obtain ⟨t', r, h1, h2, h3⟩ := wor_run h
  intro c hc
  obtain ⟨id, ops, rfl, hcos, rfl, hdo⟩ := kcomp_draw hc
  obtain ⟨acc', h4, h5⟩ := h1 (ev tb sp 0) ⟨cx.d, cx.nt, cx.rnd, true⟩ 0 ds [] 0 0 rfl (fun x hx => by cases hx)
  refine ⟨0, .normal, t', ds, H, r, 0, ?_, h2, Nat.le_refl _, h3⟩
  simp only [evCC, hdo, Bc_t, hcos, h5, ofORd, okPair_reads _ h4, zero_lor']
theorem WK.reg_g {cos : List CO} (h : WOG tb sp e cx.d (fun t' H' => K .normal t' ds H') cos t H) : WK tb sp e cx (.reg cos) t ds H K :=
  WK.reg ((WO.of_wog h).mono fun t' ds' H' _ hk => by obtain ⟨rfl, hk⟩ := hk; exact hk)
/-! the formula's parts -/
theorem ok_zero : e.ok 0 0 H ↔ True := by simp [Env.ok.zero]
theorem wants_none' (t : T Value) : wants t none = true := rfl
def wantsV (v : Value) (w : Bool) : Bool := match asB v with | some b => Bc b w (!w) | none => false
theorem wants_some (t : T Value) (i : Nat) (w : Bool) : wants t (some (i, w)) = wantsV (t.get i) w := rfl
theorem wantsV_U (w : Bool) : wantsV U w = false := rfl
theorem wantsV_tt : wantsV (.bool true) true = true := rfl
theorem wantsV_tf : wantsV (.bool true) false = false := rfl
theorem wantsV_ft : wantsV (.bool false) true = false := rfl
theorem wantsV_ff : wantsV (.bool false) false = true := rfl
theorem exPick_t (x y : Value) (H : Hp) : exPick (.bool true) x y H = .val x H 0 0 := rfl
theorem exPick_f (x y : Value) (H : Hp) : exPick (.bool false) x y H = .val y H 0 0 := rfl
theorem wants_get {t : T Value} {i : Nat} {b w : Bool} (h : t.get i = .bool b) : wants t (some (i, w)) = (b == w) := by
  show (match asB (t.get i) with | some b => Bc b w (!w) | none => false) = _
  rw [h]
  cases b <;> cases w <;> rfl
theorem exPick_b (b : Bool) (x y : Value) (H : Hp) : exPick (.bool b) x y H = .val (if b then x else y) H 0 0 := by cases b <;> rfl
end
end Go.Ev
end

noncomputable section
set_option linter.unusedSimpArgs false
namespace Go.Proofs.K25
open Go Go.Ev Go.Proofs
/-! pliant/pliantref25.after: function 57, 70 temporaries, parameters [22, 3], results [t4] -/
noncomputable def aft_body : Code := (Tryz.f57.body).getD .skip
-- ref.go:919
def aft_r0 : List CO := [
    ⟨(some 4), none, .mv (.const (.slice none 0 0))⟩]
-- ref.go:920
def aft_r1 : List CO := [
    ⟨(some 8), none, .bslice 0 3 [] []⟩,
    ⟨(some 5), none, .mv (.tmp 8)⟩]
-- ref.go:922
def aft_r2 : List CO := [
    ⟨(some 6), none, .mv (.const (.int .i64 (-1)))⟩]
-- ref.go:923
def aft_r3 : List CO := [
    ⟨(some 7), none, .mv (.const (.int .i64 (0)))⟩]
-- ref.go:923
def aft_r4 : List CO := [
    ⟨(some 9), none, .mv (.tmp 7)⟩,
    ⟨(some 10), none, .mv (.tmp 0)⟩,
    ⟨(some 11), none, .len 1 (.tmp 10)⟩,
    ⟨(some 12), none, .bin .lss (.tmp 9) (.tmp 11)⟩]
-- ref.go:924
def aft_r5 : List CO := [
    ⟨(some 15), none, .mv (.tmp 0)⟩,
    ⟨(some 16), none, .mv (.tmp 7)⟩,
    ⟨(some 17), none, .iaS 2 (.tmp 15) (.tmp 16)⟩,
    ⟨(some 18), none, .iaA 2 1 (.tmp 17) (.const (.int .i64 (0)))⟩,
    ⟨(some 19), none, .ld1 (.tmp 18)⟩,
    ⟨(some 20), none, .mv (.tmp 1)⟩,
    ⟨(some 21), none, .eq false (.one .i) (.tmp 19) (.tmp 20)⟩,
    ⟨(some 22), none, .mv (.tmp 21)⟩,
    ⟨(some 23), (some (22, true)), .mv (.tmp 5)⟩,
    ⟨(some 24), (some (22, true)), .len 1 (.tmp 23)⟩,
    ⟨(some 25), (some (22, true)), .eq false (.one .i) (.tmp 24) (.const (.int .i64 (0)))⟩,
    ⟨(some 26), (some (22, true)), .mv (.tmp 25)⟩,
    ⟨(some 27), (some (26, false)), .mv (.tmp 0)⟩,
    ⟨(some 28), (some (26, false)), .mv (.tmp 7)⟩,
    ⟨(some 29), (some (26, false)), .iaS 2 (.tmp 27) (.tmp 28)⟩,
    ⟨(some 30), (some (26, false)), .iaA 2 1 (.tmp 29) (.const (.int .i64 (1)))⟩,
    ⟨(some 31), (some (26, false)), .ld1 (.tmp 30)⟩,
    ⟨(some 32), (some (26, false)), .mv (.tmp 5)⟩,
    ⟨(some 33), (some (26, false)), .mv (.tmp 5)⟩,
    ⟨(some 34), (some (26, false)), .len 1 (.tmp 33)⟩,
    ⟨(some 35), (some (26, false)), .bin .sub (.tmp 34) (.const (.int .i64 (1)))⟩,
    ⟨(some 36), (some (26, false)), .iaS 1 (.tmp 32) (.tmp 35)⟩,
    ⟨(some 37), (some (26, false)), .ld1 (.tmp 36)⟩,
    ⟨(some 38), (some (26, false)), .bin .gtr (.tmp 31) (.tmp 37)⟩,
    ⟨(some 39), (some (22, true)), .pick (.tmp 26) (.const (.bool true)) (.tmp 38)⟩,
    ⟨(some 40), none, .pick (.tmp 22) (.tmp 39) (.const (.bool false))⟩,
    ⟨(some 41), none, .mv (.tmp 40)⟩,
    ⟨(some 42), (some (41, true)), .mv (.tmp 6)⟩,
    ⟨(some 43), (some (41, true)), .bin .lss (.tmp 42) (.const (.int .i64 (0)))⟩,
    ⟨(some 44), (some (41, true)), .mv (.tmp 43)⟩,
    ⟨(some 45), (some (44, false)), .mv (.tmp 0)⟩,
    ⟨(some 46), (some (44, false)), .mv (.tmp 7)⟩,
    ⟨(some 47), (some (44, false)), .iaS 2 (.tmp 45) (.tmp 46)⟩,
    ⟨(some 48), (some (44, false)), .iaA 2 1 (.tmp 47) (.const (.int .i64 (1)))⟩,
    ⟨(some 49), (some (44, false)), .ld1 (.tmp 48)⟩,
    ⟨(some 50), (some (44, false)), .mv (.tmp 0)⟩,
    ⟨(some 51), (some (44, false)), .mv (.tmp 6)⟩,
    ⟨(some 52), (some (44, false)), .iaS 2 (.tmp 50) (.tmp 51)⟩,
    ⟨(some 53), (some (44, false)), .iaA 2 1 (.tmp 52) (.const (.int .i64 (1)))⟩,
    ⟨(some 54), (some (44, false)), .ld1 (.tmp 53)⟩,
    ⟨(some 55), (some (44, false)), .bin .lss (.tmp 49) (.tmp 54)⟩,
    ⟨(some 56), (some (41, true)), .pick (.tmp 44) (.const (.bool true)) (.tmp 55)⟩,
    ⟨(some 57), none, .pick (.tmp 41) (.tmp 56) (.const (.bool false))⟩]
-- ref.go:925
def aft_r6 : List CO := [
    ⟨(some 58), none, .mv (.tmp 7)⟩,
    ⟨(some 6), none, .mv (.tmp 58)⟩]
-- ref.go:923
def aft_r7 : List CO := [
    ⟨(some 13), none, .mv (.tmp 7)⟩,
    ⟨(some 14), none, .bin .add (.tmp 13) (.const (.int .i64 (1)))⟩,
    ⟨(some 7), none, .mv (.tmp 14)⟩]
noncomputable def aft_l8 : KC :=
  (.seq (.seq (.reg aft_r4)
  (.cond (.tmp 12) .skip
   (.exit 2)))
  (.seq (.block 3 (.seq (.draw #[0, 0, 3, 7, 15, 0, 63, 127, 255, 511, 1023, 2047, 4095, 4095, 16383, 32767, 65535, 4095, 4095, 266239, 790527, 1970175, 4067327, 8388607, 16777215, 33554431, 67108863, 134217727, 268435455, 536870911, 1073741823, 1073741823, 4294967295, 8589934591, 17179869183, 1073741823, 1073741823, 104152956927, 241591910399, 516469817343, 1099511627775, 2199023255551, 4398046511103] aft_r5)
   (.cond (.tmp 57) (.reg aft_r6)
    .skip)))
  (.reg aft_r7)))
-- ref.go:928
def aft_r9 : List CO := [
    ⟨(some 59), none, .mv (.tmp 6)⟩,
    ⟨(some 60), none, .bin .lss (.tmp 59) (.const (.int .i64 (0)))⟩]
-- ref.go:929
def aft_r10 : List CO := [
    ⟨(some 61), none, .mv (.tmp 5)⟩,
    ⟨(some 4), none, .mv (.tmp 61)⟩]
-- ref.go:931
def aft_r11 : List CO := [
    ⟨(some 62), none, .mv (.tmp 5)⟩,
    ⟨(some 63), none, .mv (.tmp 0)⟩,
    ⟨(some 64), none, .mv (.tmp 6)⟩,
    ⟨(some 65), none, .iaS 2 (.tmp 63) (.tmp 64)⟩,
    ⟨(some 66), none, .iaA 2 1 (.tmp 65) (.const (.int .i64 (1)))⟩,
    ⟨(some 67), none, .ld1 (.tmp 66)⟩,
    ⟨(some 68), none, .bslice 1 3 [.int .i64 (0)] [(0, 1, (.tmp 67))]⟩,
    ⟨(some 69), none, .app 3 1 8 (.tmp 62) (.tmp 68)⟩,
    ⟨(some 5), none, .mv (.tmp 69)⟩]
noncomputable def aft_l12 : KC :=
  (.block 1 (.seq (.reg aft_r2)
   (.seq (.seq (.reg aft_r3)
   (.block 2 (.loop aft_body.sr.sr.bl.lp.bl.sr.sl.sr.bl.lp aft_l8)))
   (.seq (.seq (.reg aft_r9)
   (.cond (.tmp 60) (.seq (.reg aft_r10)
    .ret)
    .skip))
   (.reg aft_r11)))))
noncomputable def aft_k : KC :=
  (.seq (.reg aft_r0)
  (.seq (.reg aft_r1)
  (.block 0 (.loop aft_body.sr.sr.bl.lp aft_l12))))
theorem aft_comp : kcomp Tb0 Tryz.f57.ntmps aft_body = aft_k := by kernel_rfl
theorem aft_some : Tryz.f57.body = some aft_body := rfl

end Go.Proofs.K25
end

noncomputable section
set_option linter.unusedSimpArgs false
set_option linter.unusedVariables false
namespace Go.Proofs.K25
open Go Go.Ev Go.Proofs
/-- a number as a value -/
abbrev vI (z : Int) : Value := .int .i64 z
/-- a block that reads so, whatever of it may be written -/
def RowF (H : Hp) (b ty op : Nat) (L : List Value) : Prop := ∃ t lo hi, H.blk b = .cells t L.length ty op lo hi ∧ ∀ (i : Nat) v, L[i]? = some v → t.get i = v
theorem RowF.alive {H : Hp} {b ty op : Nat} {L : List Value} (h : RowF H b ty op L) : alive H b := by
  obtain ⟨t, lo, hi, h, _⟩ := h; exact (alive_iff H b).2 (by rw [h]; simp)
theorem RowF.lt {H : Hp} {b ty op : Nat} {L : List Value} (h : RowF H b ty op L) : b < H.nx := h.alive.1
theorem RowF.of_blk {H H' : Hp} {b ty op : Nat} {L : List Value} (h : RowF H b ty op L) (e : H'.blk b = H.blk b) : RowF H' b ty op L := by
  obtain ⟨t, lo, hi, h1, h2⟩ := h; exact ⟨t, lo, hi, e.trans h1, h2⟩
theorem exLd1_rowF {H : Hp} {b ty op o : Nat} {L : List Value} {v : Value} (h : RowF H b ty op L) (hv : L[o]? = some v) : exLd1 (.pointer (some ⟨b, o, none⟩)) H = .val v H (bit b) 0 := by
  obtain ⟨t, lo, hi, h1, h2⟩ := h
  have hlt : o < L.length := by
    rcases Nat.lt_or_ge o L.length with h' | h'
    · exact h'
    · rw [List.getElem?_eq_none h'] at hv; cases hv
  show (match rd1 H b o with | some x => R.val x H (bit b) 0 | none => .fail) = _
  have : rd1 H b o = some v := by
    unfold rd1; rw [h1]; simp only []
    rw [(blt_iff o L.length).2 hlt, Bc_t, h2 o v hv]
  rw [this]
theorem exLdN_rowF {H : Hp} {b ty op o k : Nat} {L : List Value} (h : RowF H b ty op L) (hle : o + k ≤ L.length) : exLdN k (.pointer (some ⟨b, o, none⟩)) H = .val (.agg ⟨(L.drop o).take k⟩) H (bit b) 0 := by
  obtain ⟨t, lo, hi, h1, h2⟩ := h
  have : rdN H b o k = some ((L.drop o).take k) := by
    unfold rdN; rw [h1]; simp only []
    rw [(ble_iff _ _).2 hle, Bc_t, rdL_list h2 k o hle]
  show (match rdN H b o k with | some l => R.val (.agg ⟨l⟩) H (bit b) 0 | none => .fail) = _
  rw [this]
/-- a slice of numbers that can be read -/
inductive NumsR (e : Env) (H : Hp) : Value → List Int → Prop
  | nil (c : Nat) (a : Option Addr) : NumsR e H (.slice a 0 c) []
  | inRow (b c ty op : Nat) (L : List Int) (h : Row H b ty op (L.map vI)) (hr : b < e.n0 → e.Rd b) : NumsR e H (.slice (some ⟨b, 0, none⟩) L.length c) L
/-- a slice of pairs that can be read -/
inductive PairsR (e : Env) (H : Hp) : Value → List (Int × Int) → Prop
  | nil (c : Nat) (a : Option Addr) : PairsR e H (.slice a 0 c) []
  | inRow (b o c ty op : Nat) (ws : List (Int × Int)) (cells : List Value) (h : RowF H b ty op cells) (hr : b < e.n0 → e.Rd b)
      (hc : ∀ (i : Nat) p, ws[i]? = some p → cells[o + i * 2]? = some (vI p.1) ∧ cells[o + i * 2 + 1]? = some (vI p.2)) : PairsR e H (.slice (some ⟨b, o, none⟩) ws.length c) ws
theorem NumsR.len {e : Env} {H : Hp} {v : Value} {L : List Int} (h : NumsR e H v L) : exLen 1 v H = .val (vI L.length) H 0 0 := by cases h <;> rfl
theorem PairsR.len {e : Env} {H : Hp} {v : Value} {L : List (Int × Int)} (h : PairsR e H v L) : exLen 1 v H = .val (vI L.length) H 0 0 := by cases h <;> rfl
theorem NumsR.read {e : Env} {H : Hp} {v : Value} {L : List Int} (h : NumsR e H v L) {i : Nat} {z : Int} (hz : L[i]? = some z) : ∃ b, exIaS 1 v (vI i) H = .val (.pointer (some ⟨b, i, none⟩)) H 0 0 ∧ exLd1 (.pointer (some ⟨b, i, none⟩)) H = .val (vI z) H (bit b) 0 ∧ e.ok (bit b) 0 H := by
  cases h with
  | nil => simp at hz
  | inRow b c ty op L h hr =>
    have hlt : i < L.length := by
      rcases Nat.lt_or_ge i L.length with h' | h'
      · exact h'
      · rw [List.getElem?_eq_none h'] at hz; cases hz
    refine ⟨b, ?_, exLd1_row h (by rw [List.getElem?_map, hz]; rfl), .read h.lt hr⟩
    rw [exIaS_int (by omega) (by omega)]
    simp
theorem PairsR.read {e : Env} {H : Hp} {v : Value} {ws : List (Int × Int)} (h : PairsR e H v ws) {i : Nat} {p : Int × Int} (hz : ws[i]? = some p) : ∃ b o, exIaS 2 v (vI i) H = .val (.pointer (some ⟨b, o, none⟩)) H 0 0 ∧
    exIaA 2 1 (.pointer (some ⟨b, o, none⟩)) (vI 0) H = .val (.pointer (some ⟨b, o, none⟩)) H 0 0 ∧ exIaA 2 1 (.pointer (some ⟨b, o, none⟩)) (vI 1) H = .val (.pointer (some ⟨b, o + 1, none⟩)) H 0 0 ∧
    exLd1 (.pointer (some ⟨b, o, none⟩)) H = .val (vI p.1) H (bit b) 0 ∧ exLd1 (.pointer (some ⟨b, o + 1, none⟩)) H = .val (vI p.2) H (bit b) 0 ∧ e.ok (bit b) 0 H := by
  cases h with
  | nil => simp at hz
  | inRow b o c ty op ws cells h hr hc =>
    have hlt : i < ws.length := by
      rcases Nat.lt_or_ge i ws.length with h' | h'
      · exact h'
      · rw [List.getElem?_eq_none h'] at hz; cases hz
    obtain ⟨c1, c2⟩ := hc i p hz
    refine ⟨b, o + i * 2, ?_, ?_, ?_, exLd1_rowF h c1, exLd1_rowF h c2, .read h.lt hr⟩
    · rw [exIaS_int (by omega) (by omega)]; simp
    · rw [exIaA_int (by decide) (by decide)]; simp
    · rw [exIaA_int (by decide) (by decide)]; simp
/-- whether a pair is taken -/
def take (ws : List (Int × Int)) (x : Int) (L : List Int) (p : Int × Int) (best : Int) : Bool :=
  decide (p.1 = x) && (match L.getLast? with | none => true | some z => decide (z < p.2)) && (decide (best < 0) || (match ws[best.toNat]? with | some q => decide (p.2 < q.2) | none => false))
set_option maxRecDepth 10000 in
set_option maxHeartbeats 2000000 in
theorem r5_ok {e : Env} {H : Hp} {t : T Value} {i : Nat} {x best : Int} {v0 v5 : Value} {ws : List (Int × Int)} {p : Int × Int} {L : List Int} (h0 : t.get 0 = v0) (h1 : t.get 1 = .int .i64 x) (h5 : t.get 5 = v5) (h6 : t.get 6 = .int .i64 best) (h7 : t.get 7 = .int .i64 (i : Nat))
    (hw : PairsR e H v0 ws) (hL : NumsR e H v5 L) (hi : ws[i]? = some p) (hb : best < 0 ∨ ∃ k : Nat, best = (k : Int) ∧ k < ws.length) (hlen : L.length < 4611686018427387904) (K : T Value → Prop)
    (hK : ∀ t' : T Value, t'.get 57 = .bool (take ws x L p best) → (∀ j, j < 9 → t'.get j = t.get j) → K t') :
    WOR e 7 H K aft_r5 t := by
  obtain ⟨b, o, k1, k2, k2', k3, k4, k5⟩ := hw.read hi
  have k6 := hL.len
  have fin : ∀ (t' : T Value) (v : Bool), t'.get 57 = .bool v → v = take ws x L p best → (∀ j, j < 9 → t'.get j = t.get j) → K t' := fun t' v e1 e2 e3 => hK t' (e2 ▸ e1) e3
  by_cases ha : p.1 = x
  case neg =>
    have ev : take ws x L p best = false := by unfold take; rw [decide_eq_false ha]; rfl
    rw [ev] at hK
    simp (config := { maxSteps := 1000000 }) only [aft_r5, WOR, wants_none', run, evalO_tmp, evalO_const, Rv_eq, Ro_some, ok_zero, true_and, get_putT (d := 7), h0, h1, h5, h6, h7, k1, k2, k2', k3, k4, k5, k6, exEq_int, ha, decide_false, Bc_f, Bc_t, wants_some, wantsV_U, wantsV_tt, wantsV_tf, wantsV_ft, wantsV_ff, binV_lss, exPick_t, exPick_f, Nat.reducePow, Nat.reduceLT, Nat.reduceEqDiff, if_false, reduceIte, reduceCtorEq, Bool.not_true, Bool.not_false, Bool.false_eq_true]
    refine hK _ ?_ ?_
    · simp (config := { maxSteps := 1000000 }) only [get_putT (d := 7), Nat.reducePow, Nat.reduceLT, Nat.reduceEqDiff, reduceIte]
    · intro j hj
      have hj' : j = 0 ∨ j = 1 ∨ j = 2 ∨ j = 3 ∨ j = 4 ∨ j = 5 ∨ j = 6 ∨ j = 7 ∨ j = 8 := by omega
      rcases hj' with rfl | rfl | rfl | rfl | rfl | rfl | rfl | rfl | rfl <;> simp (config := { maxSteps := 1000000 }) only [get_putT (d := 7), Nat.reducePow, Nat.reduceLT, Nat.reduceEqDiff, reduceIte]
  have hx : decide (x = x) = true := decide_eq_true rfl
  rcases List.eq_nil_or_concat L with hL0 | ⟨L0, z, hL0⟩
  · subst hL0
    have h01 : decide ((([] : List Int).length : Int) = 0) = true := rfl
    rcases hb with hb | ⟨k, rfl, hk⟩
    · have hbd : decide (best < 0) = true := decide_eq_true hb
      have ev : take ws x [] p best = true := by unfold take; simp [ha, hb]
      rw [ev] at hK
      simp (config := { maxSteps := 1000000 }) only [aft_r5, WOR, wants_none', run, evalO_tmp, evalO_const, Rv_eq, Ro_some, ok_zero, true_and, get_putT (d := 7), h0, h1, h5, h6, h7, k1, k2, k2', k3, k4, k5, k6, exEq_int, ha, decide_true, decide_false, Bc_f, Bc_t, wants_some, wantsV_U, wantsV_tt, wantsV_tf, wantsV_ft, wantsV_ff, binV_lss, binV_gtr, binV_sub, exPick_t, exPick_f, Nat.reducePow, Nat.reduceLT, Nat.reduceEqDiff, if_false, reduceIte, reduceCtorEq, Bool.not_true, Bool.not_false, Bool.false_eq_true, hx, h01, hbd]
      refine hK _ ?_ ?_
      · simp (config := { maxSteps := 1000000 }) only [get_putT (d := 7), Nat.reducePow, Nat.reduceLT, Nat.reduceEqDiff, reduceIte]
      · intro j hj
        have hj' : j = 0 ∨ j = 1 ∨ j = 2 ∨ j = 3 ∨ j = 4 ∨ j = 5 ∨ j = 6 ∨ j = 7 ∨ j = 8 := by omega
        rcases hj' with rfl | rfl | rfl | rfl | rfl | rfl | rfl | rfl | rfl <;> simp (config := { maxSteps := 1000000 }) only [get_putT (d := 7), Nat.reducePow, Nat.reduceLT, Nat.reduceEqDiff, reduceIte]
    · have hbd : decide ((k : Int) < 0) = false := decide_eq_false (by omega)
      obtain ⟨q, hq⟩ : ∃ q, ws[k]? = some q := ⟨ws[k], by simp [hk]⟩
      obtain ⟨b', o', m1, m2, m2', m3, m4, m5⟩ := hw.read hq
      have ev : take ws x [] p (k : Int) = decide (p.2 < q.2) := by unfold take; simp [ha, hq]; intro _; omega
      rw [ev] at hK
      simp (config := { maxSteps := 1000000 }) only [aft_r5, WOR, wants_none', run, evalO_tmp, evalO_const, Rv_eq, Ro_some, ok_zero, true_and, get_putT (d := 7), h0, h1, h5, h6, h7, k1, k2, k2', k3, k4, k5, k6, exEq_int, ha, decide_true, decide_false, Bc_f, Bc_t, wants_some, wantsV_U, wantsV_tt, wantsV_tf, wantsV_ft, wantsV_ff, binV_lss, binV_gtr, binV_sub, exPick_t, exPick_f, Nat.reducePow, Nat.reduceLT, Nat.reduceEqDiff, if_false, reduceIte, reduceCtorEq, Bool.not_true, Bool.not_false, Bool.false_eq_true, hx, h01, hbd, m1, m2, m2', m3, m4, m5]
      refine hK _ ?_ ?_
      · simp (config := { maxSteps := 1000000 }) only [get_putT (d := 7), Nat.reducePow, Nat.reduceLT, Nat.reduceEqDiff, reduceIte]
      · intro j hj
        have hj' : j = 0 ∨ j = 1 ∨ j = 2 ∨ j = 3 ∨ j = 4 ∨ j = 5 ∨ j = 6 ∨ j = 7 ∨ j = 8 := by omega
        rcases hj' with rfl | rfl | rfl | rfl | rfl | rfl | rfl | rfl | rfl <;> simp (config := { maxSteps := 1000000 }) only [get_putT (d := 7), Nat.reducePow, Nat.reduceLT, Nat.reduceEqDiff, reduceIte]
  · rw [List.concat_eq_append] at hL0
    have hl : L.length = L0.length + 1 := by rw [hL0]; simp
    have h01 : decide ((L.length : Int) = 0) = false := decide_eq_false (by omega)
    have hwr : wrapF .i64 ((L.length : Int) - 1) = (L0.length : Int) := by rw [wrapF_i64 (by omega) (by omega)]; omega
    obtain ⟨b5, n1, n2, n3⟩ := hL.read (i := L0.length) (z := z) (by rw [hL0]; simp)
    by_cases hz : z < p.2
    case neg =>
      have hzd : decide (z < p.2) = false := decide_eq_false hz
      have ev : take ws x L p best = false := by unfold take; rw [hL0]; simp [ha]; omega
      rw [ev] at hK
      simp (config := { maxSteps := 1000000 }) only [aft_r5, WOR, wants_none', run, evalO_tmp, evalO_const, Rv_eq, Ro_some, ok_zero, true_and, get_putT (d := 7), h0, h1, h5, h6, h7, k1, k2, k2', k3, k4, k5, k6, exEq_int, ha, decide_true, decide_false, Bc_f, Bc_t, wants_some, wantsV_U, wantsV_tt, wantsV_tf, wantsV_ft, wantsV_ff, binV_lss, binV_gtr, binV_sub, exPick_t, exPick_f, Nat.reducePow, Nat.reduceLT, Nat.reduceEqDiff, if_false, reduceIte, reduceCtorEq, Bool.not_true, Bool.not_false, Bool.false_eq_true, hx, h01, hwr, n1, n2, n3, hzd]
      refine hK _ ?_ ?_
      · simp (config := { maxSteps := 1000000 }) only [get_putT (d := 7), Nat.reducePow, Nat.reduceLT, Nat.reduceEqDiff, reduceIte]
      · intro j hj
        have hj' : j = 0 ∨ j = 1 ∨ j = 2 ∨ j = 3 ∨ j = 4 ∨ j = 5 ∨ j = 6 ∨ j = 7 ∨ j = 8 := by omega
        rcases hj' with rfl | rfl | rfl | rfl | rfl | rfl | rfl | rfl | rfl <;> simp (config := { maxSteps := 1000000 }) only [get_putT (d := 7), Nat.reducePow, Nat.reduceLT, Nat.reduceEqDiff, reduceIte]
    have hzd : decide (z < p.2) = true := decide_eq_true hz
    rcases hb with hb | ⟨k, rfl, hk⟩
    · have hbd : decide (best < 0) = true := decide_eq_true hb
      have ev : take ws x L p best = true := by unfold take; rw [hL0]; simp [ha, hb]; omega
      rw [ev] at hK
      simp (config := { maxSteps := 1000000 }) only [aft_r5, WOR, wants_none', run, evalO_tmp, evalO_const, Rv_eq, Ro_some, ok_zero, true_and, get_putT (d := 7), h0, h1, h5, h6, h7, k1, k2, k2', k3, k4, k5, k6, exEq_int, ha, decide_true, decide_false, Bc_f, Bc_t, wants_some, wantsV_U, wantsV_tt, wantsV_tf, wantsV_ft, wantsV_ff, binV_lss, binV_gtr, binV_sub, exPick_t, exPick_f, Nat.reducePow, Nat.reduceLT, Nat.reduceEqDiff, if_false, reduceIte, reduceCtorEq, Bool.not_true, Bool.not_false, Bool.false_eq_true, hx, h01, hwr, n1, n2, n3, hzd, hbd]
      refine hK _ ?_ ?_
      · simp (config := { maxSteps := 1000000 }) only [get_putT (d := 7), Nat.reducePow, Nat.reduceLT, Nat.reduceEqDiff, reduceIte]
      · intro j hj
        have hj' : j = 0 ∨ j = 1 ∨ j = 2 ∨ j = 3 ∨ j = 4 ∨ j = 5 ∨ j = 6 ∨ j = 7 ∨ j = 8 := by omega
        rcases hj' with rfl | rfl | rfl | rfl | rfl | rfl | rfl | rfl | rfl <;> simp (config := { maxSteps := 1000000 }) only [get_putT (d := 7), Nat.reducePow, Nat.reduceLT, Nat.reduceEqDiff, reduceIte]
    · have hbd : decide ((k : Int) < 0) = false := decide_eq_false (by omega)
      obtain ⟨q, hq⟩ : ∃ q, ws[k]? = some q := ⟨ws[k], by simp [hk]⟩
      obtain ⟨b', o', m1, m2, m2', m3, m4, m5⟩ := hw.read hq
      have ev : take ws x L p (k : Int) = decide (p.2 < q.2) := by unfold take; rw [hL0]; simp [ha, hq, hz]; intro _; omega
      rw [ev] at hK
      simp (config := { maxSteps := 1000000 }) only [aft_r5, WOR, wants_none', run, evalO_tmp, evalO_const, Rv_eq, Ro_some, ok_zero, true_and, get_putT (d := 7), h0, h1, h5, h6, h7, k1, k2, k2', k3, k4, k5, k6, exEq_int, ha, decide_true, decide_false, Bc_f, Bc_t, wants_some, wantsV_U, wantsV_tt, wantsV_tf, wantsV_ft, wantsV_ff, binV_lss, binV_gtr, binV_sub, exPick_t, exPick_f, Nat.reducePow, Nat.reduceLT, Nat.reduceEqDiff, if_false, reduceIte, reduceCtorEq, Bool.not_true, Bool.not_false, Bool.false_eq_true, hx, h01, hwr, n1, n2, n3, hzd, hbd, m1, m2, m2', m3, m4, m5]
      refine hK _ ?_ ?_
      · simp (config := { maxSteps := 1000000 }) only [get_putT (d := 7), Nat.reducePow, Nat.reduceLT, Nat.reduceEqDiff, reduceIte]
      · intro j hj
        have hj' : j = 0 ∨ j = 1 ∨ j = 2 ∨ j = 3 ∨ j = 4 ∨ j = 5 ∨ j = 6 ∨ j = 7 ∨ j = 8 := by omega
        rcases hj' with rfl | rfl | rfl | rfl | rfl | rfl | rfl | rfl | rfl <;> simp (config := { maxSteps := 1000000 }) only [get_putT (d := 7), Nat.reducePow, Nat.reduceLT, Nat.reduceEqDiff, reduceIte]
end Go.Proofs.K25
end

noncomputable section
/- Plain mathematics of shortest closed walks: no program in sight. -/
namespace Go.Cyc
abbrev Ws := List (Int × Int)
/-- a chain whose last number stands ahead of s -/
def Clo (ws : Ws) (s : Int) : List Int → Prop
  | [] => False
  | [x] => (x, s) ∈ ws
  | x :: y :: l => (x, y) ∈ ws ∧ Clo ws s (y :: l)
/-- at most, in the order of lists -/
def Le : List Int → List Int → Prop
  | [], _ => True
  | _ :: _, [] => False
  | x :: a, y :: b => x < y ∨ (x = y ∧ Le a b)
theorem Le.refl : ∀ a, Le a a
  | [] => trivial
  | _ :: a => .inr ⟨rfl, Le.refl a⟩
theorem Le.trans : ∀ {a b c}, Le a b → Le b c → Le a c
  | [], _, _, _, _ => trivial
  | _ :: _, [], _, h, _ => h.elim
  | _ :: _, _ :: _, [], _, h => h.elim
  | x :: a, y :: b, z :: c, h1, h2 => by
    simp only [Le] at *
    rcases h1 with h1 | ⟨rfl, h1⟩
    · rcases h2 with h2 | ⟨rfl, _⟩
      · exact .inl (by omega)
      · exact .inl h1
    · rcases h2 with h2 | ⟨rfl, h2⟩
      · exact .inl h2
      · exact .inr ⟨rfl, Le.trans h1 h2⟩
theorem Le.antisymm : ∀ {a b}, a.length = b.length → Le a b → Le b a → a = b
  | [], [], _, _, _ => rfl
  | [], _ :: _, h, _, _ => by simp at h
  | _ :: _, [], h, _, _ => by simp at h
  | x :: a, y :: b, h, h1, h2 => by
    simp only [Le] at h1 h2
    have e : x = y := by omega
    subst e
    have h1' : Le a b := by rcases h1 with h1 | h1; omega; exact h1.2
    have h2' : Le b a := by rcases h2 with h2 | h2; omega; exact h2.2
    rw [Le.antisymm (by simpa using h) h1' h2']
theorem Le.total : ∀ {a b : List Int}, a.length = b.length → Le a b ∨ Le b a
  | [], _, _ => .inl trivial
  | _ :: _, [], h => by simp at h
  | x :: a, y :: b, h => by
    simp only [Le]
    rcases Int.lt_trichotomy x y with h1 | h1 | h1
    · exact .inl (.inl h1)
    · rcases Le.total (a := a) (b := b) (by simpa using h) with h2 | h2
      · exact .inl (.inr ⟨h1, h2⟩)
      · exact .inr (.inr ⟨h1.symm, h2⟩)
    · exact .inr (.inl h1)
/-- what Cycle returns -/
def IsCyc (ws : Ws) (out : List Int) : Prop :=
  (out = [] ∧ ∀ s l, ¬ Clo ws s (s :: l)) ∨
  ∃ s r, out = s :: r ∧ Clo ws s (s :: r) ∧ (∀ s' l, Clo ws s' (s' :: l) → s ≤ s') ∧ ∀ l, Clo ws s (s :: l) → r.length ≤ l.length ∧ (l.length = r.length → Le r l)
theorem IsCyc.unique {ws : Ws} {a b : List Int} (ha : IsCyc ws a) (hb : IsCyc ws b) : a = b := by
  rcases ha with ⟨rfl, h1⟩ | ⟨s, r, rfl, h1, h2, h3⟩
  · rcases hb with ⟨rfl, _⟩ | ⟨s, r, rfl, h4, _⟩
    · rfl
    · exact absurd h4 (h1 s r)
  · rcases hb with ⟨rfl, h4⟩ | ⟨s', r', rfl, h4, h5, h6⟩
    · exact absurd h1 (h4 s r)
    · have e : s = s' := by have := h2 s' r' h4; have := h5 s r h1; omega
      subst e
      have a1 := h3 r' h4
      have a2 := h6 r h1
      have el : r.length = r'.length := by omega
      rw [Le.antisymm el (a1.2 el.symm) (a2.2 el)]

/-! ### The way by distances -/
/-- F tells for each number how far s is -/
structure Far (ws : Ws) (s : Int) (F : Int → Option Nat) : Prop where
  zero : F s = some 0
  way : ∀ u n, F u = some n → (n = 0 ∧ u = s) ∨ ∃ l, Clo ws s (u :: l) ∧ (u :: l).length = n
  fix : ∀ u v n, (u, v) ∈ ws → F v = some n → ∃ m, F u = some m ∧ m ≤ n + 1
section
variable {ws : Ws} {s : Int} {F : Int → Option Nat} (h : Far ws s F)
include h
theorem Far.le : ∀ (l : List Int) (u : Int), Clo ws s (u :: l) → ∃ m, F u = some m ∧ m ≤ l.length + 1 := by
  intro l
  induction l with
  | nil => intro u hc; exact h.fix u s 0 hc h.zero
  | cons y l ih =>
    intro u hc
    obtain ⟨m, h1, h2⟩ := ih y hc.2
    obtain ⟨m', h3, h4⟩ := h.fix u y m hc.1 h1
    exact ⟨m', h3, by simp; omega⟩
/-- behind a number that is n + 1 away stands one that is n away -/
theorem Far.next {u : Int} {n : Nat} (hu : F u = some (n + 1)) : ∃ v, (u, v) ∈ ws ∧ F v = some n := by
  rcases h.way u _ hu with ⟨h1, _⟩ | ⟨l, hc, hl⟩
  · omega
  · cases l with
    | nil => simp at hl; subst hl; exact ⟨s, hc, h.zero⟩
    | cons v l =>
      obtain ⟨m, h1, h2⟩ := h.le l v hc.2
      obtain ⟨m', h3, h4⟩ := h.fix u v m hc.1 h1
      rw [hu] at h3; cases h3
      simp at hl
      exact ⟨v, hc.1, by rw [h1]; congr 1; omega⟩
/-- the way that is found by going to the least number each time -/
inductive Greedy (ws : Ws) (F : Int → Option Nat) : Int → Nat → List Int → Prop
  | nil (u : Int) : Greedy ws F u 0 []
  | cons (u x : Int) (n : Nat) (l : List Int) (he : (u, x) ∈ ws) (hx : F x = some (n + 1)) (hmin : ∀ y, (u, y) ∈ ws → F y = some (n + 1) → x ≤ y) (hl : Greedy ws F x n l) : Greedy ws F u (n + 1) (x :: l)
omit h in
theorem Greedy.length {u : Int} {n : Nat} {l : List Int} (g : Greedy ws F u n l) : l.length = n := by
  induction g with
  | nil => rfl
  | cons u x n l _ _ _ _ ih => simp [ih]
theorem Greedy.clo {u : Int} {n : Nat} {l : List Int} (g : Greedy ws F u n l) (hu : ∃ v, (u, v) ∈ ws ∧ F v = some n) : Clo ws s (u :: l) := by
  induction g with
  | nil u =>
    obtain ⟨v, h1, h2⟩ := hu
    rcases h.way v _ h2 with ⟨_, rfl⟩ | ⟨l, _, hl⟩
    · exact h1
    · simp at hl
  | cons u x n l he hx _ _ ih => exact ⟨he, ih (h.next hx)⟩
theorem Greedy.least {u : Int} {n : Nat} {l : List Int} (g : Greedy ws F u n l) : ∀ l', Clo ws s (u :: l') → l'.length = n → (∀ v m, (u, v) ∈ ws → F v = some m → n ≤ m) → Le l l' := by
  induction g with
  | nil => intro l' _ _ _; trivial
  | cons u x n l he hx hmin hg ih =>
    intro l' hc hl hn
    cases l' with
    | nil => simp at hl
    | cons y l' =>
      simp at hl
      obtain ⟨m, h1, h2⟩ := h.le l' y hc.2
      have h3 := hn y m hc.1 h1
      have hm : m = n + 1 := by omega
      subst hm
      have hxy := hmin y hc.1 h1
      rcases Int.lt_or_eq_of_le hxy with h4 | rfl
      · exact .inl h4
      · refine .inr ⟨rfl, ih l' hc.2 hl fun v m hv hvm => ?_⟩
        obtain ⟨m', h5, h6⟩ := h.fix x v m hv hvm
        rw [hx] at h5; cases h5
        omega
/-- the answer of the way by distances at the least start -/
theorem Far.isCyc {d : Nat} {r : List Int} (hs : ∀ s' l, Clo ws s' (s' :: l) → s ≤ s') (hd : ∃ v, (s, v) ∈ ws ∧ F v = some d) (hmin : ∀ v m, (s, v) ∈ ws → F v = some m → d ≤ m) (g : Greedy ws F s d r) : IsCyc ws (s :: r) := by
  refine .inr ⟨s, r, rfl, Greedy.clo h g hd, hs, fun l hl => ?_⟩
  have hlen := g.length
  have hge : d ≤ l.length := by
    cases l with
    | nil => exact Nat.le_trans (hmin s 0 hl h.zero) (Nat.zero_le _)
    | cons y l =>
      obtain ⟨m, h1, h2⟩ := h.le l y hl.2
      have := hmin y m hl.1 h1
      simp; omega
  exact ⟨by omega, fun e => Greedy.least h g l hl (by omega) hmin⟩
/-- there is no closed walk from s where no number behind s is known -/
theorem Far.none (hn : ∀ v, (s, v) ∈ ws → F v = none) (l : List Int) : ¬ Clo ws s (s :: l) := by
  intro hc
  cases l with
  | nil => have := hn s hc; rw [h.zero] at this; cases this
  | cons y l =>
    obtain ⟨m, h1, _⟩ := h.le l y hc.2
    rw [hn y hc.1] at h1; cases h1
end
end Go.Cyc
end
