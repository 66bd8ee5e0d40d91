/-
  A part of the proof that pliantlaw15.RtsReads returns true and leaves its arguments alone. Conditions: those of the card in the last text.
-/
import Derived.Test.YtgdejggelcpokaaGreatDoorG13
import Derived.Test.YtgdejggelcpokaaGreatDoorG14
set_option linter.unusedSimpArgs false
set_option linter.unusedVariables false
set_option linter.unusedSectionVars false

noncomputable section
namespace Go.Ev
open Go.Proofs Go.Proofs.RS
theorem one_kit {v : Value} (h : oneC v = true) : v.oneCell' = true := by cases v <;> first | rfl | cases h
theorem zeroRec_list (q : Nat) : ∃ l, (Builtin.zeroCells zRec q).toList = l ∧ l.length = q * 2 := ⟨_, rfl, by have := zeroRec_size q; simpa using this⟩
theorem arr_three {args : Array Value} {x y z : Value} (h : args.toList = [x, y, z]) : args = #[x, y, z] := by
  obtain ⟨l⟩ := args
  simp at h; subst h; rfl
theorem fr_none {m : Bm} {fr : Nat × Nat} (h : FrOk m 0 0 fr) : fr.1 = fr.2 := by
  rcases h with ⟨_, h | h⟩ | ⟨h, _⟩ | ⟨_, h⟩ <;> omega
theorem frozen_none {W : World} {rb : Nat} {cs : Array Value} {ty : TypeId} {fr : Nat × Nat} (h : W.heap[rb]? = some (.cells cs ty fr)) (hf : fr.1 = fr.2) (o : Nat) : W.frozen? ⟨rb, o, none⟩ = false := by
  unfold World.frozen?
  obtain ⟨a, b⟩ := fr
  simp only [h]
  simp only at hf
  subst hf
  simp only [Bool.and_eq_false_imp, decide_eq_true_eq, decide_eq_false_iff_not]
  omega
theorem cell_some {W : World} {rb : Nat} {cs : Array Value} {ty : TypeId} {fr : Nat × Nat} (h : W.heap[rb]? = some (.cells cs ty fr)) (o : Nat) : W.cell? ⟨rb, o, none⟩ = cs[o]? := by
  unfold World.cell?
  simp only [h]; rfl
theorem shape_some {W : World} {rb : Nat} {cs : Array Value} {ty : TypeId} {fr : Nat × Nat} (h : W.heap[rb]? = some (.cells cs ty fr)) : W.shape? rb = some (ty, cs.size) := by
  unfold World.shape?
  simp only [h]
theorem insL_get {i j : Nat} {L V : List Value} (hi : i * 2 ≤ L.length) (hV : V.length = 2) : (insL i L V)[j]? = if j < i * 2 then L[j]? else if j < i * 2 + 2 then V[j - i * 2]? else L[j - 2]? := by
  unfold insL
  have hl : (L.take (i * 2)).length = i * 2 := by rw [List.length_take]; omega
  by_cases h1 : j < i * 2
  · rw [if_pos h1, List.getElem?_append_left (by omega), List.getElem?_take_of_lt h1]
  · rw [if_neg h1, List.getElem?_append_right (by omega), hl]
    by_cases h2 : j < i * 2 + 2
    · rw [if_pos h2, List.getElem?_append_left (by omega)]
    · rw [if_neg h2, List.getElem?_append_right (by omega), List.getElem?_drop, hV]
      congr 1
      omega
theorem push_set {W : World} {o o2 : Obj} : (W.heap.push o).setIfInBounds W.heap.size o2 = W.heap.push o2 := by
  apply Array.ext_getElem?
  intro k
  rw [Array.getElem?_setIfInBounds, Array.getElem?_push, Array.getElem?_push]
  by_cases hk : W.heap.size = k
  · subst hk; simp
  · rw [if_neg hk, if_neg (fun e => hk e.symm), if_neg (fun e => hk e.symm)]
theorem setCells_env (b : Nat) : ∀ (vs : List Value) (o : Nat) (w : World), (w.setCells b o vs).os = w.os ∧ (w.setCells b o vs).tape = w.tape ∧ (w.setCells b o vs).output = w.output := by
  intro vs
  induction vs with
  | nil => intro o w; exact ⟨rfl, rfl, rfl⟩
  | cons v r ih => intro o w; rw [World.setCells]; exact ih _ _
set_option maxHeartbeats 2000000 in
theorem spIns_ok {P : Program} {ng : Nat} (L : InsL P) (hent : ∀ (args : Array Value) (W : World), (callFunc 118 args).run P W = .ok (.enter 118 args) W) {args : List Value} {H : Hp} {v : Value} {H' : Hp} {r w : Nat} (hw : H.wf) (h : spIns args H = some (v, H', r, w)) :
    TaskOk P ng (.call 118 args) H (.k (.ret v H' r w)) := by
  unfold spIns at h
  split at h
  case h_2 => cases h
  rename_i b n c i b2 c2
  split at h
  case h_2 => cases h
  rename_i t k ty op lo hi t2 k2 ty2 op2 lo2 hi2 hb hb2
  generalize hcond : (Nat.beq k (n * 2) && Nat.beq ty 77 && Nat.ble i n && Nat.ble n 1000000 && ((Nat.beq op 3 && Nat.beq c (2 * n + 1)) || (Nat.beq op 0 && Nat.beq c (2 * n))) && Nat.beq lo 0 && Nat.beq hi 0 && (!Nat.beq b b2) && Nat.beq k2 2 && Nat.beq op2 0 && Nat.beq lo2 0 && Nat.beq hi2 0 && H.room) = q at h
  cases q with
  | false => rw [Bc_f] at h; cases h
  | true =>
  rw [Bc_t] at h
  simp only [Option.some.injEq, Prod.mk.injEq] at h
  obtain ⟨rfl, rfl, rfl, rfl⟩ := h
  simp only [Bool.and_eq_true, Bool.or_eq_true, beq_iff, ble_iff, Bool.not_eq_true'] at hcond
  obtain ⟨⟨⟨⟨⟨⟨⟨⟨⟨⟨⟨⟨rfl, rfl⟩, hin⟩, hn6⟩, hform⟩, rfl⟩, rfl⟩, hne⟩, rfl⟩, rfl⟩, rfl⟩, rfl⟩, hn⟩ := hcond
  have hbb : b ≠ b2 := fun e => by rw [(beq_iff b b2).2 e] at hne; cases hne
  have ha : alive H b := (alive_iff H b).2 (by rw [hb]; simp)
  have ha2 : alive H b2 := (alive_iff H b2).2 (by rw [hb2]; simp)
  refine ⟨can_fork hw ha hn, fun β W hgr p => ?_⟩
  intro args' hl
  obtain ⟨x1, l1, e1, hx1, hl⟩ := hl.cons_inv
  obtain ⟨x2, l2, rfl, hx2, hl⟩ := hl.cons_inv
  obtain ⟨x3, l3, rfl, hx3, hl⟩ := hl.cons_inv
  have := hl.nil_inv; subst this
  have ea := arr_three e1; subst ea
  cases hx2
  cases hx1 with | sl _ _ _ _ c' m em hcap =>
  cases hx3 with | sl _ _ _ _ cv m2 em2 hcap2 =>
  obtain ⟨m', cs, fr, em', hm, h2, h3, h4, h4', h5, h6⟩ := cells_of p (.inr ((bit_iff b b).2 rfl)) hb
  rw [em] at em'; cases em'
  obtain ⟨m2', cs2, fr2, em2', hm2, g2, g3, g4, g4', g5, g6⟩ := cells_of p (.inl ((bit_iff b2 b2).2 rfl)) hb2
  rw [em2] at em2'; cases em2'
  have hrb : m2.rb ≠ m.rb := fun e => hbb (p.inj b b2 m m2 ((bit_iff b b).2 rfl) (.inl ((bit_iff b2 b2).2 rfl)) ha ha2 em em2 e.symm)
  have hfr := fr_none h6
  have hfr2 := fr_none g6
  obtain ⟨gs, gt⟩ : m2.sh = 0 ∧ m2.tot = 2 := g4 rfl
  have hLL : LRel β (rdL t (n * 2) 0) (rowOf cs (0 + m.sh) (n * 2)) := lrel_row (by omega) (by omega) h5
  have hVV : LRel β (rdL t2 2 0) (rowOf cs2 (0 + m2.sh) 2) := lrel_row (by omega) (by omega) g5
  have hL1 : (rdL t (n * 2) 0).all oneC = true := one_row (n := n * 2) (by omega) fun j hj => (h5 j hj).1
  have hV1 : (rdL t2 2 0).all oneC = true := one_row (n := 2) (by omega) fun j hj => (g5 j hj).1
  have hlL : (rowOf cs (0 + m.sh) (n * 2)).length = n * 2 := rowOf_len (by omega)
  have hlV : (rowOf cs2 (0 + m2.sh) 2).length = 2 := rowOf_len (by omega)
  have hcs : ∀ j v, (rowOf cs (0 + m.sh) (n * 2))[j]? = some v → W.cell? ⟨m.rb, 0 + m.sh + j, none⟩ = some v := fun j v hj => by
    have hj2 : j < n * 2 := by
      rcases Nat.lt_or_ge j (n * 2) with h' | h'
      · exact h'
      · rw [List.getElem?_eq_none (by omega)] at hj; cases hj
    rw [rowOf_get hj2] at hj
    rw [cell_some hm]; exact hj
  have hvs : ∀ j v, (rowOf cs2 (0 + m2.sh) 2)[j]? = some v → W.cell? ⟨m2.rb, 0 + m2.sh + j, none⟩ = some v := fun j v hj => by
    have hj2 : j < 2 := by
      rcases Nat.lt_or_ge j 2 with h' | h'
      · exact h'
      · rw [List.getElem?_eq_none (by omega)] at hj; cases hj
    rw [rowOf_get hj2] at hj
    rw [cell_some hm2]; exact hj
  have h1c : ∀ v ∈ rowOf cs (0 + m.sh) (n * 2), v.oneCell' = true := fun v hv => one_kit (all_one hLL hL1 v hv)
  have h1v : ∀ v ∈ rowOf cs2 (0 + m2.sh) 2, v.oneCell' = true := fun v hv => one_kit (all_one hVV hV1 v hv)
  have hrel : LRel β (insL i (rdL t (n * 2) 0) (rdL t2 2 0)) (insL i (rowOf cs (0 + m.sh) (n * 2)) (rowOf cs2 (0 + m2.sh) 2)) := (hLL.take _).append (hVV.append (hLL.drop _))
  have hall : (insL i (rdL t (n * 2) 0) (rdL t2 2 0)).all oneC = true := by
    unfold insL
    rw [List.all_append, List.all_append, hV1, Bool.true_and, Bool.and_eq_true]
    exact ⟨List.all_eq_true.2 fun x hx => List.all_eq_true.1 hL1 x (List.mem_of_mem_take hx), List.all_eq_true.2 fun x hx => List.all_eq_true.1 hL1 x (List.mem_of_mem_drop hx)⟩
  have hlen : (insL i (rowOf cs (0 + m.sh) (n * 2)) (rowOf cs2 (0 + m2.sh) 2)).length = (n + 1) * 2 := by
    unfold insL
    rw [List.length_append, List.length_append, List.length_take, List.length_drop, hlL, hlV]; omega
  generalize hLv : rowOf cs (0 + m.sh) (n * 2) = Lr at *
  generalize hVv : rowOf cs2 (0 + m2.sh) 2 = Vr at *
  obtain ⟨tn, hbn, hgn⟩ := blkL_eq (insL i (rdL t (n * 2) 0) (rdL t2 2 0)) 77 3
  have hnc : n ≤ c' := by
    rcases hform with ⟨rfl, rfl⟩ | ⟨rfl, rfl⟩
    · have := (hcap.2 (by omega)).1; omega
    · have := hcap.1 (by omega); omega
  refine .inl ⟨hent _ _, callsIn_wide.2 ?_⟩
  have inplace : n + 1 ≤ c' → m.esz = 2 ∧ 0 + m.sh + c' * 2 = m.tot := fun hc => by
    rcases hform with ⟨rfl, rfl⟩ | ⟨rfl, rfl⟩
    · have e2 := h4' 2 rfl
      have := (hcap.2 (by omega)).2
      rw [e2] at this
      exact ⟨e2, this⟩
    · have := hcap.1 (by omega); omega
  have valR : ∀ q, VRel (β.put H.nx ⟨W.heap.size, 0, (n + 1 + q) * 2, 2⟩) (.slice (some ⟨H.nx, 0, none⟩) (n + 1) (2 * (n + 1) + 1)) (.slice (some ⟨W.heap.size, 0, none⟩) (n + 1) (n + 1 + q)) := fun q =>
    .sl H.nx 0 (n + 1) (2 * (n + 1) + 1) (n + 1 + q) ⟨W.heap.size, 0, (n + 1 + q) * 2, 2⟩ (Mp.put_same _ _ _) ⟨fun h => by omega, fun _ => ⟨by omega, by simp⟩⟩
  have valI : n + 1 ≤ c' → VRel (β.put H.nx m) (.slice (some ⟨H.nx, 0, none⟩) (n + 1) (2 * (n + 1) + 1)) (.slice (some ⟨m.rb, 0 + m.sh, none⟩) (n + 1) c') := fun hc =>
    .sl H.nx 0 (n + 1) (2 * (n + 1) + 1) c' m (Mp.put_same _ _ _) ⟨fun h => by omega, fun _ => ⟨by omega, by have := inplace hc; rw [this.1]; exact this.2⟩⟩
  by_cases hroom : n + 1 ≤ c'
  · obtain ⟨hesz, hfit⟩ := inplace hroom
    have hsp : ∀ j, j < (n + 1) * 2 → (W.cell? ⟨m.rb, 0 + m.sh + j, none⟩).isSome = true := fun j hj => by
      rw [cell_some hm, Array.getElem?_eq_getElem (by omega)]; rfl
    have hfz : ∀ j, W.frozen? ⟨m.rb, 0 + m.sh + j, none⟩ = false := fun j => frozen_none hm hfr _
    have fin : ∀ cs3 : Array Value, cs3.size = cs.size → (∀ j, j < (n + 1) * 2 → cs3[m.sh + j]? = (insL i Lr Vr)[j]?) → Post β (β.put H.nx m) H ((H.put b .no).push (blkL (insL i (rdL t (n * 2) 0) (rdL t2 2 0)) 77 3)) (bit b) W (World.setB W m.rb (.cells cs3 77 fr)) := fun cs3 k1 k2 =>
      post_inplace hw ha hn hbn hgn hall hrel em hm h2 k1 hesz (by rw [hlen]; omega) h6 (fun j hj => k2 j (by rw [← hlen]; exact hj)) p
    by_cases hlast : i = n
    · subst hlast
      refine (ins_end_room L m.rb (0 + m.sh) i c' m2.rb (0 + m2.sh) cv Vr W hroom hlV (fun j hj => by rw [Nat.add_assoc]; exact hsp _ (by omega)) (fun j hj => by rw [Nat.add_assoc]; exact hfz _) hvs h1v).mono fun e W' hR => ?_
      obtain ⟨rfl, rfl⟩ := hR
      refine ⟨_, _, rfl, valI hroom, ?_⟩
      rw [setCells_eq _ _ _ hm]
      refine fin _ (putRow_size _ _ _) fun j hj => ?_
      rw [putRow_get _ _ _ _ (by omega), insL_get (by omega) hlV]
      by_cases h1 : j < i * 2
      · rw [if_neg (by omega), if_pos h1, ← hLv, rowOf_get h1, Nat.zero_add]
      · rw [if_pos (by omega), if_neg h1, if_pos (by omega)]
        congr 1; omega
    · have hilt : i < n := by omega
      refine (ins_shift L m.rb (0 + m.sh) n c' i m2.rb (0 + m2.sh) cv Lr Vr W hilt hroom (by omega) hrb hlL hlV hcs hsp (fun j _ => hfz j) hvs h1c h1v ty2 77 cs2.size cs.size (shape_some hm2) (shape_some hm) (by omega) (frozen_none hm2 hfr2 _) (frozen_none hm2 hfr2 _)).mono fun e W' hR => ?_
      obtain ⟨rfl, rfl⟩ := hR
      refine ⟨_, _, rfl, valI hroom, ?_⟩
      have hm' : W.drew.heap[m.rb]? = some (.cells cs 77 fr) := hm
      rw [setCells_eq _ _ _ hm', setCells_eq _ _ _ (setB_same hm'), setB_setB]
      refine (fin (putRow (putRow cs (0 + m.sh + (i + 1) * 2) (Lr.drop (i * 2))) (0 + m.sh + i * 2) Vr) (by rw [putRow_size, putRow_size]) fun j hj => ?_).congr rfl ⟨rfl, rfl, rfl⟩
      have hld : (Lr.drop (i * 2)).length = n * 2 - i * 2 := by rw [List.length_drop, hlL]
      rw [putRow_get _ _ _ _ (by rw [putRow_size]; omega), insL_get (by omega) hlV, hlV]
      by_cases h1 : j < i * 2
      · rw [if_neg (by omega), if_pos h1, putRow_get _ _ _ _ (by omega), if_neg (by omega), ← hLv, rowOf_get (by omega), Nat.zero_add]
      · rw [if_neg h1]
        by_cases h3 : j < i * 2 + 2
        · rw [if_pos (by omega), if_pos h3]
          congr 1; omega
        · rw [if_neg (by omega), if_neg h3, putRow_get _ _ _ _ (by omega), if_pos (by omega), List.getElem?_drop]
          congr 1; omega
  · have hg : c' < n + 1 := by omega
    obtain ⟨q, hq⟩ : ∃ q, grownCap W (n + 1) c' 77 = n + 1 + q := ⟨grownCap W (n + 1) c' 77 - (n + 1), by have := grownCap_ge W (n + 1) c' 77; omega⟩
    obtain ⟨Z, hZ, hZl⟩ := zeroRec_list q
    have fin : Post β (β.put H.nx ⟨W.heap.size, 0, (n + 1 + q) * 2, 2⟩) H ((H.put b .no).push (blkL (insL i (rdL t (n * 2) 0) (rdL t2 2 0)) 77 3)) (bit b) W (World.pushB W (.cells ⟨insL i Lr Vr ++ Z⟩ 77)) :=
      post_anew hw ha hn hbn hgn hall hrel (by rw [hlen, hZl]; omega) p
    by_cases hlast : i = n
    · subst hlast
      refine (ins_end_grow L m.rb (0 + m.sh) i c' m2.rb (0 + m2.sh) cv Lr Vr W hnc hg (by omega) hlL hlV hcs hvs h1v).mono fun e W' hR => ?_
      obtain ⟨rfl, rfl⟩ := hR
      rw [hq]
      refine ⟨_, _, rfl, valR q, fin.congr ?_ ⟨rfl, rfl, rfl⟩⟩
      show W.heap.push _ = W.heap.push _
      congr 2
      apply Array.ext'
      rw [show i + 1 + q - (i + 1) = q from by omega]
      rw [Array.toList_append, hZ]
      show (Lr ++ Vr) ++ Z = insL i Lr Vr ++ Z
      unfold insL
      rw [List.take_of_length_le (by omega), List.drop_eq_nil_of_le (by omega), List.append_nil]
    · have hilt : i < n := by omega
      refine (ins_grow L m.rb (0 + m.sh) n c' i m2.rb (0 + m2.sh) cv Lr Vr W hilt hnc hg (by omega) hlL hlV hcs hvs h1c h1v).mono fun e W' hR => ?_
      obtain ⟨rfl, rfl⟩ := hR
      rw [hq]
      refine ⟨_, _, rfl, valR q, fin.congr ?_ ?_⟩
      rotate_left
      · obtain ⟨k1, k2, k3⟩ := setCells_env W.heap.size (Lr.drop (i * 2)) ((i + 1) * 2) (((W.alloc (.cells ((Lr.take (i * 2)).toArray ++ Builtin.zeroCells zRec (n + 1 - i) ++ Builtin.zeroCells zRec (n + 1 + q - (n + 1))) 77)).drew.setCells W.heap.size (i * 2) Vr).drew)
        obtain ⟨j1, j2, j3⟩ := setCells_env W.heap.size Vr (i * 2) ((W.alloc (.cells ((Lr.take (i * 2)).toArray ++ Builtin.zeroCells zRec (n + 1 - i) ++ Builtin.zeroCells zRec (n + 1 + q - (n + 1))) 77)).drew)
        exact ⟨k1.trans j1, k2.trans j2, k3.trans j3⟩
      rw [show n + 1 + q - (n + 1) = q from by omega]
      generalize hROW : (Lr.take (i * 2)).toArray ++ Builtin.zeroCells zRec (n + 1 - i) ++ Builtin.zeroCells zRec q = ROW
      have hk1 : ((W.alloc (.cells ROW 77)).drew).heap[W.heap.size]? = some (.cells ROW 77) := by
        show (W.heap.push _)[W.heap.size]? = _
        simp
      rw [setCells_eq _ _ _ hk1]
      have hk2 : ((World.setB (W.alloc (.cells ROW 77)).drew W.heap.size (.cells (putRow ROW (i * 2) Vr) 77 (0, 0))).drew).heap[W.heap.size]? = some (.cells (putRow ROW (i * 2) Vr) 77 (0, 0)) := setB_same hk1
      rw [setCells_eq _ _ _ hk2]
      show ((W.heap.push (.cells ROW 77)).setIfInBounds W.heap.size _).setIfInBounds W.heap.size _ = W.heap.push _
      rw [push_set, push_set]
      congr 2
      have hsz : ROW.size = (n + 1 + q) * 2 := by
        rw [← hROW, Array.size_append, Array.size_append, zeroRec_size, zeroRec_size, List.size_toArray, List.length_take, hlL]; omega
      have hld : (Lr.drop (i * 2)).length = n * 2 - i * 2 := by rw [List.length_drop, hlL]
      apply Array.ext_getElem?
      intro j
      rw [putRow_get _ _ _ _ (by rw [putRow_size]; omega), putRow_get _ _ _ _ (by omega), (show (⟨insL i Lr Vr ++ Z⟩ : Array Value)[j]? = (insL i Lr Vr ++ Z)[j]? from List.getElem?_toArray)]
      by_cases hj : j < (n + 1) * 2
      · rw [List.getElem?_append_left (by rw [hlen]; exact hj), insL_get (by omega) hlV]
        by_cases h1 : j < i * 2
        · rw [if_neg (by omega), if_neg (by omega), if_pos h1, ← hROW, Array.getElem?_append_left (by rw [Array.size_append, List.size_toArray, List.length_take]; omega), Array.getElem?_append_left (by rw [List.size_toArray, List.length_take]; omega), List.getElem?_toArray, List.getElem?_take_of_lt h1]
        · rw [if_neg h1]
          by_cases h3 : j < i * 2 + 2
          · rw [if_neg (by omega), if_pos (by omega), if_pos h3]
          · rw [if_pos (by omega), if_neg h3, List.getElem?_drop]
            congr 1; omega
      · rw [List.getElem?_append_right (by rw [hlen]; omega), if_neg (by omega), if_neg (by omega), ← hROW, Array.getElem?_append_right (by rw [Array.size_append, zeroRec_size, List.size_toArray, List.length_take]; omega), hlen, ← hZ, Array.getElem?_toList]
        congr 1
        rw [Array.size_append, zeroRec_size, List.size_toArray, List.length_take, hlL]; omega
end Go.Ev
end

noncomputable section
namespace Go.Ev
open Go.Proofs Go.Proofs.RS
theorem delL_get {i j : Nat} {L : List Value} (hi : i * 2 ≤ L.length) : (delL i L)[j]? = if j < i * 2 then L[j]? else L[j + 2]? := by
  unfold delL
  have hl : (L.take (i * 2)).length = i * 2 := by rw [List.length_take]; omega
  by_cases h1 : j < i * 2
  · rw [if_pos h1, List.getElem?_append_left (by omega), List.getElem?_take_of_lt h1]
  · rw [if_neg h1, List.getElem?_append_right (by omega), hl, List.getElem?_drop]
    congr 1
    omega
set_option maxHeartbeats 2000000 in
theorem spDel_ok {P : Program} {ng : Nat} (L : InsL P) (v50 : ∀ w, (zeroValue 77).run P w = .ok (Value.agg #[Value.string ⟨#[]⟩, Value.string ⟨#[]⟩]) w) (hent : ∀ (args : Array Value) (W : World), (callFunc 120 args).run P W = .ok (.enter 120 args) W) {args : List Value} {H : Hp} {v : Value} {H' : Hp} {r w : Nat} (hw : H.wf) (h : spDel args H = some (v, H', r, w)) :
    TaskOk P ng (.call 120 args) H (.k (.ret v H' r w)) := by
  unfold spDel at h
  split at h
  case h_2 => cases h
  rename_i b n c i j
  split at h
  case h_2 => cases h
  rename_i t k ty op lo hi hb
  generalize hcond : (Nat.beq k (n * 2) && Nat.beq ty 77 && Nat.blt i n && Nat.ble n 1000000 && Nat.beq op 3 && Nat.beq c (2 * n + 1) && Nat.beq lo 0 && Nat.beq hi 0 && Nat.beq j (i + 1) && H.room) = q at h
  cases q with
  | false => rw [Bc_f] at h; cases h
  | true =>
  rw [Bc_t] at h
  simp only [Option.some.injEq, Prod.mk.injEq] at h
  obtain ⟨rfl, rfl, rfl, rfl⟩ := h
  simp only [Bool.and_eq_true, beq_iff, ble_iff, blt_iff] at hcond
  obtain ⟨⟨⟨⟨⟨⟨⟨⟨⟨rfl, rfl⟩, hin⟩, hn6⟩, rfl⟩, rfl⟩, rfl⟩, rfl⟩, rfl⟩, hn⟩ := hcond
  have ha : alive H b := (alive_iff H b).2 (by rw [hb]; simp)
  refine ⟨can_fork hw ha hn, fun β W hgr p => ?_⟩
  intro args' hl
  obtain ⟨x1, l1, e1, hx1, hl⟩ := hl.cons_inv
  obtain ⟨x2, l2, rfl, hx2, hl⟩ := hl.cons_inv
  obtain ⟨x3, l3, rfl, hx3, hl⟩ := hl.cons_inv
  have := hl.nil_inv; subst this
  have ea := arr_three e1; subst ea
  cases hx2
  cases hx3
  cases hx1 with | sl _ _ _ _ c' m em hcap =>
  obtain ⟨m', cs, fr, em', hm, h2, h3, h4, h4', h5, h6⟩ := cells_of p (.inr ((bit_iff b b).2 rfl)) hb
  rw [em] at em'; cases em'
  have hfr := fr_none h6
  have hLL : LRel β (rdL t (n * 2) 0) (rowOf cs (0 + m.sh) (n * 2)) := lrel_row (by omega) (by omega) h5
  have hL1 : (rdL t (n * 2) 0).all oneC = true := one_row (n := n * 2) (by omega) fun j hj => (h5 j hj).1
  have hlL : (rowOf cs (0 + m.sh) (n * 2)).length = n * 2 := rowOf_len (by omega)
  have hcs : ∀ j v, (rowOf cs (0 + m.sh) (n * 2))[j]? = some v → W.cell? ⟨m.rb, 0 + m.sh + j, none⟩ = some v := fun j v hj => by
    have hj2 : j < n * 2 := by
      rcases Nat.lt_or_ge j (n * 2) with h' | h'
      · exact h'
      · rw [List.getElem?_eq_none (by omega)] at hj; cases hj
    rw [rowOf_get hj2] at hj
    rw [cell_some hm]; exact hj
  have h1c : ∀ v ∈ rowOf cs (0 + m.sh) (n * 2), v.oneCell' = true := fun v hv => one_kit (all_one hLL hL1 v hv)
  have hrel : LRel β (delL i (rdL t (n * 2) 0)) (delL i (rowOf cs (0 + m.sh) (n * 2))) := (hLL.take _).append (hLL.drop _)
  have hall : (delL i (rdL t (n * 2) 0)).all oneC = true := by
    unfold delL
    rw [List.all_append, Bool.and_eq_true]
    exact ⟨List.all_eq_true.2 fun x hx => List.all_eq_true.1 hL1 x (List.mem_of_mem_take hx), List.all_eq_true.2 fun x hx => List.all_eq_true.1 hL1 x (List.mem_of_mem_drop hx)⟩
  have hlen : (delL i (rowOf cs (0 + m.sh) (n * 2))).length = (n - 1) * 2 := by
    unfold delL
    rw [List.length_append, List.length_take, List.length_drop, hlL]; omega
  generalize hLv : rowOf cs (0 + m.sh) (n * 2) = Lr at *
  obtain ⟨tn, hbn, hgn⟩ := blkL_eq (delL i (rdL t (n * 2) 0)) 77 3
  have hesz := h4' 2 rfl
  obtain ⟨hnc, hfit⟩ := hcap.2 (by omega)
  rw [hesz] at hfit
  obtain ⟨N, rfl⟩ : ∃ N, n = N + 1 := ⟨n - 1, by omega⟩
  refine .inl ⟨hent _ _, callsIn_wide.2 ?_⟩
  refine (del_at L v50 m.rb (0 + m.sh) N c' i Lr W (by omega) (by omega) hlL hcs (fun j _ => frozen_none hm hfr _) h1c).mono fun e W' hR => ?_
  obtain ⟨rfl, rfl⟩ := hR
  refine ⟨β.put H.nx m, _, rfl, .sl H.nx 0 (N + 1 - 1) (2 * (N + 1 - 1) + 1) c' m (Mp.put_same _ _ _) ⟨fun h => by omega, fun _ => ⟨by omega, by rw [hesz]; exact hfit⟩⟩, ?_⟩
  have hm' : W.drew.heap[m.rb]? = some (.cells cs 77 fr) := hm
  rw [setCells_eq _ _ _ hm', setCells_eq _ _ _ (setB_same hm'), setB_setB]
  have hld : (Lr.drop ((i + 1) * 2)).length = (N + 1) * 2 - (i + 1) * 2 := by rw [List.length_drop, hlL]
  refine (post_inplace (cs2 := putRow (putRow cs (0 + m.sh + i * 2) (Lr.drop ((i + 1) * 2))) (0 + m.sh + N * 2) [Value.string ⟨#[]⟩, Value.string ⟨#[]⟩]) hw ha hn hbn hgn hall hrel em hm h2 (by rw [putRow_size, putRow_size]) hesz (by rw [hlen]; omega) h6 (fun j hj => ?_) p).congr rfl ⟨rfl, rfl, rfl⟩
  rw [hlen] at hj
  rw [putRow_get _ _ _ _ (by rw [putRow_size]; show _ + 2 ≤ _; omega), if_neg (by omega), putRow_get _ _ _ _ (by omega), delL_get (by omega)]
  by_cases h1 : j < i * 2
  · rw [if_neg (by omega), if_pos h1, ← hLv, rowOf_get (by omega), Nat.zero_add]
  · rw [if_pos (by omega), if_neg h1, List.getElem?_drop]
    congr 1; omega
end Go.Ev
end

noncomputable section
namespace Go.Ev
open Go.Proofs Go.Proofs.RS
def spInsN (args : List Value) (H : Hp) : Option (Value × Hp × Nat × Nat) := match args with
  | [.slice none 0 0, .int .i64 (.ofNat 0), .slice (some ⟨b2, 0, none⟩) 1 _] => (match H.blk b2 with
    | .cells t2 k2 _ op2 lo2 hi2 =>
      Bc (Nat.beq k2 2 && Nat.beq op2 0 && Nat.beq lo2 0 && Nat.beq hi2 0 && H.room)
        (some (.slice (some ⟨H.nx, 0, none⟩) 1 3, H.push (blkL (rdL t2 2 0) 77 3), bit b2, 0)) none
    | _ => none)
  | _ => none
set_option maxHeartbeats 2000000 in
theorem spInsN_ok {P : Program} {ng : Nat} (L : InsL P) (hent : ∀ (args : Array Value) (W : World), (callFunc 118 args).run P W = .ok (.enter 118 args) W) {args : List Value} {H : Hp} {v : Value} {H' : Hp} {r w : Nat} (hw : H.wf) (h : spInsN args H = some (v, H', r, w)) :
    TaskOk P ng (.call 118 args) H (.k (.ret v H' r w)) := by
  unfold spInsN at h
  split at h
  case h_2 => cases h
  rename_i b2 c2
  split at h
  case h_2 => cases h
  rename_i t2 k2 ty2 op2 lo2 hi2 hb2
  generalize hcond : (Nat.beq k2 2 && Nat.beq op2 0 && Nat.beq lo2 0 && Nat.beq hi2 0 && H.room) = q at h
  cases q with
  | false => rw [Bc_f] at h; cases h
  | true =>
  rw [Bc_t] at h
  simp only [Option.some.injEq, Prod.mk.injEq] at h
  obtain ⟨rfl, rfl, rfl, rfl⟩ := h
  simp only [Bool.and_eq_true, beq_iff] at hcond
  obtain ⟨⟨⟨⟨rfl, rfl⟩, rfl⟩, rfl⟩, hn⟩ := hcond
  refine ⟨can_push hn, fun β W hgr p => ?_⟩
  intro args' hl
  obtain ⟨x1, l1, e1, hx1, hl⟩ := hl.cons_inv
  obtain ⟨x2, l2, rfl, hx2, hl⟩ := hl.cons_inv
  obtain ⟨x3, l3, rfl, hx3, hl⟩ := hl.cons_inv
  have := hl.nil_inv; subst this
  have ea := arr_three e1; subst ea
  cases hx1
  cases hx2
  cases hx3 with | sl _ _ _ _ cv m2 em2 hcap2 =>
  obtain ⟨m2', cs2, fr2, em2', hm2, g2, g3, g4, g4', g5, g6⟩ := cells_of p (.inl ((bit_iff b2 b2).2 rfl)) hb2
  rw [em2] at em2'; cases em2'
  have hVV : LRel β (rdL t2 2 0) (rowOf cs2 (0 + m2.sh) 2) := lrel_row (by omega) (by omega) g5
  have hV1 : (rdL t2 2 0).all oneC = true := one_row (n := 2) (by omega) fun j hj => (g5 j hj).1
  have hlV : (rowOf cs2 (0 + m2.sh) 2).length = 2 := rowOf_len (by omega)
  have hvs : ∀ j v, (rowOf cs2 (0 + m2.sh) 2)[j]? = some v → W.cell? ⟨m2.rb, 0 + m2.sh + j, none⟩ = some v := fun j v hj => by
    have hj2 : j < 2 := by
      rcases Nat.lt_or_ge j 2 with h' | h'
      · exact h'
      · rw [List.getElem?_eq_none (by omega)] at hj; cases hj
    rw [rowOf_get hj2] at hj
    rw [cell_some hm2]; exact hj
  have h1v : ∀ v ∈ rowOf cs2 (0 + m2.sh) 2, v.oneCell' = true := fun v hv => one_kit (all_one hVV hV1 v hv)
  generalize hVv : rowOf cs2 (0 + m2.sh) 2 = Vr at *
  obtain ⟨tn, hbn, hgn⟩ := blkL_eq (rdL t2 2 0) 77 3
  have hf : β H.nx = none := p.fresh _ (Nat.le_refl _) (by rw [nx_push]; omega)
  refine .inl ⟨hent _ _, callsIn_wide.2 ?_⟩
  obtain ⟨q, hq⟩ : ∃ q, grownCap W 1 0 77 = 1 + q := ⟨grownCap W 1 0 77 - 1, by have := grownCap_ge W 1 0 77; omega⟩
  obtain ⟨Z, hZ, hZl⟩ := zeroRec_list q
  refine (ins_nil L m2.rb (0 + m2.sh) cv Vr W hlV hvs h1v).mono fun e W' hR => ?_
  obtain ⟨rfl, rfl⟩ := hR
  rw [hq]
  have hor : ORel (β.put H.nx ⟨W.heap.size, 0, (1 + q) * 2, 2⟩) ⟨W.heap.size, 0, (1 + q) * 2, 2⟩ (blkL (rdL t2 2 0) 77 3) (.cells ⟨Vr ++ Z⟩ 77) := by
    rw [hbn]
    exact orel_app hgn hV1 (hVV.mono (Mp.le_put _ hf)) (by rw [hlV, hZl]; omega)
  have q2 := post_push (β := β) (H := H) (W := W) (blkL (rdL t2 2 0) 77 3) (.cells ⟨Vr ++ Z⟩ 77) ⟨W.heap.size, 0, (1 + q) * 2, 2⟩ hn rfl hf hor p.dom
  refine ⟨_, _, rfl, .sl H.nx 0 1 3 (1 + q) ⟨W.heap.size, 0, (1 + q) * 2, 2⟩ (Mp.put_same _ _ _) ⟨fun h => by omega, fun _ => ⟨by omega, by simp⟩⟩, q2.congr ?_ ⟨rfl, rfl, rfl⟩⟩
  show W.heap.push _ = W.heap.push _
  congr 2
  apply Array.ext'
  rw [show 1 + q - 1 = q from by omega, Array.toList_append, hZ]
def spInsert (args : List Value) (H : Hp) : Option (Value × Hp × Nat × Nat) := spOr (spIns args H) (spInsN args H)
theorem spInsert_ok {P : Program} {ng : Nat} (L : InsL P) (hent : ∀ (args : Array Value) (W : World), (callFunc 118 args).run P W = .ok (.enter 118 args) W) {args : List Value} {H : Hp} {v : Value} {H' : Hp} {r w : Nat} (hw : H.wf) (h : spInsert args H = some (v, H', r, w)) :
    TaskOk P ng (.call 118 args) H (.k (.ret v H' r w)) := by
  rcases spOr_inv h with h | h
  · exact spIns_ok L hent hw h
  · exact spInsN_ok L hent hw h
end Go.Ev
end

noncomputable section
namespace Go.Proofs.RS
open Go Go.Ev Go.Proofs Go.Ds
structure SpK (sp : Nat → List Value → Hp → Option (Value × Hp × Nat × Nat)) : Prop where
  none : ∀ f args H, f ≠ 6 → f ≠ 118 → f ≠ 120 → f ≠ 198 → f ≠ 312 → f ≠ 153 → f ≠ 40 → sp f args H = none
  ins : ∀ args H, sp 118 args H = spInsert args H
  del : ∀ args H, sp 120 args H = spDel args H
theorem SpK.no {sp : Nat → List Value → Hp → Option (Value × Hp × Nat × Nat)} (S : SpK sp) (f : Nat) (h : f ≠ 6 ∧ f ≠ 118 ∧ f ≠ 120 ∧ f ≠ 198 ∧ f ≠ 312 ∧ f ≠ 153 ∧ f ≠ 40) : ∀ args H, sp f args H = Option.none := fun args H => S.none f args H h.1 h.2.1 h.2.2.1 h.2.2.2.1 h.2.2.2.2.1 h.2.2.2.2.2.1 h.2.2.2.2.2.2
theorem _root_.Go.Ev.RowR.sub {e : Env} {H : Hp} {w : Nat} {α : Type} {Q Q' : α → List Value → Prop} {v : Value} {l : List α} (h : RowR e H w Q v l) (hq : ∀ x vs, Q x vs → Q' x vs) {N0 nx : Nat} (hN : H.nx ≤ N0) : RowR (e.sub N0 nx) H w Q' v l :=
  h.env hq fun b hb hr _ => ⟨by omega, hr⟩
theorem _root_.Go.Ev.DsR.sub {e : Env} {H : Hp} {v : Value} {d : DS} (h : DsR e H v d) : DsR (e.sub H.nx H.nx) H v d := RowR.sub h (fun _ _ h => h) (Nat.le_refl _)
structure NewC (e : Env) (H : Hp) (L vs : List Value) (ty : Nat) (H1 H2 : Hp) : Prop where
  al : alloc1 (blkL L ty 0) H ptrTo 0 0 = .val (.pointer (some ⟨H.nx, 0, none⟩)) H1 0 0
  st : exSt L.length (.pointer (some ⟨H.nx, 0, none⟩)) (.agg ⟨vs⟩) H1 = .val U H2 0 (bit H.nx)
  row : Row H2 H.nx ty 0 vs
  n1 : H.nx ≤ H1.nx
  n2 : H1.nx ≤ H2.nx
  nx : H2.nx = H.nx + 1
  kept : Kept H H2
  wok : e.n0 ≤ H.nx → e.ok 0 (bit H.nx) H2
theorem newC (e : Env) {H : Hp} (hf : H.isFn = true) (L vs : List Value) (ty : Nat) (hl : vs.length = L.length) : ∃ H1 H2, NewC e H L vs ty H1 H2 := by
  have hr : Row (H.push (blkL L ty 0)) H.nx ty 0 L := row_push (fn_room hf) _ _ _
  have hf1 : (H.push (blkL L ty 0)).isFn = true := by rw [isFn_push]; exact hf
  obtain ⟨H2, h1, h2, h3, h4, h5⟩ := exSt_row (vs := vs) hf1 hr hl
  have hn : H2.nx = H.nx + 1 := by rw [h3, nx_push]
  refine ⟨H.push (blkL L ty 0), H2, alloc_ptr hf _, h1, h2, by rw [nx_push]; omega, by rw [h3]; omega, hn, ⟨h4, by omega, fun c hc => ?_⟩, fun he => .write h2.lt fun h => absurd h (by omega)⟩
  rw [h5 c (by omega), blk_push_old (fn_room hf) _ hc]
theorem exSt1_agg {v : Value} (h : oneC v = true) (p : Value) (H : Hp) : exSt 1 p v H = exSt 1 p (.agg ⟨[v]⟩) H := by
  cases v <;> first | rfl | cases h
end Go.Proofs.RS
end

noncomputable section
namespace Go.Proofs.RS
open Go Go.Ev Go.Proofs Go.Ds
section
variable {sp : Nat → List Value → Hp → Option (Value × Hp × Nat × Nat)} {e : Env}
abbrev recV (r : Entry) : Value := .agg ⟨[vS r.1, vS r.2]⟩
theorem exExt_tup (l : List Value) (i : Nat) (v : Value) (h : l[i]? = some v) (H : Hp) : exExt (.tuple ⟨l⟩) i H = .val v H 0 0 := by
  show (match l[i]? with | some x => R.v x H | none => .fail) = _
  rw [h]; rfl
end
end Go.Proofs.RS
end

noncomputable section
namespace Go.Proofs.RS
open Go Go.Ev Go.Proofs Go.Ds
section
variable {sp : Nat → List Value → Hp → Option (Value × Hp × Nat × Nat)} {e : Env}
def ClnR (w ty : Nat) {α : Type} (Q : α → List Value → Prop) (N : Nat) (H : Hp) (v : Value) (l : List α) : Prop :=
  (v = .slice none 0 0 ∧ l = []) ∨ ∃ b L, N ≤ b ∧ L.length = l.length * w ∧ (∀ (i : Nat) x, l[i]? = some x → i * w + w ≤ L.length ∧ Q x ((L.drop (i * w)).take w)) ∧
    ((l.length = 0 ∧ Row H b ty 0 L ∧ v = .slice (some ⟨b, 0, none⟩) l.length (2 * l.length)) ∨ (0 < l.length ∧ Row H b ty (w + 1) L ∧ v = .slice (some ⟨b, 0, none⟩) l.length (2 * l.length + 1)))
theorem ClnR.rowR {w ty : Nat} {α : Type} {Q Q' : α → List Value → Prop} {N : Nat} {H : Hp} {v : Value} {l : List α} (h : ClnR w ty Q N H v l) (he : e.n0 ≤ N) (hq : ∀ x vs, Q x vs → Q' x vs) : RowR e H w Q' v l := by
  rcases h with ⟨rfl, rfl⟩ | ⟨b, L, h1, h2, h3, ⟨h4, h5, rfl⟩ | ⟨h4, h5, rfl⟩⟩
  · exact .nil _
  · exact RowR.own h5 h1 he (by omega) fun i x hx => ⟨(h3 i x hx).1, hq _ _ (h3 i x hx).2⟩
  · exact RowR.own h5 h1 he (by omega) fun i x hx => ⟨(h3 i x hx).1, hq _ _ (h3 i x hx).2⟩
theorem exEq_sl0 (c : Nat) (H : Hp) : exEq false (.one .sl) (.slice none 0 c) (.slice none 0 0) H = .val (.bool true) H 0 0 := rfl
theorem exEq_sl1 (a : Addr) (n c : Nat) (H : Hp) : exEq false (.one .sl) (.slice (some a) n c) (.slice none 0 0) H = .val (.bool false) H 0 0 := rfl
theorem exApp_empty {H : Hp} {b ty w by_ n r : Nat} {x : Value} {new : List Value} (hf : H.isFn = true) (he : e.n0 ≤ b) (h : Row H b ty 0 []) (hl : lenV x = some n) (hc : cellsOfV H w n x = some (new, r)) (hr : e.ok r 0 H) (hnew : new.length = n * w) (hok : (2 * n + 768) * by_ ≤ 140737488355328 ∧ n ≤ 140737488355328) :
    ∃ v' H1 r' w', exApp ty w by_ (.slice (some ⟨b, 0, none⟩) 0 0) x H = .val v' H1 r' w' ∧ e.ok r' w' H1 ∧ H.nx ≤ H1.nx ∧ H1.isFn = true ∧ (∀ c, c < H.nx → c ≠ b → H1.blk c = H.blk c) ∧
      ((n = 0 ∧ Row H1 b ty 0 [] ∧ v' = .slice (some ⟨b, 0, none⟩) 0 0) ∨ (0 < n ∧ Row H1 H.nx ty (w + 1) new ∧ v' = .slice (some ⟨H.nx, 0, none⟩) n (2 * n + 1))) := by
  have hlt := h.lt
  rcases Nat.eq_zero_or_pos n with rfl | hn
  · have hnil : new = [] := List.length_eq_zero_iff.1 (by omega)
    subst hnil
    obtain ⟨t, h1, h2⟩ := h
    have e1 : wrN H b (0 + 0 * w) [] = some (H.put b (.cells (wrL (dep 0) [] (0 + 0 * w) t) 0 ty 0 0 0)) := by
      unfold wrN; rw [h1]; simp only [List.length_nil]
      rw [(ble_iff _ _).2 (by omega), thawed_zero]; rfl
    refine ⟨.slice (some ⟨b, 0, none⟩) 0 0, H.put b (.cells (wrL (dep 0) [] (0 + 0 * w) t) 0 ty 0 0 0), r, bit b, ?_, ?_, by rw [nx_put]; omega, by rw [isFn_put]; exact hf, fun c _ hcb => blk_put_ne (fn_wf hf) _ hlt hcb, .inl ⟨rfl, ⟨_, by rw [blk_put _ (fn_wf hf) hlt, if_pos rfl]; rfl, fun i v hv => by simp at hv⟩, rfl⟩⟩
    · unfold exApp
      have : asSl (.slice (some ⟨b, 0, none⟩) 0 0) = some (some (b, 0), 0, 0, false) := rfl
      simp only [hl, hc, this]
      rw [show Nat.ble (0 + 0) 0 = true from rfl, Bc_t, e1]; rfl
    · exact ⟨hr.rd, fun c hc hcc => absurd hc (by rw [(bit_iff b c).1 hcc]; omega), fun c hcc => by
        rw [nx_put]
        rcases hcc with hcc | hcc
        · exact hr.lt c (.inl hcc)
        · rw [(bit_iff b c).1 hcc]; exact hlt⟩
  · have hb : okBytes (0 + n) by_ = true := okBytes_of (by rw [Nat.zero_add]; exact hok.1) (by omega)
    have := exApp_shut (fn_room hf) h (m := 0) (sz := w) (by simp) hl hn hc hb
    refine ⟨_, _, _, _, this, ?_, by rw [nx_push]; omega, by rw [isFn_push]; exact hf, fun c hcl _ => blk_push_old (fn_room hf) _ hcl, .inr ⟨hn, ?_, by rw [Nat.zero_add]⟩⟩
    · have h2 := hr.lor (Env.ok.fresh (e := e) (b := b) hlt he) (Nat.le_refl _)
      rw [lor_zero'] at h2
      exact ⟨h2.rd, h2.wr, fun c hcc => by rw [nx_push]; have := h2.lt c hcc; omega⟩
    · exact row_push (fn_room hf) ([] ++ new) ty (w + 1)
set_option maxRecDepth 10000 in
set_option maxHeartbeats 4000000 in
theorem clR_ok (S : SpK sp) {α : Type} {Q : α → List Value → Prop} {H : Hp} {sv : Value} {l : List α} (hf : H.isFn = true) (he : e.n0 ≤ H.nx) (hsl : RowR e H 2 Q sv l) (hlen : l.length ≤ 1000000000) : EC Tb0 sp e 44 [sv] H fun v H' => Kept H H' ∧ ClnR 2 77 Q H.nx H' v l := by
  refine EC.intro (fn := Tryz.f44) (c := clR_body) (S.no 44 (by decide) _ _) (by rfl) clR_some clR_comp (by show 1 ≤ 8; decide) ?_
  have g0 : (enterT Tryz.f44 [sv]).get 0 = sv := by rw [enterT_get (by show 1 ≤ 8; decide) (by show 0 < 8; decide)]; rfl
  revert g0
  generalize enterT Tryz.f44 [sv] = t0
  intro g0
  show WK Tb0 sp e ⟨4, 8, none, false⟩ clR_k t0 [] H _
  unfold clR_k
  refine WK.seq (WK.reg_rr (fun t' => t'.get 0 = sv) ?_ ?_)
  · simp (config := { maxSteps := 1000000 }) only [clR_r0, WOR, WOG, WOC, WOGk, WOCk, wants_none', wants_some, wantsV_U, wantsV_tt, wantsV_tf, wantsV_ft, wantsV_ff, run, evalO_tmp, evalO_const, evalO_func, evalL, callV_func, Rv_eq, Ro_some, ok_zero, true_and, and_true, get_putT (d := 4), exLen_str, binV_geq, binV_leq, binV_lss, binV_gtr, exEq_int, exEq_str, exPick_t, exPick_f, Bool.not_true, Bool.not_false, Bc_t, Bc_f, Nat.reducePow, Nat.reduceLT, Nat.reduceEqDiff, Nat.reduceAdd, if_false, reduceIte, and_self, exFa_ptr, putT_none, Nat.zero_add, Nat.add_zero, Nat.le_refl, exUn_not, g0]
  intro t1 g0
  refine WK.seq (WK.mono (K := fun x t2 ds2 H2 => (x = .ret ∧ ds2 = [] ∧ H2 = H ∧ t2.get 2 = .slice none 0 0 ∧ l = []) ∨ (x = .normal ∧ ds2 = [] ∧ H2 = H ∧ t2.get 0 = sv)) ?_ ?_)
  · have hcase : (∃ c, sv = .slice none 0 c ∧ l = []) ∨ ∃ a n c, sv = .slice (some a) n c := by
      cases hsl with
      | nil c => exact .inl ⟨c, rfl, rfl⟩
      | odd => exact .inr ⟨_, _, _, rfl⟩
      | inRow b o c _ _ _ _ _ _ _ _ => exact .inr ⟨_, _, _, rfl⟩
    rcases hcase with ⟨c, rfl, rfl⟩ | ⟨a, n, c, rfl⟩
    · refine WK.seq (WK.reg_rr (fun t' => t'.get 4 = .bool true) ?_ ?_)
      · simp (config := { maxSteps := 1000000 }) only [clR_r1, WOR, WOG, WOC, WOGk, WOCk, wants_none', wants_some, wantsV_U, wantsV_tt, wantsV_tf, wantsV_ft, wantsV_ff, run, evalO_tmp, evalO_const, evalO_func, evalL, callV_func, Rv_eq, Ro_some, ok_zero, true_and, and_true, get_putT (d := 4), exLen_str, binV_geq, binV_leq, binV_lss, binV_gtr, exEq_int, exEq_str, exPick_t, exPick_f, Bool.not_true, Bool.not_false, Bc_t, Bc_f, Nat.reducePow, Nat.reduceLT, Nat.reduceEqDiff, Nat.reduceAdd, if_false, reduceIte, and_self, exFa_ptr, putT_none, Nat.zero_add, Nat.add_zero, Nat.le_refl, exUn_not, g0, exEq_sl0]
      intro t2 g4
      refine WK.cond (v := true) (by rw [evalO_tmp, g4]; rfl) (WK.seq (WK.reg_rr (fun t' => t'.get 2 = .slice none 0 0) ?_ ?_))
      · simp (config := { maxSteps := 1000000 }) only [clR_r2, WOR, WOG, WOC, WOGk, WOCk, wants_none', wants_some, wantsV_U, wantsV_tt, wantsV_tf, wantsV_ft, wantsV_ff, run, evalO_tmp, evalO_const, evalO_func, evalL, callV_func, Rv_eq, Ro_some, ok_zero, true_and, and_true, get_putT (d := 4), exLen_str, binV_geq, binV_leq, binV_lss, binV_gtr, exEq_int, exEq_str, exPick_t, exPick_f, Bool.not_true, Bool.not_false, Bc_t, Bc_f, Nat.reducePow, Nat.reduceLT, Nat.reduceEqDiff, Nat.reduceAdd, if_false, reduceIte, and_self, exFa_ptr, putT_none, Nat.zero_add, Nat.add_zero, Nat.le_refl, exUn_not]
      intro t3 g2
      exact WK.ret (.inl ⟨rfl, rfl, rfl, g2, rfl⟩)
    · refine WK.seq (WK.reg_rr (fun t' => t'.get 4 = .bool false ∧ t'.get 0 = .slice (some a) n c) ?_ ?_)
      · simp (config := { maxSteps := 1000000 }) only [clR_r1, WOR, WOG, WOC, WOGk, WOCk, wants_none', wants_some, wantsV_U, wantsV_tt, wantsV_tf, wantsV_ft, wantsV_ff, run, evalO_tmp, evalO_const, evalO_func, evalL, callV_func, Rv_eq, Ro_some, ok_zero, true_and, and_true, get_putT (d := 4), exLen_str, binV_geq, binV_leq, binV_lss, binV_gtr, exEq_int, exEq_str, exPick_t, exPick_f, Bool.not_true, Bool.not_false, Bc_t, Bc_f, Nat.reducePow, Nat.reduceLT, Nat.reduceEqDiff, Nat.reduceAdd, if_false, reduceIte, and_self, exFa_ptr, putT_none, Nat.zero_add, Nat.add_zero, Nat.le_refl, exUn_not, g0, exEq_sl1]
      rintro t2 ⟨g4, g0⟩
      exact WK.cond (v := false) (by rw [evalO_tmp, g4]; rfl) (WK.skip (.inr ⟨rfl, rfl, rfl, g0⟩))
  rintro x t2 ds2 H2 - (⟨rfl, rfl, rfl, g2, rfl⟩ | ⟨rfl, rfl, rfl, g0⟩)
  · refine ⟨.inr rfl, rfl, [.slice none 0 0], 0, ?_, .zero _ _, .refl hf, .inl ⟨rfl, rfl⟩⟩
    show resL Tb0 8 t2 _ [.tmp 2] = _
    simp only [resL, g2]; rfl
  show WK Tb0 sp e ⟨4, 8, none, false⟩ _ t2 [] H2 _
  have hr1 : Row (H2.push (blkL [] 77 0)) H2.nx 77 0 [] := row_push (fn_room hf) _ _ _
  have hk1 : Kept H2 (H2.push (blkL [] 77 0)) := ⟨by rw [isFn_push]; exact hf, by rw [nx_push]; omega, fun b hb => blk_push_old (fn_room hf) _ hb⟩
  have hal : alloc1 (blkL [] 77 0) H2 (fun i => mkSlV (some (i, 0)) 0 0 false) 0 0 = .val (.slice (some ⟨H2.nx, 0, none⟩) 0 0) (H2.push (blkL [] 77 0)) 0 0 := by rw [alloc1_room (fn_room hf)]; rfl
  have hnx1 : (H2.push (blkL [] 77 0)).nx = H2.nx + 1 := nx_push _ _
  revert hr1 hk1 hal hnx1
  generalize H2.push (blkL [] 77 0) = H3
  intro hr1 hk1 hal hnx1
  have hsl3 : RowR e H3 2 Q sv l := hsl.mono hk1.old fun _ _ h => h
  obtain ⟨cs, r, c1, c2, c3, c4⟩ := hsl3.cells
  obtain ⟨v', H4, r', w', a1, a2, a3, a4, a5, a6⟩ := exApp_empty (e := e) (ty := 77) (w := 2) (by_ := 32) hk1.fn he hr1 hsl3.lenV c1 c2 c3 ⟨by omega, by omega⟩
  have hk4 : Kept H2 H4 := ⟨a4, by omega, fun c hc => (a5 c (by omega) (by omega)).trans (hk1.old c hc)⟩
  have n1 : H2.nx ≤ H3.nx := hk1.nx
  have hfil : ∀ t' : T Value, fillL t' [] [] = some [] := fun t' => fillL_nil t' _
  refine WK.seq (WK.reg_gg (fun t' H' => t'.get 2 = v' ∧ H' = H4) ?_ ?_)
  · simp (config := { maxSteps := 1000000 }) only [clR_r3, WOR, WOG, WOC, WOGk, WOCk, wants_none', wants_some, wantsV_U, wantsV_tt, wantsV_tf, wantsV_ft, wantsV_ff, run, evalO_tmp, evalO_const, evalO_func, evalL, callV_func, Rv_eq, Ro_some, ok_zero, true_and, and_true, get_putT (d := 4), exLen_str, binV_geq, binV_leq, binV_lss, binV_gtr, exEq_int, exEq_str, exPick_t, exPick_f, Bool.not_true, Bool.not_false, Bc_t, Bc_f, Nat.reducePow, Nat.reduceLT, Nat.reduceEqDiff, Nat.reduceAdd, if_false, reduceIte, and_self, exFa_ptr, putT_none, Nat.zero_add, Nat.add_zero, Nat.le_refl, exUn_not, g0, hfil, exFill_some, hal, n1, a1, a2, a3]
  rintro t3 H5 ⟨g2, rfl⟩
  refine WK.ret ⟨.inr rfl, rfl, [v'], 0, ?_, .zero _ _, hk4, .inr ?_⟩
  · show resL Tb0 8 t3 _ [.tmp 2] = _
    simp only [resL, g2]; rfl
  rcases a6 with ⟨h0, k1, rfl⟩ | ⟨h0, k1, rfl⟩
  · have hl : l = [] := List.length_eq_zero_iff.1 h0
    subst hl
    exact ⟨_, [], Nat.le_refl _, by simp, fun i x hx => by simp at hx, .inl ⟨rfl, k1, rfl⟩⟩
  · exact ⟨_, cs, by omega, c3, c4, .inr ⟨h0, k1, rfl⟩⟩
end
end Go.Proofs.RS
end

noncomputable section
namespace Go.Proofs.RS
open Go Go.Ev Go.Proofs Go.Ds
def recsL (l : DS) : List Value := l.flatMap fun r => [vS r.1, vS r.2]
theorem recsL_nil : recsL [] = [] := rfl
theorem recsL_cons (r : Entry) (l : DS) : recsL (r :: l) = vS r.1 :: vS r.2 :: recsL l := rfl
theorem recsL_append (a b : DS) : recsL (a ++ b) = recsL a ++ recsL b := List.flatMap_append
theorem recsL_len (l : DS) : (recsL l).length = l.length * 2 := by
  induction l with
  | nil => rfl
  | cons r l ih => rw [recsL_cons, List.length_cons, List.length_cons, ih, List.length_cons]; omega
theorem recsL_drop (l : DS) (i : Nat) : (recsL l).drop (i * 2) = recsL (l.drop i) := by
  induction l generalizing i with
  | nil => simp [recsL_nil]
  | cons r l ih =>
    cases i with
    | zero => simp
    | succ i => rw [recsL_cons, show (i + 1) * 2 = i * 2 + 2 from by omega, List.drop_succ_cons, List.drop_succ_cons, ih, List.drop_succ_cons]
theorem recsL_take (l : DS) (i : Nat) : (recsL l).take (i * 2) = recsL (l.take i) := by
  induction l generalizing i with
  | nil => simp [recsL_nil]
  | cons r l ih =>
    cases i with
    | zero => simp [recsL_nil]
    | succ i => rw [recsL_cons, show (i + 1) * 2 = i * 2 + 2 from by omega, List.take_succ_cons, List.take_succ_cons, ih, List.take_succ_cons, recsL_cons]
theorem recsL_el {l : DS} {i : Nat} {x : Entry} (h : l[i]? = some x) : ((recsL l).drop (i * 2)).take 2 = [vS x.1, vS x.2] := by
  have hi : i < l.length := by
    rcases Nat.lt_or_ge i l.length with h' | h'
    · exact h'
    · rw [List.getElem?_eq_none h'] at h; cases h
  rw [recsL_drop, List.drop_eq_getElem_cons hi]
  rw [List.getElem?_eq_getElem hi] at h
  rw [Option.some.inj h, recsL_cons]
  simp
theorem recsL_of : ∀ {l : DS} {L : List Value}, L.length = l.length * 2 → (∀ (i : Nat) x, l[i]? = some x → i * 2 + 2 ≤ L.length ∧ recQ x ((L.drop (i * 2)).take 2)) → L = recsL l := by
  intro l
  induction l with
  | nil => intro L h _; exact List.length_eq_zero_iff.1 (by simpa using h)
  | cons r l ih =>
    intro L h hq
    have h0 := (hq 0 r rfl).2
    unfold recQ at h0
    simp only [Nat.zero_mul, List.drop_zero] at h0
    have h1 : L.drop 2 = recsL l := ih (by rw [List.length_drop, h, List.length_cons]; omega) fun i x hx => by
      obtain ⟨k1, k2⟩ := hq (i + 1) x (by simpa using hx)
      refine ⟨by rw [List.length_drop]; omega, ?_⟩
      rw [List.drop_drop, show 2 + i * 2 = (i + 1) * 2 from by omega]
      exact k2
    rw [← List.take_append_drop 2 L, h0, h1, recsL_cons]; rfl
structure OwnD (N : Nat) (H : Hp) (v : Value) (l : DS) (b op c : Nat) : Prop where
  ge : N ≤ b
  row : Row H b 77 op (recsL l)
  val : v = .slice (some ⟨b, 0, none⟩) l.length c
theorem row_dsR {e : Env} {H : Hp} {b op c N : Nat} {l : DS} (h : Row H b 77 op (recsL l)) (hN : N ≤ b) (he : e.n0 ≤ N) : DsR e H (.slice (some ⟨b, 0, none⟩) l.length c) l :=
  RowR.own h hN he (by rw [recsL_len]; omega) fun i x hx => by
    have hi : i < l.length := by
      rcases Nat.lt_or_ge i l.length with h' | h'
      · exact h'
      · rw [List.getElem?_eq_none h'] at hx; cases hx
    exact ⟨by rw [recsL_len]; omega, recsL_el hx⟩
theorem OwnD.dsR {e : Env} {N : Nat} {H : Hp} {v : Value} {l : DS} {b op c : Nat} (h : OwnD N H v l b op c) (he : e.n0 ≤ N) : DsR e H v l := by
  rw [h.val]; exact row_dsR h.row h.ge he
theorem ClnR.own {N : Nat} {H : Hp} {v : Value} {l : DS} (h : ClnR 2 77 recQ N H v l) : (v = .slice none 0 0 ∧ l = []) ∨ ∃ b op c, OwnD N H v l b op c ∧ ((op = 3 ∧ c = 2 * l.length + 1) ∨ (op = 0 ∧ c = 2 * l.length)) ∧ (0 < l.length → op = 3 ∧ c = 2 * l.length + 1) := by
  rcases h with h | ⟨b, L, h1, h2, h3, ⟨h4, h5, h6⟩ | ⟨h4, h5, h6⟩⟩
  · exact .inl h
  · have := recsL_of h2 h3
    subst this
    exact .inr ⟨b, 0, _, ⟨h1, h5, h6⟩, .inr ⟨rfl, rfl⟩, fun h => by omega⟩
  · have := recsL_of h2 h3
    subst this
    exact .inr ⟨b, 3, _, ⟨h1, h5, h6⟩, .inl ⟨rfl, rfl⟩, fun h => ⟨rfl, rfl⟩⟩
theorem rdL_row {H : Hp} {b ty op : Nat} {L : List Value} (h : Row H b ty op L) : ∃ t, H.blk b = .cells t L.length ty op 0 0 ∧ rdL t L.length 0 = L := by
  obtain ⟨t, h1, h2⟩ := h
  exact ⟨t, h1, by rw [rdL_list h2 _ 0 (by omega)]; simp⟩
theorem spIns_row {H : Hp} {b op n i b2 ty2 c c2 : Nat} {L V : List Value} (hf : H.isFn = true) (h : Row H b 77 op L) (hl : L.length = n * 2) (hform : (op = 3 ∧ c = 2 * n + 1) ∨ (op = 0 ∧ c = 2 * n)) (h2 : Row H b2 ty2 0 V) (hV : V.length = 2) (hne : b ≠ b2) (hi : i ≤ n) (hn : n ≤ 1000000) :
    spIns [.slice (some ⟨b, 0, none⟩) n c, vN i, .slice (some ⟨b2, 0, none⟩) 1 c2] H = some (.slice (some ⟨H.nx, 0, none⟩) (n + 1) (2 * (n + 1) + 1), (H.put b .no).push (blkL (insL i L V) 77 3), bit b2, bit b) := by
  obtain ⟨t, e1, e2⟩ := rdL_row h
  obtain ⟨t2, e3, e4⟩ := rdL_row h2
  rw [hl] at e1 e2
  rw [hV] at e3 e4
  show spIns [.slice (some ⟨b, 0, none⟩) n c, .int .i64 (.ofNat i), .slice (some ⟨b2, 0, none⟩) 1 c2] H = _
  unfold spIns
  simp only [e1, e3, e2, e4]
  have hc : (Nat.beq (n * 2) (n * 2) && Nat.beq 77 77 && Nat.ble i n && Nat.ble n 1000000 && ((Nat.beq op 3 && Nat.beq c (2 * n + 1)) || (Nat.beq op 0 && Nat.beq c (2 * n))) && Nat.beq 0 0 && Nat.beq 0 0 && (!Nat.beq b b2) && Nat.beq 2 2 && Nat.beq 0 0 && Nat.beq 0 0 && Nat.beq 0 0 && H.room) = true := by
    simp only [Bool.and_eq_true, Bool.or_eq_true, beq_iff, ble_iff, Bool.not_eq_true']
    refine ⟨⟨⟨⟨⟨⟨⟨⟨⟨⟨⟨⟨by trivial, by trivial⟩, hi⟩, hn⟩, hform⟩, by trivial⟩, by trivial⟩, ?_⟩, by trivial⟩, by trivial⟩, by trivial⟩, by trivial⟩, fn_room hf⟩
    cases hh : Nat.beq b b2 with
    | false => rfl
    | true => exact absurd ((beq_iff _ _).1 hh) hne
  rw [hc, Bc_t]
theorem spDel_row {H : Hp} {b n i : Nat} {L : List Value} (hf : H.isFn = true) (h : Row H b 77 3 L) (hl : L.length = n * 2) (hi : i < n) (hn : n ≤ 1000000) :
    spDel [.slice (some ⟨b, 0, none⟩) n (2 * n + 1), vN i, vN (i + 1 : Nat)] H = some (.slice (some ⟨H.nx, 0, none⟩) (n - 1) (2 * (n - 1) + 1), (H.put b .no).push (blkL (delL i L) 77 3), 0, bit b) := by
  obtain ⟨t, e1, e2⟩ := rdL_row h
  rw [hl] at e1 e2
  show spDel [.slice (some ⟨b, 0, none⟩) n (2 * n + 1), .int .i64 (.ofNat i), .int .i64 (.ofNat (i + 1))] H = _
  unfold spDel
  simp only [e1, e2]
  have hc : (Nat.beq (n * 2) (n * 2) && Nat.beq 77 77 && Nat.blt i n && Nat.ble n 1000000 && Nat.beq 3 3 && Nat.beq (2 * n + 1) (2 * n + 1) && Nat.beq 0 0 && Nat.beq 0 0 && Nat.beq (i + 1) (i + 1) && H.room) = true := by
    simp only [Bool.and_eq_true, beq_iff, ble_iff, blt_iff]
    exact ⟨⟨⟨⟨⟨⟨⟨⟨⟨by trivial, by trivial⟩, hi⟩, hn⟩, by trivial⟩, by trivial⟩, by trivial⟩, by trivial⟩, by trivial⟩, fn_room hf⟩
  rw [hc, Bc_t]
theorem insL_recs (i : Nat) (d : DS) (r : Entry) : insL i (recsL d) [vS r.1, vS r.2] = recsL (d.take i ++ r :: d.drop i) := by
  unfold insL
  rw [recsL_take, recsL_drop, recsL_append, recsL_cons]; rfl
theorem delL_recs (i : Nat) (d : DS) : delL i (recsL d) = recsL (d.eraseIdx i) := by
  unfold delL
  rw [recsL_take, recsL_drop, List.eraseIdx_eq_take_drop_succ, recsL_append]
theorem ClnR.later {w ty : Nat} {α : Type} {Q : α → List Value → Prop} {N : Nat} {H H' : Hp} {v : Value} {l : List α} (h : ClnR w ty Q N H v l) (hb : ∀ b, b < H.nx → H'.blk b = H.blk b) : ClnR w ty Q N H' v l := by
  rcases h with h | ⟨b, L, h1, h2, h3, h4⟩
  · exact .inl h
  · exact .inr ⟨b, L, h1, h2, h3, h4.imp (fun ⟨a, k, c⟩ => ⟨a, k.of_blk (hb _ k.lt), c⟩) (fun ⟨a, k, c⟩ => ⟨a, k.of_blk (hb _ k.lt), c⟩)⟩
theorem ClnR.lt {w ty : Nat} {α : Type} {Q : α → List Value → Prop} {N : Nat} {H : Hp} {v : Value} {l : List α} (h : ClnR w ty Q N H v l) {b n c : Nat} (hv : v = .slice (some ⟨b, 0, none⟩) n c) : b < H.nx := by
  subst hv
  rcases h with ⟨h, _⟩ | ⟨b', L, _, _, _, ⟨_, k, h⟩ | ⟨_, k, h⟩⟩
  · cases h
  · cases h; exact k.lt
  · cases h; exact k.lt
theorem fillL_rec {t : T Value} {z1 z2 a b : Value} {o : Operand} (h : evalO t o = .agg ⟨[a, b]⟩) : fillL t [z1, z2] [(0, 2, o)] = some [a, b] := by
  simp only [fillL, h]; rfl
def envN (N : Nat) : Env := ⟨N, fun _ => False, fun _ => False⟩
def ResR (z0 : Int) (N : Nat) (H : Hp) (v : Value) (z : Int) : Option DS → Prop
  | none => z = z0
  | some l => z = 0 ∧ DsR (envN N) H v l
theorem _root_.Go.Ev.RowR.behind {e : Env} {H H' : Hp} {N w : Nat} {α : Type} {Q Q' : α → List Value → Prop} {v : Value} {l : List α} (h : RowR (envN N) H w Q v l) (he : e.n0 ≤ N) (hb : ∀ b, N ≤ b → b < H.nx → H'.blk b = H.blk b) (hq : ∀ x vs, Q x vs → Q' x vs) : RowR e H' w Q' v l := by
  cases h with
  | nil => exact .nil _
  | odd => exact .odd _ _ _
  | inRow b o c ty op l cells h hr hbd hc =>
    have hN : N ≤ b := by
      rcases Nat.lt_or_ge b N with h' | h'
      · exact (hr h').elim
      · exact h'
    exact .inRow b o c ty op l cells (h.of_blk (hb b hN h.lt)) (fun hlt => by omega) hbd fun i x hx => ⟨(hc i x hx).1, hq _ _ (hc i x hx).2⟩
theorem _root_.Go.Ev.DsR.behind {e : Env} {H H' : Hp} {N : Nat} {v : Value} {d : DS} (h : DsR (envN N) H v d) (he : e.n0 ≤ N) (hb : ∀ b, N ≤ b → b < H.nx → H'.blk b = H.blk b) : DsR e H' v d := RowR.behind h he hb fun _ _ h => h
section
variable {sp : Nat → List Value → Hp → Option (Value × Hp × Nat × Nat)} {e : Env}
structure Anew (N : Nat) (H H' : Hp) (v : Value) (l : DS) : Prop where
  fn : H'.isFn = true
  nx : H.nx ≤ H'.nx
  old : ∀ b, b < N → H'.blk b = H.blk b
  ds : ∃ b op c, OwnD N H' v l b op c
theorem ins_ec (S : SpK sp) {N : Nat} {H : Hp} {v : Value} {d : DS} {i b2 ty2 c2 : Nat} {r : Entry} (hf : H.isFn = true) (hN : N ≤ H.nx) (hcl : ClnR 2 77 recQ N H v d) (h2 : Row H b2 ty2 0 [vS r.1, vS r.2]) (hi : i ≤ d.length) (hn : d.length ≤ 1000000)
    (hb2 : b2 < e.n0 → e.Rd b2) (hW : ∀ b, b < e.n0 → N ≤ b → b < H.nx → e.Wr b) (hne : ∀ b c, v = .slice (some ⟨b, 0, none⟩) d.length c → b ≠ b2) :
    EC Tb0 sp e 118 [v, vN i, .slice (some ⟨b2, 0, none⟩) 1 c2] H fun v' H' => Anew N H H' v' (d.take i ++ r :: d.drop i) := by
  rcases hcl.own with ⟨rfl, rfl⟩ | ⟨b, op, c, ho, hform, _⟩
  · have hi0 : i = 0 := by simpa using hi
    subst hi0
    obtain ⟨t2, e3, e4⟩ := rdL_row h2
    have hc : (Nat.beq 2 2 && Nat.beq 0 0 && Nat.beq 0 0 && Nat.beq 0 0 && H.room) = true := by rw [fn_room hf]; rfl
    have h : spInsert [.slice none 0 0, vN (0 : Nat), .slice (some ⟨b2, 0, none⟩) 1 c2] H = some (.slice (some ⟨H.nx, 0, none⟩) 1 3, H.push (blkL [vS r.1, vS r.2] 77 3), bit b2, 0) := by
      show spOr none (spInsN [.slice none 0 0, .int .i64 (.ofNat 0), .slice (some ⟨b2, 0, none⟩) 1 c2] H) = _
      unfold spOr
      simp only []
      unfold spInsN
      simp only [List.length_cons, List.length_nil] at e3 e4
      simp only [e3, e4]
      rw [hc, Bc_t]
    have hr : Row (H.push (blkL [vS r.1, vS r.2] 77 3)) H.nx 77 3 (recsL [r]) := row_push (fn_room hf) _ _ _
    refine EC.of_sp ((S.ins _ _).trans h) ?_ (by rw [nx_push]; omega) ⟨by rw [isFn_push]; exact hf, by rw [nx_push]; omega, fun c hc => blk_push_old (fn_room hf) _ (by omega), _, _, _, hN, hr, rfl⟩
    have := Env.ok.read (e := e) h2.lt hb2
    exact ⟨this.rd, this.wr, fun c hc => by rw [nx_push]; have := this.lt c hc; omega⟩
  · have hlen := recsL_len d
    have hbb : b ≠ b2 := hne b c ho.val
    have h := spIns_row (i := i) (c2 := c2) hf ho.row hlen hform h2 rfl hbb hi hn
    rw [insL_recs] at h
    have hlt := ho.row.lt
    have hge := ho.ge
    have hrm : (H.put b .no).room = true := by rw [room_put]; exact fn_room hf
    have hr : Row ((H.put b .no).push (blkL (recsL (d.take i ++ r :: d.drop i)) 77 3)) H.nx 77 3 (recsL (d.take i ++ r :: d.drop i)) := by
      have := row_push (H := H.put b .no) hrm (recsL (d.take i ++ r :: d.drop i)) 77 3
      rwa [nx_put] at this
    have h' : spInsert [v, vN i, .slice (some ⟨b2, 0, none⟩) 1 c2] H = some (.slice (some ⟨H.nx, 0, none⟩) (d.length + 1) (2 * (d.length + 1) + 1), (H.put b .no).push (blkL (recsL (d.take i ++ r :: d.drop i)) 77 3), bit b2, bit b) := by
      unfold spInsert
      rw [ho.val, h]; rfl
    have hl : (d.take i ++ r :: d.drop i).length = d.length + 1 := by
      rw [List.length_append, List.length_cons, List.length_take, List.length_drop]; omega
    refine EC.of_sp ((S.ins _ _).trans h') ?_ (by rw [nx_push, nx_put]; omega) ⟨by rw [isFn_push, isFn_put]; exact hf, by rw [nx_push, nx_put]; omega, fun c hc => ?_, _, _, _, hN, hr, by rw [hl]⟩
    · have h1 := Env.ok.read (e := e) h2.lt hb2
      have h3 := h1.lor (Env.ok.write (e := e) hlt fun hb => hW b hb hge hlt) (Nat.le_refl _)
      rw [lor_zero', zero_lor'] at h3
      exact ⟨h3.rd, h3.wr, fun c hc => by rw [nx_push, nx_put]; have := h3.lt c hc; omega⟩
    · rw [blk_push_old hrm _ (by rw [nx_put]; omega), blk_put_ne (fn_wf hf) _ hlt (by omega)]
theorem del_ec (S : SpK sp) {N : Nat} {H : Hp} {v : Value} {d : DS} {i : Nat} (hf : H.isFn = true) (hN : N ≤ H.nx) (hcl : ClnR 2 77 recQ N H v d) (hi : i < d.length) (hn : d.length ≤ 1000000) (hW : ∀ b, b < e.n0 → N ≤ b → b < H.nx → e.Wr b) :
    EC Tb0 sp e 120 [v, vN i, vN (i + 1 : Nat)] H fun v' H' => Anew N H H' v' (d.eraseIdx i) := by
  rcases hcl.own with ⟨rfl, rfl⟩ | ⟨b, op, c, ho, _, hopen⟩
  · simp at hi
  · obtain ⟨rfl, rfl⟩ := hopen (by omega)
    have h := spDel_row hf ho.row (recsL_len d) hi hn
    rw [delL_recs] at h
    have hlt := ho.row.lt
    have hge := ho.ge
    have hrm : (H.put b .no).room = true := by rw [room_put]; exact fn_room hf
    have hr : Row ((H.put b .no).push (blkL (recsL (d.eraseIdx i)) 77 3)) H.nx 77 3 (recsL (d.eraseIdx i)) := by
      have := row_push (H := H.put b .no) hrm (recsL (d.eraseIdx i)) 77 3
      rwa [nx_put] at this
    have hl : (d.eraseIdx i).length = d.length - 1 := List.length_eraseIdx_of_lt hi
    refine EC.of_sp ((S.del _ _).trans (by rw [ho.val]; exact h)) ?_ (by rw [nx_push, nx_put]; omega) ⟨by rw [isFn_push, isFn_put]; exact hf, by rw [nx_push, nx_put]; omega, fun c hc => ?_, _, _, _, hN, hr, by rw [hl]⟩
    · have h3 := Env.ok.write (e := e) hlt fun hb => hW b hb hge hlt
      exact ⟨h3.rd, h3.wr, fun c hc => by rw [nx_push, nx_put]; have := h3.lt c hc; omega⟩
    · rw [blk_push_old hrm _ (by rw [nx_put]; omega), blk_put_ne (fn_wf hf) _ hlt (by omega)]
end
end Go.Proofs.RS
end
