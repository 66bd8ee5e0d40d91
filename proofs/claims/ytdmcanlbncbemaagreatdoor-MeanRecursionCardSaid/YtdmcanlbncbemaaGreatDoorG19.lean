/-
  A part of the proof that pliantlaw16.MeanRecursion returns true and leaves its arguments alone. Conditions: those of the card in the last text.
-/
import Derived.Test.YtdmcanlbncbemaaGreatDoorG14
import Derived.Test.YtdmcanlbncbemaaGreatDoorG17
import Derived.Test.YtdmcanlbncbemaaGreatDoorG18
set_option linter.unusedSimpArgs false
set_option linter.unusedVariables false
set_option linter.unusedSectionVars false
noncomputable section
namespace Go.Proofs.MN
open Go Go.Ev Go.Proofs Go.Ev.SM
structure Good [SyQ] (c : Clm) : Prop where
  ok : ClOk Tryz.prog NG c
  fits : Fits NG c
  args : all2 (covV tab0 (pm0 c.n0) 12) c.args c.args = true
section
variable [SyQ]
theorem clB_good {sp : F.Sp} (hsp : SpOk Tryz.prog NG sp) {c : Clm} {src : List Nat} (h : clB sp tab0 c src = true) : Good c := by
  obtain ⟨h1, h2⟩ := clB_ok hsp tab0_ok h
  obtain ⟨v, H, r, w, _, _, he⟩ := clB_fits h
  exact ⟨h1, h2, (endB_ok he).args⟩
theorem memo_good {c : Clm} (g : Good c) (hn : c.n1 = c.n0) (hw : c.w = 0) {H : Hp} (hwf : H.wf) (hb : ∀ x ∈ c.pre, covB (covV tab0 (pm0 c.n0) 12) x.2 (H.blk x.1) = true) : TaskOk Tryz.prog NG (.call c.f c.args) H (.k (.ret c.v H c.r 0)) :=
  memo_task tab0_ok g.fits hn hw g.ok hwf g.args hb
theorem ty_good : ∀ c ∈ tyL, Good c := fun c hc => clB_good sp0_ok (allC_mem (bool_of ty_runs) c hc)
theorem memo1_inv {v : Value} {args : List Value} {H : Hp} {q : Value × Hp × Nat × Nat} (h : memo1 v args H = some q) : args = [T15] ∧ q = (v, H, 0, 0) := by
  unfold memo1 at h
  split at h
  · have h2 := bc_some h
    exact ⟨by rw [isTy_inv h2.1]; rfl, ans_inv h2.2⟩
  · cases h
theorem spTy_ok {f : Nat} {args : List Value} {H H' : Hp} {v : Value} {r w : Nat} (hw : H.wf) (h : spTy f args H = some (v, H', r, w)) : TaskOk Tryz.prog NG (.call f args) H (.k (.ret v H' r w)) := by
  have use : ∀ (c : Clm), c ∈ tyL → c.args = [T15] → c.n1 = c.n0 → c.w = 0 → c.pre = [] → c.r = 0 → ∀ q, memo1 c.v args H = some q → q = (v, H', r, w) → f = c.f → TaskOk Tryz.prog NG (.call f args) H (.k (.ret v H' r w)) := by
    intro c hc h1 h2 h3 h4 h5 q hq hq2 hf
    obtain ⟨ha, hq3⟩ := memo1_inv hq
    rw [hq3] at hq2
    cases hq2
    have := memo_good (ty_good c hc) h2 h3 hw (by rw [h4]; intro x hx; cases hx)
    rw [h1, h5] at this
    rw [ha, hf]; exact this
  unfold spTy at h
  cases h1 : Nat.beq f 234 with
  | true => rw [h1, Bc_t] at h; exact use (pureC 234 [T15] (nV 0)) (by simp [tyL]) rfl rfl rfl rfl rfl _ h rfl ((beq_iff _ _).1 h1)
  | false =>
  rw [h1, Bc_f] at h
  cases h2 : Nat.beq f 166 with
  | true => rw [h2, Bc_t] at h; exact use (pureC 166 [T15] (nV 0)) (by simp [tyL]) rfl rfl rfl rfl rfl _ h rfl ((beq_iff _ _).1 h2)
  | false =>
  rw [h2, Bc_f] at h
  cases h3 : Nat.beq f 165 with
  | true => rw [h3, Bc_t] at h; exact use (pureC 165 [T15] (nV 16)) (by simp [tyL]) rfl rfl rfl rfl rfl _ h rfl ((beq_iff _ _).1 h3)
  | false =>
  rw [h3, Bc_f] at h
  cases h4 : Nat.beq f 229 with
  | true => rw [h4, Bc_t] at h; exact use (pureC 229 [T15] (.bool true)) (by simp [tyL]) rfl rfl rfl rfl rfl _ h rfl ((beq_iff _ _).1 h4)
  | false =>
  rw [h4, Bc_f] at h
  cases h5 : Nat.beq f 164 with
  | true => rw [h5, Bc_t] at h; exact use (pureC 164 [T15] (nV 16)) (by simp [tyL]) rfl rfl rfl rfl rfl _ h rfl ((beq_iff _ _).1 h5)
  | false =>
  rw [h5, Bc_f] at h
  obtain ⟨h6, h⟩ := bc_some h
  exact use (pureC 123 [T15] (.bool true)) (by simp [tyL]) rfl rfl rfl rfl rfl _ h rfl ((beq_iff _ _).1 h6)
theorem sp1_ok : SpOk Tryz.prog NG sp1 := fun f args H v H' r w hw h => by
  unfold sp1 at h
  cases h1 : Nat.testBit mkTy f with
  | true => rw [h1, Bc_t] at h; exact spTy_ok hw h
  | false =>
    rw [h1, Bc_f] at h
    exact spM_ok hw (bc_some h).2
theorem r60_mem {x : Nat} (h : x < 60) : x ∈ r60 := by
  have : (List.range 60) = r60 := by decide
  rw [← this]; exact List.mem_range.2 h
theorem r61_mem {x : Nat} (h : x < 61) : x ∈ r61 := by
  have : (List.range 61) = r61 := by decide
  rw [← this]; exact List.mem_range.2 h
theorem sub_good {x : Nat} (h : x < 60) : Good (subC x) := clB_good sp1_ok (allB_mem (bool_of sub_runs) x (r60_mem h))
theorem add_good {x : Nat} (h : x < 60) : Good (addC x) := clB_good sp1_ok (allB_mem (bool_of add_runs) x (r60_mem h))
theorem to_good {x : Nat} (h : x < 61) : Good (toC x) := clB_good sp1_ok (allB_mem (bool_of to_runs) x (r61_mem h))
theorem tri_good {x : Nat} (h : x < 61) : Good (toC (triN x)) := clB_good sp1_ok (allB_mem (bool_of tri_runs) x (r61_mem h))
theorem cmp_good {x : Nat} (h : x < 61) : Good (cmpC x) := clB_good sp1_ok (allB_mem (bool_of cmp_runs) x (r61_mem h))
theorem chk_good {x : Nat} (h : x < 61) : Good (chkC x) := clB_good sp1_ok (allB_mem (bool_of chk_runs) x (r61_mem h))
theorem fits_good {x : Nat} (h : x < 61) : Good (fitsC x) := clB_good sp1_ok (allB_mem (bool_of fits_runs) x (r61_mem h))
theorem enc_good {x : Nat} (h : x < 61) : Good (encC x) := clB_good sp1_ok (allB_mem (bool_of enc_runs) x (r61_mem h))
theorem dec_good {x : Nat} (h : x < 61) : Good (decC x) := clB_good sp1_ok (allB_mem (bool_of dec_runs) x (r61_mem h))
end
theorem flat_lrel (β : Mp) : ∀ {l : List Value}, l.all (flatV 10) = true → LRel β l l
  | [], _ => LRel.nil β
  | v :: l, h => by
    simp only [List.all_cons, Bool.and_eq_true] at h
    exact LRel.cons (VRel.flat β 10 v h.1) (flat_lrel β h.2)
theorem sym_task {P : Nat → Prop} {f : Nat} {args : List Value} {v : Value} {H : Hp} {r : Nat} (hwf : H.wf)
    (h : ∀ (n : Nat) (β : Mp) (as' : List Value), P n → n ≤ 60 → Tbl n β → LRel β args as' → ∃ c : Clm, @Good (SyN P) c ∧ c.f = f ∧ c.r = r ∧ c.w = 0 ∧ c.n1 = c.n0 ∧ as' = c.args ∧ c.args.all (flatV 10) = true ∧ flatV 10 c.v = true ∧
      (∀ x ∈ c.pre, covB (covV tab0 (pm0 c.n0) 12) x.2 (H.blk x.1) = true) ∧ ∀ β', Tbl n β' → VRel β' v c.v) : @TaskOk (SyN P) Tryz.prog NG (.call f args) H (.k (.ret v H r 0)) := by
  letI := SyN P
  refine TaskOk.conseq hwf fun β W as' hg p hl => ?_
  obtain ⟨hg1, n, hP, hn, tb⟩ := hg
  obtain ⟨c, hc, rfl, rfl, hw, hn1, rfl, hfa, hfv, hb, hv⟩ := h n β as' hP hn tb hl
  refine ⟨c.args, c.v, fun args'' ha => ?_, fun β' v' hle hv' => ?_⟩
  · exact (memo_good hc hn1 hw hwf hb).2 β W ⟨hg1, n, hP, hn, tb⟩ p args'' (by rw [ha]; exact flat_lrel β hfa)
  · rw [flat_eq 10 _ _ hfv hv']
    exact hv β' (tb.mono hle)
theorem lcons {β : Mp} {a a2 : Value} {l as' : List Value} (h : LRel β (a :: l) as') (ha : ∀ a', VRel β a a' → a' = a2) : ∃ l', as' = a2 :: l' ∧ LRel β l l' := by
  obtain ⟨x, l', rfl, hx, hl⟩ := h.cons_inv
  exact ⟨l', by rw [ha x hx], hl⟩
theorem fl {β : Mp} {v : Value} (hf : flatV 10 v = true) : ∀ a', VRel β v a' → a' = v := fun a' h => flat_eq 10 _ _ hf h
theorem tabV {n k : Nat} {β : Mp} (tb : Tbl n β) (h1 : 100 ≤ k) (h2 : k < 162) : β (SY + k) = some ⟨0, n - (k - 100), 0, 0⟩ := by rw [tb k, bm_V h1 h2]
theorem tabS {n k : Nat} {β : Mp} (tb : Tbl n β) (h1 : 300 ≤ k) (h2 : k < 362) : β (SY + k) = some ⟨0, triN (n - (k - 300)), 0, 0⟩ := by rw [tb k, bm_S h1 h2]
theorem tabD {n k : Nat} {β : Mp} (tb : Tbl n β) (h1 : 500 ≤ k) (h2 : k < 562) : β (SY + k) = some ⟨0, n - (k - 500), 0, 5⟩ := by rw [tb k, bm_D h1 h2]
theorem no_pre {H : Hp} {c : Clm} (h : c.pre = []) : ∀ x ∈ c.pre, covB (covV tab0 (pm0 c.n0) 12) x.2 (H.blk x.1) = true := by rw [h]; intro x hx; cases hx
theorem ty15 {v : Value} (h : isTy 15 v = true) : v = T15 := isTy_inv h
theorem ty16 {v : Value} (h : isTy 16 v = true) : v = T16 := isTy_inv h
section
variable {P : Nat → Prop} {args : List Value} {H H' : Hp} {v : Value} {r w : Nat}
theorem spDo_ok {lim : Nat} (hlim : ∀ n, P n → lim ≤ n) (hw : H.wf) (h : spDo lim args H = some (v, H', r, w)) : @TaskOk (SyN P) Tryz.prog NG (.call 148 args) H (.k (.ret v H' r w)) := by
  letI := SyN P
  unfold spDo at h
  split at h
  case h_2 => cases h
  rename_i op a ta b tb0
  split at h
  case h_2 => cases h
  rename_i k hk
  have hk := symOf_inv hk
  have h2 := bc_some h
  clear h
  obtain ⟨h1, h⟩ := h2
  simp only [Bool.and_eq_true] at h1
  have e1 := ty15 h1.1
  have e2 := ty15 h1.2
  subst hk e1 e2
  cases h7 : isI 7 op with
  | true =>
    rw [h7, Bc_t] at h
    have h2 := bc_some h
    clear h
    obtain ⟨h3, h⟩ := h2
    simp only [Bool.and_eq_true, ble_iff, blt_iff] at h3
    obtain ⟨hb, hk1, hk2⟩ := h3
    have e1 := isI_inv h7
    have e2 := isVl_inv hb
    subst e1 e2
    cases ans_inv h
    refine sym_task hw fun n β as' hP hn tb hl => ?_
    have hlim := hlim n hP
    obtain ⟨y, hy⟩ : ∃ y, n - (k - 100) = Nat.succ y := ⟨n - (k - 100) - 1, by omega⟩
    have ek := tabV tb hk1 (by omega)
    rw [hy] at ek
    refine ⟨subC y, sub_good (by omega), rfl, rfl, rfl, rfl, ?_, rfl, rfl, no_pre rfl, fun β' tb' => ?_⟩
    · obtain ⟨l1, rfl, q1⟩ := lcons hl (fl rfl)
      obtain ⟨l2, rfl, q2⟩ := lcons q1 (fun a' ha => vl_int ek ha)
      obtain ⟨l3, rfl, q3⟩ := lcons q2 (fl rfl)
      obtain ⟨l4, rfl, q4⟩ := lcons q3 (fl rfl)
      obtain ⟨l5, rfl, q5⟩ := lcons q4 (fl rfl)
      have := q5.nil_inv; subst this; rfl
    · have ek' := tabV tb' (k := Nat.succ k) (by omega) (by omega)
      rw [show n - (Nat.succ k - 100) = y from by omega] at ek'
      exact of_tup (LRel.cons (int_vl ek') (flat_lrel β' (l := [nV 0, nV 0]) rfl))
  | false =>
    rw [h7, Bc_f] at h
    have h2 := bc_some h
    clear h
    obtain ⟨h6, h⟩ := h2
    split at h
    case h_2 => cases h
    rename_i l hb
    have h2 := bc_some h
    clear h
    obtain ⟨h3, h⟩ := h2
    simp only [Bool.and_eq_true, ble_iff, blt_iff, beq_iff] at h3
    obtain ⟨hk1, hk2, hkl⟩ := h3
    have e1 := isI_inv h6
    have e2 := symOf_inv hb
    subst e1 e2
    cases ans_inv h
    refine sym_task hw fun n β as' hP hn tb hl => ?_
    have hlim := hlim n hP
    obtain ⟨y, hy⟩ : ∃ y, n - (k - 100) = Nat.succ y := ⟨n - (k - 100) - 1, by omega⟩
    have ek := tabV tb hk1 (by omega)
    rw [hy] at ek
    have el := tabS tb (k := l) (by omega) (by omega)
    rw [show n - (l - 300) = y from by omega] at el
    refine ⟨addC y, add_good (by omega), rfl, rfl, rfl, rfl, ?_, rfl, rfl, no_pre rfl, fun β' tb' => ?_⟩
    · obtain ⟨l1, rfl, q1⟩ := lcons hl (fl rfl)
      obtain ⟨l2, rfl, q2⟩ := lcons q1 (fun a' ha => vl_int ek ha)
      obtain ⟨l3, rfl, q3⟩ := lcons q2 (fl rfl)
      obtain ⟨l4, rfl, q4⟩ := lcons q3 (fun a' ha => vl_int el ha)
      obtain ⟨l5, rfl, q5⟩ := lcons q4 (fl rfl)
      have := q5.nil_inv; subst this; rfl
    · have ek' := tabS tb' (k := k + 200) (by omega) (by omega)
      rw [show n - (k + 200 - 300) = Nat.succ y from by omega] at ek'
      exact of_tup (LRel.cons (int_vl ek') (flat_lrel β' (l := [nV 0, nV 0]) rfl))
theorem spTo_ok (hw : H.wf) (h : spTo args H = some (v, H', r, w)) : @TaskOk (SyN P) Tryz.prog NG (.call 144 args) H (.k (.ret v H' r w)) := by
  letI := SyN P
  unfold spTo at h
  split at h
  case h_2 => cases h
  rename_i a ta tb0
  split at h
  case h_2 => cases h
  rename_i k hk
  have hk := symOf_inv hk
  have h2 := bc_some h
  clear h
  obtain ⟨h1, h⟩ := h2
  simp only [Bool.and_eq_true, Bool.or_eq_true, ble_iff, blt_iff] at h1
  obtain ⟨h1, h3, h4⟩ := h1
  have e1 := ty16 h1
  have e2 := ty15 h3
  subst hk e1 e2
  have h2 := bc_some h
  clear h
  obtain ⟨hp, h⟩ := h2
  cases h
  refine sym_task (r := 4) hw fun n β as' hP hn tb hl => ?_
  have fin : ∀ y, Good (toC y) → (∀ β, Tbl n β → β (SY + k) = some ⟨0, y, 0, 0⟩) → ∃ c : Clm, Good c ∧ c.f = 144 ∧ c.r = 4 ∧ c.w = 0 ∧ c.n1 = c.n0 ∧ as' = c.args ∧ c.args.all (flatV 10) = true ∧ flatV 10 c.v = true ∧
      (∀ x ∈ c.pre, covB (covV tab0 (pm0 c.n0) 12) x.2 (H.blk x.1) = true) ∧ ∀ β', Tbl n β' → VRel β' (.tuple ⟨[vl (sy k), nV 0, nV 0]⟩) c.v := fun y gy ey => by
    refine ⟨toC y, gy, rfl, rfl, rfl, rfl, ?_, rfl, rfl, ?_, fun β' tb' => ?_⟩
    · obtain ⟨l1, rfl, q1⟩ := lcons hl (fun a' ha => vl_int (ey β tb) ha)
      obtain ⟨l2, rfl, q2⟩ := lcons q1 (fl rfl)
      obtain ⟨l3, rfl, q3⟩ := lcons q2 (fl rfl)
      have := q3.nil_inv; subst this; rfl
    · intro x hx
      have : x = (2, pwB) := by simpa [toC] using hx
      subst this; exact hp
    · exact of_tup (LRel.cons (int_vl (ey β' tb')) (flat_lrel β' (l := [nV 0, nV 0]) rfl))
  rcases h4 with ⟨a1, a2⟩ | ⟨a1, a2⟩
  · exact fin _ (to_good (x := n - (k - 100)) (by omega)) fun β tb => tabV tb a1 a2
  · exact fin _ (tri_good (x := n - (k - 300)) (by omega)) fun β tb => tabS tb a1 a2
theorem spCmp_ok {lim : Nat} {base : Bool} (hlim : ∀ n, P n → lim ≤ n ∧ (base = true → n = lim)) (hl60 : lim ≤ 61) (hw : H.wf) (h : spCmp lim base args H = some (v, H', r, w)) : @TaskOk (SyN P) Tryz.prog NG (.call 150 args) H (.k (.ret v H' r w)) := by
  letI := SyN P
  unfold spCmp at h
  split at h
  case h_2 => cases h
  rename_i a ta b tb0
  split at h
  case h_2 => cases h
  rename_i k hk
  have hk := symOf_inv hk
  have h2 := bc_some h
  clear h
  obtain ⟨h1, h⟩ := h2
  simp only [Bool.and_eq_true, ble_iff] at h1
  obtain ⟨h1, h3, h4, h5⟩ := h1
  have e1 := ty15 h1
  have e2 := ty15 h3
  have e3 := isVl_inv h4
  subst hk e1 e2 e3
  have fin : ∀ (z : Int), (∀ n, P n → n ≤ 60 → k < 162 ∧ Bc (Nat.beq (n - (k - 100)) 0) (nV 0) (nV 1) = nV z) → ans (.tuple ⟨[nV z, nV 0]⟩) H = some (v, H', r, w) → TaskOk Tryz.prog NG (.call 150 [vl (sy k), T15, vl (nV 0), T15]) H (.k (.ret v H' r w)) := fun z hz h => by
    cases ans_inv h
    refine sym_task hw fun n β as' hP hn tb hl => ?_
    obtain ⟨hk2, hz⟩ := hz n hP hn
    have ek := tabV tb h5 hk2
    refine ⟨cmpC (n - (k - 100)), cmp_good (by omega), rfl, rfl, rfl, rfl, ?_, rfl, ?_, no_pre rfl, fun β' tb' => ?_⟩
    · obtain ⟨l1, rfl, q1⟩ := lcons hl (fun a' ha => vl_int ek ha)
      obtain ⟨l2, rfl, q2⟩ := lcons q1 (fl rfl)
      obtain ⟨l3, rfl, q3⟩ := lcons q2 (fl rfl)
      obtain ⟨l4, rfl, q4⟩ := lcons q3 (fl rfl)
      have := q4.nil_inv; subst this; rfl
    · show flatV 10 (tup [_, nV 0]) = true
      rw [hz]; rfl
    · show VRel β' _ (tup [_, nV 0])
      rw [hz]
      exact VRel.flat β' 10 _ rfl
  cases hb1 : Nat.blt k (100 + lim) with
  | true =>
    rw [hb1, Bc_t] at h
    have hb1 := (blt_iff _ _).1 hb1
    refine fin 1 (fun n hP hn => ?_) h
    have := (hlim n hP).1
    refine ⟨by omega, ?_⟩
    cases e : Nat.beq (n - (k - 100)) 0 with
    | true => have := (beq_iff _ _).1 e; omega
    | false => rfl
  | false =>
    rw [hb1, Bc_f] at h
    have h2 := bc_some h
    clear h
    obtain ⟨h6, h⟩ := h2
    simp only [Bool.and_eq_true, beq_iff] at h6
    refine fin 0 (fun n hP hn => ?_) h
    have := (hlim n hP).2 h6.1
    refine ⟨by omega, ?_⟩
    rw [(beq_iff _ _).2 (by omega), Bc_t]
end
section
variable {P : Nat → Prop} {args : List Value} {H H' : Hp} {v : Value} {r w : Nat}
theorem isV_inv {k : Nat} (h : isV k = true) : 100 ≤ k ∧ k < 162 := by
  unfold isV at h
  simp only [Bool.and_eq_true, ble_iff, blt_iff] at h
  exact h
theorem spChk_ok (hw : H.wf) (h : spChk args H = some (v, H', r, w)) : @TaskOk (SyN P) Tryz.prog NG (.call 163 args) H (.k (.ret v H' r w)) := by
  letI := SyN P
  unfold spChk at h
  split at h
  case h_2 => cases h
  rename_i ta a
  split at h
  · rename_i k hk
    have hk := symOf_inv hk
    have h2 := bc_some h
    clear h
    obtain ⟨h1, h⟩ := h2
    simp only [Bool.and_eq_true] at h1
    have e1 := ty15 h1.1
    obtain ⟨k1, k2⟩ := isV_inv h1.2
    subst hk e1
    cases ans_inv h
    refine sym_task hw fun n β as' hP hn tb hl => ?_
    have ek := tabV tb k1 k2
    refine ⟨chkC (n - (k - 100)), chk_good (by omega), rfl, rfl, rfl, rfl, ?_, rfl, rfl, no_pre rfl, fun β' tb' => VRel.flat β' 10 _ rfl⟩
    · obtain ⟨l1, rfl, q1⟩ := lcons hl (fl rfl)
      obtain ⟨l2, rfl, q2⟩ := lcons q1 (fun a' ha => vl_int ek ha)
      have := q2.nil_inv; subst this; rfl
  · split at h
    case h_2 => cases h
    rename_i m hm
    obtain ⟨hm, hm2⟩ := numOf_inv hm
    have h2 := bc_some h
    clear h
    obtain ⟨h1, h⟩ := h2
    have e1 := ty15 h1
    subst hm e1
    cases ans_inv h
    exact memo_good (chk_good hm2) rfl rfl hw (no_pre rfl)
theorem spFits_ok (hw : H.wf) (h : spFits args H = some (v, H', r, w)) : @TaskOk (SyN P) Tryz.prog NG (.call 199 args) H (.k (.ret v H' r w)) := by
  letI := SyN P
  unfold spFits at h
  split at h
  case h_2 => cases h
  rename_i a ta
  split at h
  · rename_i k hk
    have hk := symOf_inv hk
    have h2 := bc_some h
    clear h
    obtain ⟨h1, h⟩ := h2
    simp only [Bool.and_eq_true] at h1
    have e1 := ty15 h1.1
    obtain ⟨k1, k2⟩ := isV_inv h1.2
    subst hk e1
    cases ans_inv h
    refine sym_task hw fun n β as' hP hn tb hl => ?_
    have ek := tabV tb k1 k2
    refine ⟨fitsC (n - (k - 100)), fits_good (by omega), rfl, rfl, rfl, rfl, ?_, rfl, rfl, no_pre rfl, fun β' tb' => VRel.flat β' 10 _ rfl⟩
    · obtain ⟨l1, rfl, q1⟩ := lcons hl (fun a' ha => vl_int ek ha)
      obtain ⟨l2, rfl, q2⟩ := lcons q1 (fl rfl)
      have := q2.nil_inv; subst this; rfl
  · split at h
    case h_2 => cases h
    rename_i m hm
    obtain ⟨hm, hm2⟩ := numOf_inv hm
    have h2 := bc_some h
    clear h
    obtain ⟨h1, h⟩ := h2
    have e1 := ty15 h1
    subst hm e1
    cases ans_inv h
    exact memo_good (fits_good hm2) rfl rfl hw (no_pre rfl)
theorem spEnc_ok (hw : H.wf) (h : spEnc args H = some (v, H', r, w)) : @TaskOk (SyN P) Tryz.prog NG (.call 135 args) H (.k (.ret v H' r w)) := by
  letI := SyN P
  unfold spEnc at h
  split at h
  case h_2 => cases h
  rename_i ta a
  split at h
  · rename_i k hk
    have hk := symOf_inv hk
    have h2 := bc_some h
    clear h
    obtain ⟨h1, h⟩ := h2
    simp only [Bool.and_eq_true] at h1
    have e1 := ty15 h1.1
    obtain ⟨k1, k2⟩ := isV_inv h1.2
    subst hk e1
    cases ans_inv h
    refine sym_task hw fun n β as' hP hn tb hl => ?_
    have ek := tabV tb k1 k2
    refine ⟨encC (n - (k - 100)), enc_good (by omega), rfl, rfl, rfl, rfl, ?_, rfl, rfl, no_pre rfl, fun β' tb' => ?_⟩
    · obtain ⟨l1, rfl, q1⟩ := lcons hl (fl rfl)
      obtain ⟨l2, rfl, q2⟩ := lcons q1 (fun a' ha => vl_int ek ha)
      have := q2.nil_inv; subst this; rfl
    · have e2 := tabD tb' (k := k + 400) (by omega) (by omega)
      rw [show n - (k + 400 - 500) = n - (k - 100) from by omega] at e2
      exact of_tup (LRel.cons (of_str e2) (flat_lrel β' (l := [nV 0]) rfl))
  · split at h
    case h_2 => cases h
    rename_i m hm
    obtain ⟨hm, hm2⟩ := numOf_inv hm
    have h2 := bc_some h
    clear h
    obtain ⟨h1, h⟩ := h2
    have e1 := ty15 h1
    subst hm e1
    cases ans_inv h
    exact memo_good (enc_good hm2) rfl rfl hw (no_pre rfl)
theorem spDec_ok (hw : H.wf) (h : spDec args H = some (v, H', r, w)) : @TaskOk (SyN P) Tryz.prog NG (.call 307 args) H (.k (.ret v H' r w)) := by
  letI := SyN P
  unfold spDec at h
  split at h
  case h_2 => cases h
  rename_i ta k
  have h2 := bc_some h
  clear h
  obtain ⟨h1, h⟩ := h2
  simp only [Bool.and_eq_true, ble_iff, blt_iff] at h1
  have e1 := ty15 h1.1
  subst e1
  cases ans_inv h
  refine sym_task hw fun n β as' hP hn tb hl => ?_
  have ek := tabD tb h1.2.1 h1.2.2
  refine ⟨decC (n - (k - 500)), dec_good (by omega), rfl, rfl, rfl, rfl, ?_, rfl, rfl, no_pre rfl, fun β' tb' => ?_⟩
  · obtain ⟨l1, rfl, q1⟩ := lcons hl (fl rfl)
    obtain ⟨l2, rfl, q2⟩ := lcons q1 (fun a' ha => str_of ek ha)
    have := q2.nil_inv; subst this; rfl
  · have e2 := tabV tb' (k := Nat.sub k 400) (by show 100 ≤ k - 400; omega) (by show k - 400 < 162; omega)
    rw [show n - (Nat.sub k 400 - 100) = n - (k - 500) from by show n - (k - 400 - 100) = _; omega] at e2
    exact of_tup (LRel.cons (int_vl e2) (flat_lrel β' (l := [nV 0]) rfl))
theorem spSy_ok {f lim : Nat} {base : Bool} (hlim : ∀ n, P n → lim ≤ n ∧ (base = true → n = lim)) (hl60 : lim ≤ 61) (hw : H.wf) (h : spSy lim base f args H = some (v, H', r, w)) : @TaskOk (SyN P) Tryz.prog NG (.call f args) H (.k (.ret v H' r w)) := by
  unfold spSy at h
  cases h1 : Nat.beq f 148 with
  | true => rw [h1, Bc_t] at h; rw [(beq_iff _ _).1 h1]; exact spDo_ok (fun n hn => (hlim n hn).1) hw h
  | false =>
  rw [h1, Bc_f] at h
  cases h2 : Nat.beq f 144 with
  | true => rw [h2, Bc_t] at h; rw [(beq_iff _ _).1 h2]; exact spTo_ok hw h
  | false =>
  rw [h2, Bc_f] at h
  cases h3 : Nat.beq f 150 with
  | true => rw [h3, Bc_t] at h; rw [(beq_iff _ _).1 h3]; exact spCmp_ok hlim hl60 hw h
  | false =>
  rw [h3, Bc_f] at h
  cases h4 : Nat.beq f 163 with
  | true => rw [h4, Bc_t] at h; rw [(beq_iff _ _).1 h4]; exact spChk_ok hw h
  | false =>
  rw [h4, Bc_f] at h
  cases h5 : Nat.beq f 199 with
  | true => rw [h5, Bc_t] at h; rw [(beq_iff _ _).1 h5]; exact spFits_ok hw h
  | false =>
  rw [h5, Bc_f] at h
  cases h6 : Nat.beq f 135 with
  | true => rw [h6, Bc_t] at h; rw [(beq_iff _ _).1 h6]; exact spEnc_ok hw h
  | false =>
  rw [h6, Bc_f] at h
  cases h7 : Nat.beq f 307 with
  | true => rw [h7, Bc_t] at h; rw [(beq_iff _ _).1 h7]; exact spDec_ok hw h
  | false =>
  rw [h7, Bc_f] at h
  cases h8 : Nat.beq f 308 with
  | true => rw [h8, Bc_t] at h; rw [(beq_iff _ _).1 h8]; exact spGet_ok hw h
  | false =>
  rw [h8, Bc_f] at h
  obtain ⟨h9, h⟩ := bc_some h
  rw [(beq_iff _ _).1 h9]; exact spSet_ok hw h
end
theorem spX_ok {P : Nat → Prop} {lim g : Nat} {base : Bool} {nest : List Value → Hp → Ans} (hlim : ∀ n, P n → lim ≤ n ∧ (base = true → n = lim)) (hl60 : lim ≤ 61)
    (hnest : ∀ args H v H' r w, H.wf → nest args H = some (v, H', r, w) → @TaskOk (SyN P) Tryz.prog NG (.call g args) H (.k (.ret v H' r w))) : @SpOk (SyN P) Tryz.prog NG (spX lim base g nest) := by
  letI := SyN P
  intro f args H v H' r w hw h
  unfold spX at h
  cases h1 : Nat.testBit mkTy f with
  | true => rw [h1, Bc_t] at h; exact spTy_ok hw h
  | false =>
  rw [h1, Bc_f] at h
  cases h2 : Nat.testBit mkSy f with
  | true => rw [h2, Bc_t] at h; exact spSy_ok hlim hl60 hw h
  | false =>
  rw [h2, Bc_f] at h
  cases h3 : Nat.beq f g with
  | true => rw [h3, Bc_t] at h; rw [(beq_iff _ _).1 h3]; exact hnest _ _ _ _ _ _ hw h
  | false =>
  rw [h3, Bc_f] at h
  cases h4 : Nat.testBit mkM f with
  | true => rw [h4, Bc_t] at h; exact spM_ok hw h
  | false =>
  rw [h4, Bc_f] at h
  obtain ⟨h5, h⟩ := bc_some h
  rw [(beq_iff _ _).1 h5]; exact spMem_ok tb1_ok lp_ok hw h
end Go.Proofs.MN
end
