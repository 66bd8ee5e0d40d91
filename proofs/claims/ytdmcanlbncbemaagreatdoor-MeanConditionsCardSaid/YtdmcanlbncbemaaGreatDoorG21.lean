/-
  A part of the proof that pliantlaw16.MeanConditions returns true and leaves its arguments alone. Conditions: those of the card in the last text.
-/
import Derived.Test.YtdmcanlbncbemaaGreatDoorG14
import Derived.Test.YtdmcanlbncbemaaGreatDoorG16
import Derived.Test.YtdmcanlbncbemaaGreatDoorG17
import Derived.Test.YtdmcanlbncbemaaGreatDoorG18
import Derived.Test.YtdmcanlbncbemaaGreatDoorG19
import Derived.Test.YtdmcanlbncbemaaGreatDoorG20
set_option linter.unusedSimpArgs false
set_option linter.unusedVariables false
set_option linter.unusedSectionVars false
noncomputable section
namespace Go.Proofs.MN
open Go Go.Ev Go.Proofs Go.Ev.SM
structure Good [SyQ] (c : Clm) : Prop where
  ok : ClOk Tryz.prog NG c
  fits : Fits NG c
  args : all2 (covV tab0 (pm0 c.n0) 12) c.args c.args = true
  np : unPan c.v = none
section
variable [SyQ]
theorem clB_good {sp : F.Sp} (hsp : SpOk Tryz.prog NG sp) {c : Clm} {src : List Nat} (hn : unPan c.v = none) (h : clB sp tab0 c src = true) : Good c := by
  obtain ⟨h1, h2⟩ := clB_ok hsp tab0_ok h
  obtain ⟨v, H, r, w, _, _, _, he⟩ := clB_fits h
  exact ⟨h1, h2, (endB_ok tab0_ok he).args, hn⟩
theorem memo_good {c : Clm} (g : Good c) (hn : c.n1 = c.n0) (hw : c.w = 0) {H : Hp} (hwf : H.wf) (hb : ∀ x ∈ c.pre, covB (covV tab0 (pm0 c.n0) 12) x.2 (H.blk x.1) = true) : TaskOk Tryz.prog NG (.call c.f c.args) H (.k (.ret c.v H c.r 0)) :=
  by have h := memo_task tab0_ok g.fits hn hw g.ok hwf g.args hb; unfold spKR at h; rw [g.np] at h; exact h
theorem ty_np : ∀ c ∈ tyL, unPan c.v = none := by
  intro c hc
  simp only [tyL, List.mem_cons, List.mem_nil_iff, or_false] at hc
  rcases hc with rfl | rfl | rfl | rfl | rfl | rfl <;> rfl
theorem ty_good : ∀ c ∈ tyL, Good c := fun c hc => clB_good sp0_ok (ty_np c hc) (allC_mem (bool_of ty_runs) c hc)
theorem memo1_inv {v : Value} {args : List Value} {H : Hp} {q : Value × Hp × Nat × Nat} (h : memo1 v args H = some q) : args = [T15] ∧ q = (v, H, 0, 0) := by
  unfold memo1 at h
  split at h
  · have h2 := bc_some h
    exact ⟨by rw [isTy_inv h2.1]; rfl, ans_inv h2.2⟩
  · cases h
theorem spTy_ok {f : Nat} {args : List Value} {H H' : Hp} {v : Value} {r w : Nat} (hw : H.wf) (h : spTy f args H = some (v, H', r, w)) : TaskOk Tryz.prog NG (.call f args) H (.k (.ret v H' r w)) := by
  have use : ∀ (c : Clm), c ∈ tyL → c.args = [T15] → c.n1 = c.n0 → c.w = 0 → c.pre = [] → c.r = 0 → ∀ q, memo1 c.v args H = some q → q = (v, H', r, w) → f = c.f → TaskOk Tryz.prog NG (.call f args) H (.k (.ret v H' r w)) := by
    intro c hc h1 h2 h3 h4 h5 q hq hq2 hf
    obtain ⟨ha, hq3⟩ := memo1_inv hq
    rw [hq3] at hq2
    cases hq2
    have := memo_good (ty_good c hc) h2 h3 hw (by rw [h4]; intro x hx; cases hx)
    rw [h1, h5] at this
    rw [ha, hf]; exact this
  unfold spTy at h
  cases h1 : Nat.beq f 234 with
  | true => rw [h1, Bc_t] at h; exact use (pureC 234 [T15] (nV 0)) (by simp [tyL]) rfl rfl rfl rfl rfl _ h rfl ((beq_iff _ _).1 h1)
  | false =>
  rw [h1, Bc_f] at h
  cases h2 : Nat.beq f 166 with
  | true => rw [h2, Bc_t] at h; exact use (pureC 166 [T15] (nV 0)) (by simp [tyL]) rfl rfl rfl rfl rfl _ h rfl ((beq_iff _ _).1 h2)
  | false =>
  rw [h2, Bc_f] at h
  cases h3 : Nat.beq f 165 with
  | true => rw [h3, Bc_t] at h; exact use (pureC 165 [T15] (nV 16)) (by simp [tyL]) rfl rfl rfl rfl rfl _ h rfl ((beq_iff _ _).1 h3)
  | false =>
  rw [h3, Bc_f] at h
  cases h4 : Nat.beq f 229 with
  | true => rw [h4, Bc_t] at h; exact use (pureC 229 [T15] (.bool true)) (by simp [tyL]) rfl rfl rfl rfl rfl _ h rfl ((beq_iff _ _).1 h4)
  | false =>
  rw [h4, Bc_f] at h
  cases h5 : Nat.beq f 164 with
  | true => rw [h5, Bc_t] at h; exact use (pureC 164 [T15] (nV 16)) (by simp [tyL]) rfl rfl rfl rfl rfl _ h rfl ((beq_iff _ _).1 h5)
  | false =>
  rw [h5, Bc_f] at h
  obtain ⟨h6, h⟩ := bc_some h
  exact use (pureC 123 [T15] (.bool true)) (by simp [tyL]) rfl rfl rfl rfl rfl _ h rfl ((beq_iff _ _).1 h6)
theorem sp1_ok : SpOk Tryz.prog NG sp1 := fun f args H v H' r w hw h => by
  unfold sp1 at h
  cases h1 : Nat.testBit mkTy f with
  | true => rw [h1, Bc_t] at h; exact np_task h fun h => spTy_ok hw h
  | false =>
    rw [h1, Bc_f] at h
    exact np_task (bc_some h).2 fun h => spM_ok hw h
theorem r60_mem {x : Nat} (h : x < 60) : x ∈ r60 := by
  have : (List.range 60) = r60 := by decide
  rw [← this]; exact List.mem_range.2 h
theorem r61_mem {x : Nat} (h : x < 61) : x ∈ r61 := by
  have : (List.range 61) = r61 := by decide
  rw [← this]; exact List.mem_range.2 h
theorem sub_good {x : Nat} (h : x < 60) : Good (subC x) := clB_good sp1_ok rfl (allB_mem (bool_of sub_runs) x (r60_mem h))
theorem add_good {x : Nat} (h : x < 60) : Good (addC x) := clB_good sp1_ok rfl (allB_mem (bool_of add_runs) x (r60_mem h))
theorem to_good {x : Nat} (h : x < 61) : Good (toC x) := clB_good sp1_ok rfl (allB_mem (bool_of to_runs) x (r61_mem h))
theorem tri_good {x : Nat} (h : x < 61) : Good (toC (triN x)) := clB_good sp1_ok rfl (allB_mem (bool_of tri_runs) x (r61_mem h))
theorem cmp_good {x : Nat} (h : x < 61) : Good (cmpC x) := clB_good sp1_ok (by cases x <;> rfl) (allB_mem (bool_of cmp_runs) x (r61_mem h))
theorem chk_good {x : Nat} (h : x < 61) : Good (chkC x) := clB_good sp1_ok rfl (allB_mem (bool_of chk_runs) x (r61_mem h))
theorem fits_good {x : Nat} (h : x < 61) : Good (fitsC x) := clB_good sp1_ok rfl (allB_mem (bool_of fits_runs) x (r61_mem h))
theorem enc_good {x : Nat} (h : x < 61) : Good (encC x) := clB_good sp1_ok rfl (allB_mem (bool_of enc_runs) x (r61_mem h))
theorem dec_good {x : Nat} (h : x < 61) : Good (decC x) := clB_good sp1_ok rfl (allB_mem (bool_of dec_runs) x (r61_mem h))
end
theorem flat_lrel (β : Mp) : ∀ {l : List Value}, l.all (flatV 10) = true → LRel β l l
  | [], _ => LRel.nil β
  | v :: l, h => by
    simp only [List.all_cons, Bool.and_eq_true] at h
    exact LRel.cons (VRel.flat β 10 v h.1) (flat_lrel β h.2)
theorem sym_task {P : Nat → Prop} {f : Nat} {args : List Value} {v : Value} {H : Hp} {r : Nat} (hwf : H.wf)
    (h : ∀ (n : Nat) (β : Mp) (as' : List Value), P n → n ≤ 60 → Tbl n β → LRel β args as' → ∃ c : Clm, @Good (SyN P) c ∧ c.f = f ∧ c.r = r ∧ c.w = 0 ∧ c.n1 = c.n0 ∧ as' = c.args ∧ c.args.all (flatV 10) = true ∧ flatV 10 c.v = true ∧
      (∀ x ∈ c.pre, covB (covV tab0 (pm0 c.n0) 12) x.2 (H.blk x.1) = true) ∧ ∀ β', Tbl n β' → VRel β' v c.v) : @TaskOk (SyN P) Tryz.prog NG (.call f args) H (.k (.ret v H r 0)) := by
  letI := SyN P
  refine TaskOk.conseq hwf fun β W as' hg p hl => ?_
  obtain ⟨hg1, n, hP, hn, tb⟩ := hg
  obtain ⟨c, hc, rfl, rfl, hw, hn1, rfl, hfa, hfv, hb, hv⟩ := h n β as' hP hn tb hl
  refine ⟨c.args, c.v, fun args'' ha => ?_, fun β' v' hle hv' => ?_⟩
  · exact (memo_good hc hn1 hw hwf hb).2 β W ⟨hg1, n, hP, hn, tb⟩ p args'' (by rw [ha]; exact flat_lrel β hfa)
  · rw [flat_eq 10 _ _ hfv hv']
    exact hv β' (tb.mono hle)
theorem lcons {β : Mp} {a a2 : Value} {l as' : List Value} (h : LRel β (a :: l) as') (ha : ∀ a', VRel β a a' → a' = a2) : ∃ l', as' = a2 :: l' ∧ LRel β l l' := by
  obtain ⟨x, l', rfl, hx, hl⟩ := h.cons_inv
  exact ⟨l', by rw [ha x hx], hl⟩
theorem fl {β : Mp} {v : Value} (hf : flatV 10 v = true) : ∀ a', VRel β v a' → a' = v := fun a' h => flat_eq 10 _ _ hf h
theorem tabV {n k : Nat} {β : Mp} (tb : Tbl n β) (h1 : 100 ≤ k) (h2 : k < 162) : β (SY + k) = some ⟨0, n - (k - 100), 0, 0⟩ := by rw [tb k, bm_V h1 h2]
theorem tabS {n k : Nat} {β : Mp} (tb : Tbl n β) (h1 : 300 ≤ k) (h2 : k < 362) : β (SY + k) = some ⟨0, triN (n - (k - 300)), 0, 0⟩ := by rw [tb k, bm_S h1 h2]
theorem tabD {n k : Nat} {β : Mp} (tb : Tbl n β) (h1 : 500 ≤ k) (h2 : k < 562) : β (SY + k) = some ⟨0, n - (k - 500), 0, 5⟩ := by rw [tb k, bm_D h1 h2]
theorem no_pre {H : Hp} {c : Clm} (h : c.pre = []) : ∀ x ∈ c.pre, covB (covV tab0 (pm0 c.n0) 12) x.2 (H.blk x.1) = true := by rw [h]; intro x hx; cases hx
theorem ty15 {v : Value} (h : isTy 15 v = true) : v = T15 := isTy_inv h
theorem ty16 {v : Value} (h : isTy 16 v = true) : v = T16 := isTy_inv h
section
variable {P : Nat → Prop} {args : List Value} {H H' : Hp} {v : Value} {r w : Nat}
theorem spDo_ok {lim : Nat} (hlim : ∀ n, P n → lim ≤ n) (hw : H.wf) (h : spDo lim args H = some (v, H', r, w)) : @TaskOk (SyN P) Tryz.prog NG (.call 148 args) H (.k (.ret v H' r w)) := by
  letI := SyN P
  unfold spDo at h
  split at h
  case h_2 => cases h
  rename_i op a ta b tb0
  split at h
  case h_2 => cases h
  rename_i k hk
  have hk := symOf_inv hk
  have h2 := bc_some h
  clear h
  obtain ⟨h1, h⟩ := h2
  simp only [Bool.and_eq_true] at h1
  have e1 := ty15 h1.1
  have e2 := ty15 h1.2
  subst hk e1 e2
  cases h7 : isI 7 op with
  | true =>
    rw [h7, Bc_t] at h
    have h2 := bc_some h
    clear h
    obtain ⟨h3, h⟩ := h2
    simp only [Bool.and_eq_true, ble_iff, blt_iff] at h3
    obtain ⟨hb, hk1, hk2⟩ := h3
    have e1 := isI_inv h7
    have e2 := isVl_inv hb
    subst e1 e2
    cases ans_inv h
    refine sym_task hw fun n β as' hP hn tb hl => ?_
    have hlim := hlim n hP
    obtain ⟨y, hy⟩ : ∃ y, n - (k - 100) = Nat.succ y := ⟨n - (k - 100) - 1, by omega⟩
    have ek := tabV tb hk1 (by omega)
    rw [hy] at ek
    refine ⟨subC y, sub_good (by omega), rfl, rfl, rfl, rfl, ?_, rfl, rfl, no_pre rfl, fun β' tb' => ?_⟩
    · obtain ⟨l1, rfl, q1⟩ := lcons hl (fl rfl)
      obtain ⟨l2, rfl, q2⟩ := lcons q1 (fun a' ha => vl_int ek ha)
      obtain ⟨l3, rfl, q3⟩ := lcons q2 (fl rfl)
      obtain ⟨l4, rfl, q4⟩ := lcons q3 (fl rfl)
      obtain ⟨l5, rfl, q5⟩ := lcons q4 (fl rfl)
      have := q5.nil_inv; subst this; rfl
    · have ek' := tabV tb' (k := Nat.succ k) (by omega) (by omega)
      rw [show n - (Nat.succ k - 100) = y from by omega] at ek'
      exact of_tup (LRel.cons (int_vl ek') (flat_lrel β' (l := [nV 0, nV 0]) rfl))
  | false =>
    rw [h7, Bc_f] at h
    have h2 := bc_some h
    clear h
    obtain ⟨h6, h⟩ := h2
    split at h
    case h_2 => cases h
    rename_i l hb
    have h2 := bc_some h
    clear h
    obtain ⟨h3, h⟩ := h2
    simp only [Bool.and_eq_true, ble_iff, blt_iff, beq_iff] at h3
    obtain ⟨hk1, hk2, hkl⟩ := h3
    have e1 := isI_inv h6
    have e2 := symOf_inv hb
    subst e1 e2
    cases ans_inv h
    refine sym_task hw fun n β as' hP hn tb hl => ?_
    have hlim := hlim n hP
    obtain ⟨y, hy⟩ : ∃ y, n - (k - 100) = Nat.succ y := ⟨n - (k - 100) - 1, by omega⟩
    have ek := tabV tb hk1 (by omega)
    rw [hy] at ek
    have el := tabS tb (k := l) (by omega) (by omega)
    rw [show n - (l - 300) = y from by omega] at el
    refine ⟨addC y, add_good (by omega), rfl, rfl, rfl, rfl, ?_, rfl, rfl, no_pre rfl, fun β' tb' => ?_⟩
    · obtain ⟨l1, rfl, q1⟩ := lcons hl (fl rfl)
      obtain ⟨l2, rfl, q2⟩ := lcons q1 (fun a' ha => vl_int ek ha)
      obtain ⟨l3, rfl, q3⟩ := lcons q2 (fl rfl)
      obtain ⟨l4, rfl, q4⟩ := lcons q3 (fun a' ha => vl_int el ha)
      obtain ⟨l5, rfl, q5⟩ := lcons q4 (fl rfl)
      have := q5.nil_inv; subst this; rfl
    · have ek' := tabS tb' (k := k + 200) (by omega) (by omega)
      rw [show n - (k + 200 - 300) = Nat.succ y from by omega] at ek'
      exact of_tup (LRel.cons (int_vl ek') (flat_lrel β' (l := [nV 0, nV 0]) rfl))
theorem spTo_ok (hw : H.wf) (h : spTo args H = some (v, H', r, w)) : @TaskOk (SyN P) Tryz.prog NG (.call 144 args) H (.k (.ret v H' r w)) := by
  letI := SyN P
  unfold spTo at h
  split at h
  case h_2 => cases h
  rename_i a ta tb0
  split at h
  case h_2 => cases h
  rename_i k hk
  have hk := symOf_inv hk
  have h2 := bc_some h
  clear h
  obtain ⟨h1, h⟩ := h2
  simp only [Bool.and_eq_true, Bool.or_eq_true, ble_iff, blt_iff] at h1
  obtain ⟨h1, h3, h4⟩ := h1
  have e1 := ty16 h1
  have e2 := ty15 h3
  subst hk e1 e2
  have h2 := bc_some h
  clear h
  obtain ⟨hp, h⟩ := h2
  cases h
  refine sym_task (r := 4) hw fun n β as' hP hn tb hl => ?_
  have fin : ∀ y, Good (toC y) → (∀ β, Tbl n β → β (SY + k) = some ⟨0, y, 0, 0⟩) → ∃ c : Clm, Good c ∧ c.f = 144 ∧ c.r = 4 ∧ c.w = 0 ∧ c.n1 = c.n0 ∧ as' = c.args ∧ c.args.all (flatV 10) = true ∧ flatV 10 c.v = true ∧
      (∀ x ∈ c.pre, covB (covV tab0 (pm0 c.n0) 12) x.2 (H.blk x.1) = true) ∧ ∀ β', Tbl n β' → VRel β' (.tuple ⟨[vl (sy k), nV 0, nV 0]⟩) c.v := fun y gy ey => by
    refine ⟨toC y, gy, rfl, rfl, rfl, rfl, ?_, rfl, rfl, ?_, fun β' tb' => ?_⟩
    · obtain ⟨l1, rfl, q1⟩ := lcons hl (fun a' ha => vl_int (ey β tb) ha)
      obtain ⟨l2, rfl, q2⟩ := lcons q1 (fl rfl)
      obtain ⟨l3, rfl, q3⟩ := lcons q2 (fl rfl)
      have := q3.nil_inv; subst this; rfl
    · intro x hx
      have : x = (2, pwB) := by simpa [toC] using hx
      subst this; exact hp
    · exact of_tup (LRel.cons (int_vl (ey β' tb')) (flat_lrel β' (l := [nV 0, nV 0]) rfl))
  rcases h4 with ⟨a1, a2⟩ | ⟨a1, a2⟩
  · exact fin _ (to_good (x := n - (k - 100)) (by omega)) fun β tb => tabV tb a1 a2
  · exact fin _ (tri_good (x := n - (k - 300)) (by omega)) fun β tb => tabS tb a1 a2
theorem spCmp_ok {lim : Nat} {base : Bool} (hlim : ∀ n, P n → lim ≤ n ∧ (base = true → n = lim)) (hl60 : lim ≤ 61) (hw : H.wf) (h : spCmp lim base args H = some (v, H', r, w)) : @TaskOk (SyN P) Tryz.prog NG (.call 150 args) H (.k (.ret v H' r w)) := by
  letI := SyN P
  unfold spCmp at h
  split at h
  case h_2 => cases h
  rename_i a ta b tb0
  split at h
  case h_2 => cases h
  rename_i k hk
  have hk := symOf_inv hk
  have h2 := bc_some h
  clear h
  obtain ⟨h1, h⟩ := h2
  simp only [Bool.and_eq_true, ble_iff] at h1
  obtain ⟨h1, h3, h4, h5⟩ := h1
  have e1 := ty15 h1
  have e2 := ty15 h3
  have e3 := isVl_inv h4
  subst hk e1 e2 e3
  have fin : ∀ (z : Int), (∀ n, P n → n ≤ 60 → k < 162 ∧ Bc (Nat.beq (n - (k - 100)) 0) (nV 0) (nV 1) = nV z) → ans (.tuple ⟨[nV z, nV 0]⟩) H = some (v, H', r, w) → TaskOk Tryz.prog NG (.call 150 [vl (sy k), T15, vl (nV 0), T15]) H (.k (.ret v H' r w)) := fun z hz h => by
    cases ans_inv h
    refine sym_task hw fun n β as' hP hn tb hl => ?_
    obtain ⟨hk2, hz⟩ := hz n hP hn
    have ek := tabV tb h5 hk2
    refine ⟨cmpC (n - (k - 100)), cmp_good (by omega), rfl, rfl, rfl, rfl, ?_, rfl, ?_, no_pre rfl, fun β' tb' => ?_⟩
    · obtain ⟨l1, rfl, q1⟩ := lcons hl (fun a' ha => vl_int ek ha)
      obtain ⟨l2, rfl, q2⟩ := lcons q1 (fl rfl)
      obtain ⟨l3, rfl, q3⟩ := lcons q2 (fl rfl)
      obtain ⟨l4, rfl, q4⟩ := lcons q3 (fl rfl)
      have := q4.nil_inv; subst this; rfl
    · show flatV 10 (tup [_, nV 0]) = true
      rw [hz]; rfl
    · show VRel β' _ (tup [_, nV 0])
      rw [hz]
      exact VRel.flat β' 10 _ rfl
  cases hb1 : Nat.blt k (100 + lim) with
  | true =>
    rw [hb1, Bc_t] at h
    have hb1 := (blt_iff _ _).1 hb1
    refine fin 1 (fun n hP hn => ?_) h
    have := (hlim n hP).1
    refine ⟨by omega, ?_⟩
    cases e : Nat.beq (n - (k - 100)) 0 with
    | true => have := (beq_iff _ _).1 e; omega
    | false => rfl
  | false =>
    rw [hb1, Bc_f] at h
    have h2 := bc_some h
    clear h
    obtain ⟨h6, h⟩ := h2
    simp only [Bool.and_eq_true, beq_iff] at h6
    refine fin 0 (fun n hP hn => ?_) h
    have := (hlim n hP).2 h6.1
    refine ⟨by omega, ?_⟩
    rw [(beq_iff _ _).2 (by omega), Bc_t]
end
section
variable {P : Nat → Prop} {args : List Value} {H H' : Hp} {v : Value} {r w : Nat}
theorem isV_inv {k : Nat} (h : isV k = true) : 100 ≤ k ∧ k < 162 := by
  unfold isV at h
  simp only [Bool.and_eq_true, ble_iff, blt_iff] at h
  exact h
theorem spChk_ok (hw : H.wf) (h : spChk args H = some (v, H', r, w)) : @TaskOk (SyN P) Tryz.prog NG (.call 163 args) H (.k (.ret v H' r w)) := by
  letI := SyN P
  unfold spChk at h
  split at h
  case h_2 => cases h
  rename_i ta a
  split at h
  · rename_i k hk
    have hk := symOf_inv hk
    have h2 := bc_some h
    clear h
    obtain ⟨h1, h⟩ := h2
    simp only [Bool.and_eq_true] at h1
    have e1 := ty15 h1.1
    obtain ⟨k1, k2⟩ := isV_inv h1.2
    subst hk e1
    cases ans_inv h
    refine sym_task hw fun n β as' hP hn tb hl => ?_
    have ek := tabV tb k1 k2
    refine ⟨chkC (n - (k - 100)), chk_good (by omega), rfl, rfl, rfl, rfl, ?_, rfl, rfl, no_pre rfl, fun β' tb' => VRel.flat β' 10 _ rfl⟩
    · obtain ⟨l1, rfl, q1⟩ := lcons hl (fl rfl)
      obtain ⟨l2, rfl, q2⟩ := lcons q1 (fun a' ha => vl_int ek ha)
      have := q2.nil_inv; subst this; rfl
  · split at h
    case h_2 => cases h
    rename_i m hm
    obtain ⟨hm, hm2⟩ := numOf_inv hm
    have h2 := bc_some h
    clear h
    obtain ⟨h1, h⟩ := h2
    have e1 := ty15 h1
    subst hm e1
    cases ans_inv h
    exact memo_good (chk_good hm2) rfl rfl hw (no_pre rfl)
theorem spFits_ok (hw : H.wf) (h : spFits args H = some (v, H', r, w)) : @TaskOk (SyN P) Tryz.prog NG (.call 199 args) H (.k (.ret v H' r w)) := by
  letI := SyN P
  unfold spFits at h
  split at h
  case h_2 => cases h
  rename_i a ta
  split at h
  · rename_i k hk
    have hk := symOf_inv hk
    have h2 := bc_some h
    clear h
    obtain ⟨h1, h⟩ := h2
    simp only [Bool.and_eq_true] at h1
    have e1 := ty15 h1.1
    obtain ⟨k1, k2⟩ := isV_inv h1.2
    subst hk e1
    cases ans_inv h
    refine sym_task hw fun n β as' hP hn tb hl => ?_
    have ek := tabV tb k1 k2
    refine ⟨fitsC (n - (k - 100)), fits_good (by omega), rfl, rfl, rfl, rfl, ?_, rfl, rfl, no_pre rfl, fun β' tb' => VRel.flat β' 10 _ rfl⟩
    · obtain ⟨l1, rfl, q1⟩ := lcons hl (fun a' ha => vl_int ek ha)
      obtain ⟨l2, rfl, q2⟩ := lcons q1 (fl rfl)
      have := q2.nil_inv; subst this; rfl
  · split at h
    case h_2 => cases h
    rename_i m hm
    obtain ⟨hm, hm2⟩ := numOf_inv hm
    have h2 := bc_some h
    clear h
    obtain ⟨h1, h⟩ := h2
    have e1 := ty15 h1
    subst hm e1
    cases ans_inv h
    exact memo_good (fits_good hm2) rfl rfl hw (no_pre rfl)
theorem spEnc_ok (hw : H.wf) (h : spEnc args H = some (v, H', r, w)) : @TaskOk (SyN P) Tryz.prog NG (.call 135 args) H (.k (.ret v H' r w)) := by
  letI := SyN P
  unfold spEnc at h
  split at h
  case h_2 => cases h
  rename_i ta a
  split at h
  · rename_i k hk
    have hk := symOf_inv hk
    have h2 := bc_some h
    clear h
    obtain ⟨h1, h⟩ := h2
    simp only [Bool.and_eq_true] at h1
    have e1 := ty15 h1.1
    obtain ⟨k1, k2⟩ := isV_inv h1.2
    subst hk e1
    cases ans_inv h
    refine sym_task hw fun n β as' hP hn tb hl => ?_
    have ek := tabV tb k1 k2
    refine ⟨encC (n - (k - 100)), enc_good (by omega), rfl, rfl, rfl, rfl, ?_, rfl, rfl, no_pre rfl, fun β' tb' => ?_⟩
    · obtain ⟨l1, rfl, q1⟩ := lcons hl (fl rfl)
      obtain ⟨l2, rfl, q2⟩ := lcons q1 (fun a' ha => vl_int ek ha)
      have := q2.nil_inv; subst this; rfl
    · have e2 := tabD tb' (k := k + 400) (by omega) (by omega)
      rw [show n - (k + 400 - 500) = n - (k - 100) from by omega] at e2
      exact of_tup (LRel.cons (of_str e2) (flat_lrel β' (l := [nV 0]) rfl))
  · split at h
    case h_2 => cases h
    rename_i m hm
    obtain ⟨hm, hm2⟩ := numOf_inv hm
    have h2 := bc_some h
    clear h
    obtain ⟨h1, h⟩ := h2
    have e1 := ty15 h1
    subst hm e1
    cases ans_inv h
    exact memo_good (enc_good hm2) rfl rfl hw (no_pre rfl)
theorem spDec_ok (hw : H.wf) (h : spDec args H = some (v, H', r, w)) : @TaskOk (SyN P) Tryz.prog NG (.call 307 args) H (.k (.ret v H' r w)) := by
  letI := SyN P
  unfold spDec at h
  split at h
  case h_2 => cases h
  rename_i ta k
  have h2 := bc_some h
  clear h
  obtain ⟨h1, h⟩ := h2
  simp only [Bool.and_eq_true, ble_iff, blt_iff] at h1
  have e1 := ty15 h1.1
  subst e1
  cases ans_inv h
  refine sym_task hw fun n β as' hP hn tb hl => ?_
  have ek := tabD tb h1.2.1 h1.2.2
  refine ⟨decC (n - (k - 500)), dec_good (by omega), rfl, rfl, rfl, rfl, ?_, rfl, rfl, no_pre rfl, fun β' tb' => ?_⟩
  · obtain ⟨l1, rfl, q1⟩ := lcons hl (fl rfl)
    obtain ⟨l2, rfl, q2⟩ := lcons q1 (fun a' ha => str_of ek ha)
    have := q2.nil_inv; subst this; rfl
  · have e2 := tabV tb' (k := Nat.sub k 400) (by show 100 ≤ k - 400; omega) (by show k - 400 < 162; omega)
    rw [show n - (Nat.sub k 400 - 100) = n - (k - 500) from by show n - (k - 400 - 100) = _; omega] at e2
    exact of_tup (LRel.cons (int_vl e2) (flat_lrel β' (l := [nV 0]) rfl))
theorem spSy_ok {f lim : Nat} {base : Bool} (hlim : ∀ n, P n → lim ≤ n ∧ (base = true → n = lim)) (hl60 : lim ≤ 61) (hw : H.wf) (h : spSy lim base f args H = some (v, H', r, w)) : @TaskOk (SyN P) Tryz.prog NG (.call f args) H (.k (.ret v H' r w)) := by
  unfold spSy at h
  cases h1 : Nat.beq f 148 with
  | true => rw [h1, Bc_t] at h; rw [(beq_iff _ _).1 h1]; exact spDo_ok (fun n hn => (hlim n hn).1) hw h
  | false =>
  rw [h1, Bc_f] at h
  cases h2 : Nat.beq f 144 with
  | true => rw [h2, Bc_t] at h; rw [(beq_iff _ _).1 h2]; exact spTo_ok hw h
  | false =>
  rw [h2, Bc_f] at h
  cases h3 : Nat.beq f 150 with
  | true => rw [h3, Bc_t] at h; rw [(beq_iff _ _).1 h3]; exact spCmp_ok hlim hl60 hw h
  | false =>
  rw [h3, Bc_f] at h
  cases h4 : Nat.beq f 163 with
  | true => rw [h4, Bc_t] at h; rw [(beq_iff _ _).1 h4]; exact spChk_ok hw h
  | false =>
  rw [h4, Bc_f] at h
  cases h5 : Nat.beq f 199 with
  | true => rw [h5, Bc_t] at h; rw [(beq_iff _ _).1 h5]; exact spFits_ok hw h
  | false =>
  rw [h5, Bc_f] at h
  cases h6 : Nat.beq f 135 with
  | true => rw [h6, Bc_t] at h; rw [(beq_iff _ _).1 h6]; exact spEnc_ok hw h
  | false =>
  rw [h6, Bc_f] at h
  cases h7 : Nat.beq f 307 with
  | true => rw [h7, Bc_t] at h; rw [(beq_iff _ _).1 h7]; exact spDec_ok hw h
  | false =>
  rw [h7, Bc_f] at h
  cases h8 : Nat.beq f 308 with
  | true => rw [h8, Bc_t] at h; rw [(beq_iff _ _).1 h8]; exact spGet_ok hw h
  | false =>
  rw [h8, Bc_f] at h
  obtain ⟨h9, h⟩ := bc_some h
  rw [(beq_iff _ _).1 h9]; exact spSet_ok hw h
end
theorem spX_ok {P : Nat → Prop} {lim g : Nat} {base : Bool} {nest : List Value → Hp → Ans} (hlim : ∀ n, P n → lim ≤ n ∧ (base = true → n = lim)) (hl60 : lim ≤ 61)
    (hnest : ∀ args H v H' r w, H.wf → nest args H = some (v, H', r, w) → @TaskOk (SyN P) Tryz.prog NG (.call g args) H (.k (spKR v H' r w))) : @SpOk (SyN P) Tryz.prog NG (spX lim base g nest) := by
  letI := SyN P
  intro f args H v H' r w hw h
  unfold spX at h
  cases h1 : Nat.testBit mkTy f with
  | true => rw [h1, Bc_t] at h; exact np_task h fun h => spTy_ok hw h
  | false =>
  rw [h1, Bc_f] at h
  cases h2 : Nat.testBit mkSy f with
  | true => rw [h2, Bc_t] at h; exact np_task h fun h => spSy_ok hlim hl60 hw h
  | false =>
  rw [h2, Bc_f] at h
  cases h3 : Nat.beq f g with
  | true => rw [h3, Bc_t] at h; rw [(beq_iff _ _).1 h3]; exact hnest _ _ _ _ _ _ hw h
  | false =>
  rw [h3, Bc_f] at h
  cases h4 : Nat.testBit mkM f with
  | true => rw [h4, Bc_t] at h; exact np_task h fun h => spM_ok hw h
  | false =>
  rw [h4, Bc_f] at h
  obtain ⟨h5, h⟩ := bc_some h
  rw [(beq_iff _ _).1 h5]; exact np_task h fun h => spMem_ok tb1_ok lp_ok hw h
end Go.Proofs.MN
end
noncomputable section
namespace Go.Proofs.CN
open Go Go.Ev Go.Proofs Go.Ev.SM Go.Proofs.MN
theorem snap_np {args : List Value} {H H' : Hp} {v : Value} {r w : Nat} (h : spSnap args H = some (v, H', r, w)) : unPan v = none := by
  unfold spSnap at h
  split at h
  case h_2 => cases h
  split at h
  case h_2 => cases h
  have h := (bc_some h).2
  split at h
  case h_2 => cases h
  split at h
  case h_2 => cases h
  have h := (bc_some h).2
  cases h; rfl
theorem sane_ok (P : Nat → Prop) : @ClOk (SyN P) Tryz.prog NG clSane ∧ Fits NG clSane := by
  letI := SyN P
  have hr : clB (spX 0 false 33 spSnap) tab0 clSane [] = true := by have := bool_of sane_run; unfold saneB at this; exact this
  exact clB_ok (sp := spX 0 false 33 spSnap) (spX_ok (P := P) (lim := 0) (base := false) (g := 33) (nest := spSnap) (fun n hn => ⟨Nat.zero_le _, fun h => by cases h⟩) (by omega) fun args H v H' r w hw h => by have h2 := spSnap_ok (P := P) hw h; unfold spKR; rw [snap_np h]; exact h2) tab0_ok hr
def reSy (β : Mp) : Mp := fun k => if k < SY then β k else some (bmOf 0 (k - SY))
def flatB (B : Blk) : Bool := match B with | .cells t n _ _ _ _ => (List.range n).all fun i => flatV 10 (t.get i) | _ => false
theorem bok_flat {β β2 : Mp} {W : World} {B : Blk} {m : Bm} (hf : flatB B = true) (h : BOk β W B m) : BOk β2 W B m := by
  unfold flatB at hf
  split at hf
  case h_2 => cases hf
  rename_i t n ty op lo hi
  obtain ⟨o, ho, cs, fr, rfl, h1, h2, h3, h4, h5, h6⟩ := h
  refine ⟨_, ho, cs, fr, rfl, h1, h2, h3, h4, fun i hi => ?_, h6⟩
  obtain ⟨q1, v', q2, q3⟩ := h5 i hi
  have q4 := List.all_eq_true.1 hf i (List.mem_range.2 hi)
  have := flat_eq 10 _ _ q4 q3
  subst this
  exact ⟨q1, _, q2, VRel.flat _ 10 _ q4⟩
theorem h0_flat (b : Nat) (h : alive clSane.h0 b) : flatB (clSane.h0.blk b) = true := by
  have key : ((List.range 15).all fun b => match clSane.h0.blk b with | .no => true | B => flatB B) = true := by kernel_rfl
  have hb : b < 15 := h.1
  have hk := List.all_eq_true.1 key b (List.mem_range.2 hb)
  have h2 := h.2
  generalize clSane.h0.blk b = B at hk h2
  cases B with
  | no => exact absurd rfl h2
  | _ => exact hk
theorem post_same {β β0 β1 : Mp} {H : Hp} {W W' : World} (q : Post β0 β1 H H 0 W W') (hd : ∀ b m, β b = some m → m.rb < W.heap.size) : Post β β H H 0 W W' := by
  refine ⟨Mp.le.refl _, fun b m h h' => ?_, fun b hb ha => ?_, fun rb o h _ => q.frame rb o h (fun b m _ hb _ => by simp at hb), q.size, fun b m h => Nat.lt_of_lt_of_le (hd b m h) q.size, fun b m _ h h' => ?_, fun b c mb mc hb hc ha _ _ _ _ => ?_, q.env⟩
  · rw [h'] at h; cases h
  · rcases hb with h | h
    · have := ha.1; omega
    · simp at h
  · rw [h] at h'; cases h'
  · rcases hb with h | h
    · have := ha.1; omega
    · simp at h
theorem sane_any [SyQ] : ClOk Tryz.prog NG clSane := by
  have h0 := (sane_ok (fun n => n = 0)).1
  have h0 := (@task_EP (SyN fun n => n = 0) _ _ _ _ _ _ _ _ _).1 h0
  refine task_EP.2 ⟨h0.1, fun β W hg p args' hl => ?_⟩
  have hsy : (15 : Nat) < SY := by unfold SY; omega
  have hsz : 0 < W.heap.size := by
    obtain ⟨m, e, _⟩ := hg.1 0 (by decide)
    exact Nat.lt_of_le_of_lt (Nat.zero_le _) (p.dom 0 m e)
  have hd : ∀ b m, reSy β b = some m → m.rb < W.heap.size := fun b m e => by
    unfold reSy at e
    by_cases hb : b < SY
    · rw [if_pos hb] at e; exact p.dom b m e
    · rw [if_neg hb] at e
      have e := Option.some.inj e
      have : (bmOf 0 (b - SY)).rb = 0 := by
        generalize b - SY = j
        unfold bmOf
        by_cases h1 : 100 ≤ j ∧ j < 162
        · rw [if_pos h1]
        rw [if_neg h1]
        by_cases h2 : 200 ≤ j ∧ j < 262
        · rw [if_pos h2]
        rw [if_neg h2]
        by_cases h3 : 300 ≤ j ∧ j < 362
        · rw [if_pos h3]
        rw [if_neg h3]
        by_cases h4 : j = 400
        · rw [if_pos h4]
        rw [if_neg h4]
        by_cases h5 : j = 401
        · rw [if_pos h5]
        rw [if_neg h5]
        by_cases h6 : 500 ≤ j ∧ j < 562
        · rw [if_pos h6]
        rw [if_neg h6]
      rw [← e, this]; exact hsz
  have hg2 : @GRel (SyN fun n => n = 0) NG (reSy β) := by
    refine ⟨fun g h => ?_, 0, rfl, by omega, fun k => ?_⟩
    · have : g < SY := Nat.lt_trans h (by unfold SY; decide)
      unfold reSy; rw [if_pos this]; exact hg.1 g h
    · unfold reSy; rw [if_neg (by omega), show SY + k - SY = k from by omega]
  have hp : Pre (reSy β) clSane.h0 clSane.h1 clSane.r clSane.w W := by
    refine ⟨fun b hb ha => ?_, fun b c mb mc hb => by simp [clSane] at hb, fun b h1 h2 => ?_, hd⟩
    · obtain ⟨m, em, hok⟩ := p.rel b hb ha
      refine ⟨m, ?_, bok_flat (h0_flat b ha) hok⟩
      have : b < 15 := ha.1
      unfold reSy; rw [if_pos (by omega)]; exact em
    · have h1 : 15 ≤ b := h1
      have h2 : b < 15 := h2
      omega
  have hl2 : LRel (reSy β) clSane.args args'.toList := by
    have : args'.toList = [] := hl.nil_inv
    rw [this]; exact LRel.nil _
  refine (h0.2 (reSy β) W hg2 hp args' hl2).mono fun e W' h => ?_
  obtain ⟨β1, v', he, hv, q⟩ := h
  have := flat_eq 10 _ _ (rfl : flatV 10 clSane.v = true) hv
  subst this
  exact ⟨β, _, he, VRel.flat _ 10 _ rfl, post_same q p.dom⟩
theorem spA_ok {P : Sem → Prop} {hk : HkOp → List Value → Option Value} {hok : HkOk P hk} {lt : LibT} (hlt : LtOk P lt) : @SpOk (SyC P hk hok) Tryz.prog NG (spA lt) := by
  letI := SyC P hk hok
  intro f args H v H' r w hw h
  unfold spA at h
  cases h1 : Nat.testBit mkTy f with
  | true => rw [h1, Bc_t] at h; exact np_task h fun h => spTy_ok hw h
  | false =>
  rw [h1, Bc_f] at h
  cases h2 : Nat.testBit mkLib f with
  | true => rw [h2, Bc_t] at h; exact np_task h fun h => by
              have hw0 : w = 0 := by
                unfold spLib at h
                split at h
                · rename_i u e
                  cases e2 : Nat.beq f 13 with
                  | true => rw [e2, Bc_t] at h; obtain ⟨_, h⟩ := bc_some h; cases h; rfl
                  | false => rw [e2, Bc_f] at h; cases h; rfl
                · cases h
              subst hw0
              have hH : H' = H := by
                unfold spLib at h
                split at h
                · rename_i u e
                  cases e2 : Nat.beq f 13 with
                  | true => rw [e2, Bc_t] at h; obtain ⟨_, h⟩ := bc_some h; cases h; rfl
                  | false => rw [e2, Bc_f] at h; cases h; rfl
                · cases h
              exact lib_ok hlt hw h
  | false =>
  rw [h2, Bc_f] at h
  obtain ⟨h3, h⟩ := bc_some h
  exact np_task h fun h => spM_ok hw h
theorem HkS.ok {Q : (Nat → Int) → Prop} {hk : HkOp → List Value → Option Value} (h : HkS (PW Q) hk) : HkOk (PW Q) hk := ⟨fun s ⟨zs, e, _⟩ => by rw [e]; exact semZ_sc zs, h⟩
theorem IvOk.or {P : Sem → Prop} {f g : Ivl} (hf : IvOk P f) (hg : IvOk P g) : IvOk P (ivOr f g) := fun s hP k kd a b e => by
  unfold ivOr at e
  cases e1 : f k with
  | some x => rw [e1] at e; cases e; exact hf s hP k _ _ _ e1
  | none => rw [e1] at e; exact hg s hP k _ _ _ e
theorem iv4_ok (Q : (Nat → Int) → Prop) : IvOk (PW Q) iv4 := by
  rintro s ⟨zs, rfl, hl, hr, hq⟩ k kd a b e
  unfold iv4 at e
  obtain ⟨c, e⟩ := bc_some e
  rw [beq_iff] at c; subst c
  cases e
  exact ⟨by omega, zs 4, at4 zs (j := 0) (by omega), by omega, by omega⟩
def One (zs : Nat → Int) : (Nat → Int) → Prop := fun z => z = zs
theorem hkA_ok {zs : Nat → Int} {sh : Sh} {cut : Bool} (o : ShOk sh (zs 3)) (h4 : zs 4 = (zs 3).tmod 32768) (hc : cut = false → sh.hi < 32768) : HkOk (PW (One zs)) (hkA sh cut) :=
  HkS.ok (HkS.or (hkI_ok (IvOk.or (ivD_ok fun z e => by rw [e]; exact o) (iv4_ok _))) (HkS.or (hkT_ok fun z e => by rw [e]; exact ⟨o, h4, hc⟩) (hkD_ok fun z e => by rw [e]; exact o)))
theorem tabZ_ok {zs : Nat → Int} {hk : HkOp → List Value → Option Value} {hok : HkOk (PW (One zs)) hk} {b : Bool} (h : b = true → zs 4 = 0) : @TabOk (SyC (PW (One zs)) hk hok) (tabZ b) := by
  intro β k v hq hv
  obtain ⟨s, ⟨z, rfl, _, _, rfl⟩, tb⟩ := hq
  unfold tabZ at hv
  obtain ⟨c, e⟩ := bc_some hv
  rw [Bool.and_eq_true, beq_iff] at c
  obtain ⟨c1, rfl⟩ := c
  cases e
  have hb := tb 4000
  unfold encS at hb
  rw [if_neg (by omega)] at hb
  have h40 : semZ z 4000 = .int .i64 0 := by
    rw [show semZ z 4000 = .int .i64 (z 4) from at4 z (j := 0) (by omega), h c1]
  rw [h40] at hb
  exact ⟨_, hb, (symR_enc rfl).2 rfl, fun v' hv' => (symR_enc rfl).1 hv'⟩
theorem ClOk.hk {P : Sem → Prop} {hk hk' : HkOp → List Value → Option Value} {hok : HkOk P hk} {hok' : HkOk P hk'} {c : Clm} (h : @ClOk (SyC P hk hok) Tryz.prog NG c) : @ClOk (SyC P hk' hok') Tryz.prog NG c := h
theorem to_run {zs : Nat → Int} {hk : HkOp → List Value → Option Value} {hok : HkOk (PW (One zs)) hk} {sh : Sh} {cut : Bool} {from_ x : Value} {cond : Int} (o : ShOk sh (zs 3)) (h4 : zs 4 = (zs 3).tmod 32768) (hc : cut = false → sh.hi < 32768) (h : toB sh cut from_ x cond = true) :
    @ClOk (SyC (PW (One zs)) hk hok) Tryz.prog NG (toK from_ x cond) ∧ Fits NG (toK from_ x cond) := by
  letI := SyC (PW (One zs)) (hkA sh cut) (hkA_ok o h4 hc)
  have := clB_ok (sp := spA (ltD 3 sh)) (spA_ok (ltD_ok fun z e => by rw [e]; exact o)) (tab := tabZ (Nat.beq sh.hi 0)) (tabZ_ok fun hz => by
    rw [beq_iff] at hz
    have := o.hi
    rw [h4, show zs 3 = 0 from by omega]; rfl) h
  exact ⟨ClOk.hk this.1, this.2⟩
theorem bit_of {b : Bool} (h : Nat.beq (Bc b 1 0) 1 = true) : b = true := bool_of h
theorem ng_dec (z : Int) : if decide (z < 0) then z < 0 else 0 ≤ z := by
  by_cases h : z < 0
  · rw [if_pos (by simpa using h)]; exact h
  · rw [if_neg (by simpa using h)]; omega
theorem shM_ok {z : Int} (h0 : 0 < z.natAbs) (h : z.natAbs < 32768) : ShOk (shM (nd z.natAbs) (nz z.natAbs) (decide (z < 0))) z := by
  have h1 := nd_dn h0
  have h2 := nd_up (m := z.natAbs) (by omega)
  exact ⟨rfl, fun _ => ⟨rfl, h0⟩, h1, by show _ ≤ min _ _; omega, by show min _ _ < _; omega, ng_dec z⟩
theorem shN_ok {z : Int} (h0 : 32768 ≤ z.natAbs) (h : z.natAbs ≤ 262143) : ShOk (shN (nd z.natAbs) (nz z.natAbs) (decide (z < 0))) z := by
  have h1 := nd_dn (m := z.natAbs) (by omega)
  have h2 := nd_up (m := z.natAbs) (by omega)
  exact ⟨rfl, fun _ => ⟨rfl, by omega⟩, by show max _ _ ≤ _; omega, by show _ ≤ min _ _; omega, by show min _ _ < _; omega, ng_dec z⟩
theorem shZ_ok : ShOk shZ 0 := ⟨rfl, fun h => absurd h (by decide), Nat.le_refl _, Nat.le_refl _, by decide, by decide⟩
theorem rg_mem {q n : Nat} {l : List Nat} (h : q < n) (hl : l = List.range n) : q ∈ l := by rw [hl]; exact List.mem_range.2 h
theorem nd_le5 {m : Nat} (h : m < 32768) : nd m ≤ 5 := by unfold nd; repeat' split
                                                          all_goals omega
theorem nd_ge5 {m : Nat} (h : 32768 ≤ m) : 5 ≤ nd m := by unfold nd; repeat' split
                                                          all_goals omega
section
variable {zs : Nat → Int} {hk : HkOp → List Value → Option Value} {hok : HkOk (PW (One zs)) hk}
theorem toU_ok (h : (zs 3).natAbs < 32768) (h4 : zs 4 = zs 3) : @ClOk (SyC (PW (One zs)) hk hok) Tryz.prog NG (toK T31 v3 0) ∧ Fits NG (toK T31 v3 0) := by
  have h4' : zs 4 = (zs 3).tmod 32768 := by rw [h4, tmod_small h]
  by_cases h0 : zs 3 = 0
  · exact to_run (sh := shZ) (cut := false) (by rw [h0]; exact shZ_ok) h4' (fun _ => by decide) (bit_of toU_0)
  have hq := nz_two (m := (zs 3).natAbs) (by omega) (by omega)
  have hn := nd_le5 h
  have hp := nd_pos (zs 3).natAbs
  refine to_run (cut := false) (shM_ok (by omega) h) h4' (fun _ => by show min _ _ < _; omega) ?_
  generalize hL : nd (zs 3).natAbs = L at hq hn hp
  rcases (by omega : L = 1 ∨ L = 2 ∨ L = 3 ∨ L = 4 ∨ L = 5) with rfl | rfl | rfl | rfl | rfl
  · exact allS_mem (bit_of toU_1) _ (rg_mem hq.1 rfl) _
  · exact allS_mem (bit_of toU_2) _ (rg_mem hq.1 rfl) _
  · exact allS_mem (bit_of toU_3) _ (rg_mem hq.1 rfl) _
  · exact allS_mem (bit_of toU_4) _ (rg_mem hq.1 rfl) _
  · exact allS_mem (bit_of toU_5) _ (rg_mem hq.1 rfl) _
theorem toN_ok (h : 32768 ≤ (zs 3).natAbs) (h2 : (zs 3).natAbs ≤ 262143) (h4 : zs 4 = (zs 3).tmod 32768) : @ClOk (SyC (PW (One zs)) hk hok) Tryz.prog NG (toK T31 v3 1) ∧ Fits NG (toK T31 v3 1) := by
  have hq := nz_two (m := (zs 3).natAbs) (by omega) (by omega)
  have hn := nd_ge5 h
  have hp := nd_le (zs 3).natAbs
  refine to_run (cut := true) (shN_ok h h2) h4 (fun h => by cases h) ?_
  generalize hL : nd (zs 3).natAbs = L at hq hn hp
  rcases (by omega : L = 5 ∨ L = 6) with rfl | rfl
  · exact allS_mem (bit_of toN_5) _ (rg_mem hq.1 rfl) _
  · exact allS_mem (bit_of toN_6) _ (rg_mem hq.1 rfl) _
theorem toF_ok (hg : 0 ≤ zs 3) (h : zs 3 < 32768) (h4 : zs 4 = zs 3) : @ClOk (SyC (PW (One zs)) hk hok) Tryz.prog NG (toK T15 v3 0) ∧ Fits NG (toK T15 v3 0) := by
  have h4' : zs 4 = (zs 3).tmod 32768 := by rw [h4, tmod_small (by omega)]
  by_cases h0 : zs 3 = 0
  · exact to_run (sh := shZ) (cut := false) (by rw [h0]; exact shZ_ok) h4' (fun _ => by decide) (bit_of toF_0)
  have hq := nz_two (m := (zs 3).natAbs) (by omega) (by omega)
  have hn := nd_le5 (m := (zs 3).natAbs) (by omega)
  have hp := nd_pos (zs 3).natAbs
  refine to_run (cut := false) (shM_ok (by omega) (by omega)) h4' (fun _ => by show min _ _ < _; omega) ?_
  rw [show decide (zs 3 < 0) = false from by simp; omega]
  generalize hL : nd (zs 3).natAbs = L at hq hn hp
  rcases (by omega : L = 1 ∨ L = 2 ∨ L = 3 ∨ L = 4 ∨ L = 5) with rfl | rfl | rfl | rfl | rfl
  · exact allS_memF (bit_of toF_1) _ (rg_mem hq.1 rfl)
  · exact allS_memF (bit_of toF_2) _ (rg_mem hq.1 rfl)
  · exact allS_memF (bit_of toF_3) _ (rg_mem hq.1 rfl)
  · exact allS_memF (bit_of toF_4) _ (rg_mem hq.1 rfl)
  · exact allS_memF (bit_of toF_5) _ (rg_mem hq.1 rfl)
theorem toS_ok (h : (zs 3).natAbs < 32768) (h4 : zs 4 = zs 3) : @ClOk (SyC (PW (One zs)) hk hok) Tryz.prog NG (toK (tyC (nd (zs 3).natAbs + sg (decide (zs 3 < 0)))) v3S 0) ∧ Fits NG (toK (tyC (nd (zs 3).natAbs + sg (decide (zs 3 < 0)))) v3S 0) := by
  have h4' : zs 4 = (zs 3).tmod 32768 := by rw [h4, tmod_small h]
  by_cases h0 : zs 3 = 0
  · have e : ((nd (zs 3).natAbs : Int) + (sg (decide (zs 3 < 0)) : Int)) = 1 := by rw [h0]; decide
    rw [e]
    exact to_run (sh := shZ) (cut := false) (by rw [h0]; exact shZ_ok) h4' (fun _ => by decide) (bit_of toS_0)
  have hq := nz_two (m := (zs 3).natAbs) (by omega) (by omega)
  have hn := nd_le5 h
  have hp := nd_pos (zs 3).natAbs
  refine to_run (cut := false) (shM_ok (by omega) h) h4' (fun _ => by show min _ _ < _; omega) ?_
  generalize hL : nd (zs 3).natAbs = L at hq hn hp
  rcases (by omega : L = 1 ∨ L = 2 ∨ L = 3 ∨ L = 4 ∨ L = 5) with rfl | rfl | rfl | rfl | rfl
  · exact allS_mem (bit_of toS_1) _ (rg_mem hq.1 rfl) _
  · exact allS_mem (bit_of toS_2) _ (rg_mem hq.1 rfl) _
  · exact allS_mem (bit_of toS_3) _ (rg_mem hq.1 rfl) _
  · exact allS_mem (bit_of toS_4) _ (rg_mem hq.1 rfl) _
  · exact allS_mem (bit_of toS_5) _ (rg_mem hq.1 rfl) _
end
structure Cs where
  K : Nat
  bz : Bool
  rn : Bool
  cut : Bool
  m8 : Nat
def is (k n : Nat) : Bool := Nat.beq k n
def hkL (c : Cs) : HkOp → List Value → Option Value
  | .bin .rem, [.chan (some k), .int .i64 (.ofNat m)] =>
    Bc (Nat.beq m 32768) (Bc (Nat.beq k 9000) (some (sy 1000)) (Bc (Nat.beq k 10000) (some (Bc c.bz (nV 0) (sy 2000))) (Bc (Nat.beq k 3000 && Nat.beq c.K 1) (some (sy 4000)) none)))
    (Bc (Nat.beq m 4) (Bc (Nat.beq k 11000) (some (sy 12000)) (Bc (Nat.beq k 13000) (some (nI .i64 c.K)) none)) (Bc (Nat.beq m 8 && Nat.beq k 2000) (some (sy 8000)) none))
  | .bin .rem, [.chan (some k), .chan (some j)] => Bc (Nat.beq c.K 0 && !c.bz)
    (Bc (Nat.beq k 1000 && (Nat.beq j 2000 || Nat.beq j 15000)) (some (sy (Bc c.rn 5000 4000)))
    (Bc (Nat.beq j 15000 && Nat.beq k (Bc c.rn 4000 6000)) (some (sy 3000)) none)) none
  | .bin .add, [.chan (some k), .chan (some j)] => Bc (Nat.beq k 7000 && (Nat.beq j 8000 && Nat.beq c.K 1)) (some (sy 3000))
    (Bc (Nat.beq c.K 0 && (!c.bz && Nat.beq j 15000)) (Bc c.rn (Bc (Nat.beq k 5000) (some (sy 4000)) none) (Bc (Nat.beq k 4000) (some (sy 6000)) none)) none)
  | .bin .add, [.chan (some k), .int .i64 (.ofNat 4)] => Bc (Nat.beq k 12000) (some (sy 13000)) none
  | .bin .mul, [.chan (some k), .int .i64 (.ofNat m)] => Bc (Nat.beq m 8 && Nat.beq k 1000) (some (sy 7000)) (Bc (Nat.beq m 1 && (Nat.beq k 1000 || Nat.beq k 2000)) (some (sy k)) none)
  | .neg, [.chan (some k)] => Bc (Nat.beq k 2000) (some (sy 14000)) none
  | .mm false, [.chan (some k), .chan (some j)] => Bc (Nat.beq k 2000 && Nat.beq j 14000) (some (sy 15000)) none
  | .eq .i, [.chan (some k), .int .i64 (.ofNat 0)] => Bc (Nat.beq k 2000 && (Nat.beq c.K 0 && !c.bz)) (some (.bool false)) none
  | .eq .i, [.chan (some k), .chan (some j)] => Bc (Nat.beq k 4000 && (Nat.beq j 3000 && Nat.beq c.K 1)) (some (.bool (!c.cut))) none
  | .bin .and, [.chan (some k), .int .i64 (.ofNat 7)] => Bc (Nat.beq k 2000 && Nat.beq c.K 3) (some (nI .i64 c.m8)) none
  | .eq .s, [.chan (some k), .chan (some j)] => Bc (Nat.beq k 4004 && (Nat.beq j 3004 && Nat.beq c.K 2)) (some (.bool true)) none
  | _, _ => none
structure LawZ (c : Cs) (zs : Nat → Int) : Prop where
  a : zs 1 = (zs 9).tmod 32768
  b : zs 2 = (zs 10).tmod 32768
  bz : c.bz = true → zs 2 = 0
  bn : c.K = 0 → c.bz = false → zs 2 ≠ 0
  k1 : zs 12 = (zs 11).tmod 4
  k2 : zs 13 = zs 12 + 4
  k3 : (zs 13).tmod 4 = c.K
  nb : zs 14 = - zs 2
  ab : zs 15 = (zs 2).natAbs
  r : c.K = 0 → c.bz = false → zs 5 = (zs 1).tmod (zs 2)
  rn : c.K = 0 → c.bz = false → (c.rn = true → zs 5 < 0) ∧ (c.rn = false → 0 ≤ zs 5)
  w0 : c.K = 0 → c.bz = false → zs 4 = Bc c.rn (zs 5 + zs 15) (zs 5)
  s6 : zs 6 = zs 4 + zs 15
  a8 : zs 7 = zs 1 * 8
  b8 : zs 8 = (zs 2).tmod 8
  n1 : c.K = 1 → zs 3 = zs 7 + zs 8 ∧ zs 4 = (zs 3).tmod 32768 ∧ (c.cut = true → zs 4 ≠ zs 3) ∧ (c.cut = false → zs 4 = zs 3)
  n0 : c.K = 0 ∨ c.K = 2 → zs 3 = zs 4
  n2 : c.K = 2 → zs 4 = zs 1
  m8 : c.K = 3 → (c.m8 : Int) = zs 2 % 8
theorem tmod_bd (x : Int) {m : Int} (h : 0 < m) : -m < x.tmod m ∧ x.tmod m < m := by
  have h1 := Int.tmod_lt_of_pos x h
  have h2 := Int.lt_tmod_of_pos x h
  exact ⟨h2, h1⟩
theorem atN (zs : Nat → Int) (S : Nat) : semZ zs (1000 * S) = .int .i64 (zs S) := atS zs S (j := 0) (by omega)
theorem binI_add {x y z : Int} (h : x + y = z) (h1 : -9223372036854775808 ≤ z) (h2 : z ≤ 9223372036854775807) : binV0 .add (.int .i64 x) (.int .i64 y) = some (.int .i64 z) := by
  show some (Value.int .i64 (wrapF .i64 (x + y))) = _
  rw [h, wrap64 h1 h2]
theorem binI_mul {x y z : Int} (h : x * y = z) (h1 : -9223372036854775808 ≤ z) (h2 : z ≤ 9223372036854775807) : binV0 .mul (.int .i64 x) (.int .i64 y) = some (.int .i64 z) := by
  show some (Value.int .i64 (wrapF .i64 (x * y))) = _
  rw [h, wrap64 h1 h2]
theorem binI_rem {x y z : Int} (h : x.tmod y = z) (h0 : y ≠ 0) : binV0 .rem (.int .i64 x) (.int .i64 y) = some (.int .i64 z) := by
  show Bc (eqI y 0) none (some (Value.int .i64 (x.tmod y))) = _
  rw [eqI_d, decide_eq_false h0, h]; rfl
theorem and7 (z : Int) (h1 : -32768 < z) (h2 : z < 32768) : binV0 .and (.int .i64 z) (.int .i64 7) = some (.int .i64 (z % 8)) := by
  show some (bitsI .and .i64 z 7) = _
  congr 1
  cases z with
  | ofNat n =>
    show Value.int .i64 (wrapF .i64 (.ofNat (Nat.land n 7))) = _
    have : Nat.land n 7 = n % 8 := Nat.and_two_pow_sub_one_eq_mod n 3
    rw [this]
    show Value.int .i64 (wrapF .i64 ((n % 8 : Nat) : Int)) = _
    rw [wrapN (by omega)]; rfl
  | negSucc n =>
    have e : (BitVec.ofInt 64 (Int.negSucc n) &&& BitVec.ofInt 64 7).toNat = ((Int.negSucc n) % 8).toNat := by
      rw [BitVec.toNat_and, show (BitVec.ofInt 64 7).toNat = 7 from rfl, show ∀ x : Nat, x &&& 7 = x % 8 from fun x => Nat.and_two_pow_sub_one_eq_mod x 3, BitVec.toNat_ofInt]
      omega
    show Value.int .i64 (IntKind.wrap .i64 ((BitVec.ofInt 64 (Int.negSucc n) &&& BitVec.ofInt 64 7).toNat)) = _
    rw [e]
    have h8 : 0 ≤ Int.negSucc n % 8 ∧ Int.negSucc n % 8 < 8 := by omega
    rw [← wrapF_eq, wrapN (by omega)]
    congr 1
    omega
theorem nbt {b : Bool} (h : (!b) = true) : b = false := nb_not.1 h
theorem hkL_ok {c : Cs} {zs : Nat → Int} (hq : LawZ c zs) : HkS (PW (One zs)) (hkL c) := by
  rintro s ⟨zs', rfl, hl, hr, rfl⟩ h l v e
  have ba := tmod_bd (zs' 9) (m := 32768) (by decide)
  have bb := tmod_bd (zs' 10) (m := 32768) (by decide)
  rw [← hq.a] at ba
  rw [← hq.b] at bb
  have fin : ∀ {op : HkOp} {l : List Value} {v : Value} {v' : Value}, l.all okA = true → okA v = true → v' = real (semZ zs') v → hkV op (l.map (real (semZ zs'))) = some v' → l.all okA = true ∧ okA v = true ∧ hkV op (l.map (real (semZ zs'))) = some (real (semZ zs') v) := by
    intro op l v v' h1 h2 h3 h4
    exact ⟨h1, h2, by rw [h4, h3]⟩
  have s1 : semZ zs' 1000 = .int .i64 (zs' 1) := atN zs' 1
  have s2 : semZ zs' 2000 = .int .i64 (zs' 2) := atN zs' 2
  have s3 : semZ zs' 3000 = .int .i64 (zs' 3) := atN zs' 3
  have s4 : semZ zs' 4000 = .int .i64 (zs' 4) := atN zs' 4
  have s5 : semZ zs' 5000 = .int .i64 (zs' 5) := atN zs' 5
  have s6 : semZ zs' 6000 = .int .i64 (zs' 6) := atN zs' 6
  have s7 : semZ zs' 7000 = .int .i64 (zs' 7) := atN zs' 7
  have s8 : semZ zs' 8000 = .int .i64 (zs' 8) := atN zs' 8
  have s9 : semZ zs' 9000 = .int .i64 (zs' 9) := atN zs' 9
  have s10 : semZ zs' 10000 = .int .i64 (zs' 10) := atN zs' 10
  have s11 : semZ zs' 11000 = .int .i64 (zs' 11) := atN zs' 11
  have s12 : semZ zs' 12000 = .int .i64 (zs' 12) := atN zs' 12
  have s13 : semZ zs' 13000 = .int .i64 (zs' 13) := atN zs' 13
  have s14 : semZ zs' 14000 = .int .i64 (zs' 14) := atN zs' 14
  have s15 : semZ zs' 15000 = .int .i64 (zs' 15) := atN zs' 15
  have r1 : ∀ k, real (semZ zs') (sy k) = semZ zs' k := fun _ => rfl
  unfold hkL at e
  split at e
  ·
    rename_i k m
    cases c1 : Nat.beq m 32768 with
    | true =>
      rw [c1, Bc_t] at e
      rw [beq_iff] at c1; subst c1
      cases c2 : Nat.beq k 9000 with
      | true =>
        rw [c2, Bc_t] at e; cases e
        rw [beq_iff] at c2; subst c2
        exact fin rfl rfl ((r1 _).trans s1).symm (by show binV0 .rem (semZ zs' 9000) (.int .i64 32768) = _; rw [s9]; exact binI_rem hq.a.symm (by decide))
      | false =>
      rw [c2, Bc_f] at e
      cases c3 : Nat.beq k 10000 with
      | true =>
        rw [c3, Bc_t] at e; cases e
        rw [beq_iff] at c3; subst c3
        have key : binV0 .rem (semZ zs' 10000) (.int .i64 32768) = some (.int .i64 (zs' 2)) := by rw [s10]; exact binI_rem hq.b.symm (by decide)
        cases hb : c.bz with
        | true => rw [Bc_t]; exact fin rfl rfl (by rw [hq.bz hb]; rfl) key
        | false => rw [Bc_f]; exact fin rfl rfl ((r1 _).trans s2).symm key
      | false =>
      rw [c3, Bc_f] at e
      replace e := bc_some e
      obtain ⟨c4, e⟩ := e
      rw [Bool.and_eq_true, beq_iff, beq_iff] at c4
      obtain ⟨rfl, c4⟩ := c4
      cases e
      exact fin rfl rfl ((r1 _).trans s4).symm (by show binV0 .rem (semZ zs' 3000) (.int .i64 32768) = _; rw [s3]; exact binI_rem (hq.n1 c4).2.1.symm (by decide))
    | false =>
    rw [c1, Bc_f] at e
    cases c2 : Nat.beq m 4 with
    | true =>
      rw [c2, Bc_t] at e
      rw [beq_iff] at c2; subst c2
      cases c3 : Nat.beq k 11000 with
      | true =>
        rw [c3, Bc_t] at e; cases e
        rw [beq_iff] at c3; subst c3
        exact fin rfl rfl ((r1 _).trans s12).symm (by show binV0 .rem (semZ zs' 11000) (.int .i64 4) = _; rw [s11]; exact binI_rem hq.k1.symm (by decide))
      | false =>
      rw [c3, Bc_f] at e
      replace e := bc_some e
      obtain ⟨c4, e⟩ := e
      rw [beq_iff] at c4; subst c4
      cases e
      exact fin rfl rfl rfl (by show binV0 .rem (semZ zs' 13000) (.int .i64 4) = _; rw [s13]; exact binI_rem hq.k3 (by decide))
    | false =>
    rw [c2, Bc_f] at e
    replace e := bc_some e
    obtain ⟨c4, e⟩ := e
    rw [Bool.and_eq_true, beq_iff, beq_iff] at c4
    obtain ⟨rfl, rfl⟩ := c4
    cases e
    exact fin rfl rfl ((r1 _).trans s8).symm (by show binV0 .rem (semZ zs' 2000) (.int .i64 8) = _; rw [s2]; exact binI_rem hq.b8.symm (by decide))
  ·
    rename_i k j
    replace e := bc_some e
    obtain ⟨c0, e⟩ := e
    rw [Bool.and_eq_true, beq_iff] at c0
    obtain ⟨hK, hbz⟩ := c0
    have hbz := nbt hbz
    have hn2 := hq.bn hK hbz
    have hr5 := hq.r hK hbz
    have hw := hq.w0 hK hbz
    have hrn := hq.rn hK hbz
    have hab := hq.ab
    have hn0 := hq.n0 (.inl hK)
    have habs : (zs' 1).tmod (zs' 15) = zs' 5 := by
      rw [hr5, hab]
      rcases Int.natAbs_eq (zs' 2) with e | e
      · rw [← e]
      · conv => rhs; rw [e]
        rw [Int.tmod_neg]
    have hlt : (zs' 5).natAbs < (zs' 2).natAbs := by
      rw [hr5]
      have := tmod_bd (zs' 1) (m := ((zs' 2).natAbs : Int)) (by omega)
      rw [hab] at habs
      rw [habs, hr5] at this
      omega
    have wb : 0 ≤ zs' 4 ∧ zs' 4 < zs' 15 := by
      cases hb : c.rn with
      | true => rw [hb, Bc_t] at hw; have := hrn.1 hb; omega
      | false => rw [hb, Bc_f] at hw; have := hrn.2 hb; omega
    cases c1 : (Nat.beq k 1000 && (Nat.beq j 2000 || Nat.beq j 15000)) with
    | true =>
      rw [c1, Bc_t] at e; cases e
      simp only [Bool.and_eq_true, Bool.or_eq_true, beq_iff] at c1
      obtain ⟨rfl, c1⟩ := c1
      have key : binV0 .rem (semZ zs' 1000) (semZ zs' j) = some (.int .i64 (zs' 5)) := by
        rcases c1 with rfl | rfl
        · rw [s1, s2]; exact binI_rem hr5.symm hn2
        · rw [s1, s15]; exact binI_rem habs (by omega)
      have hj : 0 < j := by omega
      cases hb : c.rn with
      | true => rw [Bc_t]; exact fin (ok2s (by omega) hj) rfl ((r1 _).trans s5).symm key
      | false =>
        rw [Bc_f]
        rw [hb, Bc_f] at hw
        exact fin (ok2s (by omega) hj) rfl (by rw [r1, s4, hw]) key
    | false =>
    rw [c1, Bc_f] at e
    replace e := bc_some e
    obtain ⟨c2, e⟩ := e
    rw [Bool.and_eq_true, beq_iff, beq_iff] at c2
    obtain ⟨rfl, c2⟩ := c2
    cases e
    have out : ∀ x, x.tmod (zs' 15) = zs' 4 → semZ zs' k = .int .i64 x → hkV (.bin .rem) ([Value.chan (some k), Value.chan (some 15000)].map (real (semZ zs'))) = some (.int .i64 (zs' 3)) := by
      intro x hx hk
      show binV0 .rem (semZ zs' k) (semZ zs' 15000) = _
      rw [hk, s15, hn0]; exact binI_rem hx (by omega)
    cases hb : c.rn with
    | true =>
      rw [hb, Bc_t] at c2; subst c2
      exact fin rfl rfl ((r1 _).trans s3).symm (out _ (Int.tmod_eq_of_lt wb.1 wb.2) s4)
    | false =>
      rw [hb, Bc_f] at c2; subst c2
      refine fin rfl rfl ((r1 _).trans s3).symm (out (zs' 6) ?_ s6)
      rw [hq.s6, Int.tmod_eq_emod_of_nonneg (by omega), Int.add_emod_right]
      exact Int.emod_eq_of_lt wb.1 wb.2
  ·
    rename_i k j
    have hab := hq.ab
    cases c1 : (Nat.beq k 7000 && (Nat.beq j 8000 && Nat.beq c.K 1)) with
    | true =>
      rw [c1, Bc_t] at e; cases e
      simp only [Bool.and_eq_true, beq_iff] at c1
      obtain ⟨rfl, rfl, hK⟩ := c1
      have h3 := (hq.n1 hK).1
      have h7 := hq.a8
      have h8 := tmod_bd (zs' 2) (m := 8) (by decide)
      rw [← hq.b8] at h8
      exact fin rfl rfl ((r1 _).trans s3).symm (by show binV0 .add (semZ zs' 7000) (semZ zs' 8000) = _; rw [s7, s8]; exact binI_add h3.symm (by omega) (by omega))
    | false =>
    rw [c1, Bc_f] at e
    replace e := bc_some e
    obtain ⟨c2, e⟩ := e
    simp only [Bool.and_eq_true, beq_iff] at c2
    obtain ⟨hK, hbz, rfl⟩ := c2
    have hbz := nbt hbz
    have hw := hq.w0 hK hbz
    cases hb : c.rn with
    | true =>
      rw [hb, Bc_t] at e hw
      replace e := bc_some e
      obtain ⟨c3, e⟩ := e
      rw [beq_iff] at c3; subst c3
      cases e
      exact fin rfl rfl ((r1 _).trans s4).symm (by show binV0 .add (semZ zs' 5000) (semZ zs' 15000) = _; rw [s5, s15]; exact binI_add hw.symm (by omega) (by omega))
    | false =>
      rw [hb, Bc_f] at e
      replace e := bc_some e
      obtain ⟨c3, e⟩ := e
      rw [beq_iff] at c3; subst c3
      cases e
      have h6 := hq.s6
      exact fin rfl rfl ((r1 _).trans s6).symm (by show binV0 .add (semZ zs' 4000) (semZ zs' 15000) = _; rw [s4, s15]; exact binI_add h6.symm (by omega) (by omega))
  ·
    replace e := bc_some e
    obtain ⟨c1, e⟩ := e
    rw [beq_iff] at c1; subst c1
    cases e
    have h12 := tmod_bd (zs' 11) (m := 4) (by decide)
    rw [← hq.k1] at h12
    have h13 := hq.k2
    exact fin rfl rfl ((r1 _).trans s13).symm (by show binV0 .add (semZ zs' 12000) (.int .i64 4) = _; rw [s12]; exact binI_add h13.symm (by omega) (by omega))
  ·
    rename_i k m
    cases c1 : (Nat.beq m 8 && Nat.beq k 1000) with
    | true =>
      rw [c1, Bc_t] at e; cases e
      rw [Bool.and_eq_true, beq_iff, beq_iff] at c1
      obtain ⟨rfl, rfl⟩ := c1
      have h7 := hq.a8
      exact fin rfl rfl ((r1 _).trans s7).symm (by show binV0 .mul (semZ zs' 1000) (.int .i64 8) = _; rw [s1]; exact binI_mul h7.symm (by omega) (by omega))
    | false =>
    rw [c1, Bc_f] at e
    replace e := bc_some e
    obtain ⟨c2, e⟩ := e
    simp only [Bool.and_eq_true, Bool.or_eq_true, beq_iff] at c2
    obtain ⟨rfl, c2⟩ := c2
    cases e
    rcases c2 with rfl | rfl
    · exact fin rfl rfl ((r1 _).trans s1).symm (by show binV0 .mul (semZ zs' 1000) (.int .i64 1) = _; rw [s1]; exact binI_mul (Int.mul_one _) (by omega) (by omega))
    · exact fin rfl rfl ((r1 _).trans s2).symm (by show binV0 .mul (semZ zs' 2000) (.int .i64 1) = _; rw [s2]; exact binI_mul (Int.mul_one _) (by omega) (by omega))
  ·
    replace e := bc_some e
    obtain ⟨c1, e⟩ := e
    rw [beq_iff] at c1; subst c1
    cases e
    have hnb := hq.nb
    refine fin rfl rfl ((r1 _).trans s14).symm ?_
    show hkV .neg [semZ zs' 2000] = _
    rw [s2]
    show some (Value.int .i64 (wrapF .i64 (0 - zs' 2))) = _
    rw [show 0 - zs' 2 = zs' 14 from by omega, wrap64 (by omega) (by omega)]
  ·
    replace e := bc_some e
    obtain ⟨c1, e⟩ := e
    rw [Bool.and_eq_true, beq_iff, beq_iff] at c1
    obtain ⟨rfl, rfl⟩ := c1
    cases e
    have hnb := hq.nb
    have hab := hq.ab
    refine fin rfl rfl ((r1 _).trans s15).symm ?_
    show hkV (.mm false) [semZ zs' 2000, semZ zs' 14000] = _
    rw [s2, s14]
    show some (Value.int .i64 (Bc (ltI (zs' 2) (zs' 14)) (zs' 14) (zs' 2))) = _
    rw [ltI_eq]
    by_cases hh : zs' 2 < zs' 14
    · rw [decide_eq_true hh, Bc_t]; congr 2; omega
    · rw [decide_eq_false hh, Bc_f]; congr 2; omega
  ·
    replace e := bc_some e
    obtain ⟨c1, e⟩ := e
    simp only [Bool.and_eq_true, beq_iff] at c1
    obtain ⟨rfl, hK, hbz⟩ := c1
    cases e
    refine fin rfl rfl rfl ?_
    show hkV (.eq .i) [semZ zs' 2000, .int .i64 0] = _
    rw [s2]
    show some (Value.bool (eqI (zs' 2) 0)) = some (Value.bool false)
    rw [eqI_d, decide_eq_false (hq.bn hK (nbt hbz))]
  ·
    replace e := bc_some e
    obtain ⟨c1, e⟩ := e
    simp only [Bool.and_eq_true, beq_iff] at c1
    obtain ⟨rfl, rfl, hK⟩ := c1
    cases e
    refine fin rfl rfl rfl ?_
    show hkV (.eq .i) [semZ zs' 4000, semZ zs' 3000] = _
    rw [s4, s3]
    show some (Value.bool (eqI (zs' 4) (zs' 3))) = some (Value.bool (!c.cut))
    have := (hq.n1 hK).2.2
    rw [eqI_d]
    cases hb : c.cut with
    | true => rw [decide_eq_false (this.1 hb)]; rfl
    | false => rw [decide_eq_true (this.2 hb)]; rfl
  ·
    replace e := bc_some e
    obtain ⟨c1, e⟩ := e
    rw [Bool.and_eq_true, beq_iff, beq_iff] at c1
    obtain ⟨rfl, hK⟩ := c1
    cases e
    refine fin rfl rfl rfl ?_
    show binV0 .and (semZ zs' 2000) (.int .i64 7) = _
    rw [s2, and7 _ bb.1 bb.2, ← hq.m8 hK]; rfl
  ·
    replace e := bc_some e
    obtain ⟨c1, e⟩ := e
    simp only [Bool.and_eq_true, beq_iff] at c1
    obtain ⟨rfl, rfl, hK⟩ := c1
    cases e
    refine fin rfl rfl rfl ?_
    show hkV (.eq .s) [semZ zs' 4004, semZ zs' 3004] = _
    rw [show semZ zs' 4004 = sI (stx (zs' 4)) from at4 zs' (j := 4) (by omega), show semZ zs' 3004 = sI (stx (zs' 3)) from at3 zs' (j := 4) (by omega), hq.n0 (.inr hK)]
    show some (Value.bool (eqBs (stx (zs' 4)) (stx (zs' 4)))) = some (Value.bool true)
    rw [eqBs_eq, beq_self_eq_true]
  · cases e
def fitK (k : Nat) (ty : Value) : Clm := pureC 199 [vl (sy k), ty] (nV 0)
noncomputable def fitB (k : Nat) (ty : Value) (lo hi : Int) : Bool := @clB (SyHk (hkI fun j => Bc (Nat.beq j k) (some (.i64, lo, hi)) none)) (spA fun _ _ => none) tab0 (fitK k ty) []
def chkK (k : Nat) (ty : Value) : Clm := pureC 163 [ty, vl (sy k)] (nV 0)
noncomputable def chkB (k : Nat) (ty : Value) (lo hi : Int) : Bool := @clB (SyHk (hkI fun j => Bc (Nat.beq j k) (some (.i64, lo, hi)) none)) (spA fun _ _ => none) tab0 (chkK k ty) []
noncomputable def fit3 (k : Nat) (ty : Value) : Bool := Bc (fitB k ty (-300000) (-1)) (Bc (fitB k ty 0 0) (Bc (fitB k ty 1 300000) (Bc (chkB k ty (-300000) (-1)) (Bc (chkB k ty 0 0) (chkB k ty 1 300000) false) false) false) false) false
noncomputable def fit4 (k : Nat) (ty : Value) : Bool := Bc (fitB k ty (-32767) (-1)) (Bc (fitB k ty 0 0) (Bc (fitB k ty 1 32767) (Bc (chkB k ty (-32767) (-1)) (Bc (chkB k ty 0 0) (chkB k ty 1 32767) false) false) false) false) false
set_option maxRecDepth 100000000 in
theorem fit_runs : Nat.beq (Bc (Bc (fit4 1000 T15) (Bc (fit4 2000 T15) (Bc (fit4 3000 T15) (Bc (fit4 4000 T15) (fit3 3000 T31) false) false) false) false) 1 0) 1 = true := by kernel_rfl
def spCl : List Clm → Nat → List Value → Hp → Ans
  | [], _, _, _ => none
  | c :: l, f, args, H => match spC tab0 c f args H with | some q => some q | none => spCl l f args H
def fitL (T3 : Value) : List Clm := [fitK 1000 T15, fitK 2000 T15, fitK 3000 T3, fitK 4000 T15, chkK 1000 T15, chkK 2000 T15, chkK 3000 T3, chkK 4000 T15]
def mkCn : Nat := 2 ^ 7 + 2 ^ 144 + 2 ^ 199 + 2 ^ 163
def spL (lt : LibT) (cl : List Clm) (f : Nat) (args : List Value) (H : Hp) : Ans :=
  Bc (Nat.testBit mkTy f) (npS (spTy f args H)) (Bc (Nat.testBit mkLib f) (npS (spLib lt f args H)) (Bc (Nat.testBit mkM f) (npS (spM f args H))
  (Bc (Nat.beq f 54) (npS (spMem args H)) (Bc (Nat.beq f 137) (npS (spSetC args H)) (Bc (Nat.beq f 308) (npS (spGetC args H)) (Bc (Nat.beq f 230) (npS (spBstC args H)) (Bc (Nat.testBit mkCn f) (spCl cl f args H) none)))))))
def ivL (c : Cs) : Ivl := fun k => Bc (Nat.beq k 1000 || (Nat.beq k 2000 || (Nat.beq k 4000 || (Nat.beq k 3000 && !(Nat.beq c.K 1))))) (some (.i64, -32767, 32767)) (Bc (Nat.beq k 5000 && (Nat.beq c.K 0 && (!c.bz && c.rn))) (some (.i64, -32767, -1)) none)
def hk0 (c : Cs) : HkOp → List Value → Option Value := hkOr (hkI (ivL c)) (hkL c)
def hkW (c : Cs) (sh : Sh) : HkOp → List Value → Option Value := hkOr (hkI (ivOr (ivD 4 sh) (ivL c))) (hkOr (hkL c) (hkOr hkB (hkOr hkB2 (hkOr (hkP 4 sh) (hkOr (hkD 4 sh) (Bc (Nat.beq c.K 2) (hkD 3 sh) fun _ _ => none))))))
def ltW (c : Cs) (sh : Sh) : LibT := fun f l => match l with
  | [.chan (some k)] => Bc (Nat.beq f 13 && (Nat.beq k 1000 && Nat.beq c.K 2)) (some (Bc (Nat.beq sh.hi 0) (sI [48]) (sy 3004))) (ltD 4 sh f l)
  | l => ltD 4 sh f l
def lt0 : LibT := fun _ _ => none
def lawK (u : Bool) : Clm := ⟨3, [sy 11000, sy 9000, sy 10000, .bool u], globL, NG, .bool true, [], NG, 76, 0⟩
def shW (L : Nat) (ng : Bool) : Sh := Bc (Nat.beq L 0) shZ ⟨L, 6, ng, 10 ^ (L - 1), min (10 ^ L - 1) 32767⟩
def clK (c : Cs) (L : Nat) (ng : Bool) : List Clm := Bc (Nat.beq c.K 0) ([clSane, toK T15 v3 0] ++ fitL T15)
  (Bc (Nat.beq c.K 1) ([clSane, toK T31 v3 (Bc c.cut 1 0)] ++ fitL T31) (Bc (Nat.beq L 0) ([clSane] ++ fitL T15) ([clSane, toK (tyC (L + sg ng)) v3S 0] ++ fitL T15)))
noncomputable def runW (c : Cs) (u : Bool) (L : Nat) (ng : Bool) : Bool := @clB (SyHk (hkW c (shW L ng))) (spL (ltW c (shW L ng)) (clK c L ng)) tab0 (lawK u) []
noncomputable def run0 (c : Cs) (u : Bool) : Bool := @clB (SyHk (hk0 c)) (spL lt0 (clK c 0 false)) tab0 (lawK u) []
section
variable {zs : Nat → Int} {hk : HkOp → List Value → Option Value} {hok : HkOk (PW (One zs)) hk}
abbrev Cl (zs : Nat → Int) (hk : HkOp → List Value → Option Value) (hok : HkOk (PW (One zs)) hk) (c : Clm) : Prop := @ClOk (SyC (PW (One zs)) hk hok) Tryz.prog NG c ∧ Fits NG c
theorem iv_run {k : Nat} {lo hi : Int} {c : Clm} (hk0 : 0 < k) (h : @clB (SyHk (hkI fun j => Bc (Nat.beq j (1000 * k)) (some (.i64, lo, hi)) none)) (spA fun _ _ => none) tab0 c [] = true) (h1 : lo ≤ zs k) (h2 : zs k ≤ hi) : Cl zs hk hok c := by
  have hI : HkOk (PW (One zs)) (hkI fun j => Bc (Nat.beq j (1000 * k)) (some (.i64, lo, hi)) none) := HkS.ok (hkI_ok (by
    rintro s ⟨z, rfl, _, _, rfl⟩ j kd a b e
    replace e := bc_some e
    obtain ⟨e1, e⟩ := e
    rw [beq_iff] at e1; subst e1
    cases e
    exact ⟨by omega, z k, atN z k, h1, h2⟩))
  letI := SyC (PW (One zs)) (hkI fun j => Bc (Nat.beq j (1000 * k)) (some (.i64, lo, hi)) none) hI
  have := clB_ok (sp := spA fun _ _ => none) (spA_ok (P := PW (One zs)) (fun s _ f l v e => by cases e)) (tab := tab0) TabOk.none h
  exact ⟨ClOk.hk this.1, this.2⟩
theorem Bc_and {a b : Bool} (h : Bc a b false = true) : a = true ∧ b = true := by
  cases a with
  | true => exact ⟨rfl, h⟩
  | false => cases h
theorem fit3_ok {k : Nat} {ty : Value} (hk0 : 0 < k) (h : fit3 (1000 * k) ty = true) (h1 : -300000 ≤ zs k) (h2 : zs k ≤ 300000) : Cl zs hk hok (fitK (1000 * k) ty) ∧ Cl zs hk hok (chkK (1000 * k) ty) := by
  unfold fit3 at h
  obtain ⟨q1, h⟩ := Bc_and h
  obtain ⟨q2, h⟩ := Bc_and h
  obtain ⟨q3, h⟩ := Bc_and h
  obtain ⟨q4, h⟩ := Bc_and h
  obtain ⟨q5, q6⟩ := Bc_and h
  rcases (by omega : zs k ≤ -1 ∨ zs k = 0 ∨ 1 ≤ zs k) with h3 | h3 | h3
  · exact ⟨iv_run hk0 q1 h1 h3, iv_run hk0 q4 h1 h3⟩
  · exact ⟨iv_run hk0 q2 (by omega) (by omega), iv_run hk0 q5 (by omega) (by omega)⟩
  · exact ⟨iv_run hk0 q3 h3 h2, iv_run hk0 q6 h3 h2⟩
theorem fit4_ok {k : Nat} {ty : Value} (hk0 : 0 < k) (h : fit4 (1000 * k) ty = true) (h1 : -32767 ≤ zs k) (h2 : zs k ≤ 32767) : Cl zs hk hok (fitK (1000 * k) ty) ∧ Cl zs hk hok (chkK (1000 * k) ty) := by
  unfold fit4 at h
  obtain ⟨q1, h⟩ := Bc_and h
  obtain ⟨q2, h⟩ := Bc_and h
  obtain ⟨q3, h⟩ := Bc_and h
  obtain ⟨q4, h⟩ := Bc_and h
  obtain ⟨q5, q6⟩ := Bc_and h
  rcases (by omega : zs k ≤ -1 ∨ zs k = 0 ∨ 1 ≤ zs k) with h3 | h3 | h3
  · exact ⟨iv_run hk0 q1 h1 h3, iv_run hk0 q4 h1 h3⟩
  · exact ⟨iv_run hk0 q2 (by omega) (by omega), iv_run hk0 q5 (by omega) (by omega)⟩
  · exact ⟨iv_run hk0 q3 h3 h2, iv_run hk0 q6 h3 h2⟩
theorem fits4 : fit4 (1000 * 1) T15 = true ∧ fit4 (1000 * 2) T15 = true ∧ fit4 (1000 * 3) T15 = true ∧ fit4 (1000 * 4) T15 = true ∧ fit3 (1000 * 3) T31 = true := by
  have h := bool_of fit_runs
  obtain ⟨q1, h⟩ := Bc_and h
  obtain ⟨q2, h⟩ := Bc_and h
  obtain ⟨q3, h⟩ := Bc_and h
  obtain ⟨q4, h⟩ := Bc_and h
  exact ⟨q1, q2, q3, q4, h⟩
theorem fitL15 (h1 : -32767 ≤ zs 1 ∧ zs 1 ≤ 32767) (h2 : -32767 ≤ zs 2 ∧ zs 2 ≤ 32767) (h3 : -32767 ≤ zs 3 ∧ zs 3 ≤ 32767) (h4 : -32767 ≤ zs 4 ∧ zs 4 ≤ 32767) : ∀ c ∈ fitL T15, Cl zs hk hok c := by
  have f1 := fit4_ok (zs := zs) (hk := hk) (hok := hok) (k := 1) (by omega) fits4.1 h1.1 h1.2
  have f2 := fit4_ok (zs := zs) (hk := hk) (hok := hok) (k := 2) (by omega) fits4.2.1 h2.1 h2.2
  have f3 := fit4_ok (zs := zs) (hk := hk) (hok := hok) (k := 3) (by omega) fits4.2.2.1 h3.1 h3.2
  have f4 := fit4_ok (zs := zs) (hk := hk) (hok := hok) (k := 4) (by omega) fits4.2.2.2.1 h4.1 h4.2
  intro c hc
  simp only [fitL, List.mem_cons, List.mem_nil_iff, or_false] at hc
  rcases hc with rfl | rfl | rfl | rfl | rfl | rfl | rfl | rfl
  · exact f1.1
  · exact f2.1
  · exact f3.1
  · exact f4.1
  · exact f1.2
  · exact f2.2
  · exact f3.2
  · exact f4.2
theorem fitL31 (h1 : -32767 ≤ zs 1 ∧ zs 1 ≤ 32767) (h2 : -32767 ≤ zs 2 ∧ zs 2 ≤ 32767) (h3 : -300000 ≤ zs 3 ∧ zs 3 ≤ 300000) (h4 : -32767 ≤ zs 4 ∧ zs 4 ≤ 32767) : ∀ c ∈ fitL T31, Cl zs hk hok c := by
  have f1 := fit4_ok (zs := zs) (hk := hk) (hok := hok) (k := 1) (by omega) fits4.1 h1.1 h1.2
  have f2 := fit4_ok (zs := zs) (hk := hk) (hok := hok) (k := 2) (by omega) fits4.2.1 h2.1 h2.2
  have f3 := fit3_ok (zs := zs) (hk := hk) (hok := hok) (k := 3) (by omega) fits4.2.2.2.2 h3.1 h3.2
  have f4 := fit4_ok (zs := zs) (hk := hk) (hok := hok) (k := 4) (by omega) fits4.2.2.2.1 h4.1 h4.2
  intro c hc
  simp only [fitL, List.mem_cons, List.mem_nil_iff, or_false] at hc
  rcases hc with rfl | rfl | rfl | rfl | rfl | rfl | rfl | rfl
  · exact f1.1
  · exact f2.1
  · exact f3.1
  · exact f4.1
  · exact f1.2
  · exact f2.2
  · exact f3.2
  · exact f4.2
theorem cl_sane : Cl zs hk hok clSane := by
  letI := SyC (PW (One zs)) hk hok
  exact ⟨sane_any, (sane_ok (fun n => n = 0)).2⟩
theorem spCl_ok : ∀ {cl : List Clm}, (∀ c ∈ cl, Cl zs hk hok c) → ∀ {f : Nat} {args : List Value} {H H' : Hp} {v : Value} {r w : Nat}, H.wf → spCl cl f args H = some (v, H', r, w) → @TaskOk (SyC (PW (One zs)) hk hok) Tryz.prog NG (.call f args) H (.k (spKR v H' r w))
  | [], _, _, _, _, _, _, _, _, _, h => by cases h
  | c :: l, hc, f, args, H, H', v, r, w, hw, h => by
    letI := SyC (PW (One zs)) hk hok
    unfold spCl at h
    cases e : spC tab0 c f args H with
    | some q =>
      rw [e] at h
      have h : some q = some (v, H', r, w) := h
      cases h
      exact spC_ok TabOk.none (hc c List.mem_cons_self).2 (hc c List.mem_cons_self).1 hw e
    | none =>
      rw [e] at h
      exact spCl_ok (fun c hc' => hc c (List.mem_cons_of_mem _ hc')) hw h
theorem spLib_inv {lt : LibT} {f : Nat} {args : List Value} {H H' : Hp} {v : Value} {r w : Nat} (h : spLib lt f args H = some (v, H', r, w)) : w = 0 ∧ H' = H := by
  unfold spLib at h
  split at h
  · rename_i u e
    cases e2 : Nat.beq f 13 with
    | true => rw [e2, Bc_t] at h; obtain ⟨_, h⟩ := bc_some h; cases h; exact ⟨rfl, rfl⟩
    | false => rw [e2, Bc_f] at h; cases h; exact ⟨rfl, rfl⟩
  · cases h
theorem spL_ok {lt : LibT} {cl : List Clm} (hlt : LtOk (PW (One zs)) lt) (hcl : ∀ c ∈ cl, Cl zs hk hok c) : @SpOk (SyC (PW (One zs)) hk hok) Tryz.prog NG (spL lt cl) := by
  letI := SyC (PW (One zs)) hk hok
  intro f args H v H' r w hw h
  unfold spL at h
  cases h1 : Nat.testBit mkTy f with
  | true => rw [h1, Bc_t] at h; exact np_task h fun h => spTy_ok hw h
  | false =>
  rw [h1, Bc_f] at h
  cases h2 : Nat.testBit mkLib f with
  | true => rw [h2, Bc_t] at h; exact np_task h fun h => by
              obtain ⟨rfl, rfl⟩ := spLib_inv h
              exact lib_ok hlt hw h
  | false =>
  rw [h2, Bc_f] at h
  cases h3 : Nat.testBit mkM f with
  | true => rw [h3, Bc_t] at h; exact np_task h fun h => spM_ok hw h
  | false =>
  rw [h3, Bc_f] at h
  cases h4 : Nat.beq f 54 with
  | true => rw [h4, Bc_t] at h; rw [(beq_iff _ _).1 h4]; exact np_task h fun h => spMem_ok tb1_ok lp_ok hw h
  | false =>
  rw [h4, Bc_f] at h
  cases h5 : Nat.beq f 137 with
  | true => rw [h5, Bc_t] at h; rw [(beq_iff _ _).1 h5]; exact np_task h fun h => spSetC_ok hw h
  | false =>
  rw [h5, Bc_f] at h
  cases h6 : Nat.beq f 308 with
  | true => rw [h6, Bc_t] at h; rw [(beq_iff _ _).1 h6]; exact np_task h fun h => spGetC_ok hw h
  | false =>
  rw [h6, Bc_f] at h
  cases h7 : Nat.beq f 230 with
  | true => rw [h7, Bc_t] at h; rw [(beq_iff _ _).1 h7]; exact np_task h fun h => by
              have e : H' = H ∧ r = 0 ∧ w = 0 := by
                unfold spBstC at h
                split at h
                · have h := (bc_some h).2; cases h; exact ⟨rfl, rfl, rfl⟩
                · cases h
              obtain ⟨rfl, rfl, rfl⟩ := e
              exact spBstC_ok hw h
  | false =>
  rw [h7, Bc_f] at h
  obtain ⟨_, h⟩ := bc_some h
  exact spCl_ok hcl hw h
end
theorem ivL_ok {c : Cs} {zs : Nat → Int} (hq : LawZ c zs) (h4 : -32767 ≤ zs 4 ∧ zs 4 ≤ 32767) (h3 : c.K ≠ 1 → -32767 ≤ zs 3 ∧ zs 3 ≤ 32767) : IvOk (PW (One zs)) (ivL c) := by
  rintro s ⟨z, rfl, _, _, rfl⟩ k kd a b e
  have ba := tmod_bd (z 9) (m := 32768) (by decide)
  have bb := tmod_bd (z 10) (m := 32768) (by decide)
  rw [← hq.a] at ba
  rw [← hq.b] at bb
  unfold ivL at e
  cases c1 : (Nat.beq k 1000 || (Nat.beq k 2000 || (Nat.beq k 4000 || (Nat.beq k 3000 && !(Nat.beq c.K 1))))) with
  | true =>
    rw [c1, Bc_t] at e
    cases e
    simp only [Bool.or_eq_true, Bool.and_eq_true, beq_iff] at c1
    rcases c1 with rfl | rfl | rfl | ⟨rfl, hK⟩
    · exact ⟨by omega, z 1, atN z 1, by omega, by omega⟩
    · exact ⟨by omega, z 2, atN z 2, by omega, by omega⟩
    · exact ⟨by omega, z 4, atN z 4, by omega, by omega⟩
    · have := h3 (fun h => by rw [(beq_iff _ _).2 h] at hK; cases hK)
      exact ⟨by omega, z 3, atN z 3, by omega, by omega⟩
  | false =>
  rw [c1, Bc_f] at e
  replace e := bc_some e
  obtain ⟨c2, e⟩ := e
  simp only [Bool.and_eq_true, beq_iff] at c2
  obtain ⟨rfl, hK, hbz, hrn⟩ := c2
  cases e
  have hbz := nbt hbz
  have h5 := (hq.rn hK hbz).1 hrn
  have hr := hq.r hK hbz
  have hn := hq.bn hK hbz
  have h6 : -32767 ≤ z 5 := by
    rw [hr]
    have : (z 2).natAbs = z 2 ∨ (z 2).natAbs = - z 2 := by omega
    have e : (z 1).tmod (z 2) = (z 1).tmod ((z 2).natAbs : Int) := by
      rcases this with h | h
      · rw [h]
      · rw [h, Int.tmod_neg]
    rw [e]
    have := tmod_bd (z 1) (m := ((z 2).natAbs : Int)) (by omega)
    omega
  exact ⟨by omega, z 5, atN z 5, h6, by omega⟩
structure CsOk (c : Cs) (zs : Nat → Int) : Prop where
  z : LawZ c zs
  h4 : -32767 ≤ zs 4 ∧ zs 4 ≤ 32767
  h3 : c.K ≠ 1 → -32767 ≤ zs 3 ∧ zs 3 ≤ 32767
theorem hk0_ok {c : Cs} {zs : Nat → Int} (h : CsOk c zs) : HkOk (PW (One zs)) (hk0 c) := HkS.ok (HkS.or (hkI_ok (ivL_ok h.z h.h4 h.h3)) (hkL_ok h.z))
theorem hkW_ok {c : Cs} {zs : Nat → Int} {sh : Sh} (h : CsOk c zs) (o : ShOk sh (zs 4)) : HkOk (PW (One zs)) (hkW c sh) :=
  HkS.ok (HkS.or (hkI_ok (IvOk.or (ivD_ok fun z e => by rw [e]; exact o) (ivL_ok h.z h.h4 h.h3))) (HkS.or (hkL_ok h.z) (HkS.or (hkB_ok _) (HkS.or (hkB2_ok _) (HkS.or (hkP_ok fun z e => by rw [e]; exact o)
    (HkS.or (hkD_ok fun z e => by rw [e]; exact o) (by
      cases hK : Nat.beq c.K 2 with
      | false => exact fun s _ h l v e => by cases e
      | true =>
        rw [Bc_t]
        exact hkD_ok fun z e => by rw [e, h.z.n0 (.inr ((beq_iff _ _).1 hK))]; exact o)))))))
theorem ltW_ok {c : Cs} {zs : Nat → Int} {sh : Sh} (h : CsOk c zs) (o : ShOk sh (zs 4)) : LtOk (PW (One zs)) (ltW c sh) := by
  have base : LtOk (PW (One zs)) (ltD 4 sh) := ltD_ok fun z e => by rw [e]; exact o
  rintro s hP f l v e
  unfold ltW at e
  split at e
  · rename_i k
    cases c1 : (Nat.beq f 13 && (Nat.beq k 1000 && Nat.beq c.K 2)) with
    | true =>
      rw [c1, Bc_t] at e; cases e
      simp only [Bool.and_eq_true, beq_iff] at c1
      obtain ⟨rfl, rfl, hK⟩ := c1
      obtain ⟨z, rfl, _, _, rfl⟩ := hP
      have e1 := h.z.n2 hK
      have e3 := h.z.n0 (.inr hK)
      have hb := h.h4
      have key : ∀ w, w = Value.string ⟨(stx (z 4)).toArray⟩ → LibR 13 [semZ z 1000] w := by
        rintro w rfl
        rw [show semZ z 1000 = .int .i64 (z 1) from atN z 1, ← e1, ← stx_itoa (by omega)]
        exact .itoa (z 4) (by omega) (by omega)
      cases c2 : Nat.beq sh.hi 0 with
      | true =>
        rw [beq_iff] at c2
        have hhi := o.hi
        rw [Bc_t]
        refine ⟨rfl, rfl, key _ ?_⟩
        rw [show z 4 = 0 from by omega]; rfl
      | false =>
        rw [Bc_f]
        refine ⟨rfl, rfl, key _ ?_⟩
        show semZ z 3004 = _
        rw [at3 z (j := 4) (by omega), e3]; rfl
    | false => rw [c1, Bc_f] at e; exact base s hP f _ v e
  · exact base s hP f _ v e
theorem runW_ok {c : Cs} {zs : Nat → Int} {u ng : Bool} {L : Nat} {hk : HkOp → List Value → Option Value} {hok : HkOk (PW (One zs)) hk} (h : CsOk c zs) (o : ShOk (shW L ng) (zs 4)) (hcl : ∀ x ∈ clK c L ng, ∀ hk hok, Cl zs hk hok x) (hr : runW c u L ng = true) : Cl zs hk hok (lawK u) := by
  letI := SyC (PW (One zs)) (hkW c (shW L ng)) (hkW_ok h o)
  have := clB_ok (sp := spL (ltW c (shW L ng)) (clK c L ng)) (spL_ok (ltW_ok h o) fun x hx => hcl x hx _ _) (tab := tab0) TabOk.none hr
  exact ⟨ClOk.hk this.1, this.2⟩
theorem run0_ok {c : Cs} {zs : Nat → Int} {u : Bool} {hk : HkOp → List Value → Option Value} {hok : HkOk (PW (One zs)) hk} (h : CsOk c zs) (hcl : ∀ x ∈ clK c 0 false, ∀ hk hok, Cl zs hk hok x) (hr : run0 c u = true) : Cl zs hk hok (lawK u) := by
  letI := SyC (PW (One zs)) (hk0 c) (hk0_ok h)
  have := clB_ok (sp := spL lt0 (clK c 0 false)) (spL_ok (fun s _ f l v e => by cases e) fun x hx => hcl x hx _ _) (tab := tab0) TabOk.none hr
  exact ⟨ClOk.hk this.1, this.2⟩
end Go.Proofs.CN
end
