/-
  A part of the proof that pliantlaw16.MeanGoto returns true and leaves its arguments alone. Conditions: those of the card in the last text.
-/
import Derived.Test.YtdmcanlbncbemaaGreatDoorG10
import Derived.Test.YtdmcanlbncbemaaGreatDoorG14
import Derived.Test.YtdmcanlbncbemaaGreatDoorG16
import Derived.Test.YtdmcanlbncbemaaGreatDoorG17
import Derived.Test.YtdmcanlbncbemaaGreatDoorG18
import Derived.Test.YtdmcanlbncbemaaGreatDoorG19
set_option linter.unusedSimpArgs false
set_option linter.unusedVariables false
set_option linter.unusedSectionVars false
noncomputable section
namespace Go.Proofs.MN
open Go Go.Ev Go.Proofs Go.Ev.SM
structure Good [SyQ] (c : Clm) : Prop where
  ok : ClOk Tryz.prog NG c
  fits : Fits NG c
  args : all2 (covV tab0 (pm0 c.n0) 12) c.args c.args = true
  np : unPan c.v = none
section
variable [SyQ]
theorem clB_good {sp : F.Sp} (hsp : SpOk Tryz.prog NG sp) {c : Clm} {src : List Nat} (hn : unPan c.v = none) (h : clB sp tab0 c src = true) : Good c := by
  obtain ⟨h1, h2⟩ := clB_ok hsp tab0_ok h
  obtain ⟨v, H, r, w, _, _, _, he⟩ := clB_fits h
  exact ⟨h1, h2, (endB_ok tab0_ok he).args, hn⟩
theorem memo_good {c : Clm} (g : Good c) (hn : c.n1 = c.n0) (hw : c.w = 0) {H : Hp} (hwf : H.wf) (hb : ∀ x ∈ c.pre, covB (covV tab0 (pm0 c.n0) 12) x.2 (H.blk x.1) = true) : TaskOk Tryz.prog NG (.call c.f c.args) H (.k (.ret c.v H c.r 0)) :=
  by have h := memo_task tab0_ok g.fits hn hw g.ok hwf g.args hb; unfold spKR at h; rw [g.np] at h; exact h
theorem ty_np : ∀ c ∈ tyL, unPan c.v = none := by
  intro c hc
  simp only [tyL, List.mem_cons, List.mem_nil_iff, or_false] at hc
  rcases hc with rfl | rfl | rfl | rfl | rfl | rfl <;> rfl
theorem ty_good : ∀ c ∈ tyL, Good c := fun c hc => clB_good sp0_ok (ty_np c hc) (allC_mem (bool_of ty_runs) c hc)
theorem memo1_inv {v : Value} {args : List Value} {H : Hp} {q : Value × Hp × Nat × Nat} (h : memo1 v args H = some q) : args = [T15] ∧ q = (v, H, 0, 0) := by
  unfold memo1 at h
  split at h
  · have h2 := bc_some h
    exact ⟨by rw [isTy_inv h2.1]; rfl, ans_inv h2.2⟩
  · cases h
theorem spTy_ok {f : Nat} {args : List Value} {H H' : Hp} {v : Value} {r w : Nat} (hw : H.wf) (h : spTy f args H = some (v, H', r, w)) : TaskOk Tryz.prog NG (.call f args) H (.k (.ret v H' r w)) := by
  have use : ∀ (c : Clm), c ∈ tyL → c.args = [T15] → c.n1 = c.n0 → c.w = 0 → c.pre = [] → c.r = 0 → ∀ q, memo1 c.v args H = some q → q = (v, H', r, w) → f = c.f → TaskOk Tryz.prog NG (.call f args) H (.k (.ret v H' r w)) := by
    intro c hc h1 h2 h3 h4 h5 q hq hq2 hf
    obtain ⟨ha, hq3⟩ := memo1_inv hq
    rw [hq3] at hq2
    cases hq2
    have := memo_good (ty_good c hc) h2 h3 hw (by rw [h4]; intro x hx; cases hx)
    rw [h1, h5] at this
    rw [ha, hf]; exact this
  unfold spTy at h
  cases h1 : Nat.beq f 234 with
  | true => rw [h1, Bc_t] at h; exact use (pureC 234 [T15] (nV 0)) (by simp [tyL]) rfl rfl rfl rfl rfl _ h rfl ((beq_iff _ _).1 h1)
  | false =>
  rw [h1, Bc_f] at h
  cases h2 : Nat.beq f 166 with
  | true => rw [h2, Bc_t] at h; exact use (pureC 166 [T15] (nV 0)) (by simp [tyL]) rfl rfl rfl rfl rfl _ h rfl ((beq_iff _ _).1 h2)
  | false =>
  rw [h2, Bc_f] at h
  cases h3 : Nat.beq f 165 with
  | true => rw [h3, Bc_t] at h; exact use (pureC 165 [T15] (nV 16)) (by simp [tyL]) rfl rfl rfl rfl rfl _ h rfl ((beq_iff _ _).1 h3)
  | false =>
  rw [h3, Bc_f] at h
  cases h4 : Nat.beq f 229 with
  | true => rw [h4, Bc_t] at h; exact use (pureC 229 [T15] (.bool true)) (by simp [tyL]) rfl rfl rfl rfl rfl _ h rfl ((beq_iff _ _).1 h4)
  | false =>
  rw [h4, Bc_f] at h
  cases h5 : Nat.beq f 164 with
  | true => rw [h5, Bc_t] at h; exact use (pureC 164 [T15] (nV 16)) (by simp [tyL]) rfl rfl rfl rfl rfl _ h rfl ((beq_iff _ _).1 h5)
  | false =>
  rw [h5, Bc_f] at h
  obtain ⟨h6, h⟩ := bc_some h
  exact use (pureC 123 [T15] (.bool true)) (by simp [tyL]) rfl rfl rfl rfl rfl _ h rfl ((beq_iff _ _).1 h6)
theorem sp1_ok : SpOk Tryz.prog NG sp1 := fun f args H v H' r w hw h => by
  unfold sp1 at h
  cases h1 : Nat.testBit mkTy f with
  | true => rw [h1, Bc_t] at h; exact np_task h fun h => spTy_ok hw h
  | false =>
    rw [h1, Bc_f] at h
    exact np_task (bc_some h).2 fun h => spM_ok hw h
theorem r60_mem {x : Nat} (h : x < 60) : x ∈ r60 := by
  have : (List.range 60) = r60 := by decide
  rw [← this]; exact List.mem_range.2 h
theorem r61_mem {x : Nat} (h : x < 61) : x ∈ r61 := by
  have : (List.range 61) = r61 := by decide
  rw [← this]; exact List.mem_range.2 h
theorem sub_good {x : Nat} (h : x < 60) : Good (subC x) := clB_good sp1_ok rfl (allB_mem (bool_of sub_runs) x (r60_mem h))
theorem add_good {x : Nat} (h : x < 60) : Good (addC x) := clB_good sp1_ok rfl (allB_mem (bool_of add_runs) x (r60_mem h))
theorem to_good {x : Nat} (h : x < 61) : Good (toC x) := clB_good sp1_ok rfl (allB_mem (bool_of to_runs) x (r61_mem h))
theorem tri_good {x : Nat} (h : x < 61) : Good (toC (triN x)) := clB_good sp1_ok rfl (allB_mem (bool_of tri_runs) x (r61_mem h))
theorem cmp_good {x : Nat} (h : x < 61) : Good (cmpC x) := clB_good sp1_ok (by cases x <;> rfl) (allB_mem (bool_of cmp_runs) x (r61_mem h))
theorem chk_good {x : Nat} (h : x < 61) : Good (chkC x) := clB_good sp1_ok rfl (allB_mem (bool_of chk_runs) x (r61_mem h))
theorem fits_good {x : Nat} (h : x < 61) : Good (fitsC x) := clB_good sp1_ok rfl (allB_mem (bool_of fits_runs) x (r61_mem h))
theorem enc_good {x : Nat} (h : x < 61) : Good (encC x) := clB_good sp1_ok rfl (allB_mem (bool_of enc_runs) x (r61_mem h))
theorem dec_good {x : Nat} (h : x < 61) : Good (decC x) := clB_good sp1_ok rfl (allB_mem (bool_of dec_runs) x (r61_mem h))
end
theorem flat_lrel (β : Mp) : ∀ {l : List Value}, l.all (flatV 10) = true → LRel β l l
  | [], _ => LRel.nil β
  | v :: l, h => by
    simp only [List.all_cons, Bool.and_eq_true] at h
    exact LRel.cons (VRel.flat β 10 v h.1) (flat_lrel β h.2)
theorem sym_task {P : Nat → Prop} {f : Nat} {args : List Value} {v : Value} {H : Hp} {r : Nat} (hwf : H.wf)
    (h : ∀ (n : Nat) (β : Mp) (as' : List Value), P n → n ≤ 60 → Tbl n β → LRel β args as' → ∃ c : Clm, @Good (SyN P) c ∧ c.f = f ∧ c.r = r ∧ c.w = 0 ∧ c.n1 = c.n0 ∧ as' = c.args ∧ c.args.all (flatV 10) = true ∧ flatV 10 c.v = true ∧
      (∀ x ∈ c.pre, covB (covV tab0 (pm0 c.n0) 12) x.2 (H.blk x.1) = true) ∧ ∀ β', Tbl n β' → VRel β' v c.v) : @TaskOk (SyN P) Tryz.prog NG (.call f args) H (.k (.ret v H r 0)) := by
  letI := SyN P
  refine TaskOk.conseq hwf fun β W as' hg p hl => ?_
  obtain ⟨hg1, n, hP, hn, tb⟩ := hg
  obtain ⟨c, hc, rfl, rfl, hw, hn1, rfl, hfa, hfv, hb, hv⟩ := h n β as' hP hn tb hl
  refine ⟨c.args, c.v, fun args'' ha => ?_, fun β' v' hle hv' => ?_⟩
  · exact (memo_good hc hn1 hw hwf hb).2 β W ⟨hg1, n, hP, hn, tb⟩ p args'' (by rw [ha]; exact flat_lrel β hfa)
  · rw [flat_eq 10 _ _ hfv hv']
    exact hv β' (tb.mono hle)
theorem lcons {β : Mp} {a a2 : Value} {l as' : List Value} (h : LRel β (a :: l) as') (ha : ∀ a', VRel β a a' → a' = a2) : ∃ l', as' = a2 :: l' ∧ LRel β l l' := by
  obtain ⟨x, l', rfl, hx, hl⟩ := h.cons_inv
  exact ⟨l', by rw [ha x hx], hl⟩
theorem fl {β : Mp} {v : Value} (hf : flatV 10 v = true) : ∀ a', VRel β v a' → a' = v := fun a' h => flat_eq 10 _ _ hf h
theorem tabV {n k : Nat} {β : Mp} (tb : Tbl n β) (h1 : 100 ≤ k) (h2 : k < 162) : β (SY + k) = some ⟨0, n - (k - 100), 0, 0⟩ := by rw [tb k, bm_V h1 h2]
theorem tabS {n k : Nat} {β : Mp} (tb : Tbl n β) (h1 : 300 ≤ k) (h2 : k < 362) : β (SY + k) = some ⟨0, triN (n - (k - 300)), 0, 0⟩ := by rw [tb k, bm_S h1 h2]
theorem tabD {n k : Nat} {β : Mp} (tb : Tbl n β) (h1 : 500 ≤ k) (h2 : k < 562) : β (SY + k) = some ⟨0, n - (k - 500), 0, 5⟩ := by rw [tb k, bm_D h1 h2]
theorem no_pre {H : Hp} {c : Clm} (h : c.pre = []) : ∀ x ∈ c.pre, covB (covV tab0 (pm0 c.n0) 12) x.2 (H.blk x.1) = true := by rw [h]; intro x hx; cases hx
theorem ty15 {v : Value} (h : isTy 15 v = true) : v = T15 := isTy_inv h
theorem ty16 {v : Value} (h : isTy 16 v = true) : v = T16 := isTy_inv h
section
variable {P : Nat → Prop} {args : List Value} {H H' : Hp} {v : Value} {r w : Nat}
theorem spDo_ok {lim : Nat} (hlim : ∀ n, P n → lim ≤ n) (hw : H.wf) (h : spDo lim args H = some (v, H', r, w)) : @TaskOk (SyN P) Tryz.prog NG (.call 148 args) H (.k (.ret v H' r w)) := by
  letI := SyN P
  unfold spDo at h
  split at h
  case h_2 => cases h
  rename_i op a ta b tb0
  split at h
  case h_2 => cases h
  rename_i k hk
  have hk := symOf_inv hk
  have h2 := bc_some h
  clear h
  obtain ⟨h1, h⟩ := h2
  simp only [Bool.and_eq_true] at h1
  have e1 := ty15 h1.1
  have e2 := ty15 h1.2
  subst hk e1 e2
  cases h7 : isI 7 op with
  | true =>
    rw [h7, Bc_t] at h
    have h2 := bc_some h
    clear h
    obtain ⟨h3, h⟩ := h2
    simp only [Bool.and_eq_true, ble_iff, blt_iff] at h3
    obtain ⟨hb, hk1, hk2⟩ := h3
    have e1 := isI_inv h7
    have e2 := isVl_inv hb
    subst e1 e2
    cases ans_inv h
    refine sym_task hw fun n β as' hP hn tb hl => ?_
    have hlim := hlim n hP
    obtain ⟨y, hy⟩ : ∃ y, n - (k - 100) = Nat.succ y := ⟨n - (k - 100) - 1, by omega⟩
    have ek := tabV tb hk1 (by omega)
    rw [hy] at ek
    refine ⟨subC y, sub_good (by omega), rfl, rfl, rfl, rfl, ?_, rfl, rfl, no_pre rfl, fun β' tb' => ?_⟩
    · obtain ⟨l1, rfl, q1⟩ := lcons hl (fl rfl)
      obtain ⟨l2, rfl, q2⟩ := lcons q1 (fun a' ha => vl_int ek ha)
      obtain ⟨l3, rfl, q3⟩ := lcons q2 (fl rfl)
      obtain ⟨l4, rfl, q4⟩ := lcons q3 (fl rfl)
      obtain ⟨l5, rfl, q5⟩ := lcons q4 (fl rfl)
      have := q5.nil_inv; subst this; rfl
    · have ek' := tabV tb' (k := Nat.succ k) (by omega) (by omega)
      rw [show n - (Nat.succ k - 100) = y from by omega] at ek'
      exact of_tup (LRel.cons (int_vl ek') (flat_lrel β' (l := [nV 0, nV 0]) rfl))
  | false =>
    rw [h7, Bc_f] at h
    have h2 := bc_some h
    clear h
    obtain ⟨h6, h⟩ := h2
    split at h
    case h_2 => cases h
    rename_i l hb
    have h2 := bc_some h
    clear h
    obtain ⟨h3, h⟩ := h2
    simp only [Bool.and_eq_true, ble_iff, blt_iff, beq_iff] at h3
    obtain ⟨hk1, hk2, hkl⟩ := h3
    have e1 := isI_inv h6
    have e2 := symOf_inv hb
    subst e1 e2
    cases ans_inv h
    refine sym_task hw fun n β as' hP hn tb hl => ?_
    have hlim := hlim n hP
    obtain ⟨y, hy⟩ : ∃ y, n - (k - 100) = Nat.succ y := ⟨n - (k - 100) - 1, by omega⟩
    have ek := tabV tb hk1 (by omega)
    rw [hy] at ek
    have el := tabS tb (k := l) (by omega) (by omega)
    rw [show n - (l - 300) = y from by omega] at el
    refine ⟨addC y, add_good (by omega), rfl, rfl, rfl, rfl, ?_, rfl, rfl, no_pre rfl, fun β' tb' => ?_⟩
    · obtain ⟨l1, rfl, q1⟩ := lcons hl (fl rfl)
      obtain ⟨l2, rfl, q2⟩ := lcons q1 (fun a' ha => vl_int ek ha)
      obtain ⟨l3, rfl, q3⟩ := lcons q2 (fl rfl)
      obtain ⟨l4, rfl, q4⟩ := lcons q3 (fun a' ha => vl_int el ha)
      obtain ⟨l5, rfl, q5⟩ := lcons q4 (fl rfl)
      have := q5.nil_inv; subst this; rfl
    · have ek' := tabS tb' (k := k + 200) (by omega) (by omega)
      rw [show n - (k + 200 - 300) = Nat.succ y from by omega] at ek'
      exact of_tup (LRel.cons (int_vl ek') (flat_lrel β' (l := [nV 0, nV 0]) rfl))
theorem spTo_ok (hw : H.wf) (h : spTo args H = some (v, H', r, w)) : @TaskOk (SyN P) Tryz.prog NG (.call 144 args) H (.k (.ret v H' r w)) := by
  letI := SyN P
  unfold spTo at h
  split at h
  case h_2 => cases h
  rename_i a ta tb0
  split at h
  case h_2 => cases h
  rename_i k hk
  have hk := symOf_inv hk
  have h2 := bc_some h
  clear h
  obtain ⟨h1, h⟩ := h2
  simp only [Bool.and_eq_true, Bool.or_eq_true, ble_iff, blt_iff] at h1
  obtain ⟨h1, h3, h4⟩ := h1
  have e1 := ty16 h1
  have e2 := ty15 h3
  subst hk e1 e2
  have h2 := bc_some h
  clear h
  obtain ⟨hp, h⟩ := h2
  cases h
  refine sym_task (r := 4) hw fun n β as' hP hn tb hl => ?_
  have fin : ∀ y, Good (toC y) → (∀ β, Tbl n β → β (SY + k) = some ⟨0, y, 0, 0⟩) → ∃ c : Clm, Good c ∧ c.f = 144 ∧ c.r = 4 ∧ c.w = 0 ∧ c.n1 = c.n0 ∧ as' = c.args ∧ c.args.all (flatV 10) = true ∧ flatV 10 c.v = true ∧
      (∀ x ∈ c.pre, covB (covV tab0 (pm0 c.n0) 12) x.2 (H.blk x.1) = true) ∧ ∀ β', Tbl n β' → VRel β' (.tuple ⟨[vl (sy k), nV 0, nV 0]⟩) c.v := fun y gy ey => by
    refine ⟨toC y, gy, rfl, rfl, rfl, rfl, ?_, rfl, rfl, ?_, fun β' tb' => ?_⟩
    · obtain ⟨l1, rfl, q1⟩ := lcons hl (fun a' ha => vl_int (ey β tb) ha)
      obtain ⟨l2, rfl, q2⟩ := lcons q1 (fl rfl)
      obtain ⟨l3, rfl, q3⟩ := lcons q2 (fl rfl)
      have := q3.nil_inv; subst this; rfl
    · intro x hx
      have : x = (2, pwB) := by simpa [toC] using hx
      subst this; exact hp
    · exact of_tup (LRel.cons (int_vl (ey β' tb')) (flat_lrel β' (l := [nV 0, nV 0]) rfl))
  rcases h4 with ⟨a1, a2⟩ | ⟨a1, a2⟩
  · exact fin _ (to_good (x := n - (k - 100)) (by omega)) fun β tb => tabV tb a1 a2
  · exact fin _ (tri_good (x := n - (k - 300)) (by omega)) fun β tb => tabS tb a1 a2
theorem spCmp_ok {lim : Nat} {base : Bool} (hlim : ∀ n, P n → lim ≤ n ∧ (base = true → n = lim)) (hl60 : lim ≤ 61) (hw : H.wf) (h : spCmp lim base args H = some (v, H', r, w)) : @TaskOk (SyN P) Tryz.prog NG (.call 150 args) H (.k (.ret v H' r w)) := by
  letI := SyN P
  unfold spCmp at h
  split at h
  case h_2 => cases h
  rename_i a ta b tb0
  split at h
  case h_2 => cases h
  rename_i k hk
  have hk := symOf_inv hk
  have h2 := bc_some h
  clear h
  obtain ⟨h1, h⟩ := h2
  simp only [Bool.and_eq_true, ble_iff] at h1
  obtain ⟨h1, h3, h4, h5⟩ := h1
  have e1 := ty15 h1
  have e2 := ty15 h3
  have e3 := isVl_inv h4
  subst hk e1 e2 e3
  have fin : ∀ (z : Int), (∀ n, P n → n ≤ 60 → k < 162 ∧ Bc (Nat.beq (n - (k - 100)) 0) (nV 0) (nV 1) = nV z) → ans (.tuple ⟨[nV z, nV 0]⟩) H = some (v, H', r, w) → TaskOk Tryz.prog NG (.call 150 [vl (sy k), T15, vl (nV 0), T15]) H (.k (.ret v H' r w)) := fun z hz h => by
    cases ans_inv h
    refine sym_task hw fun n β as' hP hn tb hl => ?_
    obtain ⟨hk2, hz⟩ := hz n hP hn
    have ek := tabV tb h5 hk2
    refine ⟨cmpC (n - (k - 100)), cmp_good (by omega), rfl, rfl, rfl, rfl, ?_, rfl, ?_, no_pre rfl, fun β' tb' => ?_⟩
    · obtain ⟨l1, rfl, q1⟩ := lcons hl (fun a' ha => vl_int ek ha)
      obtain ⟨l2, rfl, q2⟩ := lcons q1 (fl rfl)
      obtain ⟨l3, rfl, q3⟩ := lcons q2 (fl rfl)
      obtain ⟨l4, rfl, q4⟩ := lcons q3 (fl rfl)
      have := q4.nil_inv; subst this; rfl
    · show flatV 10 (tup [_, nV 0]) = true
      rw [hz]; rfl
    · show VRel β' _ (tup [_, nV 0])
      rw [hz]
      exact VRel.flat β' 10 _ rfl
  cases hb1 : Nat.blt k (100 + lim) with
  | true =>
    rw [hb1, Bc_t] at h
    have hb1 := (blt_iff _ _).1 hb1
    refine fin 1 (fun n hP hn => ?_) h
    have := (hlim n hP).1
    refine ⟨by omega, ?_⟩
    cases e : Nat.beq (n - (k - 100)) 0 with
    | true => have := (beq_iff _ _).1 e; omega
    | false => rfl
  | false =>
    rw [hb1, Bc_f] at h
    have h2 := bc_some h
    clear h
    obtain ⟨h6, h⟩ := h2
    simp only [Bool.and_eq_true, beq_iff] at h6
    refine fin 0 (fun n hP hn => ?_) h
    have := (hlim n hP).2 h6.1
    refine ⟨by omega, ?_⟩
    rw [(beq_iff _ _).2 (by omega), Bc_t]
end
section
variable {P : Nat → Prop} {args : List Value} {H H' : Hp} {v : Value} {r w : Nat}
theorem isV_inv {k : Nat} (h : isV k = true) : 100 ≤ k ∧ k < 162 := by
  unfold isV at h
  simp only [Bool.and_eq_true, ble_iff, blt_iff] at h
  exact h
theorem spChk_ok (hw : H.wf) (h : spChk args H = some (v, H', r, w)) : @TaskOk (SyN P) Tryz.prog NG (.call 163 args) H (.k (.ret v H' r w)) := by
  letI := SyN P
  unfold spChk at h
  split at h
  case h_2 => cases h
  rename_i ta a
  split at h
  · rename_i k hk
    have hk := symOf_inv hk
    have h2 := bc_some h
    clear h
    obtain ⟨h1, h⟩ := h2
    simp only [Bool.and_eq_true] at h1
    have e1 := ty15 h1.1
    obtain ⟨k1, k2⟩ := isV_inv h1.2
    subst hk e1
    cases ans_inv h
    refine sym_task hw fun n β as' hP hn tb hl => ?_
    have ek := tabV tb k1 k2
    refine ⟨chkC (n - (k - 100)), chk_good (by omega), rfl, rfl, rfl, rfl, ?_, rfl, rfl, no_pre rfl, fun β' tb' => VRel.flat β' 10 _ rfl⟩
    · obtain ⟨l1, rfl, q1⟩ := lcons hl (fl rfl)
      obtain ⟨l2, rfl, q2⟩ := lcons q1 (fun a' ha => vl_int ek ha)
      have := q2.nil_inv; subst this; rfl
  · split at h
    case h_2 => cases h
    rename_i m hm
    obtain ⟨hm, hm2⟩ := numOf_inv hm
    have h2 := bc_some h
    clear h
    obtain ⟨h1, h⟩ := h2
    have e1 := ty15 h1
    subst hm e1
    cases ans_inv h
    exact memo_good (chk_good hm2) rfl rfl hw (no_pre rfl)
theorem spFits_ok (hw : H.wf) (h : spFits args H = some (v, H', r, w)) : @TaskOk (SyN P) Tryz.prog NG (.call 199 args) H (.k (.ret v H' r w)) := by
  letI := SyN P
  unfold spFits at h
  split at h
  case h_2 => cases h
  rename_i a ta
  split at h
  · rename_i k hk
    have hk := symOf_inv hk
    have h2 := bc_some h
    clear h
    obtain ⟨h1, h⟩ := h2
    simp only [Bool.and_eq_true] at h1
    have e1 := ty15 h1.1
    obtain ⟨k1, k2⟩ := isV_inv h1.2
    subst hk e1
    cases ans_inv h
    refine sym_task hw fun n β as' hP hn tb hl => ?_
    have ek := tabV tb k1 k2
    refine ⟨fitsC (n - (k - 100)), fits_good (by omega), rfl, rfl, rfl, rfl, ?_, rfl, rfl, no_pre rfl, fun β' tb' => VRel.flat β' 10 _ rfl⟩
    · obtain ⟨l1, rfl, q1⟩ := lcons hl (fun a' ha => vl_int ek ha)
      obtain ⟨l2, rfl, q2⟩ := lcons q1 (fl rfl)
      have := q2.nil_inv; subst this; rfl
  · split at h
    case h_2 => cases h
    rename_i m hm
    obtain ⟨hm, hm2⟩ := numOf_inv hm
    have h2 := bc_some h
    clear h
    obtain ⟨h1, h⟩ := h2
    have e1 := ty15 h1
    subst hm e1
    cases ans_inv h
    exact memo_good (fits_good hm2) rfl rfl hw (no_pre rfl)
theorem spEnc_ok (hw : H.wf) (h : spEnc args H = some (v, H', r, w)) : @TaskOk (SyN P) Tryz.prog NG (.call 135 args) H (.k (.ret v H' r w)) := by
  letI := SyN P
  unfold spEnc at h
  split at h
  case h_2 => cases h
  rename_i ta a
  split at h
  · rename_i k hk
    have hk := symOf_inv hk
    have h2 := bc_some h
    clear h
    obtain ⟨h1, h⟩ := h2
    simp only [Bool.and_eq_true] at h1
    have e1 := ty15 h1.1
    obtain ⟨k1, k2⟩ := isV_inv h1.2
    subst hk e1
    cases ans_inv h
    refine sym_task hw fun n β as' hP hn tb hl => ?_
    have ek := tabV tb k1 k2
    refine ⟨encC (n - (k - 100)), enc_good (by omega), rfl, rfl, rfl, rfl, ?_, rfl, rfl, no_pre rfl, fun β' tb' => ?_⟩
    · obtain ⟨l1, rfl, q1⟩ := lcons hl (fl rfl)
      obtain ⟨l2, rfl, q2⟩ := lcons q1 (fun a' ha => vl_int ek ha)
      have := q2.nil_inv; subst this; rfl
    · have e2 := tabD tb' (k := k + 400) (by omega) (by omega)
      rw [show n - (k + 400 - 500) = n - (k - 100) from by omega] at e2
      exact of_tup (LRel.cons (of_str e2) (flat_lrel β' (l := [nV 0]) rfl))
  · split at h
    case h_2 => cases h
    rename_i m hm
    obtain ⟨hm, hm2⟩ := numOf_inv hm
    have h2 := bc_some h
    clear h
    obtain ⟨h1, h⟩ := h2
    have e1 := ty15 h1
    subst hm e1
    cases ans_inv h
    exact memo_good (enc_good hm2) rfl rfl hw (no_pre rfl)
theorem spDec_ok (hw : H.wf) (h : spDec args H = some (v, H', r, w)) : @TaskOk (SyN P) Tryz.prog NG (.call 307 args) H (.k (.ret v H' r w)) := by
  letI := SyN P
  unfold spDec at h
  split at h
  case h_2 => cases h
  rename_i ta k
  have h2 := bc_some h
  clear h
  obtain ⟨h1, h⟩ := h2
  simp only [Bool.and_eq_true, ble_iff, blt_iff] at h1
  have e1 := ty15 h1.1
  subst e1
  cases ans_inv h
  refine sym_task hw fun n β as' hP hn tb hl => ?_
  have ek := tabD tb h1.2.1 h1.2.2
  refine ⟨decC (n - (k - 500)), dec_good (by omega), rfl, rfl, rfl, rfl, ?_, rfl, rfl, no_pre rfl, fun β' tb' => ?_⟩
  · obtain ⟨l1, rfl, q1⟩ := lcons hl (fl rfl)
    obtain ⟨l2, rfl, q2⟩ := lcons q1 (fun a' ha => str_of ek ha)
    have := q2.nil_inv; subst this; rfl
  · have e2 := tabV tb' (k := Nat.sub k 400) (by show 100 ≤ k - 400; omega) (by show k - 400 < 162; omega)
    rw [show n - (Nat.sub k 400 - 100) = n - (k - 500) from by show n - (k - 400 - 100) = _; omega] at e2
    exact of_tup (LRel.cons (int_vl e2) (flat_lrel β' (l := [nV 0]) rfl))
theorem spSy_ok {f lim : Nat} {base : Bool} (hlim : ∀ n, P n → lim ≤ n ∧ (base = true → n = lim)) (hl60 : lim ≤ 61) (hw : H.wf) (h : spSy lim base f args H = some (v, H', r, w)) : @TaskOk (SyN P) Tryz.prog NG (.call f args) H (.k (.ret v H' r w)) := by
  unfold spSy at h
  cases h1 : Nat.beq f 148 with
  | true => rw [h1, Bc_t] at h; rw [(beq_iff _ _).1 h1]; exact spDo_ok (fun n hn => (hlim n hn).1) hw h
  | false =>
  rw [h1, Bc_f] at h
  cases h2 : Nat.beq f 144 with
  | true => rw [h2, Bc_t] at h; rw [(beq_iff _ _).1 h2]; exact spTo_ok hw h
  | false =>
  rw [h2, Bc_f] at h
  cases h3 : Nat.beq f 150 with
  | true => rw [h3, Bc_t] at h; rw [(beq_iff _ _).1 h3]; exact spCmp_ok hlim hl60 hw h
  | false =>
  rw [h3, Bc_f] at h
  cases h4 : Nat.beq f 163 with
  | true => rw [h4, Bc_t] at h; rw [(beq_iff _ _).1 h4]; exact spChk_ok hw h
  | false =>
  rw [h4, Bc_f] at h
  cases h5 : Nat.beq f 199 with
  | true => rw [h5, Bc_t] at h; rw [(beq_iff _ _).1 h5]; exact spFits_ok hw h
  | false =>
  rw [h5, Bc_f] at h
  cases h6 : Nat.beq f 135 with
  | true => rw [h6, Bc_t] at h; rw [(beq_iff _ _).1 h6]; exact spEnc_ok hw h
  | false =>
  rw [h6, Bc_f] at h
  cases h7 : Nat.beq f 307 with
  | true => rw [h7, Bc_t] at h; rw [(beq_iff _ _).1 h7]; exact spDec_ok hw h
  | false =>
  rw [h7, Bc_f] at h
  cases h8 : Nat.beq f 308 with
  | true => rw [h8, Bc_t] at h; rw [(beq_iff _ _).1 h8]; exact spGet_ok hw h
  | false =>
  rw [h8, Bc_f] at h
  obtain ⟨h9, h⟩ := bc_some h
  rw [(beq_iff _ _).1 h9]; exact spSet_ok hw h
end
theorem spX_ok {P : Nat → Prop} {lim g : Nat} {base : Bool} {nest : List Value → Hp → Ans} (hlim : ∀ n, P n → lim ≤ n ∧ (base = true → n = lim)) (hl60 : lim ≤ 61)
    (hnest : ∀ args H v H' r w, H.wf → nest args H = some (v, H', r, w) → @TaskOk (SyN P) Tryz.prog NG (.call g args) H (.k (spKR v H' r w))) : @SpOk (SyN P) Tryz.prog NG (spX lim base g nest) := by
  letI := SyN P
  intro f args H v H' r w hw h
  unfold spX at h
  cases h1 : Nat.testBit mkTy f with
  | true => rw [h1, Bc_t] at h; exact np_task h fun h => spTy_ok hw h
  | false =>
  rw [h1, Bc_f] at h
  cases h2 : Nat.testBit mkSy f with
  | true => rw [h2, Bc_t] at h; exact np_task h fun h => spSy_ok hlim hl60 hw h
  | false =>
  rw [h2, Bc_f] at h
  cases h3 : Nat.beq f g with
  | true => rw [h3, Bc_t] at h; rw [(beq_iff _ _).1 h3]; exact hnest _ _ _ _ _ _ hw h
  | false =>
  rw [h3, Bc_f] at h
  cases h4 : Nat.testBit mkM f with
  | true => rw [h4, Bc_t] at h; exact np_task h fun h => spM_ok hw h
  | false =>
  rw [h4, Bc_f] at h
  obtain ⟨h5, h⟩ := bc_some h
  rw [(beq_iff _ _).1 h5]; exact np_task h fun h => spMem_ok tb1_ok lp_ok hw h
theorem cmp1_good [SyQ] {x : Nat} (h : x < 60) : Good (cmp1C x) := clB_good sp1_ok rfl (allB_mem (bool_of cmp1_runs) x (r60_mem h))
section
variable {P : Nat → Prop} {args : List Value} {H H' : Hp} {v : Value} {r w : Nat}
theorem spCmp1_ok {lim : Nat} (hlim : ∀ n, P n → lim + 1 ≤ n) (hw : H.wf) (h : spCmp1 lim args H = some (v, H', r, w)) : @TaskOk (SyN P) Tryz.prog NG (.call 150 args) H (.k (.ret v H' r w)) := by
  letI := SyN P
  unfold spCmp1 at h
  split at h
  case h_2 => cases h
  rename_i a ta b tb0
  split at h
  case h_2 => cases h
  rename_i k hk
  have hk := symOf_inv hk
  have h2 := bc_some h
  clear h
  obtain ⟨h1, h⟩ := h2
  simp only [Bool.and_eq_true, ble_iff, blt_iff] at h1
  obtain ⟨h1, h3, h4, h5, h6⟩ := h1
  have e1 := ty15 h1
  have e2 := ty15 h3
  have e3 := isVl_inv h4
  subst hk e1 e2 e3
  cases ans_inv h
  refine sym_task hw fun n β as' hP hn tb hl => ?_
  have hl1 := hlim n hP
  have ek := tabV tb h5 (by omega)
  refine ⟨cmp1C (n - (k - 100) - 2), cmp1_good (by omega), rfl, rfl, rfl, rfl, ?_, rfl, rfl, no_pre rfl, fun β' tb' => VRel.flat β' 10 _ rfl⟩
  have e : Nat.add (n - (k - 100) - 2) 2 = n - (k - 100) := by show n - (k - 100) - 2 + 2 = _; omega
  unfold cmp1C
  rw [e]
  obtain ⟨l1, rfl, q1⟩ := lcons hl (fun a' ha => vl_int ek ha)
  obtain ⟨l2, rfl, q2⟩ := lcons q1 (fl rfl)
  obtain ⟨l3, rfl, q3⟩ := lcons q2 (fl rfl)
  obtain ⟨l4, rfl, q4⟩ := lcons q3 (fl rfl)
  have := q4.nil_inv; subst this; rfl
theorem spDec1_ok {lim : Nat} {base : Bool} (hlim : ∀ n, P n → base = true → n = lim + 1) (hw : H.wf) (h : spDec1 lim base args H = some (v, H', r, w)) : @TaskOk (SyN P) Tryz.prog NG (.call 307 args) H (.k (.ret v H' r w)) := by
  letI := SyN P
  cases hb : base && true with
  | false =>
    have hb : base = false := by simpa using hb
    subst hb
    refine spDec_ok hw ?_
    unfold spDec1 at h
    unfold spDec
    split at h
    case h_2 => cases h
    rename_i ta k
    have h2 := bc_some h
    obtain ⟨h1, h⟩ := h2
    simp only [] at h ⊢
    rw [h1, Bc_t]
    exact h
  | true =>
    have hb : base = true := by simpa using hb
    subst hb
    unfold spDec1 at h
    split at h
    case h_2 => cases h
    rename_i ta k
    have h2 := bc_some h
    clear h
    obtain ⟨h1, h⟩ := h2
    cases e : Nat.beq k (500 + lim) with
    | false =>
      refine spDec_ok hw ?_
      unfold spDec
      simp only []
      rw [h1, Bc_t]
      rw [e] at h
      exact h
    | true =>
      have ek := (beq_iff _ _).1 e
      rw [e] at h
      simp only [Bool.and_eq_true, ble_iff, blt_iff] at h1
      have e1 := ty15 h1.1
      subst e1
      cases ans_inv h
      refine sym_task hw fun n β as' hP hn tb hl => ?_
      have ek2 := tabD tb h1.2.1 h1.2.2
      have hl1 := hlim n hP rfl
      refine ⟨decC (n - (k - 500)), dec_good (by omega), rfl, rfl, rfl, rfl, ?_, rfl, rfl, no_pre rfl, fun β' tb' => ?_⟩
      · obtain ⟨l1, rfl, q1⟩ := lcons hl (fl rfl)
        obtain ⟨l2, rfl, q2⟩ := lcons q1 (fun a' ha => str_of ek2 ha)
        have := q2.nil_inv; subst this; rfl
      · have e3 : n - (k - 500) = 1 := by omega
        rw [show (decC (n - (k - 500))).v = tup [vl (nN (n - (k - 500))), nV 0] from rfl, e3]
        exact VRel.flat β' 10 _ rfl
theorem spGt_ok {P : Nat → Prop} {lim g : Nat} {base : Bool} {nest : List Value → Hp → Ans} (hlim : ∀ n, P n → lim + 1 ≤ n ∧ (base = true → n = lim + 1)) (hl60 : lim ≤ 60)
    (hnest : ∀ args H v H' r w, H.wf → nest args H = some (v, H', r, w) → @TaskOk (SyN P) Tryz.prog NG (.call g args) H (.k (spKR v H' r w))) : @SpOk (SyN P) Tryz.prog NG (spGt lim base g nest) := by
  letI := SyN P
  intro f args H v H' r w hw h
  unfold spGt at h
  cases h1 : Nat.testBit mkTy f with
  | true => rw [h1, Bc_t] at h; exact np_task h fun h => spTy_ok hw h
  | false =>
  rw [h1, Bc_f] at h
  cases h2 : Nat.testBit mkSy f with
  | true =>
    rw [h2, Bc_t] at h
    refine np_task h fun h => ?_
    cases h3 : Nat.beq f 150 with
    | true => rw [h3, Bc_t] at h; rw [(beq_iff _ _).1 h3]; exact spCmp1_ok (fun n hn => (hlim n hn).1) hw h
    | false =>
    rw [h3, Bc_f] at h
    cases h4 : Nat.beq f 307 with
    | true => rw [h4, Bc_t] at h; rw [(beq_iff _ _).1 h4]; exact spDec1_ok (fun n hn => (hlim n hn).2) hw h
    | false =>
    rw [h4, Bc_f] at h
    exact spSy_ok (base := false) (fun n hn => ⟨by have := (hlim n hn).1; omega, fun h => by cases h⟩) (by omega) hw h
  | false =>
  rw [h2, Bc_f] at h
  cases h3 : Nat.beq f g with
  | true => rw [h3, Bc_t] at h; rw [(beq_iff _ _).1 h3]; exact hnest _ _ _ _ _ _ hw h
  | false =>
  rw [h3, Bc_f] at h
  cases h4 : Nat.testBit mkM f with
  | true => rw [h4, Bc_t] at h; exact np_task h fun h => spM_ok hw h
  | false =>
  rw [h4, Bc_f] at h
  obtain ⟨h5, h⟩ := bc_some h
  rw [(beq_iff _ _).1 h5]; exact np_task h fun h => spMem_ok tb1_ok lp_ok hw h
end
noncomputable def gTab (e k : Nat) : Option Value := Bc (Nat.beq k (199 + e)) (some (.int .u8 1)) none
def gdA (g : GV) : Nat := if g.th then 157 else 139
def gdT (g : GV) : Nat := if g.th then 165 else 147
noncomputable def gBaseB (g : GV) (u : Nat → Value) (e : Nat) : Bool := clB (spGt (Nat.pred e) true 1000000 (fun _ _ => none)) (gTab e) (clGn g e e (u e)) [Nat.add (gN0 g e) (gdA g), Nat.add (gN0 g e) (gdT g)]
def cellV (B : Blk) (i : Nat) : Value := match B with | .cells t _ _ _ _ _ => t.get i | _ => U
noncomputable def gDeep1 (g : GV) (c : Clm) (src : List Nat) (tT : Nat) : TR → Option (Value × Value × Blk) := @TR.rec (fun _ => Option (Value × Value × Blk)) (@KR.rec (fun _ => Option (Value × Value × Blk)) (fun _ => none) (fun _ _ _ _ => none)
  (fun v H r w => Bc (Bc (c.fits NG) (endB tab0 c src (panV v) H r w) false) (some (cellV (H.blk (186 + g.o)) 15, cellV (H.blk (203 + g.o)) 8, H.blk tT)) none) (fun _ _ _ _ => none) (fun _ _ _ _ => none)) (fun _ => none)
noncomputable def gNest (g : GV) (u : Value) (e x c : Nat) (st : Value) (B : Blk) (args : List Value) (H : Hp) : Ans := spC tab0 (clG g e u (gS g e x c) st B) 153 args H
noncomputable def gDeep (g : GV) (u : Value) (e x c : Nat) (st : Value) (B : Blk) : Option (Value × Value × Blk) :=
  gDeep1 g (clG g e u UK UK .no) [gN0 g (Nat.succ e), Nat.succ (gN0 g (Nat.succ e))] (Nat.succ (gN0 g (Nat.succ e))) (F.evK Tb1 (spGt e false 153 (gNest g u (Nat.succ e) x c st B)) 100000 (.call 153 (gArgs g)) (clG g e u UK UK .no).h0 0 0 (fun x => x))
def rF : GV := ⟨false, 0⟩
def rT : GV := ⟨true, 5⟩
def uR (_ : Nat) : Value := nV (-1)
theorem bu {m : Bm} {x : Nat} (h : m.esz = 2) (hx : m.sh = x) : symR m (.int .u8 (Int.ofNat x)) ∧ ∀ v', symR m v' → v' = .int .u8 (Int.ofNat x) := by
  refine ⟨.inr (.inr (.inl ⟨h, by rw [hx]⟩)), fun v' hv => ?_⟩
  rcases hv with ⟨h2, _⟩ | ⟨h2, _⟩ | ⟨_, h2⟩ | ⟨h2, _⟩ | ⟨h2, _⟩ | ⟨h2, _⟩
  case inr.inr.inl => rw [h2, hx]
  all_goals (rw [h] at h2; cases h2)
theorem gTab_ok {e : Nat} (h1 : 1 ≤ e) (h2 : e ≤ 50) : @TabOk (SyN (· = e)) (gTab e) := by
  intro β k v hq h
  obtain ⟨n, rfl, hn, tb⟩ := hq
  unfold gTab at h
  obtain ⟨hk, hv⟩ := bc_some h
  have hk := (beq_iff _ _).1 hk
  have ek := tb k
  rw [bm_B (by omega) (by omega)] at ek
  cases hv
  have e1 : n - (k - 200) = 1 := by omega
  rw [e1] at ek
  exact ⟨_, ek, bu rfl rfl⟩
theorem endB_post {tab : Nat → Option Value} {c : Clm} {src : List Nat} {v' : Value} {H' : Hp} {r' w' : Nat} (h : endB tab c src v' H' r' w' = true) : ∀ x ∈ c.post, covB (covV tab (pmS c.n0 c.n1 src) 12) x.2 (H'.blk (srcOf c.n0 src x.1)) = true := by
  unfold endB at h
  simp only [Bool.and_eq_true, List.all_eq_true] at h
  exact h.2.2.2.2.2.1
theorem covB_own {f : Value → Value → Bool} {l : List Value} {ty : Nat} {y : Blk} (h : covB f (blkL l ty 0) y = true) : ∃ t2, y = .cells t2 l.length ty 0 0 0 := by
  obtain ⟨t, e, _⟩ := blkL_eq l ty 0
  rw [e] at h
  cases y with
  | cells t2 n2 ty2 op2 lo2 hi2 =>
    have h : (Nat.beq ty ty2 && (Nat.beq 0 op2 && (Nat.beq 0 lo2 && (Nat.beq 0 hi2 && ((Nat.beq l.length n2 && (Nat.beq l.length 0 || covT (covLf f) t t2)) || (Nat.blt 0 0 && (Nat.ble l.length n2 && covI (covLf f) t t2 l.length))))))) = true := h
    simp only [Bool.and_eq_true, Bool.or_eq_true, beq_iff, blt_iff, ble_iff] at h
    obtain ⟨h2, h3, h4, h5, h6⟩ := h
    subst h2 h3 h4 h5
    rcases h6 with h6 | h6
    · obtain ⟨rfl, _⟩ := h6
      exact ⟨_, rfl⟩
    · have := h6.1; omega
  | no => cases h
  | obj o => cases h
  | loop => cases h
def r160 : List Nat := List.range 160
set_option maxRecDepth 100000000 in
theorem gB_self (pm : Nat → Nat → Bool) : Nat.beq (Bc (allB (fun x => covB (covV tab0 pm 12) (gB x) (gB x)) r160) 1 0) 1 = true := by kernel_rfl
theorem gB_cov {pm : Nat → Nat → Bool} {x : Nat} (h : x < 160) : covB (covV tab0 pm 12) (gB x) (gB x) = true := allB_mem (bool_of (gB_self pm)) x (List.mem_range.2 h)
theorem gDeep1_inv {g : GV} {c : Clm} {src : List Nat} {tT : Nat} {x : TR} {q : Value × Value × Blk} (h : gDeep1 g c src tT x = some q) : ∃ v H r w, x = .k (.panic v H r w) ∧ c.fits NG = true ∧ endB tab0 c src (panV v) H r w = true ∧ cellV (H.blk (186 + g.o)) 15 = q.1 ∧ cellV (H.blk (203 + g.o)) 8 = q.2.1 ∧ H.blk tT = q.2.2 := by
  cases x with
  | c y => cases h
  | k y =>
    cases y with
    | panic v H r w =>
      have h : Bc (Bc (c.fits NG) (endB tab0 c src (panV v) H r w) false) (some (cellV (H.blk (186 + g.o)) 15, cellV (H.blk (203 + g.o)) 8, H.blk tT)) none = some q := h
      obtain ⟨h1, h2⟩ := bc_some h
      cases h3 : c.fits NG with
      | false => rw [h3, Bc_f] at h1; cases h1
      | true =>
        rw [h3, Bc_t] at h1
        cases h2
        exact ⟨v, H, r, w, rfl, rfl, h1, rfl, rfl, rfl⟩
    | _ => cases h
theorem cellV_cells {t : T Value} {n ty op lo hi i : Nat} : cellV (.cells t n ty op lo hi) i = t.get i := rfl
theorem step_up {n e : Nat} {g : GV} {u : Value} {sp : F.Sp} (hn : n ≤ 50) (hsp : @SpOk (SyN (· = n)) Tryz.prog NG sp)
    (hrun : gDeep1 g (clG g e u UK UK .no) [gN0 g (Nat.succ e), Nat.succ (gN0 g (Nat.succ e))] (Nat.succ (gN0 g (Nat.succ e))) (F.evK Tb1 sp 100000 (.call 153 (gArgs g)) (clG g e u UK UK .no).h0 0 0 (fun x => x)) = some (nV (Int.ofNat (gX g n)), gS g (Nat.succ e) (gX g n) (2 * gX g n + 1), gB (gX g n))) :
    @ClOk (SyN (· = n)) Tryz.prog NG (clGn g n e u) ∧ Fits NG (clGn g n e u) := by
  letI := SyN (· = n)
  obtain ⟨v, H, r, w, hev, hf, he, q1, q2, q3⟩ := gDeep1_inv hrun
  simp only at q1 q2 q3
  have hf' : (clGn g n e u).fits NG = true := hf
  have Ft := Clm.fits_ok hf'
  have hev := Ev.F.evK_panic drAll_ok hev
  have t := ev_ok tb1_ok lp_ok hsp 100000 (.call 153 (gArgs g)) (clG g e u UK UK .no).h0 (show gN0 g e ≤ 32768 from Nat.le_trans Ft.le Ft.n1)
  rw [hev] at t
  have E := endB_ok tab0_ok he
  have hpost := endB_post he
  have hsrc : srcOf (gN0 g e) [gN0 g (Nat.succ e), Nat.succ (gN0 g (Nat.succ e))] (gN0 g e + 1) = Nat.succ (gN0 g (Nat.succ e)) := by
    rw [src_new (by omega)]
    rw [show gN0 g e + 1 - gN0 g e = 1 from by omega]; rfl
  have hlt : gN0 g e ≤ gN0 g (Nat.succ e) := by unfold gN0; omega
  have hb1 : (186 + g.o) < gN0 g e := by
    have := Ft.pre (186 + g.o, blkL (gSt g (sl (gA g e) e (2 * e + 1)) (8 * e + 10) (nV (3 * e)) 30) 130 0) (by show _ ∈ gPre g e u; unfold gPre; simp)
    exact this
  have hb2 : (203 + g.o) < gN0 g e := by
    have := Ft.pre (203 + g.o, blkL (gMa g (sl (gT g e) (3 * e) (6 * e + 1)) u) 98 0) (by show _ ∈ gPre g e u; unfold gPre; simp)
    exact this
  have E' : EndOk tab0 (clGn g n e u) [gN0 g (Nat.succ e), Nat.succ (gN0 g (Nat.succ e))] (panV v) H r w := by
    refine E.more (c' := clGn g n e u) ⟨rfl, rfl, rfl, rfl, rfl, rfl, rfl, rfl⟩ ?_ ?_
    · intro s hs
      show gN0 g e ≤ s
      simp only [List.mem_cons, List.mem_nil_iff, or_false] at hs
      rcases hs with rfl | rfl <;> omega
    · intro x hx
      have hx : x ∈ gPost g e u (gS g e (gX g n) (2 * gX g n + 1)) (nV (Int.ofNat (gX g n))) (gB (gX g n)) := hx
      have hm : ∀ y ∈ gPost g e u UK UK .no, PCov (pmS (gN0 g e) (gN0 g e + 2) [gN0 g (Nat.succ e), Nat.succ (gN0 g (Nat.succ e))]) y.2 (H.blk (srcOf (gN0 g e) [gN0 g (Nat.succ e), Nat.succ (gN0 g (Nat.succ e))] y.1)) := fun y hy => E.post y hy
      have hc : ∀ y ∈ gPost g e u UK UK .no, covB (covV tab0 (pmS (gN0 g e) (gN0 g e + 2) [gN0 g (Nat.succ e), Nat.succ (gN0 g (Nat.succ e))]) 12) y.2 (H.blk (srcOf (gN0 g e) [gN0 g (Nat.succ e), Nat.succ (gN0 g (Nat.succ e))] y.1)) = true := fun y hy => hpost y hy
      show PCov (pmS (gN0 g e) (gN0 g e + 2) [gN0 g (Nat.succ e), Nat.succ (gN0 g (Nat.succ e))]) x.2 (H.blk (srcOf (gN0 g e) [gN0 g (Nat.succ e), Nat.succ (gN0 g (Nat.succ e))] x.1))
      unfold gPost at hx hm hc
      simp only [List.mem_cons, List.mem_nil_iff, or_false, forall_eq_or_imp, forall_eq] at hx hm hc
      obtain ⟨m1, m2, m3, m4, m5, m6, m7⟩ := hm
      obtain ⟨c1, c2, c3, c4, c5, c6, c7⟩ := hc
      rcases hx with rfl | rfl | rfl | rfl | rfl | rfl | rfl
      · simp only at m1 c1 ⊢
        rw [src_old hb1] at m1 c1 ⊢
        obtain ⟨t2, ht2⟩ := covB_own c1
        rw [ht2, cellV_cells] at q1
        exact m1.cell (i := 15) rfl (by show 15 < 22; decide) (fun j hj => by
          match j, hj with
          | 0, _ => rfl | 1, _ => rfl | 2, _ => rfl | 3, _ => rfl | 4, _ => rfl | 5, _ => rfl | 6, _ => rfl | 7, _ => rfl | 8, _ => rfl | 9, _ => rfl | 10, _ => rfl | 11, _ => rfl | 12, _ => rfl | 13, _ => rfl | 14, _ => rfl
          | 15, h => exact absurd rfl h
          | k + 16, _ => rfl) rfl rfl ht2 (by show 15 < 22; decide) q1 (fun β β' w hm hq h => covV_ok tab0_ok hm hq 12 _ _ _ (by simp [covV, nV, eqK, eqI_eq]) h)
      · exact m2
      · exact m3
      · simp only at m4 c4 ⊢
        rw [src_old hb2] at m4 c4 ⊢
        obtain ⟨t2, ht2⟩ := covB_own c4
        rw [ht2, cellV_cells] at q2
        exact m4.cell (i := 8) rfl (by show 8 < 10; decide) (fun j hj => by
          match j, hj with
          | 0, _ => rfl | 1, _ => rfl | 2, _ => rfl | 3, _ => rfl | 4, _ => rfl | 5, _ => rfl | 6, _ => rfl | 7, _ => rfl
          | 8, h => exact absurd rfl h
          | k + 9, _ => rfl) rfl rfl ht2 (by show 8 < 10; decide) q2 (fun β β' w hm hq h => covV_ok tab0_ok hm hq 12 _ _ _ (by
            have hp : pmS (gN0 g e) (gN0 g e + 2) [gN0 g (Nat.succ e), Nat.succ (gN0 g (Nat.succ e))] (gN0 g e + 1) (gN0 g (Nat.succ e) + 1) = true := by
              unfold pmS
              rw [hsrc]
              simp only [Bool.and_eq_true, blt_iff, beq_iff, Bool.or_true, and_true]
              exact Nat.lt_succ_self _
            show (pmS _ _ _ _ _ && Nat.beq 0 0 && Nat.beq (gX g n) (gX g n) && (Nat.beq (2 * gX g n + 1) (2 * gX g n + 1) || _)) = true
            rw [hp, (beq_iff (gX g n) (gX g n)).2 rfl, (beq_iff (2 * gX g n + 1) (2 * gX g n + 1)).2 rfl]; rfl) h)
      · exact m5
      · exact m6
      · simp only
        rw [hsrc, q3]
        exact PCov.of_cov tab0_ok (gB_cov (by unfold gX; split <;> omega))
  exact ⟨ClOk.of_run tab0_ok Ft E' rfl t, Ft⟩
end Go.Proofs.MN
end
noncomputable section
namespace Go.Ev.SM
def gTin (g : GV) (e i : Nat) : Nat := if i = 0 then gT g e else if i = 1 then gN0 g e + 16 else gN0 g e + 62
def gNin (g : GV) (e i : Nat) : Nat := gN0 g e + (if i = 0 then 15 else if i = 1 then 61 else 129)
def gNo (i : Nat) : Nat := if i = 0 then 30 else 10 * i
def gStPre (g : GV) (e i : Nat) (u : Value) : List (Nat × Blk) := [(186 + g.o, blkL (gSt g (sl (gN0 g e + 8) (e + 1) (2 * e + 3)) (8 * e + 18) (nV (Int.ofNat (3 * e + i))) (gNo i)) 130 0), (203 + g.o, blkL (gMa g (sl (gTin g e i) (3 * e + i) (6 * e + 2 * i + 1)) u) 98 0), (gTin g e i, blkL (List.replicate (3 * e + i) UK) 3 2)]
def gStPost (g : GV) (e i : Nat) (u : Value) : List (Nat × Blk) := [(186 + g.o, blkL (gSt g (sl (gN0 g e + 8) (e + 1) (2 * e + 3)) (8 * e + 18) (nV (Int.ofNat (3 * e + i + 1))) (gNo (i + 1))) 130 0), (203 + g.o, blkL (gMa g (sl (gNin g e i + 1) (3 * e + i + 1) (6 * e + 2 * i + 3)) u) 98 0), (gTin g e i, .no), (gNin g e i, .no), (gNin g e i + 1, blkL (List.replicate (3 * e + i + 1) UK) 3 2)]
def clS (g : GV) (e i : Nat) (u : Value) : Clm := ⟨225, [pt (203 + g.o), nV (Int.ofNat (gNo (i + 1)))], gStPre g e i u, gNin g e i, .tuple #[], gStPost g e i u, gNin g e i + 2, maskL [186 + g.o, 203 + g.o, gTin g e i], maskL [186 + g.o, 203 + g.o, gTin g e i]⟩
def spStep (g : GV) (e : Nat) (u : Value) (args : List Value) (H : Hp) : Ans := match spC (fun _ => none) (clS g e 0 u) 225 args H with
  | some x => some x
  | none => (match spC (fun _ => none) (clS g e 1 u) 225 args H with
    | some x => some x
    | none => spC (fun _ => none) (clS g e 2 u) 225 args H)
def gU (g : GV) : Value := sy (if g.th then 401 else 400)
def gTot (g : GV) (n : Nat) : Nat := gX g n + 1
def wF : GV := ⟨false, 184⟩
def wT : GV := ⟨true, 189⟩
end Go.Ev.SM
end
noncomputable section
namespace Go.Proofs.MN
open Go Go.Ev Go.Proofs Go.Ev.SM
noncomputable def zipB (f : Value → Value → Bool) : List (Nat × Blk) → List (Nat × Blk) → Bool
  | [], [] => true
  | x :: l, y :: l' => Nat.beq x.1 y.1 && (covB f x.2 y.2 && zipB f l l')
  | _, _ => false
noncomputable def gStep1 (g : GV) (c c' : Clm) (src : List Nat) : TR → Option Value := @TR.rec (fun _ => Option Value) (@KR.rec (fun _ => Option Value) (fun _ => none)
  (fun v H r w => Bc (Bc (noP v) (Bc (c.fits NG) (Bc (zipB (covV tab0 (pm0 c.n0) 12) c.pre c'.pre) (endB tab0 c src v H r w) false) false) false) (some (cellV (H.blk (203 + g.o)) 9)) none)
  (fun _ _ _ _ => none) (fun _ _ _ _ => none) (fun _ _ _ _ => none)) (fun _ => none)
noncomputable def gStepR (g : GV) (e i : Nat) (u : Value) : Option Value := gStep1 g (clS g e i UK) (clS g e i u) [gNin g e i, Nat.succ (gNin g e i)] (F.evK Tb1 (fun _ _ _ => none) 100000 (.call 225 (clS g e i u).args) (clS g e i u).h0 0 0 (fun x => x))
def uD (d e i : Nat) : Value := .int .i64 (.ofNat (Nat.add d (3 * e + i + 2)))
noncomputable def spGw (g : GV) (e : Nat) (nest : List Value → Hp → Ans) (f : Nat) (args : List Value) (H : Hp) : Ans := Bc (Nat.beq f 225) (spStep g e (gU g) args H) (spGt e false 153 nest f args H)
noncomputable def gDeepW (g : GV) (e x c : Nat) (st : Value) (B : Blk) : Option (Value × Value × Blk) :=
  gDeep1 g (clG g e (gU g) UK UK .no) [gN0 g (Nat.succ e), Nat.succ (gN0 g (Nat.succ e))] (Nat.succ (gN0 g (Nat.succ e))) (F.evK Tb1 (spGw g e (gNest g (gU g) (Nat.succ e) x c st B)) 100000 (.call 153 (gArgs g)) (clG g e (gU g) UK UK .no).h0 0 0 (fun x => x))
def uW (g : GV) (e : Nat) : Value := nV (Int.ofNat (gTot g e))
theorem gMa_len (g : GV) (s u : Value) : (gMa g s u).length = 10 := rfl
theorem gMa_get (g : GV) (s u v : Value) (j : Nat) (h : j ≠ 9) : (gMa g s u)[j]? = (gMa g s v)[j]? := by
  match j, h with
  | 0, _ => rfl | 1, _ => rfl | 2, _ => rfl | 3, _ => rfl | 4, _ => rfl | 5, _ => rfl | 6, _ => rfl | 7, _ => rfl | 8, _ => rfl
  | 9, h => exact absurd rfl h
  | k + 10, _ => rfl
theorem blkL_no {l : List Value} {ty op : Nat} : blkL l ty op ≠ .no := by
  obtain ⟨t, e, _⟩ := blkL_eq l ty op
  rw [e]; intro h; cases h
theorem ma_cov [SyQ] {pm : Nat → Nat → Bool} {g : GV} {s u v : Value} {y : Blk} {t2 : T Value} {n2 : Nat} (h : PCov pm (blkL (gMa g s v) 98 0) y) (hu : oneC u = true) (hy : y = .cells t2 10 98 0 0 0) {v' : Value} (hg : t2.get 9 = v') (hvv : ∀ β β' w, MapOk pm β β' → SyQ.Q β → VRel β v' w → VRel β' u w) : PCov pm (blkL (gMa g s u) 98 0) y :=
  h.cell (i := 9) rfl (by show 9 < 10; decide) (fun j hj => gMa_get g s u v j hj) rfl hu hy (by decide) hg hvv
theorem ma_get [SyQ] (g : GV) (s u : Value) : ∃ t, blkL (gMa g s u) 98 0 = .cells t 10 98 0 0 0 ∧ t.get 9 = u := by
  obtain ⟨t, e, h⟩ := blkL_eq (gMa g s u) 98 0
  exact ⟨t, e, h 9 u rfl⟩
theorem gU_sym {n : Nat} {β : Mp} (g : GV) (tb : Tbl n β) : ∃ k, gU g = sy k ∧ β (SY + k) = some ⟨0, gTot g n, 0, 0⟩ := by
  unfold gU gTot gX
  cases g.th with
  | false => exact ⟨400, rfl, by rw [tb 400, bm_T]; rfl⟩
  | true => exact ⟨401, rfl, by rw [tb 401, bm_T1]; rfl⟩
theorem ma_to (g : GV) (s : Value) (n : Nat) : @BImp (SyN (· = n)) (blkL (gMa g s (gU g)) 98 0) (blkL (gMa g s (uW g n)) 98 0) := by
  letI := SyN (· = n)
  obtain ⟨t, e, h⟩ := ma_get g s (gU g)
  refine PCov.imp (ma_cov (n2 := 10) (PCov.refl _) rfl e h fun β β' w hm hq hv => ?_) blkL_no blkL_no
  obtain ⟨m, rfl, hn, tb⟩ := hq
  obtain ⟨k, ek, eb⟩ := gU_sym g tb
  rw [ek] at hv
  rw [int_of eb hv]
  exact .int _ _
theorem ma_fro (g : GV) (s : Value) (n : Nat) : @BImp (SyN (· = n)) (blkL (gMa g s (uW g n)) 98 0) (blkL (gMa g s (gU g)) 98 0) := by
  letI := SyN (· = n)
  obtain ⟨t, e, h⟩ := ma_get g s (uW g n)
  refine PCov.imp (ma_cov (n2 := 10) (PCov.refl _) (by unfold gU; rfl) e h fun β β' w hm hq hv => ?_) blkL_no blkL_no
  obtain ⟨m, rfl, hn, tb⟩ := hq
  obtain ⟨k, ek, eb⟩ := gU_sym g tb
  have hv : VRel β (nV (Int.ofNat (gTot g m))) w := hv
  rw [flat_eq 10 _ _ rfl hv, ek]
  exact of_int (hm.sy k _ eb)
theorem zipB_inv {f : Value → Value → Bool} : ∀ {l l' : List (Nat × Blk)}, zipB f l l' = true → ∀ x ∈ l, ∃ B, (x.1, B) ∈ l' ∧ covB f x.2 B = true
  | [], [], _, x, hx => by cases hx
  | [], _ :: _, h, _, _ => by cases h
  | _ :: _, [], h, _, _ => by cases h
  | a :: l, b :: l', h, x, hx => by
    simp only [zipB, Bool.and_eq_true, beq_iff] at h
    rcases List.mem_cons.1 hx with rfl | hx
    · exact ⟨b.2, by rw [h.1]; exact List.mem_cons_self, h.2.1⟩
    · obtain ⟨B, h1, h2⟩ := zipB_inv h.2.2 x hx
      exact ⟨B, List.mem_cons_of_mem _ h1, h2⟩
theorem gStep1_inv [SyQ] {g : GV} {c c' : Clm} {src : List Nat} {x : TR} {q : Value} (h : gStep1 g c c' src x = some q) : ∃ v H r w, x = .k (.ret v H r w) ∧ unPan v = none ∧ c.fits NG = true ∧ zipB (covV tab0 (pm0 c.n0) 12) c.pre c'.pre = true ∧ endB tab0 c src v H r w = true ∧ cellV (H.blk (203 + g.o)) 9 = q := by
  cases x with
  | c y => cases h
  | k y =>
    cases y with
    | ret v H r w =>
      have h : Bc (Bc (noP v) (Bc (c.fits NG) (Bc (zipB (covV tab0 (pm0 c.n0) 12) c.pre c'.pre) (endB tab0 c src v H r w) false) false) false) (some (cellV (H.blk (203 + g.o)) 9)) none = some q := h
      obtain ⟨h1, h2⟩ := bc_some h
      cases h3 : noP v with
      | false => rw [h3, Bc_f] at h1; cases h1
      | true =>
      rw [h3, Bc_t] at h1
      cases h4 : c.fits NG with
      | false => rw [h4, Bc_f] at h1; cases h1
      | true =>
      rw [h4, Bc_t] at h1
      cases h5 : zipB (covV tab0 (pm0 c.n0) 12) c.pre c'.pre with
      | false => rw [h5, Bc_f] at h1; cases h1
      | true =>
        rw [h5, Bc_t] at h1
        exact ⟨v, H, r, w, rfl, noP_t h3, rfl, rfl, h1, Option.some.inj h2⟩
    | _ => cases h
theorem step_num [SyQ] {g : GV} {e i m : Nat} (hrun : gStepR g e i (nV (Int.ofNat m)) = some (nV (Int.ofNat m))) : ClOk Tryz.prog NG (clS g e i (nV (Int.ofNat m))) ∧ Fits NG (clS g e i (nV (Int.ofNat m))) := by
  obtain ⟨v, H, r, w, hev, hp, hf, hz, he, hq⟩ := gStep1_inv hrun
  have hf' : (clS g e i (nV (Int.ofNat m))).fits NG = true := hf
  have Ft := Clm.fits_ok hf'
  have hev := Ev.F.evK_ret drAll_ok hev
  have t := ev_ok tb1_ok lp_ok (spNo_ok Tryz.prog Tb1.ng) 100000 (.call 225 (clS g e i (nV (Int.ofNat m))).args) (clS g e i (nV (Int.ofNat m))).h0 (show gNin g e i ≤ 32768 from Nat.le_trans Ft.le Ft.n1)
  rw [hev] at t
  have E := endB_ok tab0_ok he
  have hpost := endB_post he
  have hz2 := zipB_inv hz
  have hb2 : (203 + g.o) < gNin g e i := Ft.pre (203 + g.o, blkL (gMa g (sl (gTin g e i) (3 * e + i) (6 * e + 2 * i + 1)) (nV (Int.ofNat m))) 98 0) (by show _ ∈ gStPre g e i _; unfold gStPre; simp)
  have E' : EndOk tab0 (clS g e i (nV (Int.ofNat m))) [gNin g e i, Nat.succ (gNin g e i)] v H r w := by
    refine E.swap (c' := clS g e i (nV (Int.ofNat m))) ⟨rfl, rfl, rfl, rfl, rfl, rfl, rfl⟩ ?_ ?_ ?_ ?_ ?_
    · intro x hx
      obtain ⟨B, h1, _⟩ := hz2 x hx
      exact ⟨B, h1⟩
    · intro x hx
      have hx : x ∈ gStPre g e i (nV (Int.ofNat m)) := hx
      unfold gStPre at hx
      simp only [List.mem_cons, List.mem_nil_iff, or_false] at hx
      rcases hx with rfl | rfl | rfl <;> simp only [ne_eq] <;> exact blkL_no
    · intro x hx
      have hs : ∀ y ∈ gStPre g e i UK, PCov (pm0 (gNin g e i)) y.2 y.2 := fun y hy => E.self y hy
      have hc : ∀ y ∈ gStPre g e i UK, ∃ B, (y.1, B) ∈ gStPre g e i (nV (Int.ofNat m)) ∧ covB (covV tab0 (pm0 (gNin g e i)) 12) y.2 B = true := fun y hy => hz2 y hy
      have hx : x ∈ gStPre g e i (nV (Int.ofNat m)) := hx
      show PCov (pm0 (gNin g e i)) x.2 x.2
      have hz3 : zipB (covV tab0 (pm0 (gNin g e i)) 12) (gStPre g e i UK) (gStPre g e i (nV (Int.ofNat m))) = true := hz
      unfold gStPre at hx hs hz3
      simp only [List.mem_cons, List.mem_nil_iff, or_false, forall_eq_or_imp, forall_eq] at hx hs
      simp only [zipB, Bool.and_eq_true] at hz3
      obtain ⟨s1, s2, s3⟩ := hs
      rcases hx with rfl | rfl | rfl
      · exact s1
      · obtain ⟨t, e1, h1⟩ := ma_get g (sl (gTin g e i) (3 * e + i) (6 * e + 2 * i + 1)) (nV (Int.ofNat m))
        exact ma_cov (n2 := 10) (PCov.of_cov tab0_ok hz3.2.2.2.1) rfl e1 h1 fun β β' w hm hq hv => by rw [flat_eq 10 _ _ rfl hv]; exact .int _ _
      · exact s3
    · intro s hs
      show gNin g e i ≤ s
      simp only [List.mem_cons, List.mem_nil_iff, or_false] at hs
      rcases hs with rfl | rfl <;> omega
    · intro x hx
      have hm : ∀ y ∈ gStPost g e i UK, PCov (pmS (gNin g e i) (gNin g e i + 2) [gNin g e i, Nat.succ (gNin g e i)]) y.2 (H.blk (srcOf (gNin g e i) [gNin g e i, Nat.succ (gNin g e i)] y.1)) := fun y hy => E.post y hy
      have hc : ∀ y ∈ gStPost g e i UK, covB (covV tab0 (pmS (gNin g e i) (gNin g e i + 2) [gNin g e i, Nat.succ (gNin g e i)]) 12) y.2 (H.blk (srcOf (gNin g e i) [gNin g e i, Nat.succ (gNin g e i)] y.1)) = true := fun y hy => hpost y hy
      have hx : x ∈ gStPost g e i (nV (Int.ofNat m)) := hx
      show PCov (pmS (gNin g e i) (gNin g e i + 2) [gNin g e i, Nat.succ (gNin g e i)]) x.2 (H.blk (srcOf (gNin g e i) [gNin g e i, Nat.succ (gNin g e i)] x.1))
      unfold gStPost at hx hm hc
      simp only [List.mem_cons, List.mem_nil_iff, or_false, forall_eq_or_imp, forall_eq] at hx hm hc
      obtain ⟨m1, m2, m3, m4, m5⟩ := hm
      obtain ⟨c1, c2, c3, c4, c5⟩ := hc
      rcases hx with rfl | rfl | rfl | rfl | rfl
      · exact m1
      · simp only at m2 c2 ⊢
        rw [src_old hb2] at m2 c2 ⊢
        obtain ⟨t2, ht2⟩ := covB_own c2
        rw [ht2, cellV_cells] at hq
        exact ma_cov (n2 := 10) m2 rfl ht2 hq fun β β' w hm hq hv => by rw [flat_eq 10 _ _ rfl hv]; exact .int _ _
      · exact m3
      · exact m4
      · exact m5
  exact ⟨ClOk.of_run tab0_ok Ft E' (by rw [hp]; rfl) (by unfold spKR; rw [hp]; exact t), Ft⟩
theorem step_sym {g : GV} {e i n : Nat} (hrun : ∀ d, gStepR g e i (uD d e i) = some (uD d e i)) (hi : i < 3) (hn : e < n) : @ClOk (SyN (· = n)) Tryz.prog NG (clS g e i (gU g)) ∧ Fits NG (clS g e i (gU g)) := by
  letI := SyN (· = n)
  have h1 := hrun (gTot g n - (3 * e + i + 2))
  have e1 : uD (gTot g n - (3 * e + i + 2)) e i = nV (Int.ofNat (gTot g n)) := by
    unfold uD
    show Value.int .i64 (.ofNat (gTot g n - (3 * e + i + 2) + (3 * e + i + 2))) = _
    rw [Nat.sub_add_cancel (by unfold gTot gX; split <;> omega)]; rfl
  rw [e1] at h1
  obtain ⟨ok, Ft⟩ := step_num h1
  have F2 : Fits NG (clS g e i (gU g)) := ⟨Ft.ng, Ft.le, Ft.n1, Ft.r, Ft.w, fun x hx => by
      have hx : x ∈ gStPre g e i (gU g) := hx
      have hf : ∀ y ∈ gStPre g e i (nV (Int.ofNat (gTot g n))), y.1 < gNin g e i := fun y hy => Ft.pre y hy
      unfold gStPre at hx hf
      simp only [List.mem_cons, List.mem_nil_iff, or_false, forall_eq_or_imp, forall_eq] at hx hf
      rcases hx with rfl | rfl | rfl
      · exact hf.1
      · exact hf.2.1
      · exact hf.2.2, fun x hx => by
      have hx : x ∈ gStPost g e i (gU g) := hx
      have hf : ∀ y ∈ gStPost g e i (nV (Int.ofNat (gTot g n))), y.1 < gNin g e i + 2 ∧ (gNin g e i ≤ y.1 ∨ (clS g e i (nV (Int.ofNat (gTot g n)))).w.testBit y.1 = true) := fun y hy => Ft.post y hy
      unfold gStPost at hx hf
      simp only [List.mem_cons, List.mem_nil_iff, or_false, forall_eq_or_imp, forall_eq] at hx hf
      rcases hx with rfl | rfl | rfl | rfl | rfl
      · exact hf.1
      · exact hf.2.1
      · exact hf.2.2.1
      · exact hf.2.2.2.1
      · exact hf.2.2.2.2, fun x hx hw => by
      have hx : x ∈ gStPre g e i (gU g) := hx
      have key : ∀ b, (gStPost g e i (gU g)).any (fun y => Nat.beq y.1 b) = true → ∃ B, lkB (clS g e i (gU g)).post b = some B := fun b hb => lkB_some hb
      unfold gStPre at hx
      simp only [List.mem_cons, List.mem_nil_iff, or_false] at hx
      apply key
      unfold gStPost
      simp only [List.any_cons, Bool.or_eq_true, beq_iff]
      rcases hx with rfl | rfl | rfl
      · exact .inl rfl
      · exact .inr (.inl rfl)
      · exact .inr (.inr (.inl rfl)), fun b h1 h2 => by
      have h1 : gNin g e i ≤ b := h1
      have h2 : b < gNin g e i + 2 := h2
      refine lkB_some ?_
      show (gStPost g e i (gU g)).any _ = true
      unfold gStPost
      simp only [List.any_cons, Bool.or_eq_true, beq_iff]
      right; right; right
      rcases (show b = gNin g e i ∨ b = gNin g e i + 1 from by omega) with rfl | rfl
      · exact .inl rfl
      · exact .inr (.inl rfl)⟩
  refine ⟨ClOk.conv (c := clS g e i (nV (Int.ofNat (gTot g n)))) (c2 := clS g e i (gU g)) ⟨rfl, rfl, rfl, rfl, rfl, rfl, rfl⟩ Ft F2 ?_ ?_ ok, F2⟩
  · exact ⟨rfl, BImp.refl _, rfl, ma_to g _ n, rfl, BImp.refl _, trivial⟩
  · exact ⟨rfl, BImp.refl _, rfl, ma_fro g _ n, rfl, BImp.refl _, rfl, BImp.refl _, rfl, BImp.refl _, trivial⟩
end Go.Proofs.MN
end
