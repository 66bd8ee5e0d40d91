/-
  A part of the proof that pliantlaw16.MeanConditions returns true and leaves its arguments alone. Conditions: those of the card in the last text.
-/
import Derived.KernelRfl
import Derived.Laws.Externs
import Derived.Test.YtdmcanlbncbemaaGreatDoorG07
import Derived.Test.YtdmcanlbncbemaaGreatDoorG09
import Derived.Test.YtdmcanlbncbemaaGreatDoorG13
set_option linter.unusedSimpArgs false
set_option linter.unusedVariables false
set_option linter.unusedSectionVars false
noncomputable section
namespace Go.Proofs.MN
open Go Go.Ev Go.Proofs Go.Ev.SM
theorem bool_of {b : Bool} (h : Nat.beq (Bc b 1 0) 1 = true) : b = true := by cases b <;> first | rfl | cases h
theorem allB_mem {f : Nat → Bool} : ∀ {l : List Nat}, allB f l = true → ∀ x ∈ l, f x = true
  | [], _, x, hx => by cases hx
  | y :: l, h, x, hx => by
    have h : Bc (f y) (allB f l) false = true := h
    cases e : f y with
    | false => rw [e, Bc_f] at h; cases h
    | true =>
      rw [e, Bc_t] at h
      rcases List.mem_cons.1 hx with rfl | hx
      · exact e
      · exact allB_mem h x hx
theorem allC_mem [SyO] {sp : F.Sp} : ∀ {l : List Clm}, allC sp l = true → ∀ c ∈ l, clB sp tab0 c [] = true
  | [], _, x, hx => by cases hx
  | y :: l, h, x, hx => by
    have h : Bc (clB sp tab0 y []) (allC sp l) false = true := h
    cases e : clB sp tab0 y [] with
    | false => rw [e, Bc_f] at h; cases h
    | true =>
      rw [e, Bc_t] at h
      rcases List.mem_cons.1 hx with rfl | hx
      · exact e
      · exact allC_mem h x hx
variable [SyQ]
theorem lp_ok : LpOk Tryz.prog Tb1 := LpOk.none fun _ _ => rfl
theorem noP_t {v : Value} (h : noP v = true) : unPan v = none := by
  unfold noP at h
  split at h
  · assumption
  · cases h
theorem noP_f {v : Value} (h : noP v = false) : (unPan v).isSome = true := by
  unfold noP at h
  split at h
  · cases h
  · rename_i x e; rw [e]; rfl
theorem clB_fits {sp : F.Sp} {tab : Nat → Option Value} {c : Clm} {src : List Nat} (h : clB sp tab c src = true) : ∃ v H r w, F.evK Tb1 sp 100000 (.call c.f c.args) c.h0 0 0 (fun x => x) = .k (spKR v H r w) ∧ (unPan c.v).isSome = (unPan v).isSome ∧ c.fits NG = true ∧ endB tab c src v H r w = true := by
  unfold clB at h
  generalize hx : F.evK Tb1 sp 100000 (.call c.f c.args) c.h0 0 0 (fun x => x) = x at h
  cases x with
  | c y => cases h
  | k y =>
    cases y with
    | ret v H r w =>
      have h : Bc (noP v) (Bc (noP c.v) (Bc (c.fits NG) (endB tab c src v H r w) false) false) false = true := h
      cases e1 : noP v with
      | false => rw [e1, Bc_f] at h; cases h
      | true =>
      rw [e1, Bc_t] at h
      cases e2 : noP c.v with
      | false => rw [e2, Bc_f] at h; cases h
      | true =>
      rw [e2, Bc_t] at h
      cases e : c.fits NG with
      | false => rw [e, Bc_f] at h; cases h
      | true => rw [e, Bc_t] at h; exact ⟨v, H, r, w, by unfold spKR; rw [noP_t e1], by rw [noP_t e1, noP_t e2], rfl, h⟩
    | panic v H r w =>
      have h : Bc (noP c.v) false (Bc (c.fits NG) (endB tab c src (panV v) H r w) false) = true := h
      cases e2 : noP c.v with
      | true => rw [e2, Bc_t] at h; cases h
      | false =>
      rw [e2, Bc_f] at h
      cases e : c.fits NG with
      | false => rw [e, Bc_f] at h; cases h
      | true => rw [e, Bc_t] at h; exact ⟨panV v, H, r, w, rfl, by rw [noP_f e2]; rfl, rfl, h⟩
    | _ => cases h
theorem evK_kr {sp : F.Sp} {f : FuncId} {args : List Value} {H : Hp} {v : Value} {H' : Hp} {r w : Nat} (h : F.evK Tb1 sp 100000 (.call f args) H 0 0 (fun x => x) = .k (spKR v H' r w)) : ev Tb1 sp 100000 (.call f args) H = .k (spKR v H' r w) := by
  unfold spKR at h ⊢
  cases e : unPan v with
  | none => rw [e] at h; exact Ev.F.evK_ret drAll_ok h
  | some x => rw [e] at h; exact Ev.F.evK_panic drAll_ok h
theorem clB_ok {sp : F.Sp} (hsp : SpOk Tryz.prog NG sp) {tab : Nat → Option Value} (ht : TabOk tab) {c : Clm} {src : List Nat} (h : clB sp tab c src = true) : ClOk Tryz.prog NG c ∧ Fits NG c := by
  obtain ⟨v, H, r, w, hr, hp, hf, he⟩ := clB_fits h
  have Ft := Clm.fits_ok hf
  have hev := evK_kr hr
  have t := ev_ok tb1_ok lp_ok hsp 100000 (.call c.f c.args) c.h0 (show c.n0 ≤ 32768 from Nat.le_trans Ft.le Ft.n1)
  rw [hev] at t
  exact ⟨ClOk.of_run ht Ft (endB_ok ht he) hp t, Ft⟩
theorem np_inv {x : Ans} {v : Value} {q : Hp × Nat × Nat} (h : npS x = some (v, q)) : x = some (v, q) ∧ unPan v = none := by
  unfold npS at h
  split at h
  · split at h
    · cases h; exact ⟨rfl, by assumption⟩
    · cases h
  · cases h
theorem TaskOk.kr {f : FuncId} {args : List Value} {H H' : Hp} {v : Value} {r w : Nat} (h : TaskOk Tryz.prog NG (.call f args) H (.k (.ret v H' r w))) (hv : unPan v = none) : TaskOk Tryz.prog NG (.call f args) H (.k (spKR v H' r w)) := by
  unfold spKR; rw [hv]; exact h
theorem np_task {f : FuncId} {args : List Value} {H H' : Hp} {v : Value} {r w : Nat} {x : Ans} (h : npS x = some (v, H', r, w)) (hx : x = some (v, H', r, w) → TaskOk Tryz.prog NG (.call f args) H (.k (.ret v H' r w))) : TaskOk Tryz.prog NG (.call f args) H (.k (spKR v H' r w)) := TaskOk.kr (hx (np_inv h).1) (np_inv h).2
theorem noEsc_run (x : Value) (W : World) : (callFunc 367 #[x]).run Tryz.prog W = .ok (.value x) W := by
  have h := run_callFunc_extern (e := Extern.AbiNoEscape.same) Tryz.func367 (by kernel_rfl) (by kernel_rfl) (by kernel_rfl) (by kernel_rfl) #[x] W
  rw [h]; rfl
theorem spM_ok {f : Nat} {args : List Value} {H H' : Hp} {v : Value} {r w : Nat} (hw : H.wf) (h : spM f args H = some (v, H', r, w)) : TaskOk Tryz.prog NG (.call f args) H (.k (.ret v H' r w)) := by
  unfold spM at h
  cases h1 : Nat.beq f 367 with
  | true =>
    rw [h1, Bc_t] at h
    rw [(beq_iff _ _).1 h1]
    exact spNoEsc_ok noEsc_run hw h
  | false =>
    rw [h1, Bc_f] at h
    obtain ⟨h2, h⟩ := bc_some h
    rw [(beq_iff _ _).1 h2]
    exact spMake_ok (ps := Tryz.f446.params) (t := 126) (u8 := 5) (by kernel_rfl) Tryz.func446 (by kernel_rfl) (by kernel_rfl) (by kernel_rfl) (by kernel_rfl) h
theorem sp0_ok : SpOk Tryz.prog NG sp0 := fun f args H v H' r w hw h => by
  unfold sp0 at h
  obtain ⟨_, h⟩ := bc_some h
  exact np_task h fun h => spM_ok hw h
theorem fn54 : Tb1.fn 54 = some Tryz.f54 := by kernel_rfl
theorem lnew_comp1 : kcomp Tb1 Tryz.f54.ntmps ((Tryz.f54.body).getD .skip) = .seq (.reg [⟨some 0, none, .mv (.const (.pointer none))⟩]) (.seq (.reg [⟨some 1, none, .build zMem []⟩, ⟨some 2, none, .box 199 (.tmp 1)⟩, ⟨some 0, none, .mv (.tmp 2)⟩]) .ret) := by kernel_rfl
theorem room_box {H : Hp} (hr : H.room = true) (vs : List Value) (ty : Nat) : exFill (cellsO (.agg ⟨vs⟩)) (fun l => alloc1 (blkL l ty 0) H ptrTo 0 0) = .val (.pointer (some ⟨H.nx, 0, none⟩)) (H.push (blkL vs ty 0)) 0 0 := alloc1_room hr _ _ _ _
section
variable {sp : Nat → List Value → Hp → Option (Value × Hp × Nat × Nat)} {e : Env}
set_option maxRecDepth 10000 in
theorem lnew_ok (hs : ∀ args H, sp 54 args H = none) {H : Hp} (hr : H.room = true) : EC Tb1 sp e 54 [] H fun v H' => v = .pointer (some ⟨H.nx, 0, none⟩) ∧ H' = H.push (blkL zMem 199 0) := by
  refine EC.intro (fn := Tryz.f54) (c := (Tryz.f54.body).getD .skip) (hs _ _) fn54 rfl lnew_comp1 (by show 0 ≤ 3; decide) ?_
  generalize enterT Tryz.f54 [] = t0
  show WK Tb1 sp e ⟨1, 3, none, false⟩ _ t0 [] H _
  have hb := room_box hr zMem 199
  have hf : ∀ (t : T Value) (k : List Value → R), exFill (fillL t zMem []) k = k zMem := fun _ _ => rfl
  have hnx : H.nx ≤ (H.push (blkL zMem 199 0)).nx := by rw [nx_push]; omega
  refine WK.seq (WK.reg_rr (fun t' => True) ?_ ?_)
  · simp +decide only [WOR, WOG, WOGk, wants_none', wants_some, wantsV_U, wantsV_tt, wantsV_tf, wantsV_ft, wantsV_ff, run, evalO_tmp, evalO_const, evalO_func, evalL, callV_func, Rv_eq, Ro_some, ok_zero, true_and, and_true, and_self, Xo 1, if_true, if_false, putT_none]
  intro t1 _
  refine WK.seq (WK.reg_gg (fun t' H' => t'.get 0 = .pointer (some ⟨H.nx, 0, none⟩) ∧ H' = H.push (blkL zMem 199 0)) ?_ ?_)
  · simp +decide only [hb, hf, hnx, WOR, WOG, WOGk, wants_none', wants_some, wantsV_U, wantsV_tt, wantsV_tf, wantsV_ft, wantsV_ff, run, evalO_tmp, evalO_const, evalO_func, evalL, callV_func, Rv_eq, Ro_some, ok_zero, true_and, and_true, and_self, Xo 1, if_true, if_false, putT_none]
    exact ⟨Nat.le_refl _, Nat.le_refl _⟩
  rintro t2 H2 ⟨g0, rfl⟩
  refine WK.ret ⟨.inr rfl, rfl, [.pointer (some ⟨H.nx, 0, none⟩)], 0, ?_, .zero _ _, rfl, rfl⟩
  show resL Tb1 3 t2 _ [.tmp 0] = _
  simp only [resL, g0]; rfl
end
theorem spMem_ok {P : Program} (ok : TbOk P Tb1) (hlp : LpOk P Tb1) {args : List Value} {H H' : Hp} {v : Value} {r w : Nat} (hw : H.wf) (h : spMem args H = some (v, H', r, w)) : TaskOk P NG (.call 54 args) H (.k (.ret v H' r w)) := by
  unfold spMem at h
  split at h
  · rw [alloc1_eq] at h
    by_cases hr : H.room = true
    case neg => rw [if_neg hr] at h; cases h
    rw [if_pos hr] at h
    simp only [Option.some.injEq, Prod.mk.injEq] at h
    obtain ⟨rfl, rfl, rfl, rfl⟩ := h
    have hc : Go.Ev.Can H (H.push (.cells (.e (.int .u8 0)) 65536 199 0 0 0)) 0 := can_push hr
    obtain ⟨r, w, ht, h1, hwl⟩ := ec_task (b := H.nx) (H2 := H.push (.cells (.e (.int .u8 0)) 65536 199 0 0 0)) (v := .pointer (some ⟨H.nx, 0, none⟩)) ok hlp (spNo_ok P Tb1.ng) hw (lnew_ok (e := ⟨H.nx, fun c => c = H.nx, fun _ => False⟩) (fun _ _ => rfl) hr)
      fun v' H' hk => ⟨hk.1, hc, by rw [hk.2, nx_push, nx_push], fun b => by
        rw [hk.2, blk_push _ hr, blk_push _ hr]
        by_cases hb : b = H.nx
        · rw [if_pos hb, if_pos hb]
          obtain ⟨t, h1, h2⟩ := blkL_eq zMem 199 0
          rw [h1]
          have hl : zMem.length = 65536 := by rw [zMem_eq, List.length_replicate]
          rw [hl]
          refine .inr ⟨t, _, _, _, _, _, _, rfl, rfl, fun i hi => h2 i _ ?_⟩
          rw [zMem_eq, List.getElem?_replicate, if_pos hi]; rfl
        · rw [if_neg hb, if_neg hb]; exact .inl rfl⟩
    exact ht.more (fun c ha hh => absurd (h1 c ha.1 hh) (Nat.ne_of_lt ha.1)) hwl hc
  · cases h
end Go.Proofs.MN
end
noncomputable section
namespace Go.Proofs.MN
open Go Go.Ev Go.Proofs
noncomputable def mget_body : Code := (Tryz.f308.body).getD .skip
def mget_r0 : List CO := [
    ⟨(some 6), none, .mv (.const (.string ⟨#[]⟩))⟩]
def mget_r1 : List CO := [
    ⟨(some 10), none, .mv (.tmp 2)⟩,
    ⟨(some 11), none, .mkSl 5 1 [.int .u8 (0)] (.tmp 10) (.tmp 10)⟩,
    ⟨(some 7), none, .mv (.tmp 11)⟩]
def mget_r2 : List CO := [
    ⟨(some 12), none, .mv (.tmp 7)⟩,
    ⟨(some 13), none, .len 1 (.tmp 12)⟩,
    ⟨(some 14), none, .mv (.const (.int .i64 (0)))⟩]
def mget_r3 : List CO := [
    ⟨(some 15), none, .bin .lss (.tmp 14) (.tmp 13)⟩]
def mget_r4 : List CO := [
    ⟨(some 16), none, .mv (.tmp 14)⟩,
    ⟨(some 8), none, .mv (.tmp 16)⟩]
def mget_r5 : List CO := [
    ⟨(some 17), none, .mv (.tmp 1)⟩,
    ⟨(some 18), none, .mv (.tmp 8)⟩,
    ⟨(some 19), none, .bin .add (.tmp 17) (.tmp 18)⟩,
    ⟨(some 9), none, .mv (.tmp 19)⟩]
def mget_r6 : List CO := [
    ⟨(some 20), none, .mv (.tmp 7)⟩,
    ⟨(some 21), none, .mv (.tmp 8)⟩,
    ⟨(some 22), none, .mv (.tmp 0)⟩,
    ⟨(some 23), none, .mv (.tmp 9)⟩,
    ⟨(some 24), none, .bin .quo (.tmp 23) (.const (.int .i64 (8)))⟩,
    ⟨(some 25), none, .nilc (.tmp 22)⟩,
    ⟨(some 26), none, .fa 0 (.tmp 25)⟩,
    ⟨(some 27), none, .iaA 65536 1 (.tmp 26) (.tmp 24)⟩,
    ⟨(some 28), none, .ld1 (.tmp 27)⟩,
    ⟨(some 29), none, .mv (.tmp 9)⟩,
    ⟨(some 30), none, .bin .rem (.tmp 29) (.const (.int .i64 (8)))⟩,
    ⟨(some 31), none, .bin .sub (.const (.int .i64 (7))) (.tmp 30)⟩,
    ⟨(some 32), none, .bin .shr (.tmp 28) (.tmp 31)⟩,
    ⟨(some 33), none, .bin .and (.tmp 32) (.const (.int .u8 (1)))⟩,
    ⟨(some 34), none, .bin .add (.const (.int .u8 (48))) (.tmp 33)⟩,
    ⟨(some 35), none, .iaS 1 (.tmp 20) (.tmp 21)⟩,
    ⟨none, none, .st 1 (.tmp 35) (.tmp 34)⟩]
def mget_r7 : List CO := [
    ⟨(some 36), none, .bin .add (.tmp 14) (.const (.int .i64 (1)))⟩,
    ⟨(some 14), none, .mv (.tmp 36)⟩]
noncomputable def mget_l8 : KC :=
  (.seq (.reg mget_r3)
  (.seq (.cond (.tmp 15) .skip
   (.exit 0))
  (.seq (.block 1 (.seq (.reg mget_r4)
   (.seq (.reg mget_r5)
   (.reg mget_r6))))
  (.reg mget_r7))))
def mget_r9 : List CO := [
    ⟨(some 37), none, .mv (.tmp 7)⟩,
    ⟨(some 38), none, .cToS (.tmp 37)⟩,
    ⟨(some 6), none, .mv (.tmp 38)⟩]
noncomputable def mget_k : KC :=
  (.seq (.reg mget_r0)
  (.seq (.reg mget_r1)
  (.seq (.seq (.reg mget_r2)
  (.block 0 (.loop mget_body.sr.sr.sl.sr.bl.lp mget_l8)))
  (.seq (.reg mget_r9)
  .ret))))
theorem mget_comp : kcomp Tb1 Tryz.f308.ntmps mget_body = mget_k := by kernel_rfl
theorem mget_some : Tryz.f308.body = some mget_body := rfl
noncomputable def mset_body : Code := (Tryz.f137.body).getD .skip
def mset_r0 : List CO := [
    ⟨(some 9), none, .mv (.tmp 2)⟩,
    ⟨(some 10), none, .len 0 (.tmp 9)⟩,
    ⟨(some 11), none, .mv (.const (.int .i64 (0)))⟩]
def mset_r1 : List CO := [
    ⟨(some 12), none, .bin .lss (.tmp 11) (.tmp 10)⟩]
def mset_r2 : List CO := [
    ⟨(some 13), none, .mv (.tmp 11)⟩,
    ⟨(some 6), none, .mv (.tmp 13)⟩]
def mset_r3 : List CO := [
    ⟨(some 14), none, .mv (.tmp 1)⟩,
    ⟨(some 15), none, .mv (.tmp 6)⟩,
    ⟨(some 16), none, .bin .add (.tmp 14) (.tmp 15)⟩,
    ⟨(some 7), none, .mv (.tmp 16)⟩]
def mset_r4 : List CO := [
    ⟨(some 17), none, .mv (.tmp 7)⟩,
    ⟨(some 18), none, .bin .rem (.tmp 17) (.const (.int .i64 (8)))⟩,
    ⟨(some 19), none, .bin .shr (.const (.int .u8 (128))) (.tmp 18)⟩,
    ⟨(some 8), none, .mv (.tmp 19)⟩]
def mset_r5 : List CO := [
    ⟨(some 20), none, .mv (.tmp 2)⟩,
    ⟨(some 21), none, .mv (.tmp 6)⟩,
    ⟨(some 22), none, .ixS (.tmp 20) (.tmp 21)⟩,
    ⟨(some 23), none, .eq false (.one .i) (.tmp 22) (.const (.int .u8 (49)))⟩]
def mset_r6 : List CO := [
    ⟨(some 24), none, .mv (.tmp 0)⟩,
    ⟨(some 25), none, .mv (.tmp 7)⟩,
    ⟨(some 26), none, .bin .quo (.tmp 25) (.const (.int .i64 (8)))⟩,
    ⟨(some 27), none, .nilc (.tmp 24)⟩,
    ⟨(some 28), none, .fa 0 (.tmp 27)⟩,
    ⟨(some 29), none, .iaA 65536 1 (.tmp 28) (.tmp 26)⟩,
    ⟨(some 30), none, .ld1 (.tmp 29)⟩,
    ⟨(some 31), none, .mv (.tmp 8)⟩,
    ⟨(some 32), none, .bin .or (.tmp 30) (.tmp 31)⟩,
    ⟨(some 33), none, .nilc (.tmp 24)⟩,
    ⟨(some 34), none, .fa 0 (.tmp 33)⟩,
    ⟨(some 35), none, .iaA 65536 1 (.tmp 34) (.tmp 26)⟩,
    ⟨none, none, .st 1 (.tmp 35) (.tmp 32)⟩]
def mset_r7 : List CO := [
    ⟨(some 36), none, .mv (.tmp 0)⟩,
    ⟨(some 37), none, .mv (.tmp 7)⟩,
    ⟨(some 38), none, .bin .quo (.tmp 37) (.const (.int .i64 (8)))⟩,
    ⟨(some 39), none, .nilc (.tmp 36)⟩,
    ⟨(some 40), none, .fa 0 (.tmp 39)⟩,
    ⟨(some 41), none, .iaA 65536 1 (.tmp 40) (.tmp 38)⟩,
    ⟨(some 42), none, .ld1 (.tmp 41)⟩,
    ⟨(some 43), none, .mv (.tmp 8)⟩,
    ⟨(some 44), none, .bin .andNot (.tmp 42) (.tmp 43)⟩,
    ⟨(some 45), none, .nilc (.tmp 36)⟩,
    ⟨(some 46), none, .fa 0 (.tmp 45)⟩,
    ⟨(some 47), none, .iaA 65536 1 (.tmp 46) (.tmp 38)⟩,
    ⟨none, none, .st 1 (.tmp 47) (.tmp 44)⟩]
def mset_r8 : List CO := [
    ⟨(some 48), none, .bin .add (.tmp 11) (.const (.int .i64 (1)))⟩,
    ⟨(some 11), none, .mv (.tmp 48)⟩]
noncomputable def mset_l9 : KC :=
  (.seq (.reg mset_r1)
  (.seq (.cond (.tmp 12) .skip
   (.exit 0))
  (.seq (.block 1 (.seq (.reg mset_r2)
   (.seq (.reg mset_r3)
   (.seq (.reg mset_r4)
   (.seq (.reg mset_r5)
   (.cond (.tmp 23) (.draw #[0, 0, 2, 1, 9, 31, 63, 0, 255, 1, 513, 2047, 4095] mset_r6)
    (.draw #[0, 0, 2, 1, 9, 31, 63, 0, 255, 1, 513, 2047, 4095] mset_r7)))))))
  (.reg mset_r8))))
noncomputable def mset_k : KC :=
  (.seq (.reg mset_r0)
  (.block 0 (.loop mset_body.sr.bl.lp mset_l9)))
theorem mset_comp : kcomp Tb1 Tryz.f137.ntmps mset_body = mset_k := by kernel_rfl
theorem mset_some : Tryz.f137.body = some mset_body := rfl
end Go.Proofs.MN
end
noncomputable section
namespace Go.Proofs.MN
open Go Go.Ev Go.Proofs Go.Ar
variable [SyQ]
def bitsQ (f : By) (p i : Nat) : By := fun j => if j < i then bitU (f (p + j / 8)) (j % 8) else 0
theorem bitsQ_zero (f : By) (p : Nat) : (fun _ => 0 : By) = bitsQ f p 0 := by funext j; unfold bitsQ; rw [if_neg (by omega)]
theorem bitsQ_next {f : By} {p i : Nat} (j : Nat) : over (bitsQ f p i) i 1 (fun _ => bitU (f (p + i / 8)) (i % 8)) j = bitsQ f p (i + 1) j := by
  unfold over bitsQ
  by_cases h : j = i
  · subst h; rw [if_pos (by omega), if_pos (by omega)]
  · rw [if_neg (by omega)]
    by_cases h2 : j < i
    · rw [if_pos h2, if_pos (by omega)]
    · rw [if_neg h2, if_neg (by omega)]
theorem bitsQ_all (f : By) (p : Nat) : strF (bitsQ f p 16) 16 = bitsOf (f p) ++ bitsOf (f (p + 1)) := by
  show (List.range 16).map _ = (List.range 8).map _ ++ (List.range 8).map _
  simp [List.range_succ, bitsQ]
theorem fn308 : Tb1.fn 308 = some Tryz.f308 := by kernel_rfl
theorem fn137 : Tb1.fn 137 = some Tryz.f137 := by kernel_rfl
section
attribute [local go_sem] Bc_f Bc_t GT Ro_some Rv_eq WOG Yj Yk Yl Ym Yn Yo Yp Yq Yr and_self and_true binV_add binV_geq binV_gtr binV_leq binV_lss binV_sub callV_func dec_F dec_T evalL evalM evalO_const evalO_func evalO_tmp exEq_int exFa_ptr exLen_str exPick_f exPick_t exUn_not if_false if_true no_bits ok_zero putT_none run true_and wantsV_U wantsV_ff wantsV_ft wantsV_tf wantsV_tt wants_none' wants_some
variable {sp : Nat → List Value → Hp → Option (Value × Hp × Nat × Nat)} {e : Env}
set_option maxRecDepth 10000 in
set_option maxHeartbeats 4000000 in
theorem mget_ok (S : ∀ f args H, sp f args H = none) {H : Hp} (hf : H.isFn = true) (he : e.n0 ≤ H.nx) {bm p : Nat} {fm : By} (hr : ByU H bm 199 fm 65536) (hp : p + 1 < 65536) (hpm : bm < e.n0 → e.Rd bm) : EC Tb1 sp e 308 [pA bm 0, iN (8 * p), .int .i64 (16)] H fun v H' => v = vS (bitsOf (fm p) ++ bitsOf (fm (p + 1))) ∧ Kept H H' ∧ H'.nx ≤ H.nx + 1 := by
  refine EC.i3 fn308 mget_some mget_comp (S _ _ _) (by show 3 ≤ 39; decide) fun t0 g0 g1 g2 => ?_
  show WK Tb1 sp e ⟨2, 39, none, false⟩ mget_k t0 [] H _
  unfold mget_k
  have lt1_ := hr.lt
  have k0_ : Kept H H := .refl hf
  refine WK.seq ?_
  refine WK.reg_g ?_
  refine WOG.all (fun t' H' => H = H' ∧ GT t' [(0, pA bm 0), (1, iN (8 * p)), (2, .int .i64 (16)), (6, .string ⟨#[]⟩)]) ?_ ?_
  · simp +decide only [mget_r0, g0, g1, g2, Xo 2, go_sem]
  rintro t2_ _ ⟨rfl, g0_2, g1_2, g2_2, g6_2, -⟩
  refine WK.seq ?_
  refine WK.reg_g ?_
  obtain ⟨H4_, ns5_⟩ := newS hf (n := 16) (by omega)
  have m6_ : exMkSl 5 1 [.int .u8 0] (.int .i64 (16)) (.int .i64 (16)) H = .val (.slice (some ⟨H.nx, 0, none⟩) (16) (2 * (16))) H4_ 0 0 := ns5_.made
  have hf7_ := ns5_.kept.fn
  have nx8_ : H4_.nx = H.nx + 1 := ns5_.nx
  have m9_ : H.nx ≤ H4_.nx := by omega
  have lt10_ := ns5_.row.lt
  have k11_ := k0_.trans ns5_.kept
  refine WOG.all (fun t' H' => H4_ = H' ∧ GT t' [(0, pA bm 0), (1, iN (8 * p)), (6, .string ⟨#[]⟩), (7, sC H.nx 0 (16) (2 * (16)))]) ?_ ?_
  · simp +decide only [mget_r1, g0_2, g1_2, g2_2, g6_2, m6_, m9_, Xo 2, go_sem]
  rintro t12_ _ ⟨rfl, g0_12, g1_12, g6_12, g7_12, -⟩
  have r14_ : ByU H4_ (H.nx) 5 (bitsQ fm p 0) (16) := ByU.congr ns5_.row (fun i hi => congrFun (bitsQ_zero fm p) i)
  refine WK.seq ?_
  refine WK.seq ?_
  refine WK.reg_g ?_
  have m15_ : ∀ Hq, exLen 1 (sC H.nx 0 (16) (2 * (16))) Hq = .val (vN ((16 : Nat))) Hq 0 0 := fun _ => rfl
  refine WOG.all (fun t' H' => H4_ = H' ∧ GT t' [(0, pA bm 0), (1, iN (8 * p)), (6, .string ⟨#[]⟩), (7, sC H.nx 0 (16) (2 * (16))), (13, iN 16), (14, .int .i64 (0))]) ?_ ?_
  · simp +decide only [mget_r2, g0_12, g1_12, g6_12, g7_12, m15_, Xo 2, go_sem]
  rintro t16_ _ ⟨rfl, g0_16, g1_16, g6_16, g7_16, g13_16, g14_16, -⟩
  refine WK.block (WK.loop_ind (fun m t' ds' H' => ds' = [] ∧ ∃ i : Nat, m = 16 - i ∧ i ≤ 16 ∧ (Kept H H' ∧ H'.nx ≤ H.nx + 1) ∧ ByU H' H.nx 5 (bitsQ fm p i) 16 ∧ t'.get 0 = pA bm 0 ∧ t'.get 1 = iN (8 * p) ∧ t'.get 7 = sC H.nx 0 (16) (2 * (16)) ∧ t'.get 13 = iN 16 ∧ t'.get 14 = iN i) ?_ _ t16_ [] H4_ ⟨rfl, 0, rfl, by omega, ⟨k11_, by omega⟩, r14_, g0_16, g1_16, g7_16, g13_16, g14_16⟩)
  rintro m_l18 t_l18 ds_ H_l18 ⟨rfl, i, rfl, hi8, ⟨hkl, hub⟩, hol, g0_l18, g1_l18, g7_l18, g13_l18, g14_l18⟩
  have hfl := hkl.fn
  have nxl := hkl.nx
  have r19_ := hr.mv ns5_.kept
  have hm_l : ByU H_l18 (bm) 199 fm (65536) := hr.of_blk (hkl.old _ hr.lt)
  have ltol := hol.lt
  unfold mget_l8
  refine WK.seq ?_
  by_cases hlt : i < 16
  case pos =>
    refine WK.reg_g ?_
    have d20_ : decide (((i : Nat) : Int) < ((16 : Nat) : Int)) = true := decide_eq_true (by omega)
    refine WOG.all (fun t' H' => H_l18 = H' ∧ GT t' [(0, pA bm 0), (1, iN (8 * p)), (7, sC H.nx 0 (16) (2 * (16))), (13, iN 16), (14, iN i), (15, .bool true)]) ?_ ?_
    · simp +decide only [mget_r3, g0_l18, g1_l18, g7_l18, g13_l18, g14_l18, d20_, Xo 2, go_sem]
    rintro t21_ _ ⟨rfl, g0_21, g1_21, g7_21, g13_21, g14_21, g15_21, -⟩
    refine WK.seq ?_
    refine WK.cond (v := true) (by rw [evalO_tmp, g15_21]; rfl) ?_
    refine WK.skip ?_
    refine WK.seq ?_
    refine WK.block ?_
    refine WK.seq ?_
    refine WK.reg_g ?_
    refine WOG.all (fun t' H' => H_l18 = H' ∧ GT t' [(0, pA bm 0), (1, iN (8 * p)), (7, sC H.nx 0 (16) (2 * (16))), (8, iN i), (13, iN 16), (14, iN i)]) ?_ ?_
    · simp +decide only [mget_r4, g0_21, g1_21, g7_21, g13_21, g14_21, g15_21, Xo 2, go_sem]
    rintro t23_ _ ⟨rfl, g0_23, g1_23, g7_23, g8_23, g13_23, g14_23, -⟩
    refine WK.seq ?_
    refine WK.reg_g ?_
    have w25_ : Value.int .i64 (wrapF .i64 (((8 * p : Nat) : Int) + ((i : Nat) : Int))) = .int .i64 ((((8 * p) + i) : Nat) : Int) := wF (by omega)
    refine WOG.all (fun t' H' => H_l18 = H' ∧ GT t' [(0, pA bm 0), (1, iN (8 * p)), (7, sC H.nx 0 (16) (2 * (16))), (8, iN i), (9, iN (((8 * p) + i))), (13, iN 16), (14, iN i)]) ?_ ?_
    · simp +decide only [mget_r5, g0_23, g1_23, g7_23, g8_23, g13_23, g14_23, w25_, Xo 2, go_sem]
    rintro t26_ _ ⟨rfl, g0_26, g1_26, g7_26, g8_26, g9_26, g13_26, g14_26, -⟩
    refine WK.reg_g ?_
    have m28_ : ∀ Hq, R.o (binV .quo (iN (((8 * p) + i))) (.int .i64 8)) Hq = .val (iN (p + i / 8)) Hq 0 0 := fun Hq => quo8 (by omega) (by omega) _
    have m29_ : ∀ Hq, exNil (pA bm 0) Hq = .val (pA bm 0) Hq 0 0 := fun _ => rfl
    have m30_ : ∀ Hq, exIaA 65536 1 (pA bm 0) (iN (p + i / 8)) Hq = .val (pA bm (p + i / 8)) Hq 0 0 := fun Hq => by rw [exIaA_int (by omega) (by omega)]; simp; omega
    have m31_ : exLd1 (pA bm (p + i / 8)) H_l18 = .val (uB (fm (p + i / 8))) H_l18 (bit (bm)) 0 := ByU.ld hm_l (by omega)
    have o32_ : e.ok (bit (bm)) 0 H_l18 := .read hm_l.lt hpm
    have m33_ : ∀ Hq, R.o (binV .rem (iN (((8 * p) + i))) (.int .i64 8)) Hq = .val (iN (i % 8)) Hq 0 0 := fun Hq => rem8q (by omega) _
    have w34_ : Value.int .i64 (wrapF .i64 ((7 : Int) - ((i % 8 : Nat) : Int))) = .int .i64 (((7 - i % 8) : Nat) : Int) := wF (by omega)
    have m35_ : binV .shr (uB (fm (p + i / 8))) (iN ((7 - i % 8))) = some (nB ((fm (p + i / 8)).toNat / 2 ^ (7 - i % 8))) := shr8u (by omega)
    have m36_ : binV .and (nB ((fm (p + i / 8)).toNat / 2 ^ (7 - i % 8))) (.int .u8 (1)) = some (nB ((fm (p + i / 8)).toNat / 2 ^ (7 - i % 8) % 2)) := and1 (Nat.lt_of_le_of_lt (Nat.div_le_self _ _) (fm (p + i / 8)).toNat_lt)
    have m37_ : binV .add (.int .u8 (48)) (nB ((fm (p + i / 8)).toNat / 2 ^ (7 - i % 8) % 2)) = some (uB (bitU (fm (p + i / 8)) (i % 8))) := bit_add (fm (p + i / 8)) (i % 8)
    have m38_ : ∀ Hq, exIaS 1 (sC H.nx 0 (16) (2 * (16))) (iN i) Hq = .val (pA H.nx i) Hq 0 0 := fun Hq => by rw [exIaS_int (by omega) (by omega)]; simp
    obtain ⟨H39_, e40_, wr41_⟩ := ByU.st (i := i) (u := bitU (fm (p + i / 8)) (i % 8)) hfl hol (by omega)
    have m42_ : exSt 1 (pA H.nx i) (uB (bitU (fm (p + i / 8)) (i % 8))) H_l18 = .val U H39_ 0 (bit (H.nx)) := e40_
    have hf43_ := wr41_.fn
    have nx44_ : H39_.nx = H_l18.nx := wr41_.nx
    have m45_ : H_l18.nx ≤ H39_.nx := by omega
    have o46_ : e.ok 0 (bit (H.nx)) H39_ := .write wr41_.row.lt (fun h => absurd h (by omega))
    have k47_ : Kept H H39_ := ⟨wr41_.fn, by have := hkl.nx; omega, fun c hc => (wr41_.else_ c (by omega)).trans (hkl.old c hc)⟩
    refine WOG.all (fun t' H' => H39_ = H' ∧ GT t' [(0, pA bm 0), (1, iN (8 * p)), (7, sC H.nx 0 (16) (2 * (16))), (13, iN 16), (14, iN i)]) ?_ ?_
    · simp +decide only [mget_r6, g0_26, g1_26, g7_26, g8_26, g9_26, g13_26, g14_26, m28_, m29_, m30_, m31_, o32_, m33_, w34_, m35_, m36_, m37_, m38_, m42_, m45_, o46_, Xo 2, go_sem]
    rintro t48_ _ ⟨rfl, g0_48, g1_48, g7_48, g13_48, g14_48, -⟩
    refine WK.reg_g ?_
    have w50_ : Value.int .i64 (wrapF .i64 (((i : Nat) : Int) + (1 : Int))) = .int .i64 (((i + 1) : Nat) : Int) := wF (by omega)
    refine WOG.all (fun t' H' => H39_ = H' ∧ GT t' [(0, pA bm 0), (1, iN (8 * p)), (7, sC H.nx 0 (16) (2 * (16))), (13, iN 16), (14, iN ((i + 1)))]) ?_ ?_
    · simp +decide only [mget_r7, g0_48, g1_48, g7_48, g13_48, g14_48, w50_, Xo 2, go_sem]
    rintro t51_ _ ⟨rfl, g0_51, g1_51, g7_51, g13_51, g14_51, -⟩
    have r53_ : ByU H39_ (H.nx) 5 (bitsQ fm p (i + 1)) (16) := ByU.congr wr41_.row (fun j hj => bitsQ_next j)
    exact ⟨_, by omega, rfl, i + 1, rfl, by omega, ⟨k47_, by omega⟩, r53_, g0_51, g1_51, g7_51, g13_51, g14_51⟩
  case neg =>
    obtain rfl : i = 16 := by omega
    refine WK.reg_g ?_
    have d20_ : decide (((16 : Nat) : Int) < ((16 : Nat) : Int)) = false := decide_eq_false (by omega)
    refine WOG.all (fun t' H' => H_l18 = H' ∧ GT t' [(0, pA bm 0), (1, iN (8 * p)), (7, sC H.nx 0 (16) (2 * (16))), (13, iN 16), (14, iN 16), (15, .bool false)]) ?_ ?_
    · simp +decide only [mget_r3, g0_l18, g1_l18, g7_l18, g13_l18, g14_l18, d20_, Xo 2, go_sem]
    rintro t21_ _ ⟨rfl, g0_21, g1_21, g7_21, g13_21, g14_21, g15_21, -⟩
    refine WK.seq ?_
    refine WK.cond (v := false) (by rw [evalO_tmp, g15_21]; rfl) ?_
    refine WK.exit ?_
    refine WK.seq ?_
    refine WK.reg_g ?_
    have m23_ : exToS (sC H.nx 0 (16) (2 * (16))) H_l18 = .val (vS (strF (bitsQ fm p 16) (16))) H_l18 (bit (H.nx)) 0 := ByU.toS0 hol (by omega)
    have o24_ := okr (e := e) hol (by omega)
    refine WOG.all (fun t' H' => H_l18 = H' ∧ GT t' [(0, pA bm 0), (1, iN (8 * p)), (6, vS (strF (bitsQ fm p 16) (16))), (7, sC H.nx 0 (16) (2 * (16))), (13, iN 16), (14, iN 16)]) ?_ ?_
    · simp +decide only [mget_r9, g0_21, g1_21, g7_21, g13_21, g14_21, g15_21, m23_, o24_, Xo 2, go_sem]
    rintro t25_ _ ⟨rfl, g0_25, g1_25, g6_25, g7_25, g13_25, g14_25, -⟩
    have g27_ : t25_.get 6 = vS (bitsOf (fm p) ++ bitsOf (fm (p + 1))) := by rw [← bitsQ_all]; exact g6_25
    refine WK.ret ⟨.inr rfl, rfl, [vS (bitsOf (fm p) ++ bitsOf (fm (p + 1)))], 0, ?_, .zero _ _, rfl, hkl, hub⟩
    show resL Tb1 39 t25_ _ [.tmp 6] = _
    simp only [resL, g27_]; rfl
end
end Go.Proofs.MN
end
noncomputable section
namespace Go.Proofs.MN
open Go Go.Ev Go.Proofs Go.Ar
variable [SyQ]
def sl2 (u v : UInt8) (i : Nat) : UInt8 := if i < 8 then u else v
def mG (f : By) (p : Nat) (u v : UInt8) (i : Nat) : By := fun j => if j = p then UInt8.ofNat (mixU (f p).toNat u.toNat (min i 8)) else if j = p + 1 then UInt8.ofNat (mixU (f (p + 1)).toNat v.toNat (i - 8)) else f j
theorem mG_mem {f : By} {p i : Nat} {u v : UInt8} (h : i < 16) : mG f p u v i (p + i / 8) = memF f (p + i / 8) (mixU (f (p + i / 8)).toNat (sl2 u v i).toNat (i % 8)) (p + i / 8) := by
  rw [memF_at]
  unfold mG sl2
  by_cases h8 : i < 8
  · have e : i / 8 = 0 := by omega
    rw [e, Nat.add_zero, if_pos rfl, if_pos h8, show min i 8 = i % 8 from by omega]
  · have e : i / 8 = 1 := by omega
    rw [e, if_neg (by omega), if_pos rfl, if_neg h8, show i - 8 = i % 8 from by omega]
theorem mG_zero (f : By) (p : Nat) (u v : UInt8) : f = mG f p u v 0 := by
  funext j
  unfold mG
  by_cases h : j = p
  · rw [if_pos h, show min 0 8 = 0 from rfl, mix_zero (UInt8.toNat_lt _) (UInt8.toNat_lt _), h]; simp
  · rw [if_neg h]
    by_cases h2 : j = p + 1
    · rw [if_pos h2, show 0 - 8 = 0 from rfl, mix_zero (UInt8.toNat_lt _) (UInt8.toNat_lt _), h2]; simp
    · rw [if_neg h2]
theorem mG_over {f : By} {p i : Nat} {u v : UInt8} (h : i < 16) (j : Nat) : over (mG f p u v i) (p + i / 8) 1 (fun _ => UInt8.ofNat (mixU (f (p + i / 8)).toNat (sl2 u v i).toNat (i % 8 + 1))) j = mG f p u v (i + 1) j := by
  unfold over mG sl2
  by_cases h8 : i < 8
  · have e : i / 8 = 0 := by omega
    rw [e, Nat.add_zero, if_pos h8]
    by_cases hj : j = p
    · rw [if_pos (by omega), if_pos hj, show min (i + 1) 8 = i % 8 + 1 from by omega]
    · rw [if_neg (by omega), if_neg hj, if_neg hj, show i - 8 = i + 1 - 8 from by omega]
  · have e : i / 8 = 1 := by omega
    rw [e, if_neg h8]
    by_cases hj : j = p + 1
    · rw [if_pos (by omega), if_neg (by omega), if_pos hj, show i + 1 - 8 = i % 8 + 1 from by omega]
    · rw [if_neg (by omega), if_neg hj, if_neg hj, show min i 8 = min (i + 1) 8 from by omega]
theorem mG_all (f : By) (p : Nat) (u v : UInt8) : mG f p u v 16 = over f p 2 fun k => if k = 0 then u else v := by
  funext j
  unfold mG over
  by_cases h : j = p
  · rw [if_pos h, if_pos (by omega), show min 16 8 = 8 from rfl, mix_all]; simp [show j - p = 0 from by omega]
  · rw [if_neg h]
    by_cases h2 : j = p + 1
    · rw [if_pos h2, if_pos (by omega), show 16 - 8 = 8 from rfl, mix_all]; simp [show j - p = 1 from by omega]
    · rw [if_neg h2, if_neg (by omega)]
theorem len_bits2 (u v : UInt8) (H : Hp) : exLen 0 (vS (bitsOf u ++ bitsOf v)) H = .val (vN ((16 : Nat))) H 0 0 := by
  rw [exLen_str]; simp [bitsOf]
theorem ixS_bits2 {u v : UInt8} {i : Nat} (h : i < 16) (H : Hp) : exIxS (vS (bitsOf u ++ bitsOf v)) (vN ((i : Nat) : Int)) H = .val (uB (bitU (sl2 u v i) (i % 8))) H 0 0 := by
  have hl : (bitsOf u ++ bitsOf v).length = 16 := by simp [bitsOf]
  have hg : (bitsOf u ++ bitsOf v)[i]? = some (bitU (sl2 u v i) (i % 8)) := by
    by_cases h8 : i < 8
    · rw [List.getElem?_append_left (by simp [bitsOf]; omega)]
      simp [bitsOf, sl2, h8, Nat.mod_eq_of_lt h8]
    · rw [List.getElem?_append_right (by simp [bitsOf]; omega)]
      have e : i % 8 = i - 8 := by omega
      have h9 : i - 8 < 8 := by omega
      simp [bitsOf, sl2, h8, e, h9]
  have : idx (vN ((i : Nat) : Int)) (bitsOf u ++ bitsOf v).length = some i := by
    show Bc (Nat.blt i (bitsOf u ++ bitsOf v).length) (some i) none = _
    rw [(blt_iff _ _).2 (by rw [hl]; exact h)]; rfl
  show (match idx (vN ((i : Nat) : Int)) (bitsOf u ++ bitsOf v).length with | some m => (match (bitsOf u ++ bitsOf v)[m]? with | some c => R.v (.int .u8 (.ofNat c.toNat)) H | none => .fail) | none => .fail) = _
  rw [this]; simp only [hg]; rfl
section
attribute [local go_sem] Bc_f Bc_t GT Ro_some Rv_eq WOG WOX Yj Yk Yl Ym Yn Yo Yp Yq Yr and_self and_true binV_add binV_geq binV_gtr binV_leq binV_lss binV_sub callV_func dec_F dec_T evalL evalM evalO_const evalO_func evalO_tmp exEq_int exFa_ptr exLen_str exPick_f exPick_t exUn_not if_false if_true no_bits ok_zero putT_none run true_and wantsV_U wantsV_ff wantsV_ft wantsV_tf wantsV_tt wants_none' wants_some
variable {sp : Nat → List Value → Hp → Option (Value × Hp × Nat × Nat)} {e : Env}
set_option maxRecDepth 10000 in
set_option maxHeartbeats 4000000 in
theorem mset_ok (S : ∀ f args H, sp f args H = none) {H : Hp} (hf : H.isFn = true) (he : e.n0 ≤ H.nx) {u v : UInt8} {bm p : Nat} {fm : By} (hr : ByU H bm 199 fm 65536) (hp : p + 1 < 65536) (hpm : bm < e.n0 → e.Wr bm) (hpr : bm < e.n0 → e.Rd bm) : EC Tb1 sp e 137 [pA bm 0, iN (8 * p), vS (bitsOf u ++ bitsOf v)] H fun v0 H' => v0 = .tuple #[] ∧ OvB H bm 199 (over fm p 2 fun k => if k = 0 then u else v) 65536 H' := by
  refine EC.i3 fn137 mset_some mset_comp (S _ _ _) (by show 3 ≤ 49; decide) fun t0 g0 g1 g2 => ?_
  show WK Tb1 sp e ⟨2, 49, none, false⟩ mset_k t0 [] H _
  unfold mset_k
  have lt1_ := hr.lt
  refine WK.seq ?_
  refine WK.reg_g ?_
  have m2_ : ∀ Hq, exLen 0 (vS (bitsOf u ++ bitsOf v)) Hq = .val (vN ((16 : Nat))) Hq 0 0 := fun _ => len_bits2 _ _ _
  refine WOG.all (fun t' H' => H = H' ∧ GT t' [(0, pA bm 0), (1, iN (8 * p)), (2, vS (bitsOf u ++ bitsOf v)), (10, iN 16), (11, .int .i64 (0))]) ?_ ?_
  · simp +decide only [mset_r0, g0, g1, g2, m2_, Xo 2, go_sem]
  rintro t3_ _ ⟨rfl, g0_3, g1_3, g2_3, g10_3, g11_3, -⟩
  refine WK.block (WK.loop_ind (fun m t' ds' H' => ds' = [] ∧ ∃ i : Nat, m = 16 - i ∧ i ≤ 16 ∧ OvB H bm 199 (mG fm p u v i) 65536 H' ∧ t'.get 0 = pA bm 0 ∧ t'.get 1 = iN (8 * p) ∧ t'.get 2 = vS (bitsOf u ++ bitsOf v) ∧ t'.get 10 = iN 16 ∧ t'.get 11 = iN i) ?_ _ t3_ [] H ⟨rfl, 0, rfl, by omega, (OvB.refl hf hr).as (mG_zero _ _ _ _), g0_3, g1_3, g2_3, g10_3, g11_3⟩)
  rintro m_l5 t_l5 ds_ H_l5 ⟨rfl, i, rfl, hi8, hov, g0_l5, g1_l5, g2_l5, g10_l5, g11_l5⟩
  have hfl := hov.fn
  have nxl := hov.nx
  unfold mset_l9
  refine WK.seq ?_
  by_cases hlt : i < 16
  case pos =>
    refine WK.reg_g ?_
    have d6_ : decide (((i : Nat) : Int) < ((16 : Nat) : Int)) = true := decide_eq_true (by omega)
    refine WOG.all (fun t' H' => H_l5 = H' ∧ GT t' [(0, pA bm 0), (1, iN (8 * p)), (2, vS (bitsOf u ++ bitsOf v)), (10, iN 16), (11, iN i), (12, .bool true)]) ?_ ?_
    · simp +decide only [mset_r1, g0_l5, g1_l5, g2_l5, g10_l5, g11_l5, d6_, Xo 2, go_sem]
    rintro t7_ _ ⟨rfl, g0_7, g1_7, g2_7, g10_7, g11_7, g12_7, -⟩
    refine WK.seq ?_
    refine WK.cond (v := true) (by rw [evalO_tmp, g12_7]; rfl) ?_
    refine WK.skip ?_
    refine WK.seq ?_
    refine WK.block ?_
    refine WK.seq ?_
    refine WK.reg_g ?_
    refine WOG.all (fun t' H' => H_l5 = H' ∧ GT t' [(0, pA bm 0), (1, iN (8 * p)), (2, vS (bitsOf u ++ bitsOf v)), (6, iN i), (10, iN 16), (11, iN i)]) ?_ ?_
    · simp +decide only [mset_r2, g0_7, g1_7, g2_7, g10_7, g11_7, g12_7, Xo 2, go_sem]
    rintro t9_ _ ⟨rfl, g0_9, g1_9, g2_9, g6_9, g10_9, g11_9, -⟩
    refine WK.seq ?_
    refine WK.reg_g ?_
    have w11_ : Value.int .i64 (wrapF .i64 (((8 * p : Nat) : Int) + ((i : Nat) : Int))) = .int .i64 ((((8 * p) + i) : Nat) : Int) := wF (by omega)
    refine WOG.all (fun t' H' => H_l5 = H' ∧ GT t' [(0, pA bm 0), (1, iN (8 * p)), (2, vS (bitsOf u ++ bitsOf v)), (6, iN i), (7, iN (((8 * p) + i))), (10, iN 16), (11, iN i)]) ?_ ?_
    · simp +decide only [mset_r3, g0_9, g1_9, g2_9, g6_9, g10_9, g11_9, w11_, Xo 2, go_sem]
    rintro t12_ _ ⟨rfl, g0_12, g1_12, g2_12, g6_12, g7_12, g10_12, g11_12, -⟩
    refine WK.seq ?_
    refine WK.reg_g ?_
    have m14_ : ∀ Hq, R.o (binV .rem (iN (((8 * p) + i))) (.int .i64 8)) Hq = .val (iN (i % 8)) Hq 0 0 := fun Hq => rem8q (by omega) _
    have m15_ : binV .shr (.int .u8 (128)) (iN (i % 8)) = some (nB (2 ^ (7 - i % 8))) := shr128 (by omega)
    refine WOG.all (fun t' H' => H_l5 = H' ∧ GT t' [(0, pA bm 0), (1, iN (8 * p)), (2, vS (bitsOf u ++ bitsOf v)), (6, iN i), (7, iN (((8 * p) + i))), (8, nB (2 ^ (7 - i % 8))), (10, iN 16), (11, iN i)]) ?_ ?_
    · simp +decide only [mset_r4, g0_12, g1_12, g2_12, g6_12, g7_12, g10_12, g11_12, m14_, m15_, Xo 2, go_sem]
    rintro t16_ _ ⟨rfl, g0_16, g1_16, g2_16, g6_16, g7_16, g8_16, g10_16, g11_16, -⟩
    refine WK.seq ?_
    by_cases hb : (sl2 u v i).toNat / 2 ^ (7 - i % 8) % 2 = 1
    case pos =>
      refine WK.reg_g ?_
      have m18_ : ∀ Hq, exIxS (vS (bitsOf u ++ bitsOf v)) (iN i) Hq = .val (uB (bitU (sl2 u v i) (i % 8))) Hq 0 0 := fun Hq => ixS_bits2 (by omega) Hq
      have m19_ : ∀ Hq, exEq false (.one .i) (uB (bitU (sl2 u v i) (i % 8))) (.int .u8 (49)) Hq = .val (.bool true) Hq 0 0 := fun Hq => eq49_t hb Hq
      refine WOG.all (fun t' H' => H_l5 = H' ∧ GT t' [(0, pA bm 0), (1, iN (8 * p)), (2, vS (bitsOf u ++ bitsOf v)), (7, iN (((8 * p) + i))), (8, nB (2 ^ (7 - i % 8))), (10, iN 16), (11, iN i), (23, .bool true)]) ?_ ?_
      · simp +decide only [mset_r5, g0_16, g1_16, g2_16, g6_16, g7_16, g8_16, g10_16, g11_16, m18_, m19_, Xo 2, go_sem]
      rintro t20_ _ ⟨rfl, g0_20, g1_20, g2_20, g7_20, g8_20, g10_20, g11_20, g23_20, -⟩
      refine WK.cond (v := true) (by rw [evalO_tmp, g23_20]; rfl) ?_
      refine WK.draw_xx (fun _ => False) [.p, .p, .p, .p, .p, .p, .q, .p, .p, .p, .p, .p, .x] (by omega) rfl ?_
      have m22_ : ∀ Hq, R.o (binV .quo (iN (((8 * p) + i))) (.int .i64 8)) Hq = .val (iN (p + i / 8)) Hq 0 0 := fun Hq => quo8 (by omega) (by omega) _
      have m23_ : ∀ Hq, exNil (pA bm 0) Hq = .val (pA bm 0) Hq 0 0 := fun _ => rfl
      have m24_ : ∀ Hq, exIaA 65536 1 (pA bm 0) (iN (p + i / 8)) Hq = .val (pA bm (p + i / 8)) Hq 0 0 := fun Hq => by rw [exIaA_int (by omega) (by omega)]; simp; omega
      have m25_ : exLd1 (pA bm (p + i / 8)) H_l5 = .val (uB (mG fm p u v i (p + i / 8))) H_l5 (bit (bm)) 0 := ByU.ld hov.row (by omega)
      have o26_ : e.ok (bit (bm)) 0 H_l5 := .read hov.row.lt hpr
      have o27_ : ∀ cq, (bit (bm)).testBit cq = true → cq < H_l5.nx := the_bit (P := fun cq => cq < H_l5.nx) (by have := hov.row.lt; omega)
      have m28_ : binV .or (uB (mG fm p u v i (p + i / 8))) (nB (2 ^ (7 - i % 8))) = some (uB (UInt8.ofNat (mixU (fm (p + i / 8)).toNat (sl2 u v i).toNat (i % 8 + 1)))) := (by rw [mG_mem (by omega)]; exact mem_or (by omega) hb)
      have m29_ : ∀ Hq, exNil (pA bm 0) Hq = .val (pA bm 0) Hq 0 0 := fun _ => rfl
      have m30_ : ∀ Hq, exIaA 65536 1 (pA bm 0) (iN (p + i / 8)) Hq = .val (pA bm (p + i / 8)) Hq 0 0 := fun Hq => by rw [exIaA_int (by omega) (by omega)]; simp; omega
      obtain ⟨H31_, e32_, wr33_⟩ := ByU.st (i := p + i / 8) (u := UInt8.ofNat (mixU (fm (p + i / 8)).toNat (sl2 u v i).toNat (i % 8 + 1))) hfl hov.row (by omega)
      have m34_ : exSt 1 (pA bm (p + i / 8)) (uB (UInt8.ofNat (mixU (fm (p + i / 8)).toNat (sl2 u v i).toNat (i % 8 + 1)))) H_l5 = .val U H31_ 0 (bit (bm)) := e32_
      have hf35_ := wr33_.fn
      have nx36_ : H31_.nx = H_l5.nx := wr33_.nx
      have m37_ : H_l5.nx ≤ H31_.nx := by omega
      have o38_ : e.ok 0 (bit (bm)) H31_ := .write wr33_.row.lt hpm
      refine WOX.all (fun t' H' => H31_ = H' ∧ GT t' [(0, pA bm 0), (1, iN (8 * p)), (2, vS (bitsOf u ++ bitsOf v)), (7, iN (((8 * p) + i))), (8, nB (2 ^ (7 - i % 8))), (10, iN 16), (11, iN i)]) ?_ ?_
      · simp +decide only [mset_r6, g0_20, g1_20, g2_20, g7_20, g8_20, g10_20, g11_20, g23_20, m22_, m23_, m24_, m25_, o26_, o27_, m28_, m29_, m30_, m34_, m37_, o38_, Xo 2, go_sem]
        all_goals ((repeat' apply And.intro) <;> assumption)
      rintro t39_ _ ⟨rfl, g0_39, g1_39, g2_39, g7_39, g8_39, g10_39, g11_39, -⟩
      refine WK.reg_g ?_
      have w41_ : Value.int .i64 (wrapF .i64 (((i : Nat) : Int) + (1 : Int))) = .int .i64 (((i + 1) : Nat) : Int) := wF (by omega)
      refine WOG.all (fun t' H' => H31_ = H' ∧ GT t' [(0, pA bm 0), (1, iN (8 * p)), (2, vS (bitsOf u ++ bitsOf v)), (7, iN (((8 * p) + i))), (8, nB (2 ^ (7 - i % 8))), (10, iN 16), (11, iN ((i + 1)))]) ?_ ?_
      · simp +decide only [mset_r8, g0_39, g1_39, g2_39, g7_39, g8_39, g10_39, g11_39, w41_, Xo 2, go_sem]
      rintro t42_ _ ⟨rfl, g0_42, g1_42, g2_42, g7_42, g8_42, g10_42, g11_42, -⟩
      have hov2 : OvB H bm 199 (mG fm p u v (i + 1)) 65536 H31_ := (hov.trans wr33_).as (funext fun j => mG_over (by omega) j)
      exact ⟨_, by omega, rfl, i + 1, rfl, by omega, hov2, g0_42, g1_42, g2_42, g10_42, g11_42⟩
    case neg =>
      have hb : (sl2 u v i).toNat / 2 ^ (7 - i % 8) % 2 = 0 := by omega
      refine WK.reg_g ?_
      have m18_ : ∀ Hq, exIxS (vS (bitsOf u ++ bitsOf v)) (iN i) Hq = .val (uB (bitU (sl2 u v i) (i % 8))) Hq 0 0 := fun Hq => ixS_bits2 (by omega) Hq
      have m19_ : ∀ Hq, exEq false (.one .i) (uB (bitU (sl2 u v i) (i % 8))) (.int .u8 (49)) Hq = .val (.bool false) Hq 0 0 := fun Hq => eq49_f hb Hq
      refine WOG.all (fun t' H' => H_l5 = H' ∧ GT t' [(0, pA bm 0), (1, iN (8 * p)), (2, vS (bitsOf u ++ bitsOf v)), (7, iN (((8 * p) + i))), (8, nB (2 ^ (7 - i % 8))), (10, iN 16), (11, iN i), (23, .bool false)]) ?_ ?_
      · simp +decide only [mset_r5, g0_16, g1_16, g2_16, g6_16, g7_16, g8_16, g10_16, g11_16, m18_, m19_, Xo 2, go_sem]
      rintro t20_ _ ⟨rfl, g0_20, g1_20, g2_20, g7_20, g8_20, g10_20, g11_20, g23_20, -⟩
      refine WK.cond (v := false) (by rw [evalO_tmp, g23_20]; rfl) ?_
      refine WK.draw_xx (fun _ => False) [.p, .p, .p, .p, .p, .p, .q, .p, .p, .p, .p, .p, .x] (by omega) rfl ?_
      have m22_ : ∀ Hq, R.o (binV .quo (iN (((8 * p) + i))) (.int .i64 8)) Hq = .val (iN (p + i / 8)) Hq 0 0 := fun Hq => quo8 (by omega) (by omega) _
      have m23_ : ∀ Hq, exNil (pA bm 0) Hq = .val (pA bm 0) Hq 0 0 := fun _ => rfl
      have m24_ : ∀ Hq, exIaA 65536 1 (pA bm 0) (iN (p + i / 8)) Hq = .val (pA bm (p + i / 8)) Hq 0 0 := fun Hq => by rw [exIaA_int (by omega) (by omega)]; simp; omega
      have m25_ : exLd1 (pA bm (p + i / 8)) H_l5 = .val (uB (mG fm p u v i (p + i / 8))) H_l5 (bit (bm)) 0 := ByU.ld hov.row (by omega)
      have o26_ : e.ok (bit (bm)) 0 H_l5 := .read hov.row.lt hpr
      have o27_ : ∀ cq, (bit (bm)).testBit cq = true → cq < H_l5.nx := the_bit (P := fun cq => cq < H_l5.nx) (by have := hov.row.lt; omega)
      have m28_ : binV .andNot (uB (mG fm p u v i (p + i / 8))) (nB (2 ^ (7 - i % 8))) = some (uB (UInt8.ofNat (mixU (fm (p + i / 8)).toNat (sl2 u v i).toNat (i % 8 + 1)))) := (by rw [mG_mem (by omega)]; exact mem_and (by omega) hb)
      have m29_ : ∀ Hq, exNil (pA bm 0) Hq = .val (pA bm 0) Hq 0 0 := fun _ => rfl
      have m30_ : ∀ Hq, exIaA 65536 1 (pA bm 0) (iN (p + i / 8)) Hq = .val (pA bm (p + i / 8)) Hq 0 0 := fun Hq => by rw [exIaA_int (by omega) (by omega)]; simp; omega
      obtain ⟨H31_, e32_, wr33_⟩ := ByU.st (i := p + i / 8) (u := UInt8.ofNat (mixU (fm (p + i / 8)).toNat (sl2 u v i).toNat (i % 8 + 1))) hfl hov.row (by omega)
      have m34_ : exSt 1 (pA bm (p + i / 8)) (uB (UInt8.ofNat (mixU (fm (p + i / 8)).toNat (sl2 u v i).toNat (i % 8 + 1)))) H_l5 = .val U H31_ 0 (bit (bm)) := e32_
      have hf35_ := wr33_.fn
      have nx36_ : H31_.nx = H_l5.nx := wr33_.nx
      have m37_ : H_l5.nx ≤ H31_.nx := by omega
      have o38_ : e.ok 0 (bit (bm)) H31_ := .write wr33_.row.lt hpm
      refine WOX.all (fun t' H' => H31_ = H' ∧ GT t' [(0, pA bm 0), (1, iN (8 * p)), (2, vS (bitsOf u ++ bitsOf v)), (7, iN (((8 * p) + i))), (8, nB (2 ^ (7 - i % 8))), (10, iN 16), (11, iN i)]) ?_ ?_
      · simp +decide only [mset_r7, g0_20, g1_20, g2_20, g7_20, g8_20, g10_20, g11_20, g23_20, m22_, m23_, m24_, m25_, o26_, o27_, m28_, m29_, m30_, m34_, m37_, o38_, Xo 2, go_sem]
        all_goals ((repeat' apply And.intro) <;> assumption)
      rintro t39_ _ ⟨rfl, g0_39, g1_39, g2_39, g7_39, g8_39, g10_39, g11_39, -⟩
      refine WK.reg_g ?_
      have w41_ : Value.int .i64 (wrapF .i64 (((i : Nat) : Int) + (1 : Int))) = .int .i64 (((i + 1) : Nat) : Int) := wF (by omega)
      refine WOG.all (fun t' H' => H31_ = H' ∧ GT t' [(0, pA bm 0), (1, iN (8 * p)), (2, vS (bitsOf u ++ bitsOf v)), (7, iN (((8 * p) + i))), (8, nB (2 ^ (7 - i % 8))), (10, iN 16), (11, iN ((i + 1)))]) ?_ ?_
      · simp +decide only [mset_r8, g0_39, g1_39, g2_39, g7_39, g8_39, g10_39, g11_39, w41_, Xo 2, go_sem]
      rintro t42_ _ ⟨rfl, g0_42, g1_42, g2_42, g7_42, g8_42, g10_42, g11_42, -⟩
      have hov2 : OvB H bm 199 (mG fm p u v (i + 1)) 65536 H31_ := (hov.trans wr33_).as (funext fun j => mG_over (by omega) j)
      exact ⟨_, by omega, rfl, i + 1, rfl, by omega, hov2, g0_42, g1_42, g2_42, g10_42, g11_42⟩
  case neg =>
    have hi8e : i = 16 := by omega
    refine WK.reg_g ?_
    have d6_ : decide (((i : Nat) : Int) < ((16 : Nat) : Int)) = false := decide_eq_false (by omega)
    refine WOG.all (fun t' H' => H_l5 = H' ∧ GT t' [(0, pA bm 0), (1, iN (8 * p)), (2, vS (bitsOf u ++ bitsOf v)), (10, iN 16), (11, iN i), (12, .bool false)]) ?_ ?_
    · simp +decide only [mset_r1, g0_l5, g1_l5, g2_l5, g10_l5, g11_l5, d6_, Xo 2, go_sem]
    rintro t7_ _ ⟨rfl, g0_7, g1_7, g2_7, g10_7, g11_7, g12_7, -⟩
    refine WK.seq ?_
    refine WK.cond (v := false) (by rw [evalO_tmp, g12_7]; rfl) ?_
    refine WK.exit ?_
    exact ⟨.inl rfl, rfl, [], 0, rfl, .zero _ _, rfl, hov.as (by rw [hi8e]; exact mG_all _ _ _ _)⟩
end
end Go.Proofs.MN
end
noncomputable section
namespace Go.Proofs.MN
open Go Go.Ev Go.Proofs Go.Ev.SM
open Go.Ar (By)
section
variable [SyQ]
theorem bits_all : ((List.range 61).all fun x => eqBs (bitsOf 0 ++ bitsOf (UInt8.ofNat x)) (bits16 x).data.toList) = true := by kernel_rfl
theorem bits_two {x : Nat} (h : x < 61) : vS (bitsOf 0 ++ bitsOf (UInt8.ofNat x)) = .string (bits16 x) := by
  have h1 := List.all_eq_true.1 bits_all x (List.mem_range.2 h)
  rw [eqBs_eq, beq_iff_eq] at h1
  show Value.string ⟨⟨_⟩⟩ = _
  rw [h1]
theorem allO_get {f : Value → Bool} : ∀ (d : Nat) (x : Oc Value d), allO f d x = true → ∀ i, f (getO Value d x i) = true
  | 0, x, h, i => h
  | d + 1, x, h, i => by
    rw [getO_succ]
    obtain ⟨a, b, c, e, g, h1, i1, j⟩ := (x : N8 (Oc Value d))
    simp only [allO, Bool.and_eq_true] at h
    obtain ⟨p0, p1, p2, p3, p4, p5, p6, p7⟩ := h
    cases dg i with
    | d0 => exact allO_get d _ p0 _
    | d1 => exact allO_get d _ p1 _
    | d2 => exact allO_get d _ p2 _
    | d3 => exact allO_get d _ p3 _
    | d4 => exact allO_get d _ p4 _
    | d5 => exact allO_get d _ p5 _
    | d6 => exact allO_get d _ p6 _
    | d7 => exact allO_get d _ p7 _
theorem allT_get {f : Value → Bool} {t : T Value} (h : allT f t = true) (i : Nat) : f (t.get i) = true := by
  unfold allT at h
  split at h
  · exact h
  · exact allO_get 6 _ h i
  · cases h
theorem memOk_inv {B : Blk} {t : T Value} (h : memOk B = some t) : B = .cells t 65536 199 0 0 0 ∧ ∀ i, isByteV (t.get i) = true := by
  unfold memOk at h
  split at h
  · obtain ⟨h1, h2⟩ := bc_some h
    cases h2
    simp only [Bool.and_eq_true, beq_iff] at h1
    obtain ⟨rfl, rfl, rfl, rfl, rfl, h1⟩ := h1
    exact ⟨rfl, allT_get h1⟩
  · cases h
theorem isByte_of {n : Nat} {β : Mp} (hn : n ≤ 60) (tb : Tbl n β) {v v' : Value} (h : isByteV v = true) (hv : VRel β v v') : ∃ u : UInt8, v' = uB u := by
  unfold isByteV at h
  split at h
  · rename_i x
    cases hv
    have hx := (blt_iff _ _).1 h
    exact ⟨UInt8.ofNat x, by show Value.int .u8 (Int.ofNat x) = .int .u8 (.ofNat (UInt8.ofNat x).toNat); rw [ofNat_toNat8, Nat.mod_eq_of_lt hx]⟩
  · rename_i k
    simp only [Bool.and_eq_true, ble_iff, blt_iff] at h
    have e := tb k
    rw [bm_B h.1 h.2] at e
    rw [byte_of e hv]
    exact ⟨UInt8.ofNat (n - (k - 200)), by show Value.int .u8 (Int.ofNat _) = .int .u8 (.ofNat (UInt8.ofNat _).toNat); rw [ofNat_toNat8, Nat.mod_eq_of_lt (by omega)]⟩
  · cases h
theorem mem_real {n : Nat} {β : Mp} {W : World} (hn : n ≤ 60) (tb : Tbl n β) {B : Blk} {t : T Value} (h : memOk B = some t) {m : Bm} (hb : BOk β W B m) :
    m.sh = 0 ∧ m.tot = 65536 ∧ ∃ (cs : Array Value) (fr : Nat × Nat) (f : By), W.heap[m.rb]? = some (.cells cs 199 fr) ∧ cs.size = 65536 ∧ FrOk m 0 0 fr ∧ ∀ i, i < 65536 → cs[i]? = some (uB (f i)) ∧ VRel β (t.get i) (uB (f i)) := by
  obtain ⟨rfl, hB⟩ := memOk_inv h
  obtain ⟨o, ho, cs, fr, rfl, h1, h2, h3, h4, h5, h6⟩ := hb
  obtain ⟨hs, ht⟩ := h3 rfl
  have key : ∀ i, ∃ u : UInt8, i < 65536 → cs[i]? = some (uB u) ∧ VRel β (t.get i) (uB u) := fun i => by
    by_cases hi : i < 65536
    · obtain ⟨_, v', e, hv⟩ := h5 i hi
      rw [hs, Nat.zero_add] at e
      obtain ⟨u, rfl⟩ := isByte_of hn tb (hB i) hv
      exact ⟨u, fun _ => ⟨e, hv⟩⟩
    · exact ⟨0, fun h => absurd h hi⟩
  exact ⟨hs, ht, cs, fr, fun i => (key i).choose, ho, by omega, h6, fun i hi => (key i).choose_spec hi⟩
noncomputable def Hw (b : Nat) (f : By) (nx : Nat) : Hp := .fn (fun c => Bc (Nat.beq c b) (blkL (bys f 65536) 199 0) .no) nx
theorem Hw_b {b nx : Nat} (f : By) (h : b < nx) : (Hw b f nx).blk b = blkL (bys f 65536) 199 0 := by
  unfold Hw
  rw [blk_fn, if_pos h, (beq_iff _ _).2 rfl, Bc_t]
theorem Hw_ne {b c nx : Nat} (f : By) (h : c ≠ b) : (Hw b f nx).blk c = .no := by
  unfold Hw
  rw [blk_fn]
  split
  · cases e : Nat.beq c b with
    | true => exact absurd ((beq_iff _ _).1 e) h
    | false => rfl
  · rfl
theorem Hw_row {b nx : Nat} (f : By) (h : b < nx) : ByU (Hw b f nx) b 199 f 65536 := by
  obtain ⟨t, h1, h2⟩ := blkL_eq (bys f 65536) 199 0
  exact ⟨t, by rw [Hw_b f h, h1], h2⟩
theorem Hw_alive {b c nx : Nat} {f : By} (h : alive (Hw b f nx) c) : c = b := by
  by_cases e : c = b
  · exact e
  · exact absurd (Hw_ne f e) h.2
theorem Hw_ok {β : Mp} {W : World} {b nx : Nat} {m : Bm} {f : By} {cs : Array Value} {fr : Nat × Nat} (hlt : b < nx) (hs : m.sh = 0) (ht : m.tot = 65536) (ho : W.heap[m.rb]? = some (.cells cs 199 fr)) (hc : cs.size = 65536) (hf : FrOk m 0 0 fr)
    (hb : ∀ i, i < 65536 → cs[i]? = some (uB (f i))) : BOk β W ((Hw b f nx).blk b) m := by
  obtain ⟨t, h1, h2⟩ := blkL_eq (bys f 65536) 199 0
  rw [Hw_b f hlt, h1, bys_len]
  refine ⟨_, ho, cs, fr, rfl, by omega, by omega, fun _ => ⟨hs, ht⟩, (fun k h => by cases h), fun i hi => ?_, hf⟩
  have e := h2 i _ (bys_get hi)
  rw [e, hs, Nat.zero_add]
  exact ⟨rfl, _, hb i hi, .int _ _⟩
theorem pre_w {β : Mp} {W : World} {b nx : Nat} {m : Bm} {f : By} {H' : Hp} {r w : Nat} (hnx : nx ≤ 32768) (hlt : b < nx) (em : β b = some m) (hok : ∀ β', BOk β' W ((Hw b f nx).blk b) m) (hn : H'.nx ≤ nx + 1) (hd : ∀ b m, β b = some m → m.rb < W.heap.size) : Pre (β.cut nx) (Hw b f nx) H' r w W := by
  have hsy := sy_big
  refine ⟨fun c hc ha => ?_, fun c d mc md _ _ ac ad _ _ _ => (Hw_alive ac).trans (Hw_alive ad).symm, fun c h1 h2 => ?_, fun c mc e => hd c mc (Mp.cut_le _ _ _ _ e)⟩
  · have := Hw_alive ha; subst this
    exact ⟨m, by rw [Mp.cut_lt hlt]; exact em, hok _⟩
  · have h1 : nx ≤ c := h1
    exact Mp.cut_no h1 (by omega)
end
theorem byteOk_inv {hi lo : Value} {k : Nat} (h : byteOk hi lo = some k) : hi = .int .u8 0 ∧ lo = sy k ∧ 200 ≤ k ∧ k < 262 := by
  unfold byteOk at h
  split at h
  · obtain ⟨h1, h2⟩ := bc_some h
    cases h2
    simp only [Bool.and_eq_true, eqI_eq, beq_iff_eq, ble_iff, blt_iff] at h1
    obtain ⟨rfl, h1, h2⟩ := h1
    exact ⟨rfl, rfl, h1, h2⟩
  · cases h
theorem spGet_ok {P : Nat → Prop} {args : List Value} {H H' : Hp} {v : Value} {r w : Nat} (hw : H.wf) (h : spGet args H = some (v, H', r, w)) : @TaskOk (SyN P) Tryz.prog NG (.call 308 args) H (.k (.ret v H' r w)) := by
  letI := SyN P
  unfold spGet at h
  split at h
  case h_2 => cases h
  rename_i b a n
  split at h
  case h_2 => cases h
  rename_i t hm
  have h2 := bc_some h
  clear h
  obtain ⟨h1, h⟩ := h2
  simp only [Bool.and_eq_true, eqI_eq, beq_iff_eq, beq_iff, blt_iff, nxOk, ble_iff] at h1
  obtain ⟨rfl, ha, hlt, hnx, hng⟩ := h1
  have ha : a % 8 = 0 := ha
  have hlt : a / 8 < 65535 := hlt
  split at h
  case h_2 => cases h
  rename_i k hk
  cases h
  obtain ⟨e0, e1, k1, k2⟩ := byteOk_inv hk
  refine ⟨Can.refl hw, fun β W hg p args' hl => ?_⟩
  obtain ⟨hg1, n, hPn, hn, tb⟩ := hg
  obtain ⟨hB, _⟩ := memOk_inv hm
  have hal : alive H b := (alive_iff _ _).2 (by rw [hB]; intro e; cases e)
  obtain ⟨m, em, hbk⟩ := p.rel b (.inl ((bit_iff b b).2 rfl)) hal
  obtain ⟨hs, ht, cs, fr, f, ho, hc, hf, hcs⟩ := mem_real hn tb hm hbk
  have hbx : b < H.nx := hal.1
  have hec := mget_ok (sp := fun _ _ _ => none) (e := ⟨H.nx, fun c => c = b, fun _ => False⟩) (fun _ _ _ => rfl) (H := Hw b f H.nx) rfl (Nat.le_refl _) (p := a / 8) (Hw_row f hbx) (by omega) (fun _ => rfl)
  obtain ⟨N, v1, H1, r1, w1, hev, hok, hn1, rfl, hkp, hub⟩ := hec
  have hT := ev_ok tb1_ok lp_ok (spNo_ok Tryz.prog Tb1.ng) N (.call 308 [pA b 0, Go.Ev.iN (8 * (a / 8)), .int .i64 16]) (Hw b f H.nx) trivial
  rw [hev] at hT
  have hpre : Pre (β.cut H.nx) (Hw b f H.nx) H1 r1 w1 W := pre_w hnx hbx em (fun β' => Hw_ok hbx hs ht ho hc hf fun i hi => (hcs i hi).1) hub p.dom
  have hg2 : GRel NG (β.cut H.nx) := GRel.cut hng ⟨hg1, n, hPn, hn, tb⟩
  have hl2 : LRel (β.cut H.nx) [pA b 0, Go.Ev.iN (8 * (a / 8)), .int .i64 16] args'.toList := by
    obtain ⟨x1, l1, e, hx1, hl⟩ := hl.cons_inv
    obtain ⟨x2, l2, rfl, hx2, hl⟩ := hl.cons_inv
    rw [e]
    refine LRel.cons ?_ (LRel.cons ?_ ?_)
    · cases hx1 with | ptr _ _ m' e' => exact .ptr _ _ m' (by rw [Mp.cut_lt hbx]; exact e')
    · cases hx2
      have : a = 8 * (a / 8) := by omega
      show VRel _ (.int .i64 ((8 * (a / 8) : Nat) : Int)) _
      rw [← this]; exact .int _ _
    · obtain ⟨x3, l3, rfl, hx3, hl4⟩ := hl.cons_inv
      have := hl4.nil_inv; subst this
      cases hx3
      exact LRel.cons (.int _ _) (LRel.nil _)
  refine (hT.2 _ W hg2 hpre args' hl2).mono fun e W' hR => ?_
  obtain ⟨β1, v', he, hv, q⟩ := hR
  have hv' : v' = vS (bitsOf (f (a / 8)) ++ bitsOf (f (a / 8 + 1))) := by cases hv; rfl
  have b0 := (hcs (a / 8) (by omega)).2
  have b1 := (hcs (a / 8 + 1) (by omega)).2
  have e0 : t.get (a / 8) = .int .u8 0 := e0
  have e1 : t.get (a / 8 + 1) = sy k := e1
  rw [e0] at b0
  rw [e1] at b1
  have ek := tb k
  rw [bm_B k1 k2] at ek
  have hb0 : f (a / 8) = 0 := by
    have : uB (f (a / 8)) = .int .u8 0 := flat_eq 10 _ _ rfl b0
    injection this with _ h2
    have h3 : (f (a / 8)).toNat = 0 := Int.ofNat.inj h2
    exact UInt8.toNat_inj.1 h3
  have hb1 : f (a / 8 + 1) = UInt8.ofNat (n - (k - 200)) := by
    have := byte_of ek b1
    injection this with _ h2
    have h3 : (f (a / 8 + 1)).toNat = n - (k - 200) := Int.ofNat.inj h2
    apply UInt8.toNat_inj.1
    rw [h3, ofNat_toNat8, Nat.mod_eq_of_lt (by omega)]
  have ek2 := tb (k + 300)
  rw [bm_D (by omega) (by omega), show k + 300 - 500 = k - 200 from by omega] at ek2
  refine ⟨β, v', he, ?_, ?_⟩
  · rw [hv', hb0, hb1, bits_two (by omega)]
    exact of_str ek2
  · refine ⟨Mp.le.refl _, fun c mc e1 e2 => (by rw [e2] at e1; cases e1), fun c hc' hac => ?_, fun rb o ho' hno => q.frame rb o ho' fun c mc hc' hwc ec => ?_, q.size, fun c mc e1 => Nat.lt_of_lt_of_le (p.dom c mc e1) q.size, fun c mc _ e1 e2 => (by rw [e1] at e2; cases e2), fun c d mc md hc' _ hac => ?_, q.env⟩
    · rcases hc' with h | h
      · have := hac.1; omega
      · simp at h
    · exact (hok.wr c hc' hwc).elim
    · rcases hc' with h | h
      · have := hac.1; omega
      · simp at h
theorem setB_task {P : Nat → Prop} {H H' : Hp} {t : T Value} {b a : Nat} {s v v0 : Value} {r w : Nat} (hw : H.wf) (hm : memOk (H.blk b) = some t) (h : setB t b a v H = some (v0, H', r, w)) (hv1 : oneC v = true)
    (hs : ∀ (n : Nat) (β : Mp) (s' : Value), P n → n ≤ 60 → Tbl n β → VRel β s s' → ∃ x, x < 61 ∧ s' = .string (bits16 x) ∧ VRel β v (uB (UInt8.ofNat x))) :
    @TaskOk (SyN P) Tryz.prog NG (.call 137 [.pointer (some ⟨b, 0, none⟩), .int .i64 (.ofNat a), s]) H (.k (.ret v0 H' r w)) := by
  letI := SyN P
  unfold setB at h
  have h2 := bc_some h
  clear h
  obtain ⟨h1, h⟩ := h2
  simp only [Bool.and_eq_true, beq_iff, blt_iff, nxOk, ble_iff] at h1
  obtain ⟨ha, hlt, hnx, hng⟩ := h1
  have ha : a % 8 = 0 := ha
  have hlt : a / 8 < 65535 := hlt
  obtain ⟨p, hp⟩ : ∃ p, a / 8 = p := ⟨_, rfl⟩
  have hap : a = 8 * p := by omega
  have hpl : p < 65535 := by omega
  cases h
  obtain ⟨hB, _⟩ := memOk_inv hm
  have hal : alive H b := (alive_iff _ _).2 (by rw [hB]; intro e; cases e)
  have hbx : b < H.nx := hal.1
  have hcan : Go.Ev.Can H (H.put b (.cells (T.set 6 (T.set 6 t (Nat.div a 8) (.int .u8 0)) (Nat.succ (Nat.div a 8)) v) 65536 199 0 0 0)) (bit b) := can_put hw _ hal
  refine ⟨hcan, fun β W hg pp args' hl => ?_⟩
  obtain ⟨hg1, n, hPn, hn, tb⟩ := hg
  obtain ⟨m, em, hbk⟩ := pp.rel b (.inr ((bit_iff b b).2 rfl)) hal
  obtain ⟨hms, ht, cs, fr, f, ho, hc, hf, hcs⟩ := mem_real hn tb hm hbk
  obtain ⟨x1, l1, eargs, hx1, hl⟩ := hl.cons_inv
  obtain ⟨x2, l2, rfl, hx2, hl⟩ := hl.cons_inv
  obtain ⟨x3, l3, rfl, hx3, hl4⟩ := hl.cons_inv
  have := hl4.nil_inv; subst this
  obtain ⟨x, hx, rfl, hvx⟩ := hs n β x3 hPn hn tb hx3
  have hec := mset_ok (sp := fun _ _ _ => none) (e := ⟨H.nx, fun c => c = b, fun c => c = b⟩) (fun _ _ _ => rfl) (H := Hw b f H.nx) rfl (Nat.le_refl _) (u := 0) (v := UInt8.ofNat x) (p := p) (Hw_row f hbx) (by omega) (fun _ => rfl) (fun _ => rfl)
  obtain ⟨N, v1, H1, r1, w1, hev, hok, hn1, rfl, hov⟩ := hec
  have hT := ev_ok tb1_ok lp_ok (spNo_ok Tryz.prog Tb1.ng) N (.call 137 [pA b 0, Go.Ev.iN (8 * p), vS (bitsOf 0 ++ bitsOf (UInt8.ofNat x))]) (Hw b f H.nx) trivial
  rw [hev] at hT
  have hnx1 : H1.nx = H.nx := hov.nx
  have hpre : Pre (β.cut H.nx) (Hw b f H.nx) H1 r1 w1 W := pre_w hnx hbx em (fun β' => Hw_ok hbx hms ht ho hc hf fun i hi => (hcs i hi).1) (by omega) pp.dom
  have hg2 : GRel NG (β.cut H.nx) := GRel.cut hng ⟨hg1, n, hPn, hn, tb⟩
  have hl2 : LRel (β.cut H.nx) [pA b 0, Go.Ev.iN (8 * p), vS (bitsOf 0 ++ bitsOf (UInt8.ofNat x))] args'.toList := by
    rw [eargs]
    refine LRel.cons ?_ (LRel.cons ?_ (LRel.cons ?_ (LRel.nil _)))
    · cases hx1 with | ptr _ _ m' e' => exact .ptr _ _ m' (by rw [Mp.cut_lt hbx]; exact e')
    · cases hx2
      show VRel _ (.int .i64 ((8 * p : Nat) : Int)) _
      rw [← hap]; exact .int _ _
    · rw [bits_two hx]; exact .string _
  refine (hT.2 _ W hg2 hpre args' hl2).mono fun e W' hR => ?_
  obtain ⟨β1, v', he, hv, q⟩ := hR
  have hv' : v' = .tuple #[] := by
    cases hv with | tuple xs xs' e1 e2 =>
    have : xs' = [] := by cases xs' with | nil => rfl | cons => simp at e1
    subst this; rfl
  have hrow := hov.row
  obtain ⟨t1, hb1, hg1'⟩ := hrow
  rw [bys_len] at hb1
  have hbk1 : ∃ cs1 fr1, W'.heap[m.rb]? = some (.cells cs1 199 fr1) ∧ cs1.size = 65536 ∧ FrOk m 0 0 fr1 ∧ ∀ i, i < 65536 → cs1[i]? = some (uB (over f p 2 (fun k => if k = 0 then 0 else UInt8.ofNat x) i)) := by
    have hal1 : alive H1 b := (alive_iff _ _).2 (by rw [hb1]; intro e; cases e)
    have hcut : β.cut H.nx b = some m := by rw [Mp.cut_lt hbx]; exact em
    have hB1 : BOk β1 W' (H1.blk b) m := by
      by_cases hwb : w1.testBit b = true
      · obtain ⟨m', em', hr'⟩ := q.rel b (.inr hwb) hal1
        have := q.le _ _ hcut
        rw [em'] at this; cases this
        exact hr'
      · have hwf : w1.testBit b = false := by cases e : w1.testBit b with | false => rfl | true => exact absurd e hwb
        have hk := hT.1.keep b hbx hwf
        rw [hk]
        obtain ⟨o, ho2, hr2⟩ := Hw_ok (β := β1) hbx hms ht ho hc hf fun i hi => (hcs i hi).1
        refine ⟨o, ?_, hr2⟩
        refine q.frame m.rb o ho2 fun c mc hcn hwc ec he => ?_
        have := hok.wr c hcn hwc
        subst this
        exact hwb hwc
    rw [hb1] at hB1
    obtain ⟨o1, ho1, cs1, fr1, rfl, g1, g2, g3, g4, g5, g6⟩ := hB1
    refine ⟨cs1, fr1, ho1, by rw [g1, ht], g6, fun i hi => ?_⟩
    obtain ⟨_, y, ey, hy⟩ := g5 i hi
    rw [hms, Nat.zero_add] at ey
    have e1 := hg1' i _ (bys_get hi)
    rw [e1] at hy
    have : y = _ := flat_eq 10 _ _ rfl hy
    rw [ey, this]
  obtain ⟨cs1, fr1, ho1, hc1, hf1, hcs1⟩ := hbk1
  refine ⟨β, v', he, by rw [hv']; exact VRel.flat β 10 _ rfl, ?_⟩
  refine ⟨Mp.le.refl _, fun c mc e1 e2 => (by rw [e2] at e1; cases e1), fun c hc' hac => ?_, fun rb o ho' hno => ?_, q.size, fun c mc e1 => Nat.lt_of_lt_of_le (pp.dom c mc e1) q.size, fun c mc _ e1 e2 => (by rw [e1] at e2; cases e2), fun c d mc md hc' hd' hac had _ _ _ => ?_, q.env⟩
  · have hcb : c = b := by
      rcases hc' with h | h
      · have := hac.1; rw [nx_put] at this; omega
      · exact (bit_iff b c).1 h
    subst hcb
    refine ⟨m, em, ?_⟩
    rw [blk_put _ hw hbx, if_pos rfl]
    refine ⟨_, ho1, cs1, fr1, rfl, by omega, by omega, fun _ => ⟨hms, ht⟩, (fun k h => by cases h), fun i hi => ?_, hf1⟩
    have hp8 : Nat.div a 8 = p := hp
    rw [hp8, T.get_set 6 _ _ _ _ (by omega) (by omega), T.get_set 6 _ _ _ _ (by omega) (by omega), hms, Nat.zero_add]
    have e2 := hcs1 i hi
    by_cases i1 : i = Nat.succ p
    · rw [if_pos i1]
      refine ⟨hv1, _, e2, ?_⟩
      have : over f p 2 (fun k => if k = 0 then 0 else UInt8.ofNat x) i = UInt8.ofNat x := by
        unfold over; rw [if_pos (by omega)]; show (if i - p = 0 then (0 : UInt8) else UInt8.ofNat x) = _; rw [if_neg (by omega)]
      rw [this]; exact hvx
    · rw [if_neg i1]
      by_cases i0 : i = p
      · rw [if_pos i0]
        refine ⟨rfl, _, e2, ?_⟩
        have : over f p 2 (fun k => if k = 0 then 0 else UInt8.ofNat x) i = 0 := by
          unfold over; rw [if_pos (by omega)]; show (if i - p = 0 then (0 : UInt8) else UInt8.ofNat x) = _; rw [if_pos (by omega)]
        rw [this]; exact .int _ _
      · rw [if_neg i0]
        have hor := hcs i hi
        have hb0 : oneC (t.get i) = true := by
          obtain ⟨_, hby⟩ := memOk_inv hm
          have := hby i
          unfold isByteV at this
          split at this
          · rename_i e; rw [e]; rfl
          · rename_i e; rw [e]; rfl
          · cases this
        refine ⟨hb0, _, e2, ?_⟩
        have : over f p 2 (fun k => if k = 0 then 0 else UInt8.ofNat x) i = f i := by
          unfold over; rw [if_neg (by omega)]
        rw [this]; exact hor.2
  · refine q.frame rb o ho' fun c mc hcn hwc ec => ?_
    have := hok.wr c hcn hwc
    subst this
    exact hno c mc hcn ((bit_iff c c).2 rfl) (Mp.cut_le _ _ _ _ ec)
  · have key : ∀ {y}, (H.nx ≤ y ∨ (bit b).testBit y = true) → alive (H.put b (.cells (T.set 6 (T.set 6 t (Nat.div a 8) (.int .u8 0)) (Nat.succ (Nat.div a 8)) v) 65536 199 0 0 0)) y → y = b := fun {y} hy hay => by
      rcases hy with h | h
      · have := hay.1; rw [nx_put] at this; omega
      · exact (bit_iff b y).1 h
    exact (key hc' hac).trans (key hd' had).symm
theorem spSet_ok {P : Nat → Prop} {args : List Value} {H H' : Hp} {v : Value} {r w : Nat} (hw : H.wf) (h : spSet args H = some (v, H', r, w)) : @TaskOk (SyN P) Tryz.prog NG (.call 137 args) H (.k (.ret v H' r w)) := by
  unfold spSet at h
  split at h
  case h_2 => cases h
  rename_i b a s
  split at h
  case h_2 => cases h
  rename_i t hm
  split at h
  · rename_i k
    have h2 := bc_some h
    clear h
    obtain ⟨h1, h⟩ := h2
    simp only [Bool.and_eq_true, ble_iff, blt_iff] at h1
    refine setB_task hw hm h rfl fun n β s' _ hn tb hs => ?_
    have ek := tb k
    rw [bm_D h1.1 h1.2] at ek
    have ek2 := tb (k - 300)
    rw [bm_B (by omega) (by omega), show k - 300 - 200 = k - 500 from by omega] at ek2
    refine ⟨n - (k - 500), by omega, str_of ek hs, ?_⟩
    have := of_byte ek2
    show VRel β (sy (k - 300)) (.int .u8 (.ofNat (UInt8.ofNat (n - (k - 500))).toNat))
    rw [show (UInt8.ofNat (n - (k - 500))).toNat = n - (k - 500) from by simp; omega]
    exact this
  · rename_i s
    have h2 := bc_some h
    clear h
    obtain ⟨h1, h⟩ := h2
    simp only [Bool.and_eq_true, blt_iff, eqBs_eq, beq_iff_eq] at h1
    refine setB_task hw hm h rfl fun n β s' _ hn tb hs => ?_
    refine ⟨num16 s, h1.1, ?_, ?_⟩
    · have e : s' = .string s := flat_eq 10 _ _ rfl hs
      rw [e]
      congr 1
      have := h1.2
      obtain ⟨⟨l⟩⟩ := s
      simp only at this
      show ByteArray.mk ⟨l⟩ = bits16 _
      conv => lhs; rw [this]
    · show VRel β (.int .u8 (.ofNat (num16 s))) (.int .u8 (.ofNat (UInt8.ofNat (num16 s)).toNat))
      rw [show (UInt8.ofNat (num16 s)).toNat = num16 s from by have := h1.1; simp; omega]
      exact .int _ _
  · cases h
end Go.Proofs.MN
end
noncomputable section
namespace Go.Proofs.CN
open Go Go.Ev Go.Proofs
noncomputable def bst_body : Code := (Tryz.f230.body).getD .skip
def bst_r0 : List CO := [
    ⟨(some 2), none, .mv (.const (.bool false))⟩]
def bst_r1 : List CO := [
    ⟨(some 4), none, .mv (.tmp 0)⟩,
    ⟨(some 5), none, .len 0 (.tmp 4)⟩,
    ⟨(some 6), none, .mv (.const (.int .i64 (0)))⟩]
def bst_r2 : List CO := [
    ⟨(some 7), none, .bin .lss (.tmp 6) (.tmp 5)⟩]
def bst_r3 : List CO := [
    ⟨(some 8), none, .mv (.tmp 6)⟩,
    ⟨(some 3), none, .mv (.tmp 8)⟩]
def bst_r4 : List CO := [
    ⟨(some 9), none, .mv (.tmp 0)⟩,
    ⟨(some 10), none, .mv (.tmp 3)⟩,
    ⟨(some 11), none, .ixS (.tmp 9) (.tmp 10)⟩,
    ⟨(some 12), none, .eq true (.one .i) (.tmp 11) (.const (.int .u8 (48)))⟩,
    ⟨(some 13), none, .mv (.tmp 12)⟩,
    ⟨(some 14), (some (13, true)), .mv (.tmp 0)⟩,
    ⟨(some 15), (some (13, true)), .mv (.tmp 3)⟩,
    ⟨(some 16), (some (13, true)), .ixS (.tmp 14) (.tmp 15)⟩,
    ⟨(some 17), (some (13, true)), .eq true (.one .i) (.tmp 16) (.const (.int .u8 (49)))⟩,
    ⟨(some 18), none, .pick (.tmp 13) (.tmp 17) (.const (.bool false))⟩]
def bst_r5 : List CO := [
    ⟨(some 2), none, .mv (.const (.bool false))⟩]
def bst_r6 : List CO := [
    ⟨(some 19), none, .bin .add (.tmp 6) (.const (.int .i64 (1)))⟩,
    ⟨(some 6), none, .mv (.tmp 19)⟩]
noncomputable def bst_l7 : KC :=
  (.seq (.reg bst_r2)
  (.seq (.cond (.tmp 7) .skip
   (.exit 0))
  (.seq (.block 1 (.seq (.reg bst_r3)
   (.seq (.reg bst_r4)
   (.cond (.tmp 18) (.seq (.reg bst_r5)
    .ret)
    .skip))))
  (.reg bst_r6))))
def bst_r8 : List CO := [
    ⟨(some 2), none, .mv (.const (.bool true))⟩]
noncomputable def bst_k : KC :=
  (.seq (.reg bst_r0)
  (.seq (.seq (.reg bst_r1)
  (.block 0 (.loop bst_body.sr.sl.sr.bl.lp bst_l7)))
  (.seq (.reg bst_r8)
  .ret)))
theorem bst_comp : kcomp Go.Proofs.MN.Tb1 Tryz.f230.ntmps bst_body = bst_k := by kernel_rfl
theorem bst_some : Tryz.f230.body = some bst_body := rfl
end Go.Proofs.CN
end
noncomputable section
namespace Go.Proofs.CN
open Go Go.Ev Go.Proofs Go.Ev.SM Go.Proofs.MN
open Go.Ar (By)
theorem fn230 : Tb1.fn 230 = some Tryz.f230 := by kernel_rfl
theorem bitU_or (u : UInt8) (i : Nat) : bitU u i = 48 ∨ bitU u i = 49 := by
  unfold bitU
  have := Nat.mod_lt (u.toNat / 2 ^ (7 - i)) (show 0 < 2 by decide)
  rcases (by omega : u.toNat / 2 ^ (7 - i) % 2 = 0 ∨ u.toNat / 2 ^ (7 - i) % 2 = 1) with h | h <;> rw [h]
  · exact .inl rfl
  · exact .inr rfl
section
variable [SyQ]
attribute [local go_sem] Bc_f Bc_t GT Ro_some Rv_eq WOG Yj Yk Yl Ym Yn Yo Yp Yq Yr and_self and_true binV_add binV_geq binV_gtr binV_leq binV_lss binV_sub callV_func dec_F dec_T evalL evalM evalO_const evalO_func evalO_tmp exEq_int exFa_ptr exLen_str exPick_f exPick_t exUn_not if_false if_true no_bits ok_zero putT_none run true_and wantsV_U wantsV_ff wantsV_ft wantsV_tf wantsV_tt wants_none' wants_some
variable {sp : Nat → List Value → Hp → Option (Value × Hp × Nat × Nat)} {e : Env}
set_option maxRecDepth 10000 in
set_option maxHeartbeats 4000000 in
theorem bst_ok (S : ∀ f args H, sp f args H = none) {H : Hp} (hf : H.isFn = true) (he : e.n0 ≤ H.nx) {u v : UInt8} : EC Tb1 sp e 230 [vS (bitsOf u ++ bitsOf v)] H fun r H' => r = .bool true ∧ H' = H := by
  refine EC.i1 fn230 bst_some bst_comp (S _ _ _) (by show 1 ≤ 20; decide) fun t0 g0 => ?_
  show WK Tb1 sp e ⟨2, 20, none, false⟩ bst_k t0 [] H _
  unfold bst_k
  refine WK.seq ?_
  refine WK.reg_g ?_
  refine WOG.all (fun t' H' => H = H' ∧ GT t' [(0, vS (bitsOf u ++ bitsOf v))]) ?_ ?_
  · simp +decide only [bst_r0, g0, Xo 2, go_sem]
  rintro t1 _ ⟨rfl, g0_1, -⟩
  refine WK.seq ?_
  refine WK.seq ?_
  refine WK.reg_g ?_
  have ml_ : ∀ Hq, exLen 0 (vS (bitsOf u ++ bitsOf v)) Hq = .val (vN ((16 : Nat))) Hq 0 0 := fun Hq => len_bits2 u v Hq
  refine WOG.all (fun t' H' => H = H' ∧ GT t' [(0, vS (bitsOf u ++ bitsOf v)), (5, iN 16), (6, .int .i64 (0))]) ?_ ?_
  · simp +decide only [bst_r1, g0_1, ml_, Xo 2, go_sem]
  rintro t2 _ ⟨rfl, g0_2, g5_2, g6_2, -⟩
  refine WK.block (WK.loop_ind (fun m t' ds' H' => ds' = [] ∧ H' = H ∧ ∃ i : Nat, m = 16 - i ∧ i ≤ 16 ∧ t'.get 0 = vS (bitsOf u ++ bitsOf v) ∧ t'.get 5 = iN 16 ∧ t'.get 6 = iN i) ?_ _ t2 [] H ⟨rfl, rfl, 0, rfl, by omega, g0_2, g5_2, g6_2⟩)
  rintro m_ tl ds_ H_l ⟨rfl, rfl, i, rfl, hi, g0_l, g5_l, g6_l⟩
  unfold bst_l7
  refine WK.seq ?_
  by_cases hlt : i < 16
  case pos =>
    refine WK.reg_g ?_
    have d_ : decide (((i : Nat) : Int) < ((16 : Nat) : Int)) = true := decide_eq_true (by omega)
    refine WOG.all (fun t' H' => H_l = H' ∧ GT t' [(0, vS (bitsOf u ++ bitsOf v)), (5, iN 16), (6, iN i), (7, .bool true)]) ?_ ?_
    · simp +decide only [bst_r2, g0_l, g5_l, g6_l, d_, Xo 2, go_sem]
    rintro t3 _ ⟨rfl, g0_3, g5_3, g6_3, g7_3, -⟩
    refine WK.seq ?_
    refine WK.cond (v := true) (by rw [evalO_tmp, g7_3]; rfl) ?_
    refine WK.skip ?_
    refine WK.seq ?_
    refine WK.block ?_
    refine WK.seq ?_
    refine WK.reg_g ?_
    refine WOG.all (fun t' H' => H_l = H' ∧ GT t' [(0, vS (bitsOf u ++ bitsOf v)), (3, iN i), (5, iN 16), (6, iN i)]) ?_ ?_
    · simp +decide only [bst_r3, g0_3, g5_3, g6_3, g7_3, Xo 2, go_sem]
    rintro t4 _ ⟨rfl, g0_4, g3_4, g5_4, g6_4, -⟩
    refine WK.seq ?_
    refine WK.reg_g ?_
    have mi_ : ∀ Hq, exIxS (vS (bitsOf u ++ bitsOf v)) (iN i) Hq = .val (uB (bitU (sl2 u v i) (i % 8))) Hq 0 0 := fun Hq => ixS_bits2 hlt Hq
    refine WOG.all (fun t' H' => H_l = H' ∧ GT t' [(0, vS (bitsOf u ++ bitsOf v)), (3, iN i), (5, iN 16), (6, iN i), (18, .bool false)]) ?_ ?_
    · rcases bitU_or (sl2 u v i) (i % 8) with hc | hc
      · rw [hc] at mi_
        have q1 : ∀ Hq, exEq true (.one .i) (uB 48) (.int .u8 (48)) Hq = .val (.bool false) Hq 0 0 := fun Hq => rfl
        simp +decide only [bst_r4, g0_4, g3_4, g5_4, g6_4, mi_, q1, Xo 2, go_sem]
      · rw [hc] at mi_
        have q1 : ∀ Hq, exEq true (.one .i) (uB 49) (.int .u8 (48)) Hq = .val (.bool true) Hq 0 0 := fun Hq => rfl
        have q2 : ∀ Hq, exEq true (.one .i) (uB 49) (.int .u8 (49)) Hq = .val (.bool false) Hq 0 0 := fun Hq => rfl
        simp +decide only [bst_r4, g0_4, g3_4, g5_4, g6_4, mi_, q1, q2, Xo 2, go_sem]
    rintro t5 _ ⟨rfl, g0_5, g3_5, g5_5, g6_5, g18_5, -⟩
    refine WK.cond (v := false) (by rw [evalO_tmp, g18_5]; rfl) ?_
    refine WK.skip ?_
    refine WK.reg_g ?_
    have w_ : Value.int .i64 (wrapF .i64 (((i : Nat) : Int) + (1 : Int))) = .int .i64 (((i + 1) : Nat) : Int) := wF (by omega)
    refine WOG.all (fun t' H' => H_l = H' ∧ GT t' [(0, vS (bitsOf u ++ bitsOf v)), (5, iN 16), (6, iN ((i + 1)))]) ?_ ?_
    · simp +decide only [bst_r6, g0_5, g5_5, g6_5, w_, Xo 2, go_sem]
    rintro t6 _ ⟨rfl, g0_6, g5_6, g6_6, -⟩
    exact ⟨_, by omega, rfl, rfl, i + 1, rfl, by omega, g0_6, g5_6, g6_6⟩
  case neg =>
    obtain rfl : i = 16 := by omega
    refine WK.reg_g ?_
    have d_ : decide (((16 : Nat) : Int) < ((16 : Nat) : Int)) = false := decide_eq_false (by omega)
    refine WOG.all (fun t' H' => H_l = H' ∧ GT t' [(0, vS (bitsOf u ++ bitsOf v)), (7, .bool false)]) ?_ ?_
    · simp +decide only [bst_r2, g0_l, g5_l, g6_l, d_, Xo 2, go_sem]
    rintro t3 _ ⟨rfl, g0_3, g7_3, -⟩
    refine WK.seq ?_
    refine WK.cond (v := false) (by rw [evalO_tmp, g7_3]; rfl) ?_
    refine WK.exit ?_
    refine WK.seq ?_
    refine WK.reg_g ?_
    refine WOG.all (fun t' H' => H_l = H' ∧ GT t' [(2, .bool true)]) ?_ ?_
    · simp +decide only [bst_r8, g0_3, Xo 2, go_sem]
    rintro t4 _ ⟨rfl, g2_4, -⟩
    refine WK.ret ⟨.inr rfl, rfl, [.bool true], 0, ?_, .zero _ _, rfl, rfl⟩
    show resL Tb1 20 t4 _ [.tmp 2] = _
    simp only [resL, g2_4]; rfl
end
def isByteC (v : Value) : Bool := match v with
  | .int .u8 (.ofNat x) => Nat.blt x 256
  | .chan (some k) => Nat.beq k 4008 || Nat.beq k 4009
  | _ => false
def memOkC (B : Blk) : Option (T Value) := match B with
  | .cells t sz ty op lo hi => Bc (Nat.beq sz 65536 && (Nat.beq ty 199 && (Nat.beq op 0 && (Nat.beq lo 0 && (Nat.beq hi 0 && allT isByteC t))))) (some t) none
  | _ => none
def isSyC (k : Nat) (v : Value) : Bool := match v with | .chan (some j) => Nat.beq j k | _ => false
theorem isSyC_inv {k : Nat} {v : Value} (h : isSyC k v = true) : v = sy k := by
  unfold isSyC at h
  split at h
  · rw [(beq_iff _ _).1 h]; rfl
  · cases h
def spGetC (args : List Value) (H : Hp) : Ans := match args with
  | [.pointer (some ⟨b, 0, none⟩), .int .i64 (.ofNat at_), .int .i64 n] => (match memOkC (H.blk b) with
    | some t => Bc (eqI n 16 && (Nat.beq (Nat.mod at_ 8) 0 && (Nat.blt (Nat.div at_ 8) 65535 && nxOk H)))
      (Bc (isSyC 4008 (t.get (Nat.div at_ 8)) && isSyC 4009 (t.get (Nat.succ (Nat.div at_ 8)))) (some (sy 4007, H, bit b, 0)) none) none
    | none => none)
  | _ => none
def setC (t : T Value) (b at_ : Nat) (H : Hp) : Ans :=
  Bc (Nat.beq (Nat.mod at_ 8) 0 && (Nat.blt (Nat.div at_ 8) 65535 && nxOk H))
      (some (.tuple #[], H.put b (.cells (T.set 6 (T.set 6 t (Nat.div at_ 8) (sy 4008)) (Nat.succ (Nat.div at_ 8)) (sy 4009)) 65536 199 0 0 0), 0, bit b)) none
def spSetC (args : List Value) (H : Hp) : Ans := match args with
  | [.pointer (some ⟨b, 0, none⟩), .int .i64 (.ofNat at_), s] => (match memOkC (H.blk b) with
    | some t => Bc (isSyC 4007 s) (setC t b at_ H) none
    | none => none)
  | _ => none
def hiC (z : Int) : UInt8 := UInt8.ofNat (u16 z / 256)
def loC (z : Int) : UInt8 := UInt8.ofNat (u16 z % 256)
theorem hiC_nat (z : Int) : (hiC z).toNat = u16 z / 256 := by
  have := u16_lt z
  unfold hiC; rw [UInt8.toNat_ofNat']; omega
theorem loC_nat (z : Int) : (loC z).toNat = u16 z % 256 := by unfold loC; rw [UInt8.toNat_ofNat']; omega
theorem slot_8 (z : Int) : slot z 8 = uB (hiC z) := by
  show nI .u8 (u16 z / 256) = Value.int .u8 (.ofNat (hiC z).toNat)
  rw [hiC_nat]; rfl
theorem slot_9 (z : Int) : slot z 9 = uB (loC z) := by
  show nI .u8 (u16 z % 256) = Value.int .u8 (.ofNat (loC z).toNat)
  rw [loC_nat]; rfl
theorem bitN_hi (z : Int) {i : Nat} (h : i < 8) : u16 z / 256 / 2 ^ i % 2 = bitN z (8 + i) := by
  unfold bitN
  rw [Nat.div_div_eq_div_mul, show 256 * 2 ^ i = 2 ^ (8 + i) from by rw [Nat.pow_add]]
theorem bitN_lo (z : Int) {i : Nat} (h : i < 8) : u16 z % 256 / 2 ^ i % 2 = bitN z i := by
  unfold bitN
  generalize u16 z = n
  rcases (by omega : i = 0 ∨ i = 1 ∨ i = 2 ∨ i = 3 ∨ i = 4 ∨ i = 5 ∨ i = 6 ∨ i = 7) with rfl | rfl | rfl | rfl | rfl | rfl | rfl | rfl <;> simp <;> omega
theorem bits_C (z : Int) : vS (bitsOf (hiC z) ++ bitsOf (loC z)) = slot z 7 := by
  rw [slot_7]
  have h1 : bitsOf (hiC z) = (List.range 8).map fun i => UInt8.ofNat (48 + bitN z (15 - i)) := by
    unfold bitsOf
    apply List.map_congr_left
    intro i hi
    have hi := List.mem_range.1 hi
    unfold bitU
    rw [hiC_nat, bitN_hi z (by omega), show 8 + (7 - i) = 15 - i from by omega]
  have h2 : bitsOf (loC z) = (List.range 8).map fun i => UInt8.ofNat (48 + bitN z (15 - (8 + i))) := by
    unfold bitsOf
    apply List.map_congr_left
    intro i hi
    have hi := List.mem_range.1 hi
    unfold bitU
    rw [loC_nat, bitN_lo z (by omega), show 15 - (8 + i) = 7 - i from by omega]
  rw [h1, h2]
  rfl
section
variable [SyQ]
theorem memOkC_inv {B : Blk} {t : T Value} (h : memOkC B = some t) : B = .cells t 65536 199 0 0 0 ∧ ∀ i, isByteC (t.get i) = true := by
  unfold memOkC at h
  split at h
  · obtain ⟨h1, h2⟩ := bc_some h
    cases h2
    simp only [Bool.and_eq_true, beq_iff] at h1
    obtain ⟨rfl, rfl, rfl, rfl, rfl, h1⟩ := h1
    exact ⟨rfl, allT_get h1⟩
  · cases h
end
theorem isByteC_of {zs : Nat → Int} {β : Mp} (tb : Tbc (semZ zs) β) {v v' : Value} (h : isByteC v = true) (hv : VRel β v v') : ∃ u : UInt8, v' = uB u := by
  unfold isByteC at h
  split at h
  · rename_i x
    cases hv
    have hx := (blt_iff _ _).1 h
    exact ⟨UInt8.ofNat x, by show Value.int .u8 (Int.ofNat x) = .int .u8 (.ofNat (UInt8.ofNat x).toNat); rw [UInt8.toNat_ofNat', Nat.mod_eq_of_lt (by omega)]⟩
  · rename_i k
    simp only [Bool.or_eq_true, beq_iff] at h
    rcases h with rfl | rfl
    · rw [(real_of (semZ_sc zs) tb (v := .chan (some 4008)) rfl).1 hv]
      exact ⟨hiC (zs 4), slot_8 _⟩
    · rw [(real_of (semZ_sc zs) tb (v := .chan (some 4009)) rfl).1 hv]
      exact ⟨loC (zs 4), slot_9 _⟩
  · cases h
theorem mem_realC [SyQ] {zs : Nat → Int} {β : Mp} {W : World} (tb : Tbc (semZ zs) β) {B : Blk} {t : T Value} (h : memOkC B = some t) {m : Bm} (hb : BOk β W B m) :
    m.sh = 0 ∧ m.tot = 65536 ∧ ∃ (cs : Array Value) (fr : Nat × Nat) (f : By), W.heap[m.rb]? = some (.cells cs 199 fr) ∧ cs.size = 65536 ∧ FrOk m 0 0 fr ∧ ∀ i, i < 65536 → cs[i]? = some (uB (f i)) ∧ VRel β (t.get i) (uB (f i)) := by
  obtain ⟨rfl, hB⟩ := memOkC_inv h
  obtain ⟨o, ho, cs, fr, rfl, h1, h2, h3, h4, h5, h6⟩ := hb
  obtain ⟨hs, ht⟩ := h3 rfl
  have key : ∀ i, ∃ u : UInt8, i < 65536 → cs[i]? = some (uB u) ∧ VRel β (t.get i) (uB u) := fun i => by
    by_cases hi : i < 65536
    · obtain ⟨_, v', e, hv⟩ := h5 i hi
      rw [hs, Nat.zero_add] at e
      obtain ⟨u, rfl⟩ := isByteC_of tb (hB i) hv
      exact ⟨u, fun _ => ⟨e, hv⟩⟩
    · exact ⟨0, fun h => absurd h hi⟩
  exact ⟨hs, ht, cs, fr, fun i => (key i).choose, ho, by omega, h6, fun i hi => (key i).choose_spec hi⟩
theorem spGetC_ok {Q : (Nat → Int) → Prop} {hk : HkOp → List Value → Option Value} {hok0 : HkOk (PW Q) hk} {args : List Value} {H H' : Hp} {v : Value} {r w : Nat} (hw : H.wf) (h : spGetC args H = some (v, H', r, w)) : @TaskOk (SyC (PW Q) hk hok0) Tryz.prog NG (.call 308 args) H (.k (.ret v H' r w)) := by
  letI := SyC (PW Q) hk hok0
  unfold spGetC at h
  split at h
  case h_2 => cases h
  rename_i b a n
  split at h
  case h_2 => cases h
  rename_i t hm
  have h2 := bc_some h
  clear h
  obtain ⟨h1, h⟩ := h2
  simp only [Bool.and_eq_true, eqI_eq, beq_iff_eq, beq_iff, blt_iff, nxOk, ble_iff] at h1
  obtain ⟨rfl, ha, hlt, hnx, hng⟩ := h1
  have ha : a % 8 = 0 := ha
  have hlt : a / 8 < 65535 := hlt
  obtain ⟨hby, h⟩ := bc_some h
  rw [Bool.and_eq_true] at hby
  have e0 := isSyC_inv hby.1
  have e1 := isSyC_inv hby.2
  cases h
  refine ⟨Can.refl hw, fun β W hg p args' hl => ?_⟩
  have hgK := hg
  obtain ⟨hg1, s, ⟨zs, rfl, hl4, hr4, hQ⟩, tb⟩ := hg
  obtain ⟨hB, _⟩ := memOkC_inv hm
  have hal : alive H b := (alive_iff _ _).2 (by rw [hB]; intro e; cases e)
  obtain ⟨m, em, hbk⟩ := p.rel b (.inl ((bit_iff b b).2 rfl)) hal
  obtain ⟨hs, ht, cs, fr, f, ho, hc, hf, hcs⟩ := mem_realC tb hm hbk
  have hbx : b < H.nx := hal.1
  have hec := mget_ok (sp := fun _ _ _ => none) (e := ⟨H.nx, fun c => c = b, fun _ => False⟩) (fun _ _ _ => rfl) (H := Hw b f H.nx) rfl (Nat.le_refl _) (p := a / 8) (Hw_row f hbx) (by omega) (fun _ => rfl)
  obtain ⟨N, v1, H1, r1, w1, hev, hok, hn1, rfl, hkp, hub⟩ := hec
  have hT := ev_ok tb1_ok lp_ok (spNo_ok Tryz.prog Tb1.ng) N (.call 308 [pA b 0, Go.Ev.iN (8 * (a / 8)), .int .i64 16]) (Hw b f H.nx) trivial
  rw [hev] at hT
  have hpre : Pre (β.cut H.nx) (Hw b f H.nx) H1 r1 w1 W := pre_w hnx hbx em (fun β' => Hw_ok hbx hs ht ho hc hf fun i hi => (hcs i hi).1) hub p.dom
  have hg2 : GRel NG (β.cut H.nx) := GRel.cut hng hgK
  have hl2 : LRel (β.cut H.nx) [pA b 0, Go.Ev.iN (8 * (a / 8)), .int .i64 16] args'.toList := by
    obtain ⟨x1, l1, e, hx1, hl⟩ := hl.cons_inv
    obtain ⟨x2, l2, rfl, hx2, hl⟩ := hl.cons_inv
    rw [e]
    refine LRel.cons ?_ (LRel.cons ?_ ?_)
    · cases hx1 with | ptr _ _ m' e' => exact .ptr _ _ m' (by rw [Mp.cut_lt hbx]; exact e')
    · cases hx2
      have : a = 8 * (a / 8) := by omega
      show VRel _ (.int .i64 ((8 * (a / 8) : Nat) : Int)) _
      rw [← this]; exact .int _ _
    · obtain ⟨x3, l3, rfl, hx3, hl4⟩ := hl.cons_inv
      have := hl4.nil_inv; subst this
      cases hx3
      exact LRel.cons (.int _ _) (LRel.nil _)
  refine (hT.2 _ W hg2 hpre args' hl2).mono fun e W' hR => ?_
  obtain ⟨β1, v', he, hv, q⟩ := hR
  have hv' : v' = vS (bitsOf (f (a / 8)) ++ bitsOf (f (a / 8 + 1))) := by cases hv; rfl
  have b0 := (hcs (a / 8) (by omega)).2
  have b1 := (hcs (a / 8 + 1) (by omega)).2
  have e0 : t.get (a / 8) = sy 4008 := e0
  have e1 : t.get (a / 8 + 1) = sy 4009 := e1
  rw [e0] at b0
  rw [e1] at b1
  have r0 := (real_of (semZ_sc zs) tb (v := sy 4008) rfl).1 b0
  have r1 := (real_of (semZ_sc zs) tb (v := sy 4009) rfl).1 b1
  have r0 : uB (f (a / 8)) = uB (hiC (zs 4)) := r0.trans (slot_8 _)
  have r1 : uB (f (a / 8 + 1)) = uB (loC (zs 4)) := r1.trans (slot_9 _)
  have hb0 : f (a / 8) = hiC (zs 4) := by
    injection r0 with _ h2
    exact UInt8.toNat_inj.1 (Int.ofNat.inj h2)
  have hb1 : f (a / 8 + 1) = loC (zs 4) := by
    injection r1 with _ h2
    exact UInt8.toNat_inj.1 (Int.ofNat.inj h2)
  refine ⟨β, v', he, ?_, ?_⟩
  · rw [hv', hb0, hb1, bits_C]
    exact (real_of (semZ_sc zs) tb (v := sy 4007) rfl).2 rfl
  · refine ⟨Mp.le.refl _, fun c mc e1 e2 => (by rw [e2] at e1; cases e1), fun c hc' hac => ?_, fun rb o ho' hno => q.frame rb o ho' fun c mc hc' hwc ec => ?_, q.size, fun c mc e1 => Nat.lt_of_lt_of_le (p.dom c mc e1) q.size, fun c mc _ e1 e2 => (by rw [e1] at e2; cases e2), fun c d mc md hc' _ hac => ?_, q.env⟩
    · rcases hc' with h | h
      · have := hac.1; omega
      · simp at h
    · exact (hok.wr c hc' hwc).elim
    · rcases hc' with h | h
      · have := hac.1; omega
      · simp at h
theorem setC_task {Q : (Nat → Int) → Prop} {hk : HkOp → List Value → Option Value} {hok0 : HkOk (PW Q) hk} {H H' : Hp} {t : T Value} {b a : Nat} {v0 : Value} {r w : Nat} (hw : H.wf) (hm : memOkC (H.blk b) = some t) (h : setC t b a H = some (v0, H', r, w)) :
    @TaskOk (SyC (PW Q) hk hok0) Tryz.prog NG (.call 137 [.pointer (some ⟨b, 0, none⟩), .int .i64 (.ofNat a), sy 4007]) H (.k (.ret v0 H' r w)) := by
  letI := SyC (PW Q) hk hok0
  unfold setC at h
  have h2 := bc_some h
  clear h
  obtain ⟨h1, h⟩ := h2
  simp only [Bool.and_eq_true, beq_iff, blt_iff, nxOk, ble_iff] at h1
  obtain ⟨ha, hlt, hnx, hng⟩ := h1
  have ha : a % 8 = 0 := ha
  have hlt : a / 8 < 65535 := hlt
  obtain ⟨p, hp⟩ : ∃ p, a / 8 = p := ⟨_, rfl⟩
  have hap : a = 8 * p := by omega
  have hpl : p < 65535 := by omega
  cases h
  obtain ⟨hB, _⟩ := memOkC_inv hm
  have hal : alive H b := (alive_iff _ _).2 (by rw [hB]; intro e; cases e)
  have hbx : b < H.nx := hal.1
  have hcan : Go.Ev.Can H (H.put b (.cells (T.set 6 (T.set 6 t (Nat.div a 8) (sy 4008)) (Nat.succ (Nat.div a 8)) (sy 4009)) 65536 199 0 0 0)) (bit b) := can_put hw _ hal
  refine ⟨hcan, fun β W hg pp args' hl => ?_⟩
  have hgK := hg
  obtain ⟨hg1, s, ⟨zs, rfl, hl4, hr4, hQ⟩, tb⟩ := hg
  obtain ⟨m, em, hbk⟩ := pp.rel b (.inr ((bit_iff b b).2 rfl)) hal
  obtain ⟨hms, ht, cs, fr, f, ho, hc, hf, hcs⟩ := mem_realC tb hm hbk
  obtain ⟨x1, l1, eargs, hx1, hl⟩ := hl.cons_inv
  obtain ⟨x2, l2, rfl, hx2, hl⟩ := hl.cons_inv
  obtain ⟨x3, l3, rfl, hx3, hl4⟩ := hl.cons_inv
  have := hl4.nil_inv; subst this
  have hx3 : x3 = vS (bitsOf (hiC (zs 4)) ++ bitsOf (loC (zs 4))) := by rw [bits_C]; exact (real_of (semZ_sc zs) tb (v := sy 4007) rfl).1 hx3
  subst hx3
  have hvh : VRel β (sy 4008) (uB (hiC (zs 4))) := (real_of (semZ_sc zs) tb (v := sy 4008) rfl).2 (slot_8 _).symm
  have hvl : VRel β (sy 4009) (uB (loC (zs 4))) := (real_of (semZ_sc zs) tb (v := sy 4009) rfl).2 (slot_9 _).symm
  have hec := mset_ok (sp := fun _ _ _ => none) (e := ⟨H.nx, fun c => c = b, fun c => c = b⟩) (fun _ _ _ => rfl) (H := Hw b f H.nx) rfl (Nat.le_refl _) (u := hiC (zs 4)) (v := loC (zs 4)) (p := p) (Hw_row f hbx) (by omega) (fun _ => rfl) (fun _ => rfl)
  obtain ⟨N, v1, H1, r1, w1, hev, hok, hn1, rfl, hov⟩ := hec
  have hT := ev_ok tb1_ok lp_ok (spNo_ok Tryz.prog Tb1.ng) N (.call 137 [pA b 0, Go.Ev.iN (8 * p), vS (bitsOf (hiC (zs 4)) ++ bitsOf (loC (zs 4)))]) (Hw b f H.nx) trivial
  rw [hev] at hT
  have hnx1 : H1.nx = H.nx := hov.nx
  have hpre : Pre (β.cut H.nx) (Hw b f H.nx) H1 r1 w1 W := pre_w hnx hbx em (fun β' => Hw_ok hbx hms ht ho hc hf fun i hi => (hcs i hi).1) (by omega) pp.dom
  have hg2 : GRel NG (β.cut H.nx) := GRel.cut hng hgK
  have hl2 : LRel (β.cut H.nx) [pA b 0, Go.Ev.iN (8 * p), vS (bitsOf (hiC (zs 4)) ++ bitsOf (loC (zs 4)))] args'.toList := by
    rw [eargs]
    refine LRel.cons ?_ (LRel.cons ?_ (LRel.cons ?_ (LRel.nil _)))
    · cases hx1 with | ptr _ _ m' e' => exact .ptr _ _ m' (by rw [Mp.cut_lt hbx]; exact e')
    · cases hx2
      show VRel _ (.int .i64 ((8 * p : Nat) : Int)) _
      rw [← hap]; exact .int _ _
    · exact .string _
  refine (hT.2 _ W hg2 hpre args' hl2).mono fun e W' hR => ?_
  obtain ⟨β1, v', he, hv, q⟩ := hR
  have hv' : v' = .tuple #[] := by
    cases hv with | tuple xs xs' e1 e2 =>
    have : xs' = [] := by cases xs' with | nil => rfl | cons => simp at e1
    subst this; rfl
  have hrow := hov.row
  obtain ⟨t1, hb1, hg1'⟩ := hrow
  rw [bys_len] at hb1
  have hbk1 : ∃ cs1 fr1, W'.heap[m.rb]? = some (.cells cs1 199 fr1) ∧ cs1.size = 65536 ∧ FrOk m 0 0 fr1 ∧ ∀ i, i < 65536 → cs1[i]? = some (uB (over f p 2 (fun k => if k = 0 then hiC (zs 4) else loC (zs 4)) i)) := by
    have hal1 : alive H1 b := (alive_iff _ _).2 (by rw [hb1]; intro e; cases e)
    have hcut : β.cut H.nx b = some m := by rw [Mp.cut_lt hbx]; exact em
    have hB1 : BOk β1 W' (H1.blk b) m := by
      by_cases hwb : w1.testBit b = true
      · obtain ⟨m', em', hr'⟩ := q.rel b (.inr hwb) hal1
        have := q.le _ _ hcut
        rw [em'] at this; cases this
        exact hr'
      · have hwf : w1.testBit b = false := by cases e : w1.testBit b with | false => rfl | true => exact absurd e hwb
        have hk := hT.1.keep b hbx hwf
        rw [hk]
        obtain ⟨o, ho2, hr2⟩ := Hw_ok (β := β1) hbx hms ht ho hc hf fun i hi => (hcs i hi).1
        refine ⟨o, ?_, hr2⟩
        refine q.frame m.rb o ho2 fun c mc hcn hwc ec he => ?_
        have := hok.wr c hcn hwc
        subst this
        exact hwb hwc
    rw [hb1] at hB1
    obtain ⟨o1, ho1, cs1, fr1, rfl, g1, g2, g3, g4, g5, g6⟩ := hB1
    refine ⟨cs1, fr1, ho1, by rw [g1, ht], g6, fun i hi => ?_⟩
    obtain ⟨_, y, ey, hy⟩ := g5 i hi
    rw [hms, Nat.zero_add] at ey
    have e1 := hg1' i _ (bys_get hi)
    rw [e1] at hy
    have : y = _ := flat_eq 10 _ _ rfl hy
    rw [ey, this]
  obtain ⟨cs1, fr1, ho1, hc1, hf1, hcs1⟩ := hbk1
  refine ⟨β, v', he, by rw [hv']; exact VRel.flat β 10 _ rfl, ?_⟩
  refine ⟨Mp.le.refl _, fun c mc e1 e2 => (by rw [e2] at e1; cases e1), fun c hc' hac => ?_, fun rb o ho' hno => ?_, q.size, fun c mc e1 => Nat.lt_of_lt_of_le (pp.dom c mc e1) q.size, fun c mc _ e1 e2 => (by rw [e1] at e2; cases e2), fun c d mc md hc' hd' hac had _ _ _ => ?_, q.env⟩
  · have hcb : c = b := by
      rcases hc' with h | h
      · have := hac.1; rw [nx_put] at this; omega
      · exact (bit_iff b c).1 h
    subst hcb
    refine ⟨m, em, ?_⟩
    rw [blk_put _ hw hbx, if_pos rfl]
    refine ⟨_, ho1, cs1, fr1, rfl, by omega, by omega, fun _ => ⟨hms, ht⟩, (fun k h => by cases h), fun i hi => ?_, hf1⟩
    have hp8 : Nat.div a 8 = p := hp
    rw [hp8, T.get_set 6 _ _ _ _ (by omega) (by omega), T.get_set 6 _ _ _ _ (by omega) (by omega), hms, Nat.zero_add]
    have e2 := hcs1 i hi
    by_cases i1 : i = Nat.succ p
    · rw [if_pos i1]
      refine ⟨rfl, _, e2, ?_⟩
      have : over f p 2 (fun k => if k = 0 then hiC (zs 4) else loC (zs 4)) i = loC (zs 4) := by
        unfold over; rw [if_pos (by omega)]; show (if i - p = 0 then hiC (zs 4) else loC (zs 4)) = _; rw [if_neg (by omega)]
      rw [this]; exact hvl
    · rw [if_neg i1]
      by_cases i0 : i = p
      · rw [if_pos i0]
        refine ⟨rfl, _, e2, ?_⟩
        have : over f p 2 (fun k => if k = 0 then hiC (zs 4) else loC (zs 4)) i = hiC (zs 4) := by
          unfold over; rw [if_pos (by omega)]; show (if i - p = 0 then hiC (zs 4) else loC (zs 4)) = _; rw [if_pos (by omega)]
        rw [this]; exact hvh
      · rw [if_neg i0]
        have hor := hcs i hi
        have hb0 : oneC (t.get i) = true := by
          obtain ⟨_, hby⟩ := memOkC_inv hm
          have := hby i
          unfold isByteC at this
          split at this
          · rename_i e; rw [e]; rfl
          · rename_i e; rw [e]; rfl
          · cases this
        refine ⟨hb0, _, e2, ?_⟩
        have : over f p 2 (fun k => if k = 0 then hiC (zs 4) else loC (zs 4)) i = f i := by
          unfold over; rw [if_neg (by omega)]
        rw [this]; exact hor.2
  · refine q.frame rb o ho' fun c mc hcn hwc ec => ?_
    have := hok.wr c hcn hwc
    subst this
    exact hno c mc hcn ((bit_iff c c).2 rfl) (Mp.cut_le _ _ _ _ ec)
  · have key : ∀ {y}, (H.nx ≤ y ∨ (bit b).testBit y = true) → alive (H.put b (.cells (T.set 6 (T.set 6 t (Nat.div a 8) (sy 4008)) (Nat.succ (Nat.div a 8)) (sy 4009)) 65536 199 0 0 0)) y → y = b := fun {y} hy hay => by
      rcases hy with h | h
      · have := hay.1; rw [nx_put] at this; omega
      · exact (bit_iff b y).1 h
    exact (key hc' hac).trans (key hd' had).symm
theorem spSetC_ok {Q : (Nat → Int) → Prop} {hk : HkOp → List Value → Option Value} {hok0 : HkOk (PW Q) hk} {args : List Value} {H H' : Hp} {v : Value} {r w : Nat} (hw : H.wf) (h : spSetC args H = some (v, H', r, w)) : @TaskOk (SyC (PW Q) hk hok0) Tryz.prog NG (.call 137 args) H (.k (.ret v H' r w)) := by
  unfold spSetC at h
  split at h
  case h_2 => cases h
  rename_i b a s
  split at h
  case h_2 => cases h
  rename_i t hm
  obtain ⟨h1, h⟩ := bc_some h
  rw [isSyC_inv h1]
  exact setC_task (Q := Q) (hk := hk) (hok0 := hok0) hw hm h
end Go.Proofs.CN
end
noncomputable section
namespace Go.Proofs.CN
open Go Go.Ev Go.Proofs Go.Ev.SM Go.Proofs.MN
def spBstC (args : List Value) (H : Hp) : Ans := match args with
  | [s] => Bc (isSyC 4007 s && nxOk H) (some (.bool true, H, 0, 0)) none
  | _ => none
theorem spBstC_ok {Q : (Nat → Int) → Prop} {hk : HkOp → List Value → Option Value} {hok0 : HkOk (PW Q) hk} {args : List Value} {H H' : Hp} {v : Value} {r w : Nat} (hw : H.wf) (h : spBstC args H = some (v, H', r, w)) : @TaskOk (SyC (PW Q) hk hok0) Tryz.prog NG (.call 230 args) H (.k (.ret v H' r w)) := by
  letI := SyC (PW Q) hk hok0
  unfold spBstC at h
  split at h
  case h_2 => cases h
  rename_i s
  obtain ⟨h1, h⟩ := bc_some h
  simp only [Bool.and_eq_true, nxOk, ble_iff] at h1
  obtain ⟨h1, hnx, hng⟩ := h1
  rw [isSyC_inv h1]
  cases h
  refine ⟨Can.refl hw, fun β W hg p args' hl => ?_⟩
  have hgK := hg
  obtain ⟨hg1, s, ⟨zs, rfl, hl4, hr4, hQ⟩, tb⟩ := hg
  have hec := bst_ok (sp := fun _ _ _ => none) (e := ⟨H.nx, fun _ => False, fun _ => False⟩) (fun _ _ _ => rfl) (H := .fn (fun _ => .no) H.nx) rfl (Nat.le_refl _) (u := hiC (zs 4)) (v := loC (zs 4))
  obtain ⟨N, v1, H1, r1, w1, hev, hok, hn1, rfl, rfl⟩ := hec
  have hT := ev_ok tb1_ok lp_ok (spNo_ok Tryz.prog Tb1.ng) N (.call 230 [vS (bitsOf (hiC (zs 4)) ++ bitsOf (loC (zs 4)))]) (.fn (fun _ => .no) H.nx) trivial
  rw [hev] at hT
  have hno : ∀ c, ¬ alive (.fn (fun _ => .no) H.nx : Hp) c := fun c ha => ha.2 (by rw [blk_fn]; split <;> rfl)
  have hpre : Pre (β.cut H.nx) (.fn (fun _ => .no) H.nx) (.fn (fun _ => .no) H.nx) r1 w1 W :=
    ⟨fun c _ ha => absurd ha (hno c), fun c d mc md _ _ ac _ _ _ _ => absurd ac (hno c), fun c h1 h2 => by
      have h1 : H.nx ≤ c := h1
      have h2 : c < H.nx := h2
      omega, fun c mc e => p.dom c mc (Mp.cut_le _ _ _ _ e)⟩
  have hg2 : GRel NG (β.cut H.nx) := GRel.cut hng hgK
  have hl2 : LRel (β.cut H.nx) [vS (bitsOf (hiC (zs 4)) ++ bitsOf (loC (zs 4)))] args'.toList := by
    obtain ⟨x1, l1, e, hx1, hl⟩ := hl.cons_inv
    have := hl.nil_inv; subst this
    rw [e, show x1 = vS (bitsOf (hiC (zs 4)) ++ bitsOf (loC (zs 4))) from by rw [bits_C]; exact (real_of (semZ_sc zs) tb (v := sy 4007) rfl).1 hx1]
    exact LRel.cons (.string _) (LRel.nil _)
  refine (hT.2 _ W hg2 hpre args' hl2).mono fun e W' hR => ?_
  obtain ⟨β1, v', he, hv, q⟩ := hR
  have hv' : v' = .bool true := by cases hv; rfl
  refine ⟨β, v', he, by rw [hv']; exact .bool _, ?_⟩
  refine ⟨Mp.le.refl _, fun c mc e1 e2 => (by rw [e2] at e1; cases e1), fun c hc' hac => ?_, fun rb o ho' hno' => q.frame rb o ho' fun c mc hc' hwc ec => (hok.wr c hc' hwc).elim, q.size, fun c mc e1 => Nat.lt_of_lt_of_le (p.dom c mc e1) q.size, fun c mc _ e1 e2 => (by rw [e1] at e2; cases e2), fun c d mc md hc' _ hac => ?_, q.env⟩
  · rcases hc' with h | h
    · have := hac.1; omega
    · simp at h
  · rcases hc' with h | h
    · have := hac.1; omega
    · simp at h
end Go.Proofs.CN
end
