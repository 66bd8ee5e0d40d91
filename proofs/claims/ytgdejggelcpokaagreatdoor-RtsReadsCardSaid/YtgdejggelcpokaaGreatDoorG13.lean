/-
  A part of the proof that pliantlaw15.RtsReads returns true and leaves its arguments alone. Conditions: those of the card in the last text.
-/
import Derived.KernelRfl
import Derived.Test.YtgdejggelcpokaaGreatDoorG10
import Derived.Test.YtgdejggelcpokaaGreatDoorG12
set_option linter.unusedSimpArgs false
set_option linter.unusedVariables false
set_option linter.unusedSectionVars false

noncomputable section
namespace Go.Proofs.RS
open Go Go.Ev Go.Proofs
noncomputable def ixR_body : Code := (Tryz.f158.body).getD .skip
def ixR_r0 : List CO := [
    ⟨(some 4), none, .mv (.const (.int .i64 (0)))⟩]
def ixR_r1 : List CO := [
    ⟨(some 6), none, .mv (.tmp 0)⟩,
    ⟨(some 7), none, .len 1 (.tmp 6)⟩,
    ⟨(some 8), none, .mv (.const (.int .i64 (0)))⟩]
def ixR_r2 : List CO := [
    ⟨(some 9), none, .bin .lss (.tmp 8) (.tmp 7)⟩]
def ixR_r3 : List CO := [
    ⟨(some 10), none, .mv (.tmp 8)⟩,
    ⟨(some 5), none, .mv (.tmp 10)⟩]
def ixR_r4 : List CO := [
    ⟨(some 11), none, .mv (.tmp 1)⟩,
    ⟨(some 12), none, .mv (.tmp 0)⟩,
    ⟨(some 13), none, .mv (.tmp 5)⟩,
    ⟨(some 14), none, .iaS 2 (.tmp 12) (.tmp 13)⟩,
    ⟨(some 15), none, .ldN 2 (.tmp 14)⟩,
    ⟨(some 16), none, .call (.tmp 11) [(.tmp 15)]⟩]
def ixR_r5 : List CO := [
    ⟨(some 17), none, .mv (.tmp 5)⟩,
    ⟨(some 4), none, .mv (.tmp 17)⟩]
def ixR_r6 : List CO := [
    ⟨(some 18), none, .bin .add (.tmp 8) (.const (.int .i64 (1)))⟩,
    ⟨(some 8), none, .mv (.tmp 18)⟩]
noncomputable def ixR_l7 : KC :=
  (.seq (.reg ixR_r2)
  (.seq (.cond (.tmp 9) .skip
   (.exit 0))
  (.seq (.block 1 (.seq (.reg ixR_r3)
   (.seq (.reg ixR_r4)
   (.cond (.tmp 16) (.seq (.reg ixR_r5)
    .ret)
    .skip))))
  (.reg ixR_r6))))
def ixR_r8 : List CO := [
    ⟨(some 4), none, .mv (.const (.int .i64 (-1)))⟩]
noncomputable def ixR_k : KC :=
  (.seq (.reg ixR_r0)
  (.seq (.seq (.reg ixR_r1)
  (.block 0 (.loop ixR_body.sr.sl.sr.bl.lp ixR_l7)))
  (.seq (.reg ixR_r8)
  .ret)))
theorem ixR_comp : kcomp Tb0 Tryz.f158.ntmps ixR_body = ixR_k := by kernel_rfl
theorem ixR_some : Tryz.f158.body = some ixR_body := rfl
noncomputable def clR_body : Code := (Tryz.f44.body).getD .skip
def clR_r0 : List CO := [
    ⟨(some 2), none, .mv (.const (.slice none 0 0))⟩]
def clR_r1 : List CO := [
    ⟨(some 3), none, .mv (.tmp 0)⟩,
    ⟨(some 4), none, .eq false (.one .sl) (.tmp 3) (.const (.slice none 0 0))⟩]
def clR_r2 : List CO := [
    ⟨(some 2), none, .mv (.const (.slice none 0 0))⟩]
def clR_r3 : List CO := [
    ⟨(some 5), none, .bslice 0 77 [] []⟩,
    ⟨(some 6), none, .mv (.tmp 0)⟩,
    ⟨(some 7), none, .app 77 2 32 (.tmp 5) (.tmp 6)⟩,
    ⟨(some 2), none, .mv (.tmp 7)⟩]
noncomputable def clR_k : KC :=
  (.seq (.reg clR_r0)
  (.seq (.seq (.reg clR_r1)
  (.cond (.tmp 4) (.seq (.reg clR_r2)
   .ret)
   .skip))
  (.seq (.reg clR_r3)
  .ret)))
theorem clR_comp : kcomp Tb0 Tryz.f44.ntmps clR_body = clR_k := by kernel_rfl
theorem clR_some : Tryz.f44.body = some clR_body := rfl
noncomputable def cfB_body : Code := (Tryz.f20.body).getD .skip
def cfB_r0 : List CO := [
    ⟨(some 4), none, .mv (.const (.bool false))⟩]
def cfB_r1 : List CO := [
    ⟨(some 5), none, .mv (.tmp 0)⟩,
    ⟨(some 6), none, .mv (.tmp 1)⟩,
    ⟨(some 7), none, .call (.func 59) [(.tmp 5), (.tmp 6)]⟩,
    ⟨(some 8), none, .bin .geq (.tmp 7) (.const (.int .i64 (0)))⟩,
    ⟨(some 4), none, .mv (.tmp 8)⟩]
noncomputable def cfB_k : KC :=
  (.seq (.reg cfB_r0)
  (.seq (.reg cfB_r1)
  .ret))
theorem cfB_comp : kcomp Tb0 Tryz.f20.ntmps cfB_body = cfB_k := by kernel_rfl
theorem cfB_some : Tryz.f20.body = some cfB_body := rfl
noncomputable def ixB_body : Code := (Tryz.f59.body).getD .skip
def ixB_r0 : List CO := [
    ⟨(some 4), none, .mv (.const (.int .i64 (0)))⟩]
def ixB_r1 : List CO := [
    ⟨(some 6), none, .mv (.tmp 0)⟩,
    ⟨(some 7), none, .len 1 (.tmp 6)⟩,
    ⟨(some 8), none, .mv (.const (.int .i64 (0)))⟩]
def ixB_r2 : List CO := [
    ⟨(some 9), none, .bin .lss (.tmp 8) (.tmp 7)⟩]
def ixB_r3 : List CO := [
    ⟨(some 10), none, .mv (.tmp 8)⟩,
    ⟨(some 5), none, .mv (.tmp 10)⟩]
def ixB_r4 : List CO := [
    ⟨(some 11), none, .mv (.tmp 1)⟩,
    ⟨(some 12), none, .mv (.tmp 0)⟩,
    ⟨(some 13), none, .mv (.tmp 5)⟩,
    ⟨(some 14), none, .iaS 1 (.tmp 12) (.tmp 13)⟩,
    ⟨(some 15), none, .ld1 (.tmp 14)⟩,
    ⟨(some 16), none, .call (.tmp 11) [(.tmp 15)]⟩]
def ixB_r5 : List CO := [
    ⟨(some 17), none, .mv (.tmp 5)⟩,
    ⟨(some 4), none, .mv (.tmp 17)⟩]
def ixB_r6 : List CO := [
    ⟨(some 18), none, .bin .add (.tmp 8) (.const (.int .i64 (1)))⟩,
    ⟨(some 8), none, .mv (.tmp 18)⟩]
noncomputable def ixB_l7 : KC :=
  (.seq (.reg ixB_r2)
  (.seq (.cond (.tmp 9) .skip
   (.exit 0))
  (.seq (.block 1 (.seq (.reg ixB_r3)
   (.seq (.reg ixB_r4)
   (.cond (.tmp 16) (.seq (.reg ixB_r5)
    .ret)
    .skip))))
  (.reg ixB_r6))))
def ixB_r8 : List CO := [
    ⟨(some 4), none, .mv (.const (.int .i64 (-1)))⟩]
noncomputable def ixB_k : KC :=
  (.seq (.reg ixB_r0)
  (.seq (.seq (.reg ixB_r1)
  (.block 0 (.loop ixB_body.sr.sl.sr.bl.lp ixB_l7)))
  (.seq (.reg ixB_r8)
  .ret)))
theorem ixB_comp : kcomp Tb0 Tryz.f59.ntmps ixB_body = ixB_k := by kernel_rfl
theorem ixB_some : Tryz.f59.body = some ixB_body := rfl
noncomputable def zero_body : Code := (Tryz.f153.body).getD .skip
def zero_r0 : List CO := [
    ⟨(some 2), none, .mv (.const (.bool false))⟩]
def zero_r1 : List CO := [
    ⟨(some 5), none, .mv (.tmp 0)⟩,
    ⟨(some 6), none, .len 1 (.tmp 5)⟩,
    ⟨(some 7), none, .mv (.const (.int .i64 (0)))⟩]
def zero_r2 : List CO := [
    ⟨(some 8), none, .bin .lss (.tmp 7) (.tmp 6)⟩]
def zero_r3 : List CO := [
    ⟨(some 9), none, .iaS 1 (.tmp 5) (.tmp 7)⟩,
    ⟨(some 10), none, .ld1 (.tmp 9)⟩,
    ⟨(some 4), none, .mv (.tmp 10)⟩]
def zero_r4 : List CO := [
    ⟨(some 11), none, .mv (.tmp 4)⟩,
    ⟨(some 12), none, .eq true (.one .i) (.tmp 11) (.const (.int .u8 (0)))⟩]
def zero_r5 : List CO := [
    ⟨(some 2), none, .mv (.const (.bool false))⟩]
def zero_r6 : List CO := [
    ⟨(some 13), none, .bin .add (.tmp 7) (.const (.int .i64 (1)))⟩,
    ⟨(some 7), none, .mv (.tmp 13)⟩]
noncomputable def zero_l7 : KC :=
  (.seq (.reg zero_r2)
  (.seq (.cond (.tmp 8) .skip
   (.exit 0))
  (.seq (.block 1 (.seq (.reg zero_r3)
   (.seq (.reg zero_r4)
   (.cond (.tmp 12) (.seq (.reg zero_r5)
    .ret)
    .skip))))
  (.reg zero_r6))))
def zero_r8 : List CO := [
    ⟨(some 2), none, .mv (.const (.bool true))⟩]
noncomputable def zero_k : KC :=
  (.seq (.reg zero_r0)
  (.seq (.seq (.reg zero_r1)
  (.block 0 (.loop zero_body.sr.sl.sr.bl.lp zero_l7)))
  (.seq (.reg zero_r8)
  .ret)))
theorem zero_comp : kcomp Tb0 Tryz.f153.ntmps zero_body = zero_k := by kernel_rfl
theorem zero_some : Tryz.f153.body = some zero_body := rfl
end Go.Proofs.RS
end

noncomputable section
namespace Go.Proofs.RS
open Go Go.Ev Go.Proofs Go.Ds
def idxF {α : Type} (p : α → Bool) : List α → Nat → Int
  | [], _ => -1
  | x :: r, i => if p x then (i : Int) else idxF p r (i + 1)
theorem callV_clo (f : FuncId) (c args : List Value) : callV (.func (.func f) #[] ⟨c⟩) args = .call f (args ++ c) := by
  show R.call f ([] ++ (args ++ c)) = _
  rfl
theorem binV_sgeq (a b : Str) : binV .geq (vS a) (vS b) = some (.bool (!ltBs a b)) := rfl
section
variable {sp : Nat → List Value → Hp → Option (Value × Hp × Nat × Nat)} {e : Env}
set_option maxRecDepth 10000 in
set_option maxHeartbeats 2000000 in
theorem at1_ok (hs : ∀ args H, sp 159 args H = none) {H : Hp} (hf : H.isFn = true) (he : e.n0 ≤ H.nx) (r : Entry) {b ty op : Nat} {k : Str} (hb : Row H b ty op [vS k]) (hr : b < e.n0 → e.Rd b) : EC Tb0 sp e 159 [.agg ⟨[vS r.1, vS r.2]⟩, .pointer (some ⟨b, 0, none⟩)] H fun v H' => v = .bool (!ltBs r.1 k) ∧ Kept H H' := by
  refine EC.intro (fn := Tryz.f159) (c := at1_body) (hs _ _) (by rfl) at1_some at1_comp (by show 2 ≤ 8; decide) ?_
  have g0 : (enterT Tryz.f159 [.agg ⟨[vS r.1, vS r.2]⟩, .pointer (some ⟨b, 0, none⟩)]).get 0 = .agg ⟨[vS r.1, vS r.2]⟩ := by rw [enterT_get (by show 2 ≤ 8; decide) (by show 0 < 8; decide)]; rfl
  have g1 : (enterT Tryz.f159 [.agg ⟨[vS r.1, vS r.2]⟩, .pointer (some ⟨b, 0, none⟩)]).get 1 = .pointer (some ⟨b, 0, none⟩) := by rw [enterT_get (by show 2 ≤ 8; decide) (by show 1 < 8; decide)]; rfl
  revert g0 g1
  generalize enterT Tryz.f159 [.agg ⟨[vS r.1, vS r.2]⟩, .pointer (some ⟨b, 0, none⟩)] = t0
  intro g0 g1
  show WK Tb0 sp e ⟨4, 8, none, false⟩ at1_k t0 [] H _
  unfold at1_k
  obtain ⟨H1, hB⟩ := boxed e hf 77 [vS r.1, vS r.2]
  have hbox := hB.box
  have hb1 : Row H1 b ty op [vS k] := hb.of_blk (hB.kept.old b hb.lt)
  have q0 : exLd1 (.pointer (some ⟨H.nx, 0, none⟩)) H1 = .val (vS r.1) H1 (bit H.nx) 0 := exLd1_row hB.row rfl
  have q1 : exLd1 (.pointer (some ⟨b, 0, none⟩)) H1 = .val (vS k) H1 (bit b) 0 := exLd1_row hb1 rfl
  have q5 : e.ok (bit H.nx) 0 H1 := .fresh hB.row.lt he
  have q6 : e.ok (bit b) 0 H1 := .read hb1.lt hr
  have q4 : H.nx ≤ H1.nx := hB.kept.nx
  refine WK.seq (WK.reg_gg (fun t' H' => t'.get 1 = .pointer (some ⟨b, 0, none⟩) ∧ t'.get 2 = .pointer (some ⟨H.nx, 0, none⟩) ∧ H' = H1) ?_ ?_)
  · simp (config := { maxSteps := 1000000 }) only [at1_r0, WOR, WOG, wants_none', wants_some, wantsV_U, wantsV_tt, wantsV_tf, wantsV_ft, wantsV_ff, run, evalO_tmp, evalO_const, evalO_func, evalL, callV_func, Rv_eq, Ro_some, ok_zero, true_and, get_putT (d := 4), exLen_str, binV_geq, binV_leq, binV_lss, binV_gtr, exEq_int, exEq_str, exPick_t, exPick_f, Bool.not_true, Bool.not_false, Bc_t, Bc_f, Nat.reducePow, Nat.reduceLT, Nat.reduceEqDiff, Nat.reduceAdd, if_false, reduceIte, and_self, g0, g1, hbox, q4, Nat.le_refl]
  rintro t1 H1' ⟨g1, g2, rfl⟩
  refine WK.seq (WK.reg_rr (fun t' => t'.get 3 = .bool (!ltBs r.1 k)) ?_ ?_)
  · simp (config := { maxSteps := 1000000 }) only [at1_r1, WOR, WOG, wants_none', wants_some, wantsV_U, wantsV_tt, wantsV_tf, wantsV_ft, wantsV_ff, run, evalO_tmp, evalO_const, evalO_func, evalL, callV_func, Rv_eq, Ro_some, ok_zero, true_and, get_putT (d := 4), exLen_str, binV_geq, binV_leq, binV_lss, binV_gtr, exEq_int, exEq_str, exPick_t, exPick_f, Bool.not_true, Bool.not_false, Bc_t, Bc_f, Nat.reducePow, Nat.reduceLT, Nat.reduceEqDiff, Nat.reduceAdd, if_false, reduceIte, and_self, g1, g2, exFa_ptr, q0, q1, q5, q6, binV_sgeq, Nat.zero_add]
  intro t2 h3
  refine WK.ret ⟨.inr rfl, rfl, [.bool (!ltBs r.1 k)], 0, ?_, .zero _ _, rfl, hB.kept⟩
  show resL Tb0 8 t2 _ [.tmp 3] = _
  simp only [resL, h3]; rfl
set_option maxRecDepth 10000 in
set_option maxHeartbeats 2000000 in
theorem ixR_ok (hs : ∀ args H, sp 158 args H = none) {α : Type} {Q : Hp → α → List Value → Prop} {p : α → Bool} {fid : FuncId} {caps : List Value} {H : Hp} {sv : Value} {l : List α} (hf : H.isFn = true) (hsl : RowR e H 2 (Q H) sv l) (hQ : ∀ H', Kept H H' → ∀ x vs, Q H x vs → Q H' x vs) (hlen : l.length < 4611686018427387904) (hcall : ∀ H' x vs, Kept H H' → Q H' x vs → EC Tb0 sp e fid (.agg ⟨vs⟩ :: caps) H' fun v H'' => v = .bool (p x) ∧ Kept H' H'') : EC Tb0 sp e 158 [sv, .func (.func fid) #[] ⟨caps⟩] H fun v H' => v = vN (idxF p l 0) ∧ Kept H H' := by
  refine EC.intro (fn := Tryz.f158) (c := ixR_body) (hs _ _) (by rfl) ixR_some ixR_comp (by show 2 ≤ 19; decide) ?_
  have g0 : (enterT Tryz.f158 [sv, .func (.func fid) #[] ⟨caps⟩]).get 0 = sv := by rw [enterT_get (by show 2 ≤ 19; decide) (by show 0 < 19; decide)]; rfl
  have g1 : (enterT Tryz.f158 [sv, .func (.func fid) #[] ⟨caps⟩]).get 1 = .func (.func fid) #[] ⟨caps⟩ := by rw [enterT_get (by show 2 ≤ 19; decide) (by show 1 < 19; decide)]; rfl
  revert g0 g1
  generalize enterT Tryz.f158 [sv, .func (.func fid) #[] ⟨caps⟩] = t0
  intro g0 g1
  show WK Tb0 sp e ⟨5, 19, none, false⟩ ixR_k t0 [] H _
  unfold ixR_k
  have k0 := hsl.len
  refine WK.seq (WK.reg_rr (fun t' => t'.get 0 = sv ∧ t'.get 1 = .func (.func fid) #[] ⟨caps⟩) ?_ ?_)
  · simp (config := { maxSteps := 1000000 }) only [ixR_r0, WOR, WOG, wants_none', wants_some, wantsV_U, wantsV_tt, wantsV_tf, wantsV_ft, wantsV_ff, run, evalO_tmp, evalO_const, evalO_func, evalL, callV_func, Rv_eq, Ro_some, ok_zero, true_and, get_putT (d := 5), exLen_str, binV_geq, binV_leq, binV_lss, binV_gtr, exEq_int, exEq_str, exPick_t, exPick_f, Bool.not_true, Bool.not_false, Bc_t, Bc_f, Nat.reducePow, Nat.reduceLT, Nat.reduceEqDiff, Nat.reduceAdd, if_false, reduceIte, and_self, g0, g1]
  rintro t1 ⟨g0, g1⟩
  refine WK.seq (WK.seq (WK.reg_rr (fun t' => t'.get 0 = sv ∧ t'.get 1 = .func (.func fid) #[] ⟨caps⟩ ∧ t'.get 7 = vN l.length ∧ t'.get 8 = vN (0 : Nat)) ?_ ?_))
  · simp (config := { maxSteps := 1000000 }) only [ixR_r1, WOR, WOG, wants_none', wants_some, wantsV_U, wantsV_tt, wantsV_tf, wantsV_ft, wantsV_ff, run, evalO_tmp, evalO_const, evalO_func, evalL, callV_func, Rv_eq, Ro_some, ok_zero, true_and, get_putT (d := 5), exLen_str, binV_geq, binV_leq, binV_lss, binV_gtr, exEq_int, exEq_str, exPick_t, exPick_f, Bool.not_true, Bool.not_false, Bc_t, Bc_f, Nat.reducePow, Nat.reduceLT, Nat.reduceEqDiff, Nat.reduceAdd, if_false, reduceIte, and_self, g0, g1, k0]
    rfl
  rintro t2 ⟨g0, g1, g7, g8⟩
  refine WK.block (WK.loop_ind (fun m t' ds' H' => ds' = [] ∧ Kept H H' ∧ ∃ i : Nat, m = l.length - i ∧ i ≤ l.length ∧ t'.get 0 = sv ∧ t'.get 1 = .func (.func fid) #[] ⟨caps⟩ ∧ t'.get 7 = vN l.length ∧ t'.get 8 = vN i ∧ idxF p l 0 = idxF p (l.drop i) i) ?_ l.length t2 [] H ⟨rfl, .refl hf, 0, by omega, by omega, g0, g1, g7, g8, rfl⟩)
  clear g0 g1 g7 g8
  rintro m t3 ds H3 ⟨rfl, hk, i, rfl, hi, g0, g1, g7, g8, hI⟩
  unfold ixR_l7
  refine WK.seq (WK.reg_rr (fun t' => t'.get 9 = .bool (decide ((i : Int) < (l.length : Int))) ∧ Lo 9 t3 t') ?_ ?_)
  · simp (config := { maxSteps := 1000000 }) only [ixR_r2, WOR, WOG, wants_none', wants_some, wantsV_U, wantsV_tt, wantsV_tf, wantsV_ft, wantsV_ff, run, evalO_tmp, evalO_const, evalO_func, evalL, callV_func, Rv_eq, Ro_some, ok_zero, true_and, get_putT (d := 5), exLen_str, binV_geq, binV_leq, binV_lss, binV_gtr, exEq_int, exEq_str, exPick_t, exPick_f, Bool.not_true, Bool.not_false, Bc_t, Bc_f, Nat.reducePow, Nat.reduceLT, Nat.reduceEqDiff, Nat.reduceAdd, if_false, reduceIte, and_self, g7, g8]
    intro j hj
    simp (disch := omega) only [putT_lo (d := 5)]
  rintro t4 ⟨h9, hlo⟩
  have f0 := (hlo 0 (by omega)).trans g0
  have f1 := (hlo 1 (by omega)).trans g1
  have f7 := (hlo 7 (by omega)).trans g7
  have f8 := (hlo 8 (by omega)).trans g8
  by_cases hlt : i < l.length
  case neg =>
    refine WK.seq (WK.cond (v := false) (by rw [evalO_tmp, h9, decide_eq_false (by omega)]; rfl) (WK.exit ?_))
    show WK Tb0 sp e ⟨5, 19, none, false⟩ _ t4 [] H3 _
    have hI' : idxF p l 0 = -1 := by rw [hI, List.drop_eq_nil_of_le (by omega)]; rfl
    refine WK.seq (WK.reg_rr (fun t' => t'.get 4 = vN (-1)) ?_ ?_)
    · simp (config := { maxSteps := 1000000 }) only [ixR_r8, WOR, WOG, wants_none', wants_some, wantsV_U, wantsV_tt, wantsV_tf, wantsV_ft, wantsV_ff, run, evalO_tmp, evalO_const, evalO_func, evalL, callV_func, Rv_eq, Ro_some, ok_zero, true_and, get_putT (d := 5), exLen_str, binV_geq, binV_leq, binV_lss, binV_gtr, exEq_int, exEq_str, exPick_t, exPick_f, Bool.not_true, Bool.not_false, Bc_t, Bc_f, Nat.reducePow, Nat.reduceLT, Nat.reduceEqDiff, Nat.reduceAdd, if_false, reduceIte, and_self]
    intro t5 h4
    refine WK.ret ⟨.inr rfl, rfl, [vN (-1)], 0, ?_, .zero _ _, by rw [hI']; rfl, hk⟩
    show resL Tb0 19 t5 _ [.tmp 4] = _
    simp only [resL, h4]; rfl
  refine WK.seq (WK.cond (v := true) (by rw [evalO_tmp, h9, decide_eq_true (by omega)]; rfl) (WK.skip ?_))
  obtain ⟨x, hx⟩ : ∃ x, l[i]? = some x := ⟨l[i], by simp [hlt]⟩
  have hd : l.drop i = x :: l.drop (i + 1) := by
    rw [List.drop_eq_getElem_cons hlt]
    congr 1
    rw [List.getElem?_eq_getElem hlt] at hx
    exact Option.some.inj hx
  obtain ⟨b, o, vs, hel, hq⟩ := (RowR.mono hsl hk.old (hQ H3 hk)).el hx
  have m1 := hel.addr
  have m2 := hel.ld
  have m4 := hel.ok
  refine WK.seq (WK.block (WK.seq (WK.reg_rr (fun t' => t'.get 5 = vN i ∧ Lo 5 t4 t' ∧ t'.get 7 = vN l.length ∧ t'.get 8 = vN i) ?_ ?_)))
  · simp (config := { maxSteps := 1000000 }) only [ixR_r3, WOR, WOG, wants_none', wants_some, wantsV_U, wantsV_tt, wantsV_tf, wantsV_ft, wantsV_ff, run, evalO_tmp, evalO_const, evalO_func, evalL, callV_func, Rv_eq, Ro_some, ok_zero, true_and, get_putT (d := 5), exLen_str, binV_geq, binV_leq, binV_lss, binV_gtr, exEq_int, exEq_str, exPick_t, exPick_f, Bool.not_true, Bool.not_false, Bc_t, Bc_f, Nat.reducePow, Nat.reduceLT, Nat.reduceEqDiff, Nat.reduceAdd, if_false, reduceIte, and_self, f7, f8]
    exact ⟨fun j hj => by simp (disch := omega) only [putT_lo (d := 5)], trivial⟩
  rintro t5 ⟨h5, lo5, f7, f8⟩
  have e0 := (lo5 0 (by omega)).trans f0
  have e1 := (lo5 1 (by omega)).trans f1
  refine WK.seq (WK.reg_gg (fun t' H' => t'.get 16 = .bool (p x) ∧ Lo 9 t5 t' ∧ Kept H3 H') ?_ ?_)
  · simp (config := { maxSteps := 1000000 }) only [ixR_r4, WOR, WOG, wants_none', wants_some, wantsV_U, wantsV_tt, wantsV_tf, wantsV_ft, wantsV_ff, run, evalO_tmp, evalO_const, evalO_func, evalL, callV_func, Rv_eq, Ro_some, ok_zero, true_and, get_putT (d := 5), exLen_str, binV_geq, binV_leq, binV_lss, binV_gtr, exEq_int, exEq_str, exPick_t, exPick_f, Bool.not_true, Bool.not_false, Bc_t, Bc_f, Nat.reducePow, Nat.reduceLT, Nat.reduceEqDiff, Nat.reduceAdd, if_false, reduceIte, and_self, e0, e1, h5, m1, m2, m4, callV_clo, List.cons_append, List.nil_append, Nat.le_refl]
    refine (hcall H3 x vs hk hq).mono fun v H4 _ hv => ?_
    obtain ⟨rfl, hk4⟩ := hv
    simp (config := { maxSteps := 1000000 }) only [WOGk, WOR, WOG, wants_none', wants_some, wantsV_U, wantsV_tt, wantsV_tf, wantsV_ft, wantsV_ff, run, evalO_tmp, evalO_const, evalO_func, evalL, callV_func, Rv_eq, Ro_some, ok_zero, true_and, get_putT (d := 5), exLen_str, binV_geq, binV_leq, binV_lss, binV_gtr, exEq_int, exEq_str, exPick_t, exPick_f, Bool.not_true, Bool.not_false, Bc_t, Bc_f, Nat.reducePow, Nat.reduceLT, Nat.reduceEqDiff, Nat.reduceAdd, if_false, reduceIte, and_self]
    exact ⟨fun j hj => by simp (disch := omega) only [putT_lo (d := 5)], hk4⟩
  rintro t6 H6 ⟨h16, lo6, hk6⟩
  have c0 := (lo6 0 (by omega)).trans e0
  have c1 := (lo6 1 (by omega)).trans e1
  have c5 := (lo6 5 (by omega)).trans h5
  have c7 := (lo6 7 (by omega)).trans f7
  have c8 := (lo6 8 (by omega)).trans f8
  have hk' := hk.trans hk6
  refine WK.cond (v := p x) (by rw [evalO_tmp, h16]; rfl) ?_
  cases hp : p x with
  | true =>
    rw [if_pos rfl]
    have hI' : idxF p l 0 = (i : Int) := by rw [hI, hd]; simp only [idxF, hp, if_true]
    refine WK.seq (WK.reg_rr (fun t' => t'.get 4 = vN i) ?_ ?_)
    · simp (config := { maxSteps := 1000000 }) only [ixR_r5, WOR, WOG, wants_none', wants_some, wantsV_U, wantsV_tt, wantsV_tf, wantsV_ft, wantsV_ff, run, evalO_tmp, evalO_const, evalO_func, evalL, callV_func, Rv_eq, Ro_some, ok_zero, true_and, get_putT (d := 5), exLen_str, binV_geq, binV_leq, binV_lss, binV_gtr, exEq_int, exEq_str, exPick_t, exPick_f, Bool.not_true, Bool.not_false, Bc_t, Bc_f, Nat.reducePow, Nat.reduceLT, Nat.reduceEqDiff, Nat.reduceAdd, if_false, reduceIte, and_self, c5]
    intro t7 h4
    refine WK.ret ⟨.inr rfl, rfl, [vN i], 0, ?_, .zero _ _, by rw [hI']; rfl, hk'⟩
    show resL Tb0 19 t7 _ [.tmp 4] = _
    simp only [resL, h4]; rfl
  | false =>
    rw [if_neg (by decide)]
    have hI' : idxF p l 0 = idxF p (l.drop (i + 1)) (i + 1) := by rw [hI, hd]; simp only [idxF, hp]; rfl
    refine WK.skip ?_
    show WK Tb0 sp e ⟨5, 19, none, false⟩ (.reg ixR_r6) t6 [] H6 _
    have hwr : wrapF .i64 ((i : Int) + 1) = ((i + 1 : Nat) : Int) := by rw [wrapF_i64 (by omega) (by omega)]; omega
    refine WK.reg_rr (fun t' => t'.get 0 = sv ∧ t'.get 1 = .func (.func fid) #[] ⟨caps⟩ ∧ t'.get 7 = vN l.length ∧ t'.get 8 = vN (i + 1 : Nat)) ?_ ?_
    · simp (config := { maxSteps := 1000000 }) only [ixR_r6, WOR, WOG, wants_none', wants_some, wantsV_U, wantsV_tt, wantsV_tf, wantsV_ft, wantsV_ff, run, evalO_tmp, evalO_const, evalO_func, evalL, callV_func, Rv_eq, Ro_some, ok_zero, true_and, get_putT (d := 5), exLen_str, binV_geq, binV_leq, binV_lss, binV_gtr, exEq_int, exEq_str, exPick_t, exPick_f, Bool.not_true, Bool.not_false, Bc_t, Bc_f, Nat.reducePow, Nat.reduceLT, Nat.reduceEqDiff, Nat.reduceAdd, if_false, reduceIte, and_self, c0, c1, c7, c8, binV_add, hwr]
    rintro t7 ⟨d0, d1, d7, d8⟩
    exact ⟨l.length - (i + 1), by omega, rfl, hk', i + 1, rfl, by omega, d0, d1, d7, d8, hI'⟩
end
end Go.Proofs.RS
end

noncomputable section
namespace Go.Proofs.RS
open Go Go.Ev Go.Proofs Go.Ds
theorem idxF_neg {α : Type} (p : α → Bool) : ∀ (l : List α) (k : Nat), (!decide (idxF p l k < 0)) = l.any p
  | [], _ => rfl
  | x :: r, k => by
    unfold idxF
    rw [List.any_cons]
    cases hp : p x with
    | true => rw [if_pos rfl, decide_eq_false (by omega)]; rfl
    | false => rw [if_neg (by decide), idxF_neg p r (k + 1)]; rfl
theorem idxF_pos (k : Str) : ∀ (d : DS) (i : Nat), idxF (fun r : Entry => !ltBs r.1 k) d i = if pos d k < d.length then ((i + pos d k : Nat) : Int) else -1
  | [], i => rfl
  | r :: d, i => by
    unfold idxF pos
    cases h : ltBs r.1 k with
    | true =>
      rw [idxF_pos k d (i + 1)]
      simp only [Bool.not_true, List.length_cons, if_true]
      rw [if_neg (by decide)]
      by_cases h2 : pos d k < d.length
      · rw [if_pos h2, if_pos (by omega)]; congr 1; omega
      · rw [if_neg h2, if_neg (by omega)]
    | false =>
      simp
theorem pos_le (k : Str) : ∀ d : DS, pos d k ≤ d.length
  | [] => Nat.le_refl _
  | r :: d => by
    unfold pos
    split
    · have := pos_le k d; simp; omega
    · omega
section
variable {sp : Nat → List Value → Hp → Option (Value × Hp × Nat × Nat)} {e : Env}
set_option maxRecDepth 10000 in
set_option maxHeartbeats 2000000 in
theorem at_ok (hs : ∀ args H, sp 117 args H = none) (h225 : ∀ args H, sp 158 args H = none) (h226 : ∀ args H, sp 159 args H = none) {H : Hp} {sv : Value} {d : DS} {k : Str} (hf : H.isFn = true) (he : e.n0 ≤ H.nx) (hsl : DsR e H sv d) (hlen : d.length < 4611686018427387904) : EC Tb0 sp e 117 [sv, vS k] H fun v H' => v = .tuple #[vN (pos d k), .bool (isAt d k)] ∧ Kept H H' := by
  refine EC.intro (fn := Tryz.f117) (c := at_body) (hs _ _) (by rfl) at_some at_comp (by show 2 ≤ 22; decide) ?_
  have g0 : (enterT Tryz.f117 [sv, vS k]).get 0 = sv := by rw [enterT_get (by show 2 ≤ 22; decide) (by show 0 < 22; decide)]; rfl
  have g1 : (enterT Tryz.f117 [sv, vS k]).get 1 = vS k := by rw [enterT_get (by show 2 ≤ 22; decide) (by show 1 < 22; decide)]; rfl
  revert g0 g1
  generalize enterT Tryz.f117 [sv, vS k] = t0
  intro g0 g1
  show WK Tb0 sp e ⟨5, 22, none, false⟩ at_k t0 [] H _
  unfold at_k
  have hrow : Row (H.push (blkL [vS k] 9 0)) H.nx 9 0 [vS k] := row_push (fn_room hf) _ _ _
  have hk1 : Kept H (H.push (blkL [vS k] 9 0)) := ⟨by rw [isFn_push]; exact hf, by rw [nx_push]; omega, fun b hb => blk_push_old (fn_room hf) _ hb⟩
  have hbox : exFill (cellsO (vS k)) (fun l => alloc1 (blkL l 9 0) H ptrTo 0 0) = .val (.pointer (some ⟨H.nx, 0, none⟩)) (H.push (blkL [vS k] 9 0)) 0 0 := alloc_ptr hf _
  revert hrow hk1 hbox
  generalize H.push (blkL [vS k] 9 0) = H1
  intro hrow hk1 hbox
  have q4 : H.nx ≤ H1.nx := hk1.nx
  refine WK.seq (WK.reg_gg (fun t' H' => t'.get 0 = sv ∧ t'.get 3 = .pointer (some ⟨H.nx, 0, none⟩) ∧ H' = H1) ?_ ?_)
  · simp (config := { maxSteps := 1000000 }) only [at_r0, WOR, WOG, wants_none', wants_some, wantsV_U, wantsV_tt, wantsV_tf, wantsV_ft, wantsV_ff, run, evalO_tmp, evalO_const, evalO_func, evalL, callV_func, Rv_eq, Ro_some, ok_zero, true_and, get_putT (d := 5), exLen_str, binV_geq, binV_leq, binV_lss, binV_gtr, exEq_int, exEq_str, exPick_t, exPick_f, Bool.not_true, Bool.not_false, Bc_t, Bc_f, Nat.reducePow, Nat.reduceLT, Nat.reduceEqDiff, Nat.reduceAdd, if_false, reduceIte, and_self, g0, g1, hbox, q4, Nat.le_refl]
  rintro t1 H1' ⟨g0, g3, rfl⟩
  have hsl1 : DsR e H1' sv d := hsl.later hk1.old
  refine WK.seq (WK.reg_gg (fun t' H' => t'.get 0 = sv ∧ t'.get 3 = .pointer (some ⟨H.nx, 0, none⟩) ∧ t'.get 6 = vN (idxF (fun r : Entry => !ltBs r.1 k) d 0) ∧ Kept H1' H') ?_ ?_)
  · simp (config := { maxSteps := 1000000 }) only [at_r1, WOR, WOG, wants_none', wants_some, wantsV_U, wantsV_tt, wantsV_tf, wantsV_ft, wantsV_ff, run, evalO_tmp, evalO_const, evalO_func, evalL, callV_func, Rv_eq, Ro_some, ok_zero, true_and, get_putT (d := 5), exLen_str, binV_geq, binV_leq, binV_lss, binV_gtr, exEq_int, exEq_str, exPick_t, exPick_f, Bool.not_true, Bool.not_false, Bc_t, Bc_f, Nat.reducePow, Nat.reduceLT, Nat.reduceEqDiff, Nat.reduceAdd, if_false, reduceIte, and_self, g0, g3, evalL, Nat.le_refl]
    refine (ixR_ok (Q := fun _ => recQ) (p := fun r : Entry => !ltBs r.1 k) h225 hk1.fn hsl1 (fun _ _ _ _ h => h) hlen (fun H' x vs hk' hq => ?_)).mono fun v H2 _ hv => ?_
    · cases hq
      exact at1_ok h226 hk'.fn (Nat.le_trans he (Nat.le_trans q4 hk'.nx)) x (hrow.of_blk (hk'.old _ hrow.lt)) fun h => absurd h (by omega)
    obtain ⟨rfl, hk⟩ := hv
    simp (config := { maxSteps := 1000000 }) only [WOGk, WOR, WOG, wants_none', wants_some, wantsV_U, wantsV_tt, wantsV_tf, wantsV_ft, wantsV_ff, run, evalO_tmp, evalO_const, evalO_func, evalL, callV_func, Rv_eq, Ro_some, ok_zero, true_and, get_putT (d := 5), exLen_str, binV_geq, binV_leq, binV_lss, binV_gtr, exEq_int, exEq_str, exPick_t, exPick_f, Bool.not_true, Bool.not_false, Bc_t, Bc_f, Nat.reducePow, Nat.reduceLT, Nat.reduceEqDiff, Nat.reduceAdd, if_false, reduceIte, and_self, g0, g3, Nat.le_refl]
    exact hk
  rintro t2 H2 ⟨g0, g3, g6, hk2⟩
  have hsl2 : DsR e H2 sv d := hsl1.later hk2.old
  have hk' := hk1.trans hk2
  have hrow2 := hrow.of_blk (hk2.old _ hrow.lt)
  have hpl := pos_le k d
  rw [idxF_pos] at g6
  refine WK.seq (WK.seq (WK.reg_rr (fun t' => t'.get 0 = sv ∧ t'.get 3 = .pointer (some ⟨H.nx, 0, none⟩) ∧ t'.get 6 = t2.get 6 ∧ t'.get 11 = .bool (!decide (pos d k < d.length))) ?_ ?_))
  · by_cases hlt : pos d k < d.length
    · rw [if_pos hlt, Nat.zero_add] at g6
      have z : decide (((pos d k : Nat) : Int) < 0) = false := decide_eq_false (by omega)
      simp (config := { maxSteps := 1000000 }) only [at_r2, WOR, WOG, wants_none', wants_some, wantsV_U, wantsV_tt, wantsV_tf, wantsV_ft, wantsV_ff, run, evalO_tmp, evalO_const, evalO_func, evalL, callV_func, Rv_eq, Ro_some, ok_zero, true_and, get_putT (d := 5), exLen_str, binV_geq, binV_leq, binV_lss, binV_gtr, exEq_int, exEq_str, exPick_t, exPick_f, Bool.not_true, Bool.not_false, Bc_t, Bc_f, Nat.reducePow, Nat.reduceLT, Nat.reduceEqDiff, Nat.reduceAdd, if_false, reduceIte, and_self, g0, g3, g6, z, hlt, decide_true]
    · rw [if_neg hlt] at g6
      have z : decide ((-1 : Int) < 0) = true := rfl
      simp (config := { maxSteps := 1000000 }) only [at_r2, WOR, WOG, wants_none', wants_some, wantsV_U, wantsV_tt, wantsV_tf, wantsV_ft, wantsV_ff, run, evalO_tmp, evalO_const, evalO_func, evalL, callV_func, Rv_eq, Ro_some, ok_zero, true_and, get_putT (d := 5), exLen_str, binV_geq, binV_leq, binV_lss, binV_gtr, exEq_int, exEq_str, exPick_t, exPick_f, Bool.not_true, Bool.not_false, Bc_t, Bc_f, Nat.reducePow, Nat.reduceLT, Nat.reduceEqDiff, Nat.reduceAdd, if_false, reduceIte, and_self, g0, g3, g6, z, hlt, decide_false]
  rintro t3 ⟨g0, g3, g6', g11⟩
  rw [g6] at g6'
  by_cases hlt : pos d k < d.length
  case neg =>
    have hp : pos d k = d.length := by omega
    have hi : isAt d k = false := by unfold isAt; rw [hp, List.getElem?_eq_none (Nat.le_refl _)]
    have k0 := hsl2.len
    refine WK.cond (v := true) (by rw [evalO_tmp, g11, decide_eq_false hlt]; rfl) ?_
    refine WK.seq (WK.reg_rr (fun t' => t'.get 4 = vN d.length ∧ t'.get 5 = .bool false) ?_ ?_)
    · simp (config := { maxSteps := 1000000 }) only [at_r3, WOR, WOG, wants_none', wants_some, wantsV_U, wantsV_tt, wantsV_tf, wantsV_ft, wantsV_ff, run, evalO_tmp, evalO_const, evalO_func, evalL, callV_func, Rv_eq, Ro_some, ok_zero, true_and, get_putT (d := 5), exLen_str, binV_geq, binV_leq, binV_lss, binV_gtr, exEq_int, exEq_str, exPick_t, exPick_f, Bool.not_true, Bool.not_false, Bc_t, Bc_f, Nat.reducePow, Nat.reduceLT, Nat.reduceEqDiff, Nat.reduceAdd, if_false, reduceIte, and_self, g0, k0]
    rintro t4 ⟨h4, h5⟩
    refine WK.ret ⟨.inr rfl, rfl, [vN d.length, .bool false], 0, ?_, .zero _ _, by rw [hp, hi]; rfl, hk'⟩
    show resL Tb0 22 t4 _ [.tmp 4, .tmp 5] = _
    simp only [resL, h4, h5]; rfl
  rw [if_pos hlt, Nat.zero_add] at g6'
  refine WK.cond (v := false) (by rw [evalO_tmp, g11, decide_eq_true hlt]; rfl) (WK.skip ?_)
  obtain ⟨r, hr⟩ : ∃ r, d[pos d k]? = some r := ⟨d[pos d k], by simp [hlt]⟩
  have hi : isAt d k = eqBs r.1 k := by unfold isAt; rw [hr]
  obtain ⟨b, o, vs, hel, rfl⟩ := hsl2.el hr
  have m1 := hel.addr
  have m2 := hel.ld1 0 (vS r.1) rfl
  have m3 := hel.ok
  rw [Nat.add_zero] at m2
  have m4 : exLd1 (.pointer (some ⟨H.nx, 0, none⟩)) H2 = .val (vS k) H2 (bit H.nx) 0 := exLd1_row hrow2 rfl
  have m5 : e.ok (bit H.nx) 0 H2 := .fresh hrow2.lt he
  refine WK.seq (WK.draw_rr (fun t' => t'.get 4 = vN (pos d k) ∧ t'.get 5 = .bool (eqBs r.1 k)) ?_ ?_)
  · simp (config := { maxSteps := 1000000 }) only [at_r4, WOR, WOG, wants_none', wants_some, wantsV_U, wantsV_tt, wantsV_tf, wantsV_ft, wantsV_ff, run, evalO_tmp, evalO_const, evalO_func, evalL, callV_func, Rv_eq, Ro_some, ok_zero, true_and, get_putT (d := 5), exLen_str, binV_geq, binV_leq, binV_lss, binV_gtr, exEq_int, exEq_str, exPick_t, exPick_f, Bool.not_true, Bool.not_false, Bc_t, Bc_f, Nat.reducePow, Nat.reduceLT, Nat.reduceEqDiff, Nat.reduceAdd, if_false, reduceIte, and_self, g0, g3, g6', m1, m2, m3, m4, m5, exFa_ptr, Nat.add_zero]
  rintro t4 ⟨h4, h5⟩
  refine WK.ret ⟨.inr rfl, rfl, [vN (pos d k), .bool (eqBs r.1 k)], 0, ?_, .zero _ _, by rw [hi]; rfl, hk'⟩
  show resL Tb0 22 t4 _ [.tmp 4, .tmp 5] = _
  simp only [resL, h4, h5]; rfl
end
end Go.Proofs.RS
end

noncomputable section
namespace Go.Proofs.RS
open Go Go.Ev Go.Proofs Go.Ds
theorem checkB_of {d : DS} (h : d.length ≤ 64) (ho : ∀ j, j < d.length → okAt d j = true) : checkB d = true := by
  unfold checkB
  rw [Bool.and_eq_true, List.all_eq_true]
  exact ⟨decide_eq_true h, fun j hj => ho j (List.mem_range.1 hj)⟩
theorem checkB_not {d : DS} {i : Nat} (h : okAt d i = false) : checkB d = false := by
  cases hc : checkB d with
  | false => rfl
  | true => rw [okAt_of_check hc i] at h; cases h
theorem checkB_long {d : DS} (h : ¬ d.length ≤ 64) : checkB d = false := by unfold checkB; rw [decide_eq_false h]; rfl
def chkV (d : DS) : Int := if checkB d then 0 else 140
theorem hel_lt {e : Env} {H : Hp} {w : Nat} {α : Type} {Q : α → List Value → Prop} {v : Value} {l : List α} (h : RowR e H w Q v l) {i : Nat} {x : α} (hx : l[i]? = some x) {b o : Nat} {H' : Hp} (ha : exIaS w v (vN i) H' = .val (.pointer (some ⟨b, o, none⟩)) H' 0 0) : b < H.nx := by
  cases h with
  | nil => simp at hx
  | odd => simp at hx
  | inRow b' o' c ty op l cells h hr hc =>
    have hlt : i < l.length := by
      rcases Nat.lt_or_ge i l.length with h' | h'
      · exact h'
      · rw [List.getElem?_eq_none h'] at hx; cases hx
    rw [exIaS_int (by omega) (by omega)] at ha
    cases ha
    exact h.lt
section
variable {sp : Nat → List Value → Hp → Option (Value × Hp × Nat × Nat)} {e : Env}
set_option maxRecDepth 10000 in
set_option maxHeartbeats 2000000 in
theorem chk_ok (hs : ∀ args H, sp 83 args H = none) (h68 : ∀ args H, sp 116 args H = none) (h136 : ∀ args H, sp 119 args H = none) (h137 : ∀ args H, sp 157 args H = none) {H : Hp} {sv : Value} {d : DS} (hf : H.isFn = true) (he : e.n0 ≤ H.nx) (hsl : DsR e H sv d) (hlen : d.length < 4611686018427387904) : EC Tb0 sp e 83 [sv] H fun v H' => v = vN (chkV d) ∧ Kept H H' := by
  refine EC.intro (fn := Tryz.f83) (c := chk_body) (hs _ _) (by rfl) chk_some chk_comp (by show 1 ≤ 34; decide) ?_
  have g0 : (enterT Tryz.f83 [sv]).get 0 = sv := by rw [enterT_get (by show 1 ≤ 34; decide) (by show 0 < 34; decide)]; rfl
  revert g0
  generalize enterT Tryz.f83 [sv] = t0
  intro g0
  show WK Tb0 sp e ⟨6, 34, none, false⟩ chk_k t0 [] H _
  unfold chk_k
  have k0 := hsl.len
  refine WK.seq (WK.reg_rr (fun t' => t'.get 0 = sv) ?_ ?_)
  · simp (config := { maxSteps := 1000000 }) only [chk_r0, WOR, WOG, wants_none', wants_some, wantsV_U, wantsV_tt, wantsV_tf, wantsV_ft, wantsV_ff, run, evalO_tmp, evalO_const, evalO_func, evalL, callV_func, Rv_eq, Ro_some, ok_zero, true_and, get_putT (d := 6), exLen_str, binV_geq, binV_leq, binV_lss, binV_gtr, exEq_int, exEq_str, exPick_t, exPick_f, Bool.not_true, Bool.not_false, Bc_t, Bc_f, Nat.reducePow, Nat.reduceLT, Nat.reduceEqDiff, Nat.reduceAdd, if_false, reduceIte, and_self, g0]
  intro t1 g0
  refine WK.seq (WK.seq (WK.reg_rr (fun t' => t'.get 0 = sv ∧ t'.get 7 = .bool (!decide (d.length ≤ 64))) ?_ ?_))
  · have z : decide ((64 : Int) < (d.length : Int)) = !decide (d.length ≤ 64) := by rw [← decide_not]; exact decide_eq_decide.2 (by omega)
    simp (config := { maxSteps := 1000000 }) only [chk_r1, WOR, WOG, wants_none', wants_some, wantsV_U, wantsV_tt, wantsV_tf, wantsV_ft, wantsV_ff, run, evalO_tmp, evalO_const, evalO_func, evalL, callV_func, Rv_eq, Ro_some, ok_zero, true_and, get_putT (d := 6), exLen_str, binV_geq, binV_leq, binV_lss, binV_gtr, exEq_int, exEq_str, exPick_t, exPick_f, Bool.not_true, Bool.not_false, Bc_t, Bc_f, Nat.reducePow, Nat.reduceLT, Nat.reduceEqDiff, Nat.reduceAdd, if_false, reduceIte, and_self, g0, k0, z]
  rintro t2 ⟨g0, g7⟩
  by_cases h64 : d.length ≤ 64
  case neg =>
    refine WK.cond (v := true) (by rw [evalO_tmp, g7, decide_eq_false h64]; rfl) ?_
    refine WK.seq (WK.reg_rr (fun t' => t'.get 2 = vN 140) ?_ ?_)
    · simp (config := { maxSteps := 1000000 }) only [chk_r2, WOR, WOG, wants_none', wants_some, wantsV_U, wantsV_tt, wantsV_tf, wantsV_ft, wantsV_ff, run, evalO_tmp, evalO_const, evalO_func, evalL, callV_func, Rv_eq, Ro_some, ok_zero, true_and, get_putT (d := 6), exLen_str, binV_geq, binV_leq, binV_lss, binV_gtr, exEq_int, exEq_str, exPick_t, exPick_f, Bool.not_true, Bool.not_false, Bc_t, Bc_f, Nat.reducePow, Nat.reduceLT, Nat.reduceEqDiff, Nat.reduceAdd, if_false, reduceIte, and_self]
    intro t3 h2
    refine WK.ret ⟨.inr rfl, rfl, [vN 140], 0, ?_, .zero _ _, by unfold chkV; rw [checkB_long h64]; rfl, .refl hf⟩
    show resL Tb0 34 t3 _ [.tmp 2] = _
    simp only [resL, h2]; rfl
  refine WK.cond (v := false) (by rw [evalO_tmp, g7, decide_eq_true h64]; rfl) (WK.skip ?_)
  refine WK.seq (WK.seq (WK.reg_rr (fun t' => t'.get 0 = sv ∧ t'.get 8 = sv ∧ t'.get 9 = vN d.length ∧ t'.get 10 = vN (0 : Nat)) ?_ ?_))
  · simp (config := { maxSteps := 1000000 }) only [chk_r3, WOR, WOG, wants_none', wants_some, wantsV_U, wantsV_tt, wantsV_tf, wantsV_ft, wantsV_ff, run, evalO_tmp, evalO_const, evalO_func, evalL, callV_func, Rv_eq, Ro_some, ok_zero, true_and, get_putT (d := 6), exLen_str, binV_geq, binV_leq, binV_lss, binV_gtr, exEq_int, exEq_str, exPick_t, exPick_f, Bool.not_true, Bool.not_false, Bc_t, Bc_f, Nat.reducePow, Nat.reduceLT, Nat.reduceEqDiff, Nat.reduceAdd, if_false, reduceIte, and_self, g0, k0]
    rfl
  rintro t3 ⟨g0, g8, g9, g10⟩
  refine WK.block (WK.loop_ind (fun m t' ds' H' => ds' = [] ∧ Kept H H' ∧ ∃ i : Nat, m = d.length - i ∧ i ≤ d.length ∧ t'.get 0 = sv ∧ t'.get 8 = sv ∧ t'.get 9 = vN d.length ∧ t'.get 10 = vN i ∧ ∀ j, j < i → okAt d j = true) ?_ d.length t3 [] H ⟨rfl, .refl hf, 0, by omega, by omega, g0, g8, g9, g10, fun j hj => absurd hj (by omega)⟩)
  clear g0 g8 g9 g10 g7
  rintro m t4 ds H4 ⟨rfl, hk, i, rfl, hi, g0, g8, g9, g10, hI⟩
  have hf4 := hk.fn
  have hnx4 := hk.nx
  unfold chk_l9
  refine WK.seq (WK.reg_rr (fun t' => t'.get 11 = .bool (decide ((i : Int) < (d.length : Int))) ∧ Lo 11 t4 t') ?_ ?_)
  · simp (config := { maxSteps := 1000000 }) only [chk_r4, WOR, WOG, wants_none', wants_some, wantsV_U, wantsV_tt, wantsV_tf, wantsV_ft, wantsV_ff, run, evalO_tmp, evalO_const, evalO_func, evalL, callV_func, Rv_eq, Ro_some, ok_zero, true_and, get_putT (d := 6), exLen_str, binV_geq, binV_leq, binV_lss, binV_gtr, exEq_int, exEq_str, exPick_t, exPick_f, Bool.not_true, Bool.not_false, Bc_t, Bc_f, Nat.reducePow, Nat.reduceLT, Nat.reduceEqDiff, Nat.reduceAdd, if_false, reduceIte, and_self, g9, g10]
    intro j hj
    simp (disch := omega) only [putT_lo (d := 6)]
  rintro t5 ⟨h11, hlo⟩
  have f0 := (hlo 0 (by omega)).trans g0
  have f8 := (hlo 8 (by omega)).trans g8
  have f9 := (hlo 9 (by omega)).trans g9
  have f10 := (hlo 10 (by omega)).trans g10
  by_cases hlt : i < d.length
  case neg =>
    refine WK.seq (WK.cond (v := false) (by rw [evalO_tmp, h11, decide_eq_false (by omega)]; rfl) (WK.exit ?_))
    show WK Tb0 sp e ⟨6, 34, none, false⟩ _ t5 [] H4 _
    refine WK.seq (WK.reg_rr (fun t' => t'.get 2 = vN 0) ?_ ?_)
    · simp (config := { maxSteps := 1000000 }) only [chk_r10, WOR, WOG, wants_none', wants_some, wantsV_U, wantsV_tt, wantsV_tf, wantsV_ft, wantsV_ff, run, evalO_tmp, evalO_const, evalO_func, evalL, callV_func, Rv_eq, Ro_some, ok_zero, true_and, get_putT (d := 6), exLen_str, binV_geq, binV_leq, binV_lss, binV_gtr, exEq_int, exEq_str, exPick_t, exPick_f, Bool.not_true, Bool.not_false, Bc_t, Bc_f, Nat.reducePow, Nat.reduceLT, Nat.reduceEqDiff, Nat.reduceAdd, if_false, reduceIte, and_self]
    intro t6 h2
    refine WK.ret ⟨.inr rfl, rfl, [vN 0], 0, ?_, .zero _ _, by unfold chkV; rw [checkB_of h64 (fun j hj => hI j (by omega))]; rfl, hk⟩
    show resL Tb0 34 t6 _ [.tmp 2] = _
    simp only [resL, h2]; rfl
  refine WK.seq (WK.cond (v := true) (by rw [evalO_tmp, h11, decide_eq_true (by omega)]; rfl) (WK.skip ?_))
  obtain ⟨r, hr⟩ : ∃ r, d[i]? = some r := ⟨d[i], by simp [hlt]⟩
  have hsl4 : DsR e H4 sv d := hsl.later hk.old
  obtain ⟨b, o, vs, hel, rfl⟩ := hsl4.el hr
  have m1 := hel.addr
  have m2 := hel.ld
  have m3 := hel.ok
  have hrow5 : Row (H4.push (blkL [.string ⟨#[]⟩, .string ⟨#[]⟩] 77 0)) H4.nx 77 0 [.string ⟨#[]⟩, .string ⟨#[]⟩] := row_push (fn_room hf4) _ _ _
  have hk5 : Kept H4 (H4.push (blkL [.string ⟨#[]⟩, .string ⟨#[]⟩] 77 0)) := ⟨by rw [isFn_push]; exact hf4, by rw [nx_push]; omega, fun b hb => blk_push_old (fn_room hf4) _ hb⟩
  have hal := alloc_ptr hf4 (blkL [.string ⟨#[]⟩, .string ⟨#[]⟩] 77 0)
  revert hrow5 hk5 hal
  generalize H4.push (blkL [.string ⟨#[]⟩, .string ⟨#[]⟩] 77 0) = H5
  intro hrow5 hk5 hal
  obtain ⟨H6, a1, a2, a3, a4, a5⟩ : ∃ H', exSt 2 (.pointer (some ⟨H4.nx, 0, none⟩)) (.agg ⟨[vS r.1, vS r.2]⟩) H5 = .val U H' 0 (bit H4.nx) ∧ Row H' H4.nx 77 0 [vS r.1, vS r.2] ∧ H'.nx = H5.nx ∧ H'.isFn = true ∧ ∀ c, c ≠ H4.nx → H'.blk c = H5.blk c := exSt_row hk5.fn hrow5 rfl
  have q4 : H4.nx ≤ H5.nx := hk5.nx
  have q5 : H5.nx ≤ H6.nx := by omega
  have qw : e.ok 0 (bit H4.nx) H6 := .write a2.lt fun h => absurd h (by omega)
  refine WK.seq (WK.block (WK.seq (WK.reg_gg (fun t' H' => t'.get 0 = sv ∧ t'.get 3 = vN i ∧ t'.get 4 = .pointer (some ⟨H4.nx, 0, none⟩) ∧ t'.get 8 = sv ∧ t'.get 9 = vN d.length ∧ t'.get 10 = vN i ∧ H' = H6) ?_ ?_)))
  · simp (config := { maxSteps := 1000000 }) only [chk_r5, WOR, WOG, wants_none', wants_some, wantsV_U, wantsV_tt, wantsV_tf, wantsV_ft, wantsV_ff, run, evalO_tmp, evalO_const, evalO_func, evalL, callV_func, Rv_eq, Ro_some, ok_zero, true_and, get_putT (d := 6), exLen_str, binV_geq, binV_leq, binV_lss, binV_gtr, exEq_int, exEq_str, exPick_t, exPick_f, Bool.not_true, Bool.not_false, Bc_t, Bc_f, Nat.reducePow, Nat.reduceLT, Nat.reduceEqDiff, Nat.reduceAdd, if_false, reduceIte, and_self, f0, f8, f9, f10, m1, m2, m3, hal, a1, qw, q4, q5, putT_none, Nat.le_refl]
  rintro t6 H6' ⟨f0, f3, f4, f8, f9, f10, rfl⟩
  have hk6 : Kept H4 H6' := ⟨a4, by omega, fun c hc => (a5 c (by omega)).trans (hk5.old c hc)⟩
  have hk' := hk.trans hk6
  have hsl6 : DsR e H6' sv d := hsl.later hk'.old
  have hlt6 := a2.lt
  have p1 : exLdN 2 (.pointer (some ⟨H4.nx, 0, none⟩)) H6' = .val (.agg ⟨[vS r.1, vS r.2]⟩) H6' (bit H4.nx) 0 := exLdN_row (k := 2) (o := 0) a2 (Nat.le_refl _)
  have p3 : e.ok (bit H4.nx) 0 H6' := .fresh hlt6 (by omega)
  refine WK.seq (WK.draw_q (fun t' H' => t'.get 32 = .bool (!okAt d i) ∧ Lo 11 t6 t' ∧ Kept H6' H') (by omega) ?_ ?_)
  · simp (config := { maxSteps := 1000000 }) only [chk_r6, WOR, WOG, wants_none', wants_some, wantsV_U, wantsV_tt, wantsV_tf, wantsV_ft, wantsV_ff, run, evalO_tmp, evalO_const, evalO_func, evalL, callV_func, Rv_eq, Ro_some, ok_zero, true_and, get_putT (d := 6), exLen_str, binV_geq, binV_leq, binV_lss, binV_gtr, exEq_int, exEq_str, exPick_t, exPick_f, Bool.not_true, Bool.not_false, Bc_t, Bc_f, Nat.reducePow, Nat.reduceLT, Nat.reduceEqDiff, Nat.reduceAdd, if_false, reduceIte, and_self, WOQ, bit_lt_iff, zero_bit_iff, Nat.le_refl, f0, f3, f4, p1, p3, hlt6]
    refine (isr_ok h68 h136 h137 a4 (Nat.le_refl _) r).mono fun v H7 _ hv => ?_
    obtain ⟨rfl, hk7⟩ := hv
    have p2 : exLd1 (.pointer (some ⟨H4.nx, 0, none⟩)) H7 = .val (vS r.1) H7 (bit H4.nx) 0 := exLd1_row (a2.of_blk (hk7.old _ hlt6)) rfl
    have p4 : e.ok (bit H4.nx) 0 H7 := .fresh (Nat.lt_of_lt_of_le hlt6 hk7.nx) (by omega)
    rw [WOQk]
    cases hrec : recB r with
    | false =>
      have hok : okAt d i = false := by unfold okAt; rw [hr]; simp only [hrec, Bool.false_and]
      simp (config := { maxSteps := 1000000 }) only [exUn_not, WOR, WOG, wants_none', wants_some, wantsV_U, wantsV_tt, wantsV_tf, wantsV_ft, wantsV_ff, run, evalO_tmp, evalO_const, evalO_func, evalL, callV_func, Rv_eq, Ro_some, ok_zero, true_and, get_putT (d := 6), exLen_str, binV_geq, binV_leq, binV_lss, binV_gtr, exEq_int, exEq_str, exPick_t, exPick_f, Bool.not_true, Bool.not_false, Bc_t, Bc_f, Nat.reducePow, Nat.reduceLT, Nat.reduceEqDiff, Nat.reduceAdd, if_false, reduceIte, and_self, WOQ, bit_lt_iff, zero_bit_iff, Nat.le_refl, f0, f3, f4, hok]
      exact ⟨fun j hj => by simp (disch := omega) only [putT_lo (d := 6)], hk7⟩
    | true =>
    rcases i with _ | j
    · have hok : okAt d 0 = true := by unfold okAt; rw [hr]; simp only [hrec, Bool.and_self]
      have z : decide ((0 : Int) < ((0 : Nat) : Int)) = false := rfl
      simp (config := { maxSteps := 1000000 }) only [exUn_not, WOR, WOG, wants_none', wants_some, wantsV_U, wantsV_tt, wantsV_tf, wantsV_ft, wantsV_ff, run, evalO_tmp, evalO_const, evalO_func, evalL, callV_func, Rv_eq, Ro_some, ok_zero, true_and, get_putT (d := 6), exLen_str, binV_geq, binV_leq, binV_lss, binV_gtr, exEq_int, exEq_str, exPick_t, exPick_f, Bool.not_true, Bool.not_false, Bc_t, Bc_f, Nat.reducePow, Nat.reduceLT, Nat.reduceEqDiff, Nat.reduceAdd, if_false, reduceIte, and_self, WOQ, bit_lt_iff, zero_bit_iff, Nat.le_refl, f0, f3, f4, hok, z]
      exact ⟨fun j hj => by simp (disch := omega) only [putT_lo (d := 6)], hk7⟩
    · obtain ⟨q, hq⟩ : ∃ q, d[j]? = some q := ⟨d[j]'(by omega), by simp⟩
      have hok : okAt d (j + 1) = ltBs q.1 r.1 := by unfold okAt; rw [hr]; simp only [hrec, hq, Bool.true_and]
      have z : decide ((0 : Int) < ((j + 1 : Nat) : Int)) = true := decide_eq_true (by omega)
      have hwr : wrapF .i64 (((j + 1 : Nat) : Int) - 1) = (j : Int) := by rw [wrapF_i64 (by omega) (by omega)]; omega
      have hsl7 : DsR e H7 sv d := hsl6.later hk7.old
      obtain ⟨b2, o2, vs2, hel2, rfl⟩ := hsl7.el hq
      have n1 := hel2.addr
      have n2 := hel2.ld1 0 (vS q.1) rfl
      have n3 := hel2.ok
      rw [Nat.add_zero] at n2
      have n4 : b2 < H6'.nx := hel_lt hsl6 hq n1
      simp (config := { maxSteps := 1000000 }) only [exUn_not, WOR, WOG, wants_none', wants_some, wantsV_U, wantsV_tt, wantsV_tf, wantsV_ft, wantsV_ff, run, evalO_tmp, evalO_const, evalO_func, evalL, callV_func, Rv_eq, Ro_some, ok_zero, true_and, get_putT (d := 6), exLen_str, binV_geq, binV_leq, binV_lss, binV_gtr, exEq_int, exEq_str, exPick_t, exPick_f, Bool.not_true, Bool.not_false, Bc_t, Bc_f, Nat.reducePow, Nat.reduceLT, Nat.reduceEqDiff, Nat.reduceAdd, if_false, reduceIte, and_self, WOQ, bit_lt_iff, zero_bit_iff, Nat.le_refl, f0, f3, f4, hok, z, hwr, binV_sub, n1, n2, n3, n4, p2, p4, hlt6, exFa_ptr, Nat.add_zero, binV_sgeq]
      exact ⟨fun j hj => by simp (disch := omega) only [putT_lo (d := 6)], hk7⟩
  rintro t7 H7 ⟨h32, lo7, hk7⟩
  have c0 := (lo7 0 (by omega)).trans f0
  have c8 := (lo7 8 (by omega)).trans f8
  have c9 := (lo7 9 (by omega)).trans f9
  have c10 := (lo7 10 (by omega)).trans f10
  have hk'' := hk'.trans hk7
  cases hok : okAt d i with
  | false =>
    rw [hok] at h32
    refine WK.cond (v := true) (by rw [evalO_tmp, h32]; rfl) ?_
    refine WK.seq (WK.reg_rr (fun t' => t'.get 2 = vN 140) ?_ ?_)
    · simp (config := { maxSteps := 1000000 }) only [chk_r7, WOR, WOG, wants_none', wants_some, wantsV_U, wantsV_tt, wantsV_tf, wantsV_ft, wantsV_ff, run, evalO_tmp, evalO_const, evalO_func, evalL, callV_func, Rv_eq, Ro_some, ok_zero, true_and, get_putT (d := 6), exLen_str, binV_geq, binV_leq, binV_lss, binV_gtr, exEq_int, exEq_str, exPick_t, exPick_f, Bool.not_true, Bool.not_false, Bc_t, Bc_f, Nat.reducePow, Nat.reduceLT, Nat.reduceEqDiff, Nat.reduceAdd, if_false, reduceIte, and_self]
    intro t8 h2
    refine WK.ret ⟨.inr rfl, rfl, [vN 140], 0, ?_, .zero _ _, by unfold chkV; rw [checkB_not hok]; rfl, hk''⟩
    show resL Tb0 34 t8 _ [.tmp 2] = _
    simp only [resL, h2]; rfl
  | true =>
    rw [hok] at h32
    refine WK.cond (v := false) (by rw [evalO_tmp, h32]; rfl) (WK.skip ?_)
    show WK Tb0 sp e ⟨6, 34, none, false⟩ (.reg chk_r8) t7 [] H7 _
    have hwr : wrapF .i64 ((i : Int) + 1) = ((i + 1 : Nat) : Int) := by rw [wrapF_i64 (by omega) (by omega)]; omega
    refine WK.reg_rr (fun t' => t'.get 0 = sv ∧ t'.get 8 = sv ∧ t'.get 9 = vN d.length ∧ t'.get 10 = vN (i + 1 : Nat)) ?_ ?_
    · simp (config := { maxSteps := 1000000 }) only [chk_r8, WOR, WOG, wants_none', wants_some, wantsV_U, wantsV_tt, wantsV_tf, wantsV_ft, wantsV_ff, run, evalO_tmp, evalO_const, evalO_func, evalL, callV_func, Rv_eq, Ro_some, ok_zero, true_and, get_putT (d := 6), exLen_str, binV_geq, binV_leq, binV_lss, binV_gtr, exEq_int, exEq_str, exPick_t, exPick_f, Bool.not_true, Bool.not_false, Bc_t, Bc_f, Nat.reducePow, Nat.reduceLT, Nat.reduceEqDiff, Nat.reduceAdd, if_false, reduceIte, and_self, c0, c8, c9, c10, binV_add, hwr]
    rintro t8 ⟨d0, d8, d9, d10⟩
    refine ⟨d.length - (i + 1), by omega, rfl, hk'', i + 1, rfl, by omega, d0, d8, d9, d10, fun j hj => ?_⟩
    by_cases hji : j = i
    · rw [hji]; exact hok
    · exact hI j (by omega)
end
end Go.Proofs.RS
end

noncomputable section
namespace Go.Proofs.RS
open Go Go.Ev Go.Proofs Go.Ds
def askV (d : DS) (is : Bool) : Int := if checkB d then (if is then 0 else 1) else 140
section
variable {sp : Nat → List Value → Hp → Option (Value × Hp × Nat × Nat)} {e : Env}
set_option maxRecDepth 10000 in
set_option maxHeartbeats 2000000 in
theorem ask_ok (hs : ∀ args H, sp 115 args H = none) (h24 : ∀ args H, sp 83 args H = none) (h68 : ∀ args H, sp 116 args H = none) (h136 : ∀ args H, sp 119 args H = none) (h137 : ∀ args H, sp 157 args H = none) {H : Hp} {sv : Value} {d : DS} {is : Bool} (hf : H.isFn = true) (he : e.n0 ≤ H.nx) (hsl : DsR e H sv d) (hlen : d.length < 4611686018427387904) : EC Tb0 sp e 115 [sv, .bool is] H fun v H' => v = vN (askV d is) ∧ Kept H H' := by
  refine EC.intro (fn := Tryz.f115) (c := ask_body) (hs _ _) (by rfl) ask_some ask_comp (by show 2 ≤ 13; decide) ?_
  have g0 : (enterT Tryz.f115 [sv, .bool is]).get 0 = sv := by rw [enterT_get (by show 2 ≤ 13; decide) (by show 0 < 13; decide)]; rfl
  have g1 : (enterT Tryz.f115 [sv, .bool is]).get 1 = .bool is := by rw [enterT_get (by show 2 ≤ 13; decide) (by show 1 < 13; decide)]; rfl
  revert g0 g1
  generalize enterT Tryz.f115 [sv, .bool is] = t0
  intro g0 g1
  show WK Tb0 sp e ⟨4, 13, none, false⟩ ask_k t0 [] H _
  unfold ask_k
  refine WK.seq (WK.reg_rr (fun t' => t'.get 0 = sv ∧ t'.get 1 = .bool is) ?_ ?_)
  · simp (config := { maxSteps := 1000000 }) only [ask_r0, WOR, WOG, wants_none', wants_some, wantsV_U, wantsV_tt, wantsV_tf, wantsV_ft, wantsV_ff, run, evalO_tmp, evalO_const, evalO_func, evalL, callV_func, Rv_eq, Ro_some, ok_zero, true_and, get_putT (d := 4), exLen_str, binV_geq, binV_leq, binV_lss, binV_gtr, exEq_int, exEq_str, exPick_t, exPick_f, Bool.not_true, Bool.not_false, Bc_t, Bc_f, Nat.reducePow, Nat.reduceLT, Nat.reduceEqDiff, Nat.reduceAdd, if_false, reduceIte, and_self, g0, g1]
  rintro t1 ⟨g0, g1⟩
  refine WK.seq (WK.seq (WK.reg_gg (fun t' H' => t'.get 0 = sv ∧ t'.get 1 = .bool is ∧ t'.get 5 = vN (chkV d) ∧ Kept H H') ?_ ?_))
  · simp (config := { maxSteps := 1000000 }) only [ask_r1, WOR, WOG, wants_none', wants_some, wantsV_U, wantsV_tt, wantsV_tf, wantsV_ft, wantsV_ff, run, evalO_tmp, evalO_const, evalO_func, evalL, callV_func, Rv_eq, Ro_some, ok_zero, true_and, get_putT (d := 4), exLen_str, binV_geq, binV_leq, binV_lss, binV_gtr, exEq_int, exEq_str, exPick_t, exPick_f, Bool.not_true, Bool.not_false, Bc_t, Bc_f, Nat.reducePow, Nat.reduceLT, Nat.reduceEqDiff, Nat.reduceAdd, if_false, reduceIte, and_self, g0, g1, Nat.le_refl]
    refine (chk_ok h24 h68 h136 h137 hf he hsl hlen).mono fun v H2 _ hv => ?_
    obtain ⟨rfl, hk⟩ := hv
    simp (config := { maxSteps := 1000000 }) only [WOGk, WOR, WOG, wants_none', wants_some, wantsV_U, wantsV_tt, wantsV_tf, wantsV_ft, wantsV_ff, run, evalO_tmp, evalO_const, evalO_func, evalL, callV_func, Rv_eq, Ro_some, ok_zero, true_and, get_putT (d := 4), exLen_str, binV_geq, binV_leq, binV_lss, binV_gtr, exEq_int, exEq_str, exPick_t, exPick_f, Bool.not_true, Bool.not_false, Bc_t, Bc_f, Nat.reducePow, Nat.reduceLT, Nat.reduceEqDiff, Nat.reduceAdd, if_false, reduceIte, and_self, g0, g1, Nat.le_refl]
    exact hk
  rintro t2 H2 ⟨g0, g1, g5, hk⟩
  cases hc : checkB d with
  | false =>
    have hv : chkV d = 140 := by unfold chkV; rw [hc]; rfl
    have z : decide ((140 : Int) = 0) = false := rfl
    rw [hv] at g5
    refine WK.seq (WK.reg_rr (fun t' => t'.get 5 = vN 140 ∧ t'.get 9 = .bool true) ?_ ?_)
    · simp (config := { maxSteps := 1000000 }) only [ask_r2, WOR, WOG, wants_none', wants_some, wantsV_U, wantsV_tt, wantsV_tf, wantsV_ft, wantsV_ff, run, evalO_tmp, evalO_const, evalO_func, evalL, callV_func, Rv_eq, Ro_some, ok_zero, true_and, get_putT (d := 4), exLen_str, binV_geq, binV_leq, binV_lss, binV_gtr, exEq_int, exEq_str, exPick_t, exPick_f, Bool.not_true, Bool.not_false, Bc_t, Bc_f, Nat.reducePow, Nat.reduceLT, Nat.reduceEqDiff, Nat.reduceAdd, if_false, reduceIte, and_self, g5]
      rfl
    rintro t3 ⟨g5, g9⟩
    refine WK.cond (v := true) (by rw [evalO_tmp, g9]; rfl) ?_
    refine WK.seq (WK.reg_rr (fun t' => t'.get 4 = vN 140) ?_ ?_)
    · simp (config := { maxSteps := 1000000 }) only [ask_r3, WOR, WOG, wants_none', wants_some, wantsV_U, wantsV_tt, wantsV_tf, wantsV_ft, wantsV_ff, run, evalO_tmp, evalO_const, evalO_func, evalL, callV_func, Rv_eq, Ro_some, ok_zero, true_and, get_putT (d := 4), exLen_str, binV_geq, binV_leq, binV_lss, binV_gtr, exEq_int, exEq_str, exPick_t, exPick_f, Bool.not_true, Bool.not_false, Bc_t, Bc_f, Nat.reducePow, Nat.reduceLT, Nat.reduceEqDiff, Nat.reduceAdd, if_false, reduceIte, and_self, g5]
    intro t4 h4
    refine WK.ret ⟨.inr rfl, rfl, [vN 140], 0, ?_, .zero _ _, by unfold askV; rw [hc]; rfl, hk⟩
    show resL Tb0 13 t4 _ [.tmp 4] = _
    simp only [resL, h4]; rfl
  | true =>
    have hv : chkV d = 0 := by unfold chkV; rw [hc]; rfl
    rw [hv] at g5
    refine WK.seq (WK.reg_rr (fun t' => t'.get 1 = .bool is ∧ t'.get 9 = .bool false) ?_ ?_)
    · simp (config := { maxSteps := 1000000 }) only [ask_r2, WOR, WOG, wants_none', wants_some, wantsV_U, wantsV_tt, wantsV_tf, wantsV_ft, wantsV_ff, run, evalO_tmp, evalO_const, evalO_func, evalL, callV_func, Rv_eq, Ro_some, ok_zero, true_and, get_putT (d := 4), exLen_str, binV_geq, binV_leq, binV_lss, binV_gtr, exEq_int, exEq_str, exPick_t, exPick_f, Bool.not_true, Bool.not_false, Bc_t, Bc_f, Nat.reducePow, Nat.reduceLT, Nat.reduceEqDiff, Nat.reduceAdd, if_false, reduceIte, and_self, g1, g5]
      rfl
    rintro t3 ⟨g1, g9⟩
    refine WK.cond (v := false) (by rw [evalO_tmp, g9]; rfl) (WK.skip ?_)
    refine WK.seq (WK.seq (WK.reg_rr (fun t' => t'.get 12 = .bool (!is)) ?_ ?_))
    · simp (config := { maxSteps := 1000000 }) only [ask_r4, WOR, WOG, wants_none', wants_some, wantsV_U, wantsV_tt, wantsV_tf, wantsV_ft, wantsV_ff, run, evalO_tmp, evalO_const, evalO_func, evalL, callV_func, Rv_eq, Ro_some, ok_zero, true_and, get_putT (d := 4), exLen_str, binV_geq, binV_leq, binV_lss, binV_gtr, exEq_int, exEq_str, exPick_t, exPick_f, Bool.not_true, Bool.not_false, Bc_t, Bc_f, Nat.reducePow, Nat.reduceLT, Nat.reduceEqDiff, Nat.reduceAdd, if_false, reduceIte, and_self, g1, exUn_not]
    intro t4 h12
    cases is with
    | false =>
      refine WK.cond (v := true) (by rw [evalO_tmp, h12]; rfl) ?_
      refine WK.seq (WK.reg_rr (fun t' => t'.get 4 = vN 1) ?_ ?_)
      · simp (config := { maxSteps := 1000000 }) only [ask_r5, WOR, WOG, wants_none', wants_some, wantsV_U, wantsV_tt, wantsV_tf, wantsV_ft, wantsV_ff, run, evalO_tmp, evalO_const, evalO_func, evalL, callV_func, Rv_eq, Ro_some, ok_zero, true_and, get_putT (d := 4), exLen_str, binV_geq, binV_leq, binV_lss, binV_gtr, exEq_int, exEq_str, exPick_t, exPick_f, Bool.not_true, Bool.not_false, Bc_t, Bc_f, Nat.reducePow, Nat.reduceLT, Nat.reduceEqDiff, Nat.reduceAdd, if_false, reduceIte, and_self]
      intro t5 h4
      refine WK.ret ⟨.inr rfl, rfl, [vN 1], 0, ?_, .zero _ _, by unfold askV; rw [hc]; rfl, hk⟩
      show resL Tb0 13 t5 _ [.tmp 4] = _
      simp only [resL, h4]; rfl
    | true =>
      refine WK.cond (v := false) (by rw [evalO_tmp, h12]; rfl) (WK.skip ?_)
      refine WK.seq (WK.reg_rr (fun t' => t'.get 4 = vN 0) ?_ ?_)
      · simp (config := { maxSteps := 1000000 }) only [ask_r6, WOR, WOG, wants_none', wants_some, wantsV_U, wantsV_tt, wantsV_tf, wantsV_ft, wantsV_ff, run, evalO_tmp, evalO_const, evalO_func, evalL, callV_func, Rv_eq, Ro_some, ok_zero, true_and, get_putT (d := 4), exLen_str, binV_geq, binV_leq, binV_lss, binV_gtr, exEq_int, exEq_str, exPick_t, exPick_f, Bool.not_true, Bool.not_false, Bc_t, Bc_f, Nat.reducePow, Nat.reduceLT, Nat.reduceEqDiff, Nat.reduceAdd, if_false, reduceIte, and_self]
      intro t5 h4
      refine WK.ret ⟨.inr rfl, rfl, [vN 0], 0, ?_, .zero _ _, by unfold askV; rw [hc]; rfl, hk⟩
      show resL Tb0 13 t5 _ [.tmp 4] = _
      simp only [resL, h4]; rfl
end
end Go.Proofs.RS
end
