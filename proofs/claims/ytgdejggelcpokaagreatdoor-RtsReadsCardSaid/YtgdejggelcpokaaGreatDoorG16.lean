/-
  A part of the proof that pliantlaw15.RtsReads returns true and leaves its arguments alone. Conditions: those of the card in the last text.
-/
import Derived.KernelRfl
import Derived.Test.YtgdejggelcpokaaGreatDoorG10
import Derived.Test.YtgdejggelcpokaaGreatDoorG12
import Derived.Test.YtgdejggelcpokaaGreatDoorG15
set_option linter.unusedSimpArgs false
set_option linter.unusedVariables false
set_option linter.unusedSectionVars false

noncomputable section
namespace Go.Proofs.RS
open Go Go.Ev Go.Proofs
noncomputable def wri_body : Code := (Tryz.f61.body).getD .skip
def wri_r0 : List CO := [
    ⟨(some 3), none, .box 77 (.tmp 1)⟩,
    ⟨(some 4), none, .mv (.const (.slice none 0 0))⟩,
    ⟨(some 5), none, .mv (.const (.int .i64 (0)))⟩]
def wri_r1 : List CO := [
    ⟨(some 9), none, .mv (.tmp 0)⟩,
    ⟨(some 10), none, .ldN 2 (.tmp 3)⟩,
    ⟨(some 11), none, .call (.func 116) [(.tmp 10)]⟩,
    ⟨(some 12), none, .call (.func 115) [(.tmp 9), (.tmp 11)]⟩,
    ⟨(some 6), none, .mv (.tmp 12)⟩]
def wri_r2 : List CO := [
    ⟨(some 13), none, .mv (.tmp 6)⟩,
    ⟨(some 14), none, .eq true (.one .i) (.tmp 13) (.const (.int .i64 (0)))⟩]
def wri_r3 : List CO := [
    ⟨(some 15), none, .mv (.tmp 6)⟩,
    ⟨(some 4), none, .mv (.const (.slice none 0 0))⟩,
    ⟨(some 5), none, .mv (.tmp 15)⟩]
def wri_r4 : List CO := [
    ⟨(some 17), none, .mv (.tmp 0)⟩,
    ⟨(some 18), none, .fa 0 (.tmp 3)⟩,
    ⟨(some 19), none, .ld1 (.tmp 18)⟩,
    ⟨(some 20), none, .call (.func 117) [(.tmp 17), (.tmp 19)]⟩,
    ⟨(some 16), none, .mv (.tmp 20)⟩,
    ⟨(some 21), none, .ext (.tmp 16) 0⟩,
    ⟨(some 22), none, .ext (.tmp 16) 1⟩,
    ⟨(some 7), none, .mv (.tmp 21)⟩,
    ⟨(some 8), none, .mv (.tmp 22)⟩]
def wri_r5 : List CO := [
    ⟨(some 24), none, .mv (.tmp 8)⟩,
    ⟨(some 23), none, .mv (.tmp 24)⟩]
def wri_r6 : List CO := [
    ⟨(some 4), none, .mv (.const (.slice none 0 0))⟩,
    ⟨(some 5), none, .mv (.const (.int .i64 (141)))⟩]
def wri_r7 : List CO := [
    ⟨(some 26), none, .mv (.tmp 0)⟩,
    ⟨(some 27), none, .len 1 (.tmp 26)⟩,
    ⟨(some 28), none, .eq false (.one .i) (.tmp 27) (.const (.int .i64 (64)))⟩,
    ⟨(some 25), none, .mv (.tmp 28)⟩]
def wri_r8 : List CO := [
    ⟨(some 4), none, .mv (.const (.slice none 0 0))⟩,
    ⟨(some 5), none, .mv (.const (.int .i64 (2)))⟩]
def wri_r9 : List CO := [
    ⟨(some 29), none, .mv (.tmp 0)⟩,
    ⟨(some 30), none, .call (.func 44) [(.tmp 29)]⟩,
    ⟨(some 31), none, .mv (.tmp 7)⟩,
    ⟨(some 32), none, .ldN 2 (.tmp 3)⟩,
    ⟨(some 33), none, .bslice 1 77 [.string ⟨#[]⟩, .string ⟨#[]⟩] [(0, 2, (.tmp 32))]⟩,
    ⟨(some 34), none, .call (.func 118) [(.tmp 30), (.tmp 31), (.tmp 33)]⟩,
    ⟨(some 4), none, .mv (.tmp 34)⟩,
    ⟨(some 5), none, .mv (.const (.int .i64 (0)))⟩]
noncomputable def wri_k : KC :=
  (.seq (.reg wri_r0)
  (.seq (.seq (.reg wri_r1)
  (.seq (.reg wri_r2)
  (.cond (.tmp 14) (.seq (.reg wri_r3)
   .ret)
   .skip)))
  (.seq (.reg wri_r4)
  (.seq (.block 0 (.seq (.reg wri_r5)
   (.cond (.tmp 23) (.seq (.reg wri_r6)
    .ret)
    (.seq (.reg wri_r7)
    (.cond (.tmp 25) (.seq (.reg wri_r8)
     .ret)
     .skip)))))
  (.seq (.draw #[0, 1, 0, 0, 8, 31, 63, 127] wri_r9)
  .ret)))))
theorem wri_comp : kcomp Tb0 Tryz.f61.ntmps wri_body = wri_k := by kernel_rfl
theorem wri_some : Tryz.f61.body = some wri_body := rfl
noncomputable def rew_body : Code := (Tryz.f62.body).getD .skip
def rew_r0 : List CO := [
    ⟨(some 3), none, .box 77 (.tmp 1)⟩,
    ⟨(some 4), none, .mv (.const (.slice none 0 0))⟩,
    ⟨(some 5), none, .mv (.const (.int .i64 (0)))⟩]
def rew_r1 : List CO := [
    ⟨(some 10), none, .mv (.tmp 0)⟩,
    ⟨(some 11), none, .ldN 2 (.tmp 3)⟩,
    ⟨(some 12), none, .call (.func 116) [(.tmp 11)]⟩,
    ⟨(some 13), none, .call (.func 115) [(.tmp 10), (.tmp 12)]⟩,
    ⟨(some 6), none, .mv (.tmp 13)⟩]
def rew_r2 : List CO := [
    ⟨(some 14), none, .mv (.tmp 6)⟩,
    ⟨(some 15), none, .eq true (.one .i) (.tmp 14) (.const (.int .i64 (0)))⟩]
def rew_r3 : List CO := [
    ⟨(some 16), none, .mv (.tmp 6)⟩,
    ⟨(some 4), none, .mv (.const (.slice none 0 0))⟩,
    ⟨(some 5), none, .mv (.tmp 16)⟩]
def rew_r4 : List CO := [
    ⟨(some 18), none, .mv (.tmp 0)⟩,
    ⟨(some 19), none, .fa 0 (.tmp 3)⟩,
    ⟨(some 20), none, .ld1 (.tmp 19)⟩,
    ⟨(some 21), none, .call (.func 117) [(.tmp 18), (.tmp 20)]⟩,
    ⟨(some 17), none, .mv (.tmp 21)⟩,
    ⟨(some 22), none, .ext (.tmp 17) 0⟩,
    ⟨(some 23), none, .ext (.tmp 17) 1⟩,
    ⟨(some 7), none, .mv (.tmp 22)⟩,
    ⟨(some 8), none, .mv (.tmp 23)⟩]
def rew_r5 : List CO := [
    ⟨(some 24), none, .mv (.tmp 8)⟩,
    ⟨(some 25), none, .un .not (.tmp 24)⟩]
def rew_r6 : List CO := [
    ⟨(some 4), none, .mv (.const (.slice none 0 0))⟩,
    ⟨(some 5), none, .mv (.const (.int .i64 (4)))⟩]
def rew_r7 : List CO := [
    ⟨(some 26), none, .mv (.tmp 0)⟩,
    ⟨(some 27), none, .call (.func 44) [(.tmp 26)]⟩,
    ⟨(some 9), none, .mv (.tmp 27)⟩]
def rew_r8 : List CO := [
    ⟨(some 28), none, .mv (.tmp 9)⟩,
    ⟨(some 29), none, .mv (.tmp 7)⟩,
    ⟨(some 30), none, .ldN 2 (.tmp 3)⟩,
    ⟨(some 31), none, .iaS 2 (.tmp 28) (.tmp 29)⟩,
    ⟨none, none, .st 2 (.tmp 31) (.tmp 30)⟩]
def rew_r9 : List CO := [
    ⟨(some 32), none, .mv (.tmp 9)⟩,
    ⟨(some 4), none, .mv (.tmp 32)⟩,
    ⟨(some 5), none, .mv (.const (.int .i64 (0)))⟩]
noncomputable def rew_k : KC :=
  (.seq (.reg rew_r0)
  (.seq (.seq (.reg rew_r1)
  (.seq (.reg rew_r2)
  (.cond (.tmp 15) (.seq (.reg rew_r3)
   .ret)
   .skip)))
  (.seq (.reg rew_r4)
  (.seq (.seq (.reg rew_r5)
  (.cond (.tmp 25) (.seq (.reg rew_r6)
   .ret)
   .skip))
  (.seq (.reg rew_r7)
  (.seq (.reg rew_r8)
  (.seq (.reg rew_r9)
  .ret)))))))
theorem rew_comp : kcomp Tb0 Tryz.f62.ntmps rew_body = rew_k := by kernel_rfl
theorem rew_some : Tryz.f62.body = some rew_body := rfl
noncomputable def del_body : Code := (Tryz.f64.body).getD .skip
def del_r0 : List CO := [
    ⟨(some 4), none, .mv (.const (.slice none 0 0))⟩,
    ⟨(some 5), none, .mv (.const (.int .i64 (0)))⟩]
def del_r1 : List CO := [
    ⟨(some 9), none, .mv (.tmp 0)⟩,
    ⟨(some 10), none, .mv (.tmp 1)⟩,
    ⟨(some 11), none, .call (.func 119) [(.tmp 10)]⟩,
    ⟨(some 12), none, .call (.func 115) [(.tmp 9), (.tmp 11)]⟩,
    ⟨(some 6), none, .mv (.tmp 12)⟩]
def del_r2 : List CO := [
    ⟨(some 13), none, .mv (.tmp 6)⟩,
    ⟨(some 14), none, .eq true (.one .i) (.tmp 13) (.const (.int .i64 (0)))⟩]
def del_r3 : List CO := [
    ⟨(some 15), none, .mv (.tmp 6)⟩,
    ⟨(some 4), none, .mv (.const (.slice none 0 0))⟩,
    ⟨(some 5), none, .mv (.tmp 15)⟩]
def del_r4 : List CO := [
    ⟨(some 17), none, .mv (.tmp 0)⟩,
    ⟨(some 18), none, .mv (.tmp 1)⟩,
    ⟨(some 19), none, .call (.func 117) [(.tmp 17), (.tmp 18)]⟩,
    ⟨(some 16), none, .mv (.tmp 19)⟩,
    ⟨(some 20), none, .ext (.tmp 16) 0⟩,
    ⟨(some 21), none, .ext (.tmp 16) 1⟩,
    ⟨(some 7), none, .mv (.tmp 20)⟩,
    ⟨(some 8), none, .mv (.tmp 21)⟩]
def del_r5 : List CO := [
    ⟨(some 22), none, .mv (.tmp 8)⟩,
    ⟨(some 23), none, .un .not (.tmp 22)⟩]
def del_r6 : List CO := [
    ⟨(some 4), none, .mv (.const (.slice none 0 0))⟩,
    ⟨(some 5), none, .mv (.const (.int .i64 (4)))⟩]
def del_r7 : List CO := [
    ⟨(some 24), none, .mv (.tmp 0)⟩,
    ⟨(some 25), none, .call (.func 44) [(.tmp 24)]⟩,
    ⟨(some 26), none, .mv (.tmp 7)⟩,
    ⟨(some 27), none, .mv (.tmp 7)⟩,
    ⟨(some 28), none, .bin .add (.tmp 27) (.const (.int .i64 (1)))⟩,
    ⟨(some 29), none, .call (.func 120) [(.tmp 25), (.tmp 26), (.tmp 28)]⟩,
    ⟨(some 4), none, .mv (.tmp 29)⟩,
    ⟨(some 5), none, .mv (.const (.int .i64 (0)))⟩]
noncomputable def del_k : KC :=
  (.seq (.reg del_r0)
  (.seq (.seq (.reg del_r1)
  (.seq (.reg del_r2)
  (.cond (.tmp 14) (.seq (.reg del_r3)
   .ret)
   .skip)))
  (.seq (.reg del_r4)
  (.seq (.seq (.reg del_r5)
  (.cond (.tmp 23) (.seq (.reg del_r6)
   .ret)
   .skip))
  (.seq (.reg del_r7)
  .ret)))))
theorem del_comp : kcomp Tb0 Tryz.f64.ntmps del_body = del_k := by kernel_rfl
theorem del_some : Tryz.f64.body = some del_body := rfl
noncomputable def nex_body : Code := (Tryz.f66.body).getD .skip
def nex_r0 : List CO := [
    ⟨(some 4), none, .alloc (blkL [.string ⟨#[]⟩, .string ⟨#[]⟩] 77 0)⟩,
    ⟨(some 5), none, .mv (.const (.int .i64 (0)))⟩]
def nex_r1 : List CO := [
    ⟨(some 9), none, .mv (.tmp 0)⟩,
    ⟨(some 10), none, .mv (.tmp 1)⟩,
    ⟨(some 11), none, .len 0 (.tmp 10)⟩,
    ⟨(some 12), none, .bin .leq (.tmp 11) (.const (.int .i64 (16)))⟩,
    ⟨(some 13), none, .call (.func 115) [(.tmp 9), (.tmp 12)]⟩,
    ⟨(some 6), none, .mv (.tmp 13)⟩]
def nex_r2 : List CO := [
    ⟨(some 14), none, .mv (.tmp 6)⟩,
    ⟨(some 15), none, .eq true (.one .i) (.tmp 14) (.const (.int .i64 (0)))⟩]
def nex_r3 : List CO := [
    ⟨(some 16), none, .build [.string ⟨#[]⟩, .string ⟨#[]⟩] []⟩,
    ⟨(some 17), none, .mv (.tmp 6)⟩,
    ⟨none, none, .st 2 (.tmp 4) (.tmp 16)⟩,
    ⟨(some 5), none, .mv (.tmp 17)⟩]
def nex_r4 : List CO := [
    ⟨(some 19), none, .mv (.tmp 0)⟩,
    ⟨(some 20), none, .mv (.tmp 1)⟩,
    ⟨(some 21), none, .call (.func 117) [(.tmp 19), (.tmp 20)]⟩,
    ⟨(some 18), none, .mv (.tmp 21)⟩,
    ⟨(some 22), none, .ext (.tmp 18) 0⟩,
    ⟨(some 23), none, .ext (.tmp 18) 1⟩,
    ⟨(some 7), none, .mv (.tmp 22)⟩,
    ⟨(some 8), none, .mv (.tmp 23)⟩]
def nex_r5 : List CO := [
    ⟨(some 24), none, .mv (.tmp 8)⟩]
def nex_r6 : List CO := [
    ⟨(some 25), none, .mv (.tmp 7)⟩,
    ⟨(some 26), none, .bin .add (.tmp 25) (.const (.int .i64 (1)))⟩,
    ⟨(some 7), none, .mv (.tmp 26)⟩]
def nex_r7 : List CO := [
    ⟨(some 27), none, .mv (.tmp 7)⟩,
    ⟨(some 28), none, .mv (.tmp 0)⟩,
    ⟨(some 29), none, .len 1 (.tmp 28)⟩,
    ⟨(some 30), none, .eq false (.one .i) (.tmp 27) (.tmp 29)⟩]
def nex_r8 : List CO := [
    ⟨(some 31), none, .build [.string ⟨#[]⟩, .string ⟨#[]⟩] []⟩,
    ⟨none, none, .st 2 (.tmp 4) (.tmp 31)⟩,
    ⟨(some 5), none, .mv (.const (.int .i64 (4)))⟩]
def nex_r9 : List CO := [
    ⟨(some 32), none, .mv (.tmp 0)⟩,
    ⟨(some 33), none, .mv (.tmp 7)⟩,
    ⟨(some 34), none, .iaS 2 (.tmp 32) (.tmp 33)⟩,
    ⟨(some 35), none, .ldN 2 (.tmp 34)⟩,
    ⟨none, none, .st 2 (.tmp 4) (.tmp 35)⟩,
    ⟨(some 5), none, .mv (.const (.int .i64 (0)))⟩]
noncomputable def nex_k : KC :=
  (.seq (.reg nex_r0)
  (.seq (.seq (.reg nex_r1)
  (.seq (.reg nex_r2)
  (.cond (.tmp 15) (.seq (.reg nex_r3)
   .ret)
   .skip)))
  (.seq (.reg nex_r4)
  (.seq (.seq (.reg nex_r5)
  (.cond (.tmp 24) (.reg nex_r6)
   .skip))
  (.seq (.seq (.reg nex_r7)
  (.cond (.tmp 30) (.seq (.reg nex_r8)
   .ret)
   .skip))
  (.seq (.reg nex_r9)
  .ret))))))
theorem nex_comp : kcomp Tb0 Tryz.f66.ntmps nex_body = nex_k := by kernel_rfl
theorem nex_some : Tryz.f66.body = some nex_body := rfl
end Go.Proofs.RS
end

noncomputable section
namespace Go.Proofs.RS
open Go Go.Ev Go.Proofs Go.Ds
section
variable {sp : Nat → List Value → Hp → Option (Value × Hp × Nat × Nat)} {e : Env}
theorem Anew.kept {N : Nat} {H0 H H' : Hp} {v : Value} {l : DS} (h : Anew N H H' v l) (hk : Kept H0 H) (hN : H0.nx ≤ N) : Kept H0 H' := ⟨h.fn, Nat.le_trans hk.nx h.nx, fun b hb => (h.old b (by omega)).trans (hk.old b hb)⟩
theorem Anew.dsR {e : Env} {N : Nat} {H H' : Hp} {v : Value} {l : DS} (h : Anew N H H' v l) (he : e.n0 ≤ N) : DsR e H' v l := let ⟨_, _, _, h⟩ := h.ds; h.dsR he
theorem pos_lt {d : DS} {k : Str} (h : isAt d k = true) : pos d k < d.length := by
  unfold isAt at h
  split at h
  · rename_i r hr
    rcases Nat.lt_or_ge (pos d k) d.length with h' | h'
    · exact h'
    · rw [List.getElem?_eq_none h'] at hr; cases hr
  · cases h
def writeI (d : DS) (r : Entry) : Option DS := if isAt d r.1 then none else if d.length = 64 then none else some (d.take (pos d r.1) ++ r :: d.drop (pos d r.1))
def rewriteI (d : DS) (r : Entry) : Option DS := if isAt d r.1 then some (d.set (pos d r.1) r) else none
def deleteI (d : DS) (k : Str) : Option DS := if isAt d k then some (d.eraseIdx (pos d k)) else none
theorem len64 {d : DS} (h : checkB d = true) : d.length ≤ 64 := by
  unfold checkB at h
  rw [Bool.and_eq_true] at h
  exact of_decide_eq_true h.1
set_option maxRecDepth 10000 in
set_option maxHeartbeats 4000000 in
theorem wri_ok (S : SpK sp) {H : Hp} {sv : Value} {d : DS} {r : Entry} (hf : H.isFn = true) (he : e.n0 ≤ H.nx) (hsl : DsR e H sv d) (hc : checkB d = true) (hrec : recB r = true) : EC Tb0 sp e 61 [sv, recV r] H fun v H' => ∃ v' z, v = .tuple #[v', vN z] ∧ Kept H H' ∧ ResR (if isAt d r.1 then 141 else 2) H.nx H' v' z (writeI d r) := by
  refine EC.intro (fn := Tryz.f61) (c := wri_body) (S.no 61 (by decide) _ _) (by rfl) wri_some wri_comp (by show 2 ≤ 35; decide) ?_
  have g0 : (enterT Tryz.f61 [sv, recV r]).get 0 = sv := by rw [enterT_get (by show 2 ≤ 35; decide) (by show 0 < 35; decide)]; rfl
  have g1 : (enterT Tryz.f61 [sv, recV r]).get 1 = recV r := by rw [enterT_get (by show 2 ≤ 35; decide) (by show 1 < 35; decide)]; rfl
  revert g0 g1
  generalize enterT Tryz.f61 [sv, recV r] = t0
  intro g0 g1
  show WK Tb0 sp e ⟨6, 35, none, false⟩ wri_k t0 [] H _
  unfold wri_k
  have h64 := len64 hc
  have hlen : d.length < 4611686018427387904 := by omega
  obtain ⟨H1, hB⟩ := boxed e hf 77 [vS r.1, vS r.2]
  have hbox := hB.box
  have q4 : H.nx ≤ H1.nx := hB.kept.nx
  have hf1 := hB.kept.fn
  have he1 : e.n0 ≤ H1.nx := by omega
  have hsl1 : DsR e H1 sv d := hsl.later hB.kept.old
  have q6 : exLdN 2 (.pointer (some ⟨H.nx, 0, none⟩)) H1 = .val (recV r) H1 (bit H.nx) 0 := exLdN_row (k := 2) (o := 0) hB.row (Nat.le_refl _)
  have q5 : e.ok (bit H.nx) 0 H1 := .fresh hB.row.lt he
  refine WK.seq (WK.reg_gg (fun t' H' => t'.get 0 = sv ∧ t'.get 3 = .pointer (some ⟨H.nx, 0, none⟩) ∧ H' = H1) ?_ ?_)
  · simp (config := { maxSteps := 1000000 }) only [wri_r0, WOR, WOG, WOC, WOGk, WOCk, wants_none', wants_some, wantsV_U, wantsV_tt, wantsV_tf, wantsV_ft, wantsV_ff, run, evalO_tmp, evalO_const, evalO_func, evalL, callV_func, Rv_eq, Ro_some, ok_zero, true_and, and_true, get_putT (d := 6), exLen_str, binV_geq, binV_leq, binV_lss, binV_gtr, exEq_int, exEq_str, exPick_t, exPick_f, Bool.not_true, Bool.not_false, Bc_t, Bc_f, Nat.reducePow, Nat.reduceLT, Nat.reduceEqDiff, Nat.reduceAdd, if_false, reduceIte, and_self, exFa_ptr, putT_none, Nat.zero_add, Nat.add_zero, Nat.le_refl, exUn_not, g0, g1, hbox, q4]
  rintro t1 H1' ⟨g0, g3, rfl⟩
  refine WK.seq (WK.seq (WK.reg_gg (fun t' H' => t'.get 0 = sv ∧ t'.get 3 = .pointer (some ⟨H.nx, 0, none⟩) ∧ t'.get 6 = vN 0 ∧ Kept H1' H') ?_ ?_))
  · simp (config := { maxSteps := 1000000 }) only [wri_r1, WOR, WOG, WOC, WOGk, WOCk, wants_none', wants_some, wantsV_U, wantsV_tt, wantsV_tf, wantsV_ft, wantsV_ff, run, evalO_tmp, evalO_const, evalO_func, evalL, callV_func, Rv_eq, Ro_some, ok_zero, true_and, and_true, get_putT (d := 6), exLen_str, binV_geq, binV_leq, binV_lss, binV_gtr, exEq_int, exEq_str, exPick_t, exPick_f, Bool.not_true, Bool.not_false, Bc_t, Bc_f, Nat.reducePow, Nat.reduceLT, Nat.reduceEqDiff, Nat.reduceAdd, if_false, reduceIte, and_self, exFa_ptr, putT_none, Nat.zero_add, Nat.add_zero, Nat.le_refl, exUn_not, g0, g3, q6, q5]
    refine (isr_ok (S.no 116 (by decide)) (S.no 119 (by decide)) (S.no 157 (by decide)) hf1 he1 r).mono fun v H2 _ hv => ?_
    obtain ⟨rfl, hk2⟩ := hv
    rw [hrec]
    simp (config := { maxSteps := 1000000 }) only [g0, WOR, WOG, WOC, WOGk, WOCk, wants_none', wants_some, wantsV_U, wantsV_tt, wantsV_tf, wantsV_ft, wantsV_ff, run, evalO_tmp, evalO_const, evalO_func, evalL, callV_func, Rv_eq, Ro_some, ok_zero, true_and, and_true, get_putT (d := 6), exLen_str, binV_geq, binV_leq, binV_lss, binV_gtr, exEq_int, exEq_str, exPick_t, exPick_f, Bool.not_true, Bool.not_false, Bc_t, Bc_f, Nat.reducePow, Nat.reduceLT, Nat.reduceEqDiff, Nat.reduceAdd, if_false, reduceIte, and_self, exFa_ptr, putT_none, Nat.zero_add, Nat.add_zero, Nat.le_refl, exUn_not, g3]
    refine (ask_ok (is := true) (S.no 115 (by decide)) (S.no 83 (by decide)) (S.no 116 (by decide)) (S.no 119 (by decide)) (S.no 157 (by decide)) hk2.fn (by have := hk2.nx; omega) (hsl1.later hk2.old) hlen).mono fun v H3 _ hv => ?_
    obtain ⟨rfl, hk3⟩ := hv
    have ha : askV d true = 0 := by unfold askV; rw [hc]; rfl
    rw [ha]
    simp (config := { maxSteps := 1000000 }) only [g0, WOR, WOG, WOC, WOGk, WOCk, wants_none', wants_some, wantsV_U, wantsV_tt, wantsV_tf, wantsV_ft, wantsV_ff, run, evalO_tmp, evalO_const, evalO_func, evalL, callV_func, Rv_eq, Ro_some, ok_zero, true_and, and_true, get_putT (d := 6), exLen_str, binV_geq, binV_leq, binV_lss, binV_gtr, exEq_int, exEq_str, exPick_t, exPick_f, Bool.not_true, Bool.not_false, Bc_t, Bc_f, Nat.reducePow, Nat.reduceLT, Nat.reduceEqDiff, Nat.reduceAdd, if_false, reduceIte, and_self, exFa_ptr, putT_none, Nat.zero_add, Nat.add_zero, Nat.le_refl, exUn_not, g3]
    exact hk2.trans hk3
  rintro t2 H2 ⟨g0, g3, g6, hk2⟩
  refine WK.seq (WK.reg_rr (fun t' => t'.get 0 = sv ∧ t'.get 3 = .pointer (some ⟨H.nx, 0, none⟩) ∧ t'.get 14 = .bool false) ?_ ?_)
  · simp (config := { maxSteps := 1000000 }) only [wri_r2, WOR, WOG, WOC, WOGk, WOCk, wants_none', wants_some, wantsV_U, wantsV_tt, wantsV_tf, wantsV_ft, wantsV_ff, run, evalO_tmp, evalO_const, evalO_func, evalL, callV_func, Rv_eq, Ro_some, ok_zero, true_and, and_true, get_putT (d := 6), exLen_str, binV_geq, binV_leq, binV_lss, binV_gtr, exEq_int, exEq_str, exPick_t, exPick_f, Bool.not_true, Bool.not_false, Bc_t, Bc_f, Nat.reducePow, Nat.reduceLT, Nat.reduceEqDiff, Nat.reduceAdd, if_false, reduceIte, and_self, exFa_ptr, putT_none, Nat.zero_add, Nat.add_zero, Nat.le_refl, exUn_not, g0, g3, g6]
    all_goals first | rfl | trivial
  rintro t3 ⟨g0, g3, g14⟩
  refine WK.cond (v := false) (by rw [evalO_tmp, g14]; rfl) (WK.skip ?_)
  show WK Tb0 sp e ⟨6, 35, none, false⟩ _ t3 [] H2 _
  have r2 := hB.row.of_blk (hk2.old _ hB.row.lt)
  have p1 : exLd1 (.pointer (some ⟨H.nx, 0, none⟩)) H2 = .val (vS r.1) H2 (bit H.nx) 0 := exLd1_row r2 rfl
  have p2 : e.ok (bit H.nx) 0 H2 := .fresh r2.lt he
  have hk02 := hB.kept.trans hk2
  refine WK.seq (WK.reg_gg (fun t' H' => t'.get 0 = sv ∧ t'.get 3 = .pointer (some ⟨H.nx, 0, none⟩) ∧ t'.get 7 = vN (pos d r.1) ∧ t'.get 8 = .bool (isAt d r.1) ∧ Kept H2 H') ?_ ?_)
  · simp (config := { maxSteps := 1000000 }) only [wri_r4, WOR, WOG, WOC, WOGk, WOCk, wants_none', wants_some, wantsV_U, wantsV_tt, wantsV_tf, wantsV_ft, wantsV_ff, run, evalO_tmp, evalO_const, evalO_func, evalL, callV_func, Rv_eq, Ro_some, ok_zero, true_and, and_true, get_putT (d := 6), exLen_str, binV_geq, binV_leq, binV_lss, binV_gtr, exEq_int, exEq_str, exPick_t, exPick_f, Bool.not_true, Bool.not_false, Bc_t, Bc_f, Nat.reducePow, Nat.reduceLT, Nat.reduceEqDiff, Nat.reduceAdd, if_false, reduceIte, and_self, exFa_ptr, putT_none, Nat.zero_add, Nat.add_zero, Nat.le_refl, exUn_not, g0, g3, p1, p2]
    refine (at_ok (k := r.1) (S.no 117 (by decide)) (S.no 158 (by decide)) (S.no 159 (by decide)) hk2.fn (by have := hk02.nx; omega) (hsl.later hk02.old) hlen).mono fun v H3 _ hv => ?_
    obtain ⟨rfl, hk3⟩ := hv
    have hx0 := fun H => exExt_tup [vN (pos d r.1), .bool (isAt d r.1)] 0 _ rfl H
    have hx1 := fun H => exExt_tup [vN (pos d r.1), .bool (isAt d r.1)] 1 _ rfl H
    simp (config := { maxSteps := 1000000 }) only [hx0, WOR, WOG, WOC, WOGk, WOCk, wants_none', wants_some, wantsV_U, wantsV_tt, wantsV_tf, wantsV_ft, wantsV_ff, run, evalO_tmp, evalO_const, evalO_func, evalL, callV_func, Rv_eq, Ro_some, ok_zero, true_and, and_true, get_putT (d := 6), exLen_str, binV_geq, binV_leq, binV_lss, binV_gtr, exEq_int, exEq_str, exPick_t, exPick_f, Bool.not_true, Bool.not_false, Bc_t, Bc_f, Nat.reducePow, Nat.reduceLT, Nat.reduceEqDiff, Nat.reduceAdd, if_false, reduceIte, and_self, exFa_ptr, putT_none, Nat.zero_add, Nat.add_zero, Nat.le_refl, exUn_not, hx1, g0, g3]
    exact hk3
  rintro t4 H3 ⟨g0, g3, g7, g8, hk3⟩
  have hk03 := hk02.trans hk3
  have hf3 := hk03.fn
  have hsl3 : DsR e H3 sv d := hsl.later hk03.old
  have he3 : e.n0 ≤ H3.nx := by have := hk03.nx; omega
  have r3 := r2.of_blk (hk3.old _ r2.lt)
  have p3 : exLdN 2 (.pointer (some ⟨H.nx, 0, none⟩)) H3 = .val (recV r) H3 (bit H.nx) 0 := exLdN_row (k := 2) (o := 0) r3 (Nat.le_refl _)
  have p4 : e.ok (bit H.nx) 0 H3 := .fresh r3.lt he
  have hkd : Kept H H3 := hk03
  refine WK.seq (WK.mono (K := fun x t5 ds5 H5 => ds5 = [] ∧ H5 = H3 ∧ ((x = .ret ∧ writeI d r = none ∧ ∃ z : Int, z = (if isAt d r.1 then 141 else 2) ∧ t5.get 4 = .slice none 0 0 ∧ t5.get 5 = vN z) ∨ (x = .normal ∧ isAt d r.1 = false ∧ d.length ≠ 64 ∧ t5.get 0 = sv ∧ t5.get 3 = .pointer (some ⟨H.nx, 0, none⟩) ∧ t5.get 7 = vN (pos d r.1)))) ?_ ?_)
  · refine WK.block (WK.seq (WK.reg_rr (fun t' => t'.get 0 = sv ∧ t'.get 3 = .pointer (some ⟨H.nx, 0, none⟩) ∧ t'.get 7 = vN (pos d r.1) ∧ t'.get 23 = .bool (isAt d r.1)) ?_ ?_))
    · simp (config := { maxSteps := 1000000 }) only [wri_r5, WOR, WOG, WOC, WOGk, WOCk, wants_none', wants_some, wantsV_U, wantsV_tt, wantsV_tf, wantsV_ft, wantsV_ff, run, evalO_tmp, evalO_const, evalO_func, evalL, callV_func, Rv_eq, Ro_some, ok_zero, true_and, and_true, get_putT (d := 6), exLen_str, binV_geq, binV_leq, binV_lss, binV_gtr, exEq_int, exEq_str, exPick_t, exPick_f, Bool.not_true, Bool.not_false, Bc_t, Bc_f, Nat.reducePow, Nat.reduceLT, Nat.reduceEqDiff, Nat.reduceAdd, if_false, reduceIte, and_self, exFa_ptr, putT_none, Nat.zero_add, Nat.add_zero, Nat.le_refl, exUn_not, g0, g3, g7, g8]
    rintro t5 ⟨g0, g3, g7, g23⟩
    cases hat : isAt d r.1 with
    | true =>
      rw [hat] at g23
      refine WK.cond (v := true) (by rw [evalO_tmp, g23]; rfl) (WK.seq (WK.reg_rr (fun t' => t'.get 4 = .slice none 0 0 ∧ t'.get 5 = vN 141) ?_ ?_))
      · simp (config := { maxSteps := 1000000 }) only [wri_r6, WOR, WOG, WOC, WOGk, WOCk, wants_none', wants_some, wantsV_U, wantsV_tt, wantsV_tf, wantsV_ft, wantsV_ff, run, evalO_tmp, evalO_const, evalO_func, evalL, callV_func, Rv_eq, Ro_some, ok_zero, true_and, and_true, get_putT (d := 6), exLen_str, binV_geq, binV_leq, binV_lss, binV_gtr, exEq_int, exEq_str, exPick_t, exPick_f, Bool.not_true, Bool.not_false, Bc_t, Bc_f, Nat.reducePow, Nat.reduceLT, Nat.reduceEqDiff, Nat.reduceAdd, if_false, reduceIte, and_self, exFa_ptr, putT_none, Nat.zero_add, Nat.add_zero, Nat.le_refl, exUn_not]
        all_goals first | rfl | trivial
      rintro t6 ⟨h4, h5⟩
      exact WK.ret ⟨rfl, rfl, .inl ⟨rfl, by unfold writeI; rw [hat]; rfl, 141, by first | rfl | (rw [hat]; rfl), h4, h5⟩⟩
    | false =>
      rw [hat] at g23
      refine WK.cond (v := false) (by rw [evalO_tmp, g23]; rfl) (WK.seq (WK.reg_rr (fun t' => t'.get 0 = sv ∧ t'.get 3 = .pointer (some ⟨H.nx, 0, none⟩) ∧ t'.get 7 = vN (pos d r.1) ∧ t'.get 25 = .bool (decide (d.length = 64))) ?_ ?_))
      · have z : decide ((d.length : Int) = 64) = decide (d.length = 64) := decide_eq_decide.2 (by omega)
        have k0 := hsl3.len
        simp (config := { maxSteps := 1000000 }) only [wri_r7, WOR, WOG, WOC, WOGk, WOCk, wants_none', wants_some, wantsV_U, wantsV_tt, wantsV_tf, wantsV_ft, wantsV_ff, run, evalO_tmp, evalO_const, evalO_func, evalL, callV_func, Rv_eq, Ro_some, ok_zero, true_and, and_true, get_putT (d := 6), exLen_str, binV_geq, binV_leq, binV_lss, binV_gtr, exEq_int, exEq_str, exPick_t, exPick_f, Bool.not_true, Bool.not_false, Bc_t, Bc_f, Nat.reducePow, Nat.reduceLT, Nat.reduceEqDiff, Nat.reduceAdd, if_false, reduceIte, and_self, exFa_ptr, putT_none, Nat.zero_add, Nat.add_zero, Nat.le_refl, exUn_not, g0, g3, g7, k0, z]
      rintro t6 ⟨g0, g3, g7, g25⟩
      by_cases hl : d.length = 64
      · refine WK.cond (v := true) (by rw [evalO_tmp, g25, decide_eq_true hl]; rfl) (WK.seq (WK.reg_rr (fun t' => t'.get 4 = .slice none 0 0 ∧ t'.get 5 = vN 2) ?_ ?_))
        · simp (config := { maxSteps := 1000000 }) only [wri_r8, WOR, WOG, WOC, WOGk, WOCk, wants_none', wants_some, wantsV_U, wantsV_tt, wantsV_tf, wantsV_ft, wantsV_ff, run, evalO_tmp, evalO_const, evalO_func, evalL, callV_func, Rv_eq, Ro_some, ok_zero, true_and, and_true, get_putT (d := 6), exLen_str, binV_geq, binV_leq, binV_lss, binV_gtr, exEq_int, exEq_str, exPick_t, exPick_f, Bool.not_true, Bool.not_false, Bc_t, Bc_f, Nat.reducePow, Nat.reduceLT, Nat.reduceEqDiff, Nat.reduceAdd, if_false, reduceIte, and_self, exFa_ptr, putT_none, Nat.zero_add, Nat.add_zero, Nat.le_refl, exUn_not]
          all_goals first | rfl | trivial
        rintro t7 ⟨h4, h5⟩
        exact WK.ret ⟨rfl, rfl, .inl ⟨rfl, by unfold writeI; rw [hat, if_pos hl]; rfl, 2, by first | rfl | (rw [hat]; rfl), h4, h5⟩⟩
      · exact WK.cond (v := false) (by rw [evalO_tmp, g25, decide_eq_false hl]; rfl) (WK.skip ⟨rfl, rfl, .inr ⟨rfl, rfl, hl, g0, g3, g7⟩⟩)
  rintro x t5 ds5 H5 - ⟨rfl, rfl, (⟨rfl, hw, z, hz, h4, h5⟩ | ⟨rfl, hat, hl, g0, g3, g7⟩)⟩
  · refine ⟨.inr rfl, rfl, [.slice none 0 0, vN z], 0, ?_, .zero _ _, _, z, rfl, hkd, by rw [hw]; exact hz⟩
    show resL Tb0 35 t5 _ [.tmp 4, .tmp 5] = _
    simp only [resL, h4, h5]; rfl
  show WK Tb0 sp e ⟨6, 35, none, false⟩ _ t5 [] H5 _
  have hw : writeI d r = some (d.take (pos d r.1) ++ r :: d.drop (pos d r.1)) := by unfold writeI; rw [hat, if_neg hl]; rfl
  have q7 : ∀ c, (bit H.nx).testBit c = true → c < H5.nx := bit_lt r3.lt
  refine WK.seq (WK.draw_c [.p, .q, .p, .q, .q, .l, .p, .p] (fun t' H' => t'.get 5 = vN 0 ∧ ∃ v', t'.get 4 = v' ∧ Kept H5 H' ∧ DsR (envN H.nx) H' v' (d.take (pos d r.1) ++ r :: d.drop (pos d r.1))) he3 rfl ?_ ?_)
  · simp (config := { maxSteps := 1000000 }) only [wri_r9, WOR, WOG, WOC, WOGk, WOCk, wants_none', wants_some, wantsV_U, wantsV_tt, wantsV_tf, wantsV_ft, wantsV_ff, run, evalO_tmp, evalO_const, evalO_func, evalL, callV_func, Rv_eq, Ro_some, ok_zero, true_and, and_true, get_putT (d := 6), exLen_str, binV_geq, binV_leq, binV_lss, binV_gtr, exEq_int, exEq_str, exPick_t, exPick_f, Bool.not_true, Bool.not_false, Bc_t, Bc_f, Nat.reducePow, Nat.reduceLT, Nat.reduceEqDiff, Nat.reduceAdd, if_false, reduceIte, and_self, exFa_ptr, putT_none, Nat.zero_add, Nat.add_zero, Nat.le_refl, exUn_not, g0]
    refine (clR_ok S hf3 (Nat.le_refl _) hsl3.sub (by omega)).mono fun v H6 _ hv => ?_
    obtain ⟨hk6, hcl⟩ := hv
    have r6 := r3.of_blk (hk6.old _ r3.lt)
    have p5 : exLdN 2 (.pointer (some ⟨H.nx, 0, none⟩)) H6 = .val (recV r) H6 (bit H.nx) 0 := exLdN_row (k := 2) (o := 0) r6 (Nat.le_refl _)
    have p6 : e.ok (bit H.nx) 0 H6 := .fresh r6.lt he
    have r7 : Row (H6.push (blkL [vS r.1, vS r.2] 77 0)) H6.nx 77 0 [vS r.1, vS r.2] := row_push (fn_room hk6.fn) _ _ _
    have hk7 : Kept H6 (H6.push (blkL [vS r.1, vS r.2] 77 0)) := ⟨by rw [isFn_push]; exact hk6.fn, by rw [nx_push]; omega, fun b hb => blk_push_old (fn_room hk6.fn) _ hb⟩
    have hal : alloc1 (blkL [vS r.1, vS r.2] 77 0) H6 (fun i => mkSlV (some (i, 0)) 1 1 false) 0 0 = .val (.slice (some ⟨H6.nx, 0, none⟩) 1 2) (H6.push (blkL [vS r.1, vS r.2] 77 0)) 0 0 := by rw [alloc1_room (fn_room hk6.fn)]; rfl
    revert r7 hk7 hal
    generalize H6.push (blkL [vS r.1, vS r.2] 77 0) = H7
    intro r7 hk7 hal
    have n7 : H6.nx ≤ H7.nx := hk7.nx
    have n6 : H5.nx ≤ H6.nx := hk6.nx
    have hfil : ∀ (t' : T Value) o, evalO t' o = recV r → fillL t' [.string ⟨#[]⟩, .string ⟨#[]⟩] [(0, 2, o)] = some [vS r.1, vS r.2] := fun t' o h => fillL_rec h
    simp (config := { maxSteps := 1000000 }) only [g0, WOR, WOG, WOC, WOGk, WOCk, wants_none', wants_some, wantsV_U, wantsV_tt, wantsV_tf, wantsV_ft, wantsV_ff, run, evalO_tmp, evalO_const, evalO_func, evalL, callV_func, Rv_eq, Ro_some, ok_zero, true_and, and_true, get_putT (d := 6), exLen_str, binV_geq, binV_leq, binV_lss, binV_gtr, exEq_int, exEq_str, exPick_t, exPick_f, Bool.not_true, Bool.not_false, Bc_t, Bc_f, Nat.reducePow, Nat.reduceLT, Nat.reduceEqDiff, Nat.reduceAdd, if_false, reduceIte, and_self, exFa_ptr, putT_none, Nat.zero_add, Nat.add_zero, Nat.le_refl, exUn_not, g3, g7, p5, p6]
    refine ⟨q7, ?_⟩
    rw [hfil _ _ (by simp (config := { maxSteps := 1000000 }) only [g3, WOR, WOG, WOC, WOGk, WOCk, wants_none', wants_some, wantsV_U, wantsV_tt, wantsV_tf, wantsV_ft, wantsV_ff, run, evalO_tmp, evalO_const, evalO_func, evalL, callV_func, Rv_eq, Ro_some, ok_zero, true_and, and_true, get_putT (d := 6), exLen_str, binV_geq, binV_leq, binV_lss, binV_gtr, exEq_int, exEq_str, exPick_t, exPick_f, Bool.not_true, Bool.not_false, Bc_t, Bc_f, Nat.reducePow, Nat.reduceLT, Nat.reduceEqDiff, Nat.reduceAdd, if_false, reduceIte, and_self, exFa_ptr, putT_none, Nat.zero_add, Nat.add_zero, Nat.le_refl, exUn_not])]
    simp (config := { maxSteps := 1000000 }) only [exFill_some, WOR, WOG, WOC, WOGk, WOCk, wants_none', wants_some, wantsV_U, wantsV_tt, wantsV_tf, wantsV_ft, wantsV_ff, run, evalO_tmp, evalO_const, evalO_func, evalL, callV_func, Rv_eq, Ro_some, ok_zero, true_and, and_true, get_putT (d := 6), exLen_str, binV_geq, binV_leq, binV_lss, binV_gtr, exEq_int, exEq_str, exPick_t, exPick_f, Bool.not_true, Bool.not_false, Bc_t, Bc_f, Nat.reducePow, Nat.reduceLT, Nat.reduceEqDiff, Nat.reduceAdd, if_false, reduceIte, and_self, exFa_ptr, putT_none, Nat.zero_add, Nat.add_zero, Nat.le_refl, exUn_not, hal, n7, g7]
    refine ⟨zero_bit, ?_⟩
    refine (ins_ec (N := H5.nx) S hk7.fn (by omega) (hcl.later hk7.old) r7 (pos_le _ _) (by omega) (fun _ hb => absurd hb (by omega)) (fun b _ hb _ => hb) (fun b c hv => by have := hcl.lt hv; omega)).mono fun v' H8 _ hA => ?_
    simp (config := { maxSteps := 1000000 }) only [h64, WOR, WOG, WOC, WOGk, WOCk, wants_none', wants_some, wantsV_U, wantsV_tt, wantsV_tf, wantsV_ft, wantsV_ff, run, evalO_tmp, evalO_const, evalO_func, evalL, callV_func, Rv_eq, Ro_some, ok_zero, true_and, and_true, get_putT (d := 6), exLen_str, binV_geq, binV_leq, binV_lss, binV_gtr, exEq_int, exEq_str, exPick_t, exPick_f, Bool.not_true, Bool.not_false, Bc_t, Bc_f, Nat.reducePow, Nat.reduceLT, Nat.reduceEqDiff, Nat.reduceAdd, if_false, reduceIte, and_self, exFa_ptr, putT_none, Nat.zero_add, Nat.add_zero, Nat.le_refl, exUn_not]
    exact ⟨_, rfl, hA.kept (hk6.trans hk7) (Nat.le_refl _), hA.dsR (by show H.nx ≤ H5.nx; exact hk03.nx)⟩
  rintro t6 H6 ⟨h5, v', h4, hk6, hds⟩
  refine WK.ret ⟨.inr rfl, rfl, [v', vN 0], 0, ?_, .zero _ _, v', 0, rfl, hkd.trans hk6, by rw [hw]; exact ⟨rfl, hds⟩⟩
  show resL Tb0 35 t6 _ [.tmp 4, .tmp 5] = _
  simp only [resL, h4, h5]; rfl
end
end Go.Proofs.RS
end
