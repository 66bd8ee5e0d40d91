/-
  A part of the proof that pliantlaw25.TasksCycles returns true and leaves its argument alone. Conditions: those of the card in the last text.
-/
import Derived.KernelRfl
import Derived.Test.YtdaglpleolagnaaGreatDoorG10
import Derived.Test.YtdaglpleolagnaaGreatDoorG12
import Derived.Test.YtdaglpleolagnaaGreatDoorG13
set_option linter.unusedSimpArgs false
set_option linter.unusedVariables false

noncomputable section
set_option linter.unusedSimpArgs false
namespace Go.Proofs.K25
open Go Go.Ev Go.Proofs
/-! pliant/pliantref25.round: function 23, 111 temporaries, parameters [22, 3], results [t4] -/
noncomputable def rnd_body : Code := (Tryz.f23.body).getD .skip
-- ref.go:939
def rnd_r0 : List CO := [
    ⟨(some 4), none, .mv (.const (.slice none 0 0))⟩]
-- ref.go:940
def rnd_r1 : List CO := [
    ⟨(some 16), none, .bslice 0 3 [] []⟩,
    ⟨(some 5), none, .mv (.tmp 16)⟩]
-- ref.go:941
def rnd_r2 : List CO := [
    ⟨(some 17), none, .mv (.tmp 1)⟩,
    ⟨(some 18), none, .bslice 1 3 [.int .i64 (0)] [(0, 1, (.tmp 17))]⟩,
    ⟨(some 19), none, .build [.slice none 0 0] [(0, 1, (.tmp 18))]⟩,
    ⟨(some 20), none, .bslice 1 138 [.slice none 0 0] [(0, 1, (.tmp 19))]⟩,
    ⟨(some 6), none, .mv (.tmp 20)⟩]
-- ref.go:942
def rnd_r3 : List CO := [
    ⟨(some 21), none, .mv (.tmp 6)⟩,
    ⟨(some 22), none, .len 1 (.tmp 21)⟩,
    ⟨(some 23), none, .bin .gtr (.tmp 22) (.const (.int .i64 (0)))⟩]
-- ref.go:943
def rnd_r4 : List CO := [
    ⟨(some 24), none, .bslice 0 138 [] []⟩,
    ⟨(some 7), none, .mv (.tmp 24)⟩]
-- ref.go:944
def rnd_r5 : List CO := [
    ⟨(some 8), none, .mv (.const (.int .i64 (0)))⟩]
-- ref.go:944
def rnd_r6 : List CO := [
    ⟨(some 25), none, .mv (.tmp 8)⟩,
    ⟨(some 26), none, .mv (.tmp 6)⟩,
    ⟨(some 27), none, .len 1 (.tmp 26)⟩,
    ⟨(some 28), none, .bin .lss (.tmp 25) (.tmp 27)⟩]
-- ref.go:945
def rnd_r7 : List CO := [
    ⟨(some 31), none, .mv (.tmp 6)⟩,
    ⟨(some 32), none, .mv (.tmp 8)⟩,
    ⟨(some 33), none, .iaS 1 (.tmp 31) (.tmp 32)⟩,
    ⟨(some 34), none, .fa 0 (.tmp 33)⟩,
    ⟨(some 35), none, .ld1 (.tmp 34)⟩,
    ⟨(some 9), none, .mv (.tmp 35)⟩]
-- ref.go:946
def rnd_r8 : List CO := [
    ⟨(some 36), none, .mv (.tmp 0)⟩,
    ⟨(some 37), none, .mv (.tmp 9)⟩,
    ⟨(some 38), none, .mv (.tmp 9)⟩,
    ⟨(some 39), none, .len 1 (.tmp 38)⟩,
    ⟨(some 40), none, .bin .sub (.tmp 39) (.const (.int .i64 (1)))⟩,
    ⟨(some 41), none, .iaS 1 (.tmp 37) (.tmp 40)⟩,
    ⟨(some 42), none, .ld1 (.tmp 41)⟩,
    ⟨(some 43), none, .call (.func 57) [(.tmp 36), (.tmp 42)]⟩,
    ⟨(some 10), none, .mv (.tmp 43)⟩]
-- ref.go:947
def rnd_r9 : List CO := [
    ⟨(some 11), none, .mv (.const (.int .i64 (0)))⟩]
-- ref.go:947
def rnd_r10 : List CO := [
    ⟨(some 44), none, .mv (.tmp 11)⟩,
    ⟨(some 45), none, .mv (.tmp 10)⟩,
    ⟨(some 46), none, .len 1 (.tmp 45)⟩,
    ⟨(some 47), none, .bin .lss (.tmp 44) (.tmp 46)⟩]
-- ref.go:948
def rnd_r11 : List CO := [
    ⟨(some 50), none, .mv (.tmp 10)⟩,
    ⟨(some 51), none, .mv (.tmp 11)⟩,
    ⟨(some 52), none, .iaS 1 (.tmp 50) (.tmp 51)⟩,
    ⟨(some 53), none, .ld1 (.tmp 52)⟩,
    ⟨(some 54), none, .mv (.tmp 1)⟩,
    ⟨(some 55), none, .eq false (.one .i) (.tmp 53) (.tmp 54)⟩]
-- ref.go:949
def rnd_r12 : List CO := [
    ⟨(some 56), none, .mv (.tmp 9)⟩,
    ⟨(some 4), none, .mv (.tmp 56)⟩]
-- ref.go:951
def rnd_r13 : List CO := [
    ⟨(some 12), none, .mv (.const (.bool false))⟩]
-- ref.go:952
def rnd_r14 : List CO := [
    ⟨(some 13), none, .mv (.const (.int .i64 (0)))⟩]
-- ref.go:952
def rnd_r15 : List CO := [
    ⟨(some 57), none, .mv (.tmp 13)⟩,
    ⟨(some 58), none, .mv (.tmp 5)⟩,
    ⟨(some 59), none, .len 1 (.tmp 58)⟩,
    ⟨(some 60), none, .bin .lss (.tmp 57) (.tmp 59)⟩]
-- ref.go:953
def rnd_r16 : List CO := [
    ⟨(some 63), none, .mv (.tmp 12)⟩,
    ⟨(some 64), none, .mv (.tmp 63)⟩,
    ⟨(some 65), (some (64, false)), .mv (.tmp 5)⟩,
    ⟨(some 66), (some (64, false)), .mv (.tmp 13)⟩,
    ⟨(some 67), (some (64, false)), .iaS 1 (.tmp 65) (.tmp 66)⟩,
    ⟨(some 68), (some (64, false)), .ld1 (.tmp 67)⟩,
    ⟨(some 69), (some (64, false)), .mv (.tmp 10)⟩,
    ⟨(some 70), (some (64, false)), .mv (.tmp 11)⟩,
    ⟨(some 71), (some (64, false)), .iaS 1 (.tmp 69) (.tmp 70)⟩,
    ⟨(some 72), (some (64, false)), .ld1 (.tmp 71)⟩,
    ⟨(some 73), (some (64, false)), .eq false (.one .i) (.tmp 68) (.tmp 72)⟩,
    ⟨(some 74), none, .pick (.tmp 64) (.const (.bool true)) (.tmp 73)⟩,
    ⟨(some 12), none, .mv (.tmp 74)⟩]
-- ref.go:952
def rnd_r17 : List CO := [
    ⟨(some 61), none, .mv (.tmp 13)⟩,
    ⟨(some 62), none, .bin .add (.tmp 61) (.const (.int .i64 (1)))⟩,
    ⟨(some 13), none, .mv (.tmp 62)⟩]
noncomputable def rnd_l18 : KC :=
  (.seq (.seq (.reg rnd_r15)
  (.cond (.tmp 60) .skip
   (.exit 6)))
  (.seq (.block 7 (.draw #[0, 1, 3, 3, 15, 31, 3, 3, 195, 451, 1023, 2047, 4095] rnd_r16))
  (.reg rnd_r17)))
-- ref.go:955
def rnd_r19 : List CO := [
    ⟨(some 75), none, .mv (.tmp 12)⟩,
    ⟨(some 76), none, .un .not (.tmp 75)⟩]
-- ref.go:956
def rnd_r20 : List CO := [
    ⟨(some 77), none, .mv (.tmp 5)⟩,
    ⟨(some 78), none, .mv (.tmp 10)⟩,
    ⟨(some 79), none, .mv (.tmp 11)⟩,
    ⟨(some 80), none, .iaS 1 (.tmp 78) (.tmp 79)⟩,
    ⟨(some 81), none, .ld1 (.tmp 80)⟩,
    ⟨(some 82), none, .bslice 1 3 [.int .i64 (0)] [(0, 1, (.tmp 81))]⟩,
    ⟨(some 83), none, .app 3 1 8 (.tmp 77) (.tmp 82)⟩,
    ⟨(some 5), none, .mv (.tmp 83)⟩]
-- ref.go:957
def rnd_r21 : List CO := [
    ⟨(some 84), none, .bslice 0 3 [] []⟩,
    ⟨(some 14), none, .mv (.tmp 84)⟩]
-- ref.go:958
def rnd_r22 : List CO := [
    ⟨(some 15), none, .mv (.const (.int .i64 (0)))⟩]
-- ref.go:958
def rnd_r23 : List CO := [
    ⟨(some 85), none, .mv (.tmp 15)⟩,
    ⟨(some 86), none, .mv (.tmp 9)⟩,
    ⟨(some 87), none, .len 1 (.tmp 86)⟩,
    ⟨(some 88), none, .bin .lss (.tmp 85) (.tmp 87)⟩]
-- ref.go:959
def rnd_r24 : List CO := [
    ⟨(some 91), none, .mv (.tmp 14)⟩,
    ⟨(some 92), none, .mv (.tmp 9)⟩,
    ⟨(some 93), none, .mv (.tmp 15)⟩,
    ⟨(some 94), none, .iaS 1 (.tmp 92) (.tmp 93)⟩,
    ⟨(some 95), none, .ld1 (.tmp 94)⟩,
    ⟨(some 96), none, .bslice 1 3 [.int .i64 (0)] [(0, 1, (.tmp 95))]⟩,
    ⟨(some 97), none, .app 3 1 8 (.tmp 91) (.tmp 96)⟩,
    ⟨(some 14), none, .mv (.tmp 97)⟩]
-- ref.go:958
def rnd_r25 : List CO := [
    ⟨(some 89), none, .mv (.tmp 15)⟩,
    ⟨(some 90), none, .bin .add (.tmp 89) (.const (.int .i64 (1)))⟩,
    ⟨(some 15), none, .mv (.tmp 90)⟩]
noncomputable def rnd_l26 : KC :=
  (.seq (.seq (.reg rnd_r23)
  (.cond (.tmp 88) .skip
   (.exit 8)))
  (.seq (.block 9 (.reg rnd_r24))
  (.reg rnd_r25)))
-- ref.go:961
def rnd_r27 : List CO := [
    ⟨(some 98), none, .mv (.tmp 14)⟩,
    ⟨(some 99), none, .mv (.tmp 10)⟩,
    ⟨(some 100), none, .mv (.tmp 11)⟩,
    ⟨(some 101), none, .iaS 1 (.tmp 99) (.tmp 100)⟩,
    ⟨(some 102), none, .ld1 (.tmp 101)⟩,
    ⟨(some 103), none, .bslice 1 3 [.int .i64 (0)] [(0, 1, (.tmp 102))]⟩,
    ⟨(some 104), none, .app 3 1 8 (.tmp 98) (.tmp 103)⟩,
    ⟨(some 14), none, .mv (.tmp 104)⟩]
-- ref.go:962
def rnd_r28 : List CO := [
    ⟨(some 105), none, .mv (.tmp 7)⟩,
    ⟨(some 106), none, .mv (.tmp 14)⟩,
    ⟨(some 107), none, .build [.slice none 0 0] [(0, 1, (.tmp 106))]⟩,
    ⟨(some 108), none, .bslice 1 138 [.slice none 0 0] [(0, 1, (.tmp 107))]⟩,
    ⟨(some 109), none, .app 138 1 24 (.tmp 105) (.tmp 108)⟩,
    ⟨(some 7), none, .mv (.tmp 109)⟩]
-- ref.go:947
def rnd_r29 : List CO := [
    ⟨(some 48), none, .mv (.tmp 11)⟩,
    ⟨(some 49), none, .bin .add (.tmp 48) (.const (.int .i64 (1)))⟩,
    ⟨(some 11), none, .mv (.tmp 49)⟩]
noncomputable def rnd_l30 : KC :=
  (.seq (.seq (.reg rnd_r10)
  (.cond (.tmp 47) .skip
   (.exit 4)))
  (.seq (.block 5 (.seq (.seq (.reg rnd_r11)
   (.cond (.tmp 55) (.seq (.reg rnd_r12)
    .ret)
    .skip))
   (.seq (.reg rnd_r13)
   (.seq (.seq (.reg rnd_r14)
   (.block 6 (.loop rnd_body.sr.sr.sr.sl.bl.lp.sr.bl.sr.sl.sr.bl.lp.sr.sl.bl.sr.sr.sr.bl.lp.sr.sl.bl.sr.sr.sl.sr.bl.lp rnd_l18)))
   (.seq (.reg rnd_r19)
   (.cond (.tmp 76) (.seq (.reg rnd_r20)
    (.seq (.reg rnd_r21)
    (.seq (.seq (.reg rnd_r22)
    (.block 8 (.loop rnd_body.sr.sr.sr.sl.bl.lp.sr.bl.sr.sl.sr.bl.lp.sr.sl.bl.sr.sr.sr.bl.lp.sr.sl.bl.sr.sr.sr.sr.ca.sr.sr.sl.sr.bl.lp rnd_l26)))
    (.seq (.reg rnd_r27)
    (.reg rnd_r28)))))
    .skip))))))
  (.reg rnd_r29)))
-- ref.go:944
def rnd_r31 : List CO := [
    ⟨(some 29), none, .mv (.tmp 8)⟩,
    ⟨(some 30), none, .bin .add (.tmp 29) (.const (.int .i64 (1)))⟩,
    ⟨(some 8), none, .mv (.tmp 30)⟩]
noncomputable def rnd_l32 : KC :=
  (.seq (.seq (.reg rnd_r6)
  (.cond (.tmp 28) .skip
   (.exit 2)))
  (.seq (.block 3 (.seq (.reg rnd_r7)
   (.seq (.reg rnd_r8)
   (.seq (.reg rnd_r9)
   (.block 4 (.loop rnd_body.sr.sr.sr.sl.bl.lp.sr.bl.sr.sl.sr.bl.lp.sr.sl.bl.sr.sr.sr.bl.lp rnd_l30))))))
  (.reg rnd_r31)))
-- ref.go:966
def rnd_r33 : List CO := [
    ⟨(some 110), none, .mv (.tmp 7)⟩,
    ⟨(some 6), none, .mv (.tmp 110)⟩]
noncomputable def rnd_l34 : KC :=
  (.seq (.seq (.reg rnd_r3)
  (.cond (.tmp 23) .skip
   (.exit 0)))
  (.block 1 (.seq (.reg rnd_r4)
   (.seq (.seq (.reg rnd_r5)
   (.block 2 (.loop rnd_body.sr.sr.sr.sl.bl.lp.sr.bl.sr.sl.sr.bl.lp rnd_l32)))
   (.reg rnd_r33)))))
-- ref.go:968
def rnd_r35 : List CO := [
    ⟨(some 4), none, .mv (.const (.slice none 0 0))⟩]
noncomputable def rnd_k : KC :=
  (.seq (.reg rnd_r0)
  (.seq (.reg rnd_r1)
  (.seq (.reg rnd_r2)
  (.seq (.block 0 (.loop rnd_body.sr.sr.sr.sl.bl.lp rnd_l34))
  (.seq (.reg rnd_r35)
  .ret)))))
theorem rnd_comp : kcomp Tb0 Tryz.f23.ntmps rnd_body = rnd_k := by kernel_rfl
theorem rnd_some : Tryz.f23.body = some rnd_body := rfl

end Go.Proofs.K25
end

noncomputable section
set_option linter.unusedSimpArgs false
set_option linter.unusedVariables false
namespace Go.Proofs.K25
open Go Go.Ev Go.Proofs Go.Cyc
abbrev cx23 : Cx := ⟨7, 111, none, false⟩
section
variable {sp : Nat → List Value → Hp → Option (Value × Hp × Nat × Nat)} {e : Env}
theorem Lo.trans {k : Nat} {t t' t'' : T Value} (h : Lo k t t') (g : Lo k t' t'') : Lo k t t'' := fun j hj => (g j hj).trans (h j hj)
theorem Lo.refl (k : Nat) (t : T Value) : Lo k t t := fun _ _ => rfl
theorem Lo.mono {k m : Nat} {t t' : T Value} (h : Lo k t t') (hm : m ≤ k) : Lo m t t' := fun j hj => h j (by omega)
theorem exPick_t' (x y : Value) (H : Hp) : exPick (.bool true) x y H = .val x H 0 0 := rfl
set_option maxRecDepth 10000 in
set_option maxHeartbeats 2000000 in
/-- whether a number is in a list -/
theorem known_ok {H : Hp} {t : T Value} {ds : List Deferred} {v5 v10 : Value} {seen next : List Int} {k : Nat} {y : Int} {c : Code} {K : Ex → T Value → List Deferred → Hp → Prop}
    (hS : NumsR e H v5 seen) (hN : NumsR e H v10 next) (hy : next[k]? = some y) (hlen : seen.length < 4611686018427387904) (g5 : t.get 5 = v5) (g10 : t.get 10 = v10) (g11 : t.get 11 = vI k) (g12 : t.get 12 = .bool false) (g13 : t.get 13 = vI (0 : Nat))
    (hK : ∀ t', Lo 12 t t' → t'.get 12 = .bool (decide (y ∈ seen)) → K .normal t' ds H) : WK Tb0 sp e cx23 (.block 6 (.loop c rnd_l18)) t ds H K := by
  refine WK.block (WK.loop_ind (fun n t' ds' H' => ds' = ds ∧ H' = H ∧ ∃ m : Nat, n = seen.length - m ∧ m ≤ seen.length ∧ Lo 12 t t' ∧ t'.get 12 = .bool (decide (y ∈ seen.take m)) ∧ t'.get 13 = vI m) ?_ (seen.length) t ds H ⟨rfl, rfl, 0, by omega, by omega, .refl _ _, by rw [g12]; simp, g13⟩)
  rintro n t1 ds H ⟨rfl, rfl, m, rfl, hm, hlo, h12, h13⟩
  have h5 := (hlo 5 (by omega)).trans g5
  have h10 := (hlo 10 (by omega)).trans g10
  have h11 := (hlo 11 (by omega)).trans g11
  have k0 := hS.len
  unfold rnd_l18
  refine WK.seq (WK.seq (WK.reg_rr (fun t' => t'.get 60 = .bool (decide ((m : Int) < (seen.length : Int))) ∧ Lo 14 t1 t') ?_ ?_))
  · simp (config := { maxSteps := 1000000 }) only [rnd_r15, WOR, wants_none', run, evalO_tmp, evalO_const, Rv_eq, Ro_some, ok_zero, true_and, get_putT (d := 7), h5, h13, k0, binV_lss, Nat.reducePow, Nat.reduceLT, Nat.reduceEqDiff, if_false, reduceIte]
    intro j hj
    simp (disch := omega) only [putT_lo (d := 7)]
  rintro t2 ⟨h60, hlo2⟩
  by_cases hlt : m < seen.length
  case neg =>
    have : m = seen.length := by omega
    subst this
    refine WK.cond (v := false) (by rw [evalO_tmp, h60, decide_eq_false (by omega)]; rfl) (WK.exit ?_)
    exact hK t2 (hlo.trans (hlo2.mono (by omega))) (by rw [hlo2 12 (by omega), h12]; simp)
  refine WK.cond (v := true) (by rw [evalO_tmp, h60, decide_eq_true (by omega)]; rfl) (WK.skip ?_)
  obtain ⟨s, hs⟩ : ∃ s, seen[m]? = some s := ⟨seen[m], by simp [hlt]⟩
  obtain ⟨b1, m1, m2, m3⟩ := hS.read hs
  obtain ⟨b2, n1, n2, n3⟩ := hN.read hy
  have htk : seen.take (m + 1) = seen.take m ++ [s] := by rw [List.take_add_one, hs]; rfl
  have h5' := (hlo2 5 (by omega)).trans h5
  have h10' := (hlo2 10 (by omega)).trans h10
  have h11' := (hlo2 11 (by omega)).trans h11
  have h12' := (hlo2 12 (by omega)).trans h12
  have h13' := (hlo2 13 (by omega)).trans h13
  refine WK.seq (WK.block (WK.draw_rr (fun t' => Lo 12 t2 t' ∧ t'.get 13 = vI m ∧ t'.get 12 = .bool (decide (y ∈ seen.take (m + 1)))) ?_ ?_))
  · by_cases hk : y ∈ seen.take m
    · rw [decide_eq_true hk] at h12'
      have hk2 : decide (y ∈ seen.take (m + 1)) = true := decide_eq_true (by rw [htk]; simp [hk])
      simp (config := { maxSteps := 1000000 }) only [rnd_r16, WOR, wants_none', run, evalO_tmp, evalO_const, Rv_eq, Ro_some, ok_zero, true_and, get_putT (d := 7), h5', h10', h11', h12', h13', wants_some, wantsV_U, wantsV_tt, wantsV_tf, wantsV_ft, wantsV_ff, exPick_t, exPick_f, hk2, Nat.reducePow, Nat.reduceLT, Nat.reduceEqDiff, if_false, reduceIte, and_true]
      intro j hj
      simp (disch := omega) only [putT_lo (d := 7)]
    · rw [decide_eq_false hk] at h12'
      have hk2 : decide (y ∈ seen.take (m + 1)) = decide (s = y) := by rw [htk]; simp [hk, eq_comm]
      simp (config := { maxSteps := 1000000 }) only [rnd_r16, WOR, wants_none', run, evalO_tmp, evalO_const, Rv_eq, Ro_some, ok_zero, true_and, get_putT (d := 7), h5', h10', h11', h12', h13', m1, m2, m3, n1, n2, n3, exEq_int, Bc_f, wants_some, wantsV_U, wantsV_tt, wantsV_tf, wantsV_ft, wantsV_ff, exPick_t, exPick_f, hk2, Nat.reducePow, Nat.reduceLT, Nat.reduceEqDiff, if_false, reduceIte, and_true]
      intro j hj
      simp (disch := omega) only [putT_lo (d := 7)]
  rintro t3 ⟨hlo3, h13, h12⟩
  have hwr : wrapF .i64 ((m : Int) + 1) = ((m + 1 : Nat) : Int) := by rw [wrapF_i64 (by omega) (by omega)]; omega
  refine WK.reg_rr (fun t' => Lo 12 t3 t' ∧ t'.get 12 = .bool (decide (y ∈ seen.take (m + 1))) ∧ t'.get 13 = vI (m + 1 : Nat)) ?_ ?_
  · simp (config := { maxSteps := 1000000 }) only [rnd_r17, WOR, wants_none', run, evalO_tmp, evalO_const, Rv_eq, Ro_some, ok_zero, true_and, get_putT (d := 7), h12, h13, binV_add, hwr, Nat.reducePow, Nat.reduceLT, Nat.reduceEqDiff, if_false, reduceIte, and_true]
    intro j hj
    simp (disch := omega) only [putT_lo (d := 7)]
  rintro t4 ⟨hlo4, q12, q13⟩
  exact ⟨seen.length - (m + 1), by omega, rfl, rfl, m + 1, rfl, by omega, ((hlo.trans (hlo2.mono (by omega))).trans hlo3).trans hlo4, q12, q13⟩
set_option maxRecDepth 10000 in
set_option maxHeartbeats 2000000 in
/-- a copy of a way -/
theorem copy_ok {H1 H : Hp} {t : T Value} {ds : List Deferred} {v9 : Value} {l : List Int} {c : Code} {K : Ex → T Value → List Deferred → Hp → Prop}
    (he : e.n0 ≤ H1.nx) (hL : ∀ H', Kept H1 H' → NumsR e H' v9 l) (hlen : l.length < 2199023255552) (hk : Kept H1 H) (ho : ∃ b, Own H1.nx 3 H b (t.get 14) []) (g9 : t.get 9 = v9) (g15 : t.get 15 = vI (0 : Nat))
    (hK : ∀ t' H', Lo 14 t t' → Kept H1 H' → (∃ b, Own H1.nx 3 H' b (t'.get 14) (l.map vI)) → K .normal t' ds H') : WK Tb0 sp e cx23 (.block 8 (.loop c rnd_l26)) t ds H K := by
  refine WK.block (WK.loop_ind (fun n t' ds' H' => ds' = ds ∧ ∃ m : Nat, n = l.length - m ∧ m ≤ l.length ∧ Kept H1 H' ∧ Lo 14 t t' ∧ (∃ b, Own H1.nx 3 H' b (t'.get 14) ((l.take m).map vI)) ∧ t'.get 15 = vI m) ?_ (l.length) t ds H ⟨rfl, 0, by omega, by omega, hk, .refl _ _, by simpa using ho, g15⟩)
  rintro n t1 ds H ⟨rfl, m, rfl, hm, hkept, hlo, ⟨b, hown⟩, h15⟩
  have h9 := (hlo 9 (by omega)).trans g9
  have hS := hL H hkept
  have k0 := hS.len
  unfold rnd_l26
  refine WK.seq (WK.seq (WK.reg_rr (fun t' => t'.get 88 = .bool (decide ((m : Int) < (l.length : Int))) ∧ Lo 16 t1 t') ?_ ?_))
  · simp (config := { maxSteps := 1000000 }) only [rnd_r23, WOR, wants_none', run, evalO_tmp, evalO_const, Rv_eq, Ro_some, ok_zero, true_and, get_putT (d := 7), h9, h15, k0, binV_lss, Nat.reducePow, Nat.reduceLT, Nat.reduceEqDiff, if_false, reduceIte]
    intro j hj
    simp (disch := omega) only [putT_lo (d := 7)]
  rintro t2 ⟨h88, hlo2⟩
  by_cases hlt : m < l.length
  case neg =>
    have : m = l.length := by omega
    subst this
    refine WK.cond (v := false) (by rw [evalO_tmp, h88, decide_eq_false (by omega)]; rfl) (WK.exit ?_)
    refine hK t2 H (hlo.trans (hlo2.mono (by omega))) hkept ⟨b, ?_⟩
    rw [hlo2 14 (by omega)]
    simpa using hown
  refine WK.cond (v := true) (by rw [evalO_tmp, h88, decide_eq_true (by omega)]; rfl) (WK.skip ?_)
  obtain ⟨y, hy⟩ : ∃ s, l[m]? = some s := ⟨l[m], by simp [hlt]⟩
  obtain ⟨b1, m1, m2, m3⟩ := hS.read hy
  have htk : (l.take (m + 1)).map vI = (l.take m).map vI ++ [vI y] := by rw [List.take_add_one, hy]; simp
  have h9' := (hlo2 9 (by omega)).trans h9
  have h14' := hlo2 14 (by omega)
  have h15' := (hlo2 15 (by omega)).trans h15
  have hf := hkept.fn
  have hnx := hkept.nx
  obtain ⟨v', H3, r', w', a1, a2, a3, a4, a5, a6⟩ := app_val (e := e) (by_ := 8) (w := vI y) hown he hf (by omega) (by simp; omega)
  have hfil : ∀ (t' : T Value), t'.get 95 = .int .i64 y → fillL t' [.int .i64 0] [(0, 1, .tmp 95)] = some [.int .i64 y] := fun t' h => fillL_one (by rw [evalO_tmp, h]; rfl)
  refine WK.seq (WK.block (WK.reg_gg (fun t' H' => Lo 14 t2 t' ∧ t'.get 15 = vI m ∧ t'.get 14 = v' ∧ H' = H3) ?_ ?_))
  · simp (config := { maxSteps := 1000000 }) only [rnd_r24, WOG, wants_none', run, evalO_tmp, evalO_const, Rv_eq, Ro_some, ok_zero, true_and, get_putT (d := 7), h9', h14', h15', m1, m2, m3, hfil, exFill_some, alloc_bsl hf, Nat.reducePow, Nat.reduceLT, Nat.reduceEqDiff, reduceIte, Nat.le_refl]
    refine ⟨by rw [nx_push]; omega, ?_⟩
    rw [a1]
    simp (config := { maxSteps := 1000000 }) only [get_putT (d := 7), h15', Nat.reducePow, Nat.reduceLT, Nat.reduceEqDiff, reduceIte, and_true]
    refine ⟨a2, by rw [nx_push]; omega, fun j hj => ?_⟩
    simp (disch := omega) only [putT_lo (d := 7)]
  rintro t3 H' ⟨hlo3, q15, q14, rfl⟩
  have hwr : wrapF .i64 ((m : Int) + 1) = ((m + 1 : Nat) : Int) := by rw [wrapF_i64 (by omega) (by omega)]; omega
  refine WK.reg_rr (fun t' => Lo 15 t3 t' ∧ t'.get 15 = vI (m + 1 : Nat)) ?_ ?_
  · simp (config := { maxSteps := 1000000 }) only [rnd_r25, WOR, wants_none', run, evalO_tmp, evalO_const, Rv_eq, Ro_some, ok_zero, true_and, get_putT (d := 7), q15, binV_add, hwr, Nat.reducePow, Nat.reduceLT, Nat.reduceEqDiff, if_false, reduceIte, and_true]
    intro j hj
    simp (disch := omega) only [putT_lo (d := 7)]
  rintro t4 ⟨hlo4, p15⟩
  refine ⟨l.length - (m + 1), by omega, rfl, m + 1, rfl, by omega, ⟨a5, by omega, fun c hc => ?_⟩, ((hlo.trans (hlo2.mono (by omega))).trans hlo3).trans (hlo4.mono (by omega)), ⟨H.nx + 1, ?_⟩, p15⟩
  · have := hown.ge
    rw [a6 c (by omega) (by omega)]; exact hkept.old c hc
  · rw [htk, hlo4 14 (by omega), q14]; exact a4
end
end Go.Proofs.K25
end

noncomputable section
set_option linter.unusedSimpArgs false
set_option linter.unusedVariables false
namespace Go.Proofs.K25
open Go Go.Ev Go.Proofs Go.Cyc
structure Sn (ws : Ws) (seen0 seen : List Int) (more : List (List Int)) : Prop where
  nd : seen.Nodup
  sub : ∀ y ∈ seen, ∃ x, (x, y) ∈ ws
  len : seen.length = seen0.length + more.length
theorem sub_len {ws : Ws} {seen : List Int} (h1 : seen.Nodup) (h2 : ∀ y ∈ seen, ∃ x, (x, y) ∈ ws) : seen.length ≤ ws.length := by
  have := nodup_le seen (ws.map (·.2)) h1 (fun y hy => by obtain ⟨x, hx⟩ := h2 y hy; exact List.mem_map.2 ⟨_, hx, rfl⟩)
  simpa using this
structure HS (H0 H : Hp) (t : T Value) (seen : List Int) (more : List (List Int)) (bs bm : Nat) : Prop where
  kept : Kept H0 H
  ne : bs ≠ bm
  s : Own H0.nx 3 H bs (t.get 5) (seen.map vI)
  m : ∃ vs, Own H0.nx 138 H bm (t.get 7) vs ∧ WaysL H0.nx H bs bm vs more
structure Fx (v0 : Value) (n : Int) (wv : Value) (i : Nat) (lv nv : Value) (t : T Value) : Prop where
  g0 : t.get 0 = v0
  g1 : t.get 1 = vI n
  g6 : t.get 6 = wv
  g8 : t.get 8 = vI i
  g9 : t.get 9 = lv
  g10 : t.get 10 = nv
theorem exUn_not (b : Bool) (H : Hp) : exUn .not (.bool b) H = .val (.bool (!b)) H 0 0 := by cases b <;> rfl
section
variable {sp : Nat → List Value → Hp → Option (Value × Hp × Nat × Nat)} {e : Env}
theorem Fx.lo {v0 : Value} {n : Int} {wv : Value} {i : Nat} {lv nv : Value} {t t' : T Value} (h : Fx v0 n wv i lv nv t) (g : Lo 11 t t') : Fx v0 n wv i lv nv t' :=
  ⟨(g 0 (by omega)).trans h.g0, (g 1 (by omega)).trans h.g1, (g 6 (by omega)).trans h.g6, (g 8 (by omega)).trans h.g8, (g 9 (by omega)).trans h.g9, (g 10 (by omega)).trans h.g10⟩
theorem HS.lo {H0 H : Hp} {t t' : T Value} {seen : List Int} {more : List (List Int)} {bs bm : Nat} (h : HS H0 H t seen more bs bm) (g : Lo 11 t t') : HS H0 H t' seen more bs bm :=
  ⟨h.kept, h.ne, by rw [g 5 (by omega)]; exact h.s, by rw [g 7 (by omega)]; exact h.m⟩
/-- the whole state at the head of the loop over next -/
structure KS (H0 : Hp) (v0 : Value) (n : Int) (wv : Value) (i : Nat) (lv nv : Value) (ws : Ws) (seen0 : List Int) (ways done : List (List Int)) (l ys next : List Int) (j : Nat) (t : T Value) (H : Hp) (seen : List Int) (more : List (List Int)) (bs bm : Nat) : Prop where
  fx : Fx v0 n wv i lv nv t
  hs : HS H0 H t seen more bs bm
  aw : WaysAt H0.nx H bs bm wv ways
  al : WayAt H0.nx H bs bm lv l
  anx : WayAt H0.nx H bs bm nv next
  mid : Mid ws n seen0 done l ys seen more
  sn : Sn ws seen0 seen more
  no : n ∉ ys
  j : t.get 11 = vI j
set_option maxRecDepth 10000 in
set_option maxHeartbeats 4000000 in
theorem kloop_ok {H0 H : Hp} {t : T Value} {ds : List Deferred} {v0 : Value} {n : Int} {ws : Ws} {k : Nat} {seen0 : List Int} {done rest : List (List Int)} {l next : List Int} {x : Int} {wv lv nv : Value} {i : Nat} {seen : List Int} {more : List (List Int)} {bs bm : Nat} {c : Code} {K : Ex → T Value → List Deferred → Hp → Prop}
    (he : e.n0 ≤ H0.nx) (hwl : ws.length < 1099511627776) (hlen : l.length < 2199023255551) (hL : Lay ws n k seen0 (done ++ l :: rest)) (hx : Wk ws n l x) (hsc : Succs ws x next) (hnl : next.length ≤ ws.length)
    (h0 : KS H0 v0 n wv i lv nv ws seen0 (done ++ l :: rest) done l [] next 0 t H seen more bs bm)
    (hK1 : ∀ t' H' bs' bm' seen' more', KS H0 v0 n wv i lv nv ws seen0 (done ++ l :: rest) done l next next next.length t' H' seen' more' bs' bm' → K .normal t' ds H')
    (hK2 : ∀ t' H', Kept H0 H' → t'.get 4 = lv → (∃ bs bm, WayAt H0.nx H' bs bm lv l) → (x, n) ∈ ws → K .ret t' ds H') : WK Tb0 sp e cx23 (.block 4 (.loop c rnd_l30)) t ds H K := by
  refine WK.block (WK.loop_ind (fun N t' ds' H' => ds' = ds ∧ ∃ (j : Nat) (seen' : List Int) (more' : List (List Int)) (bs' bm' : Nat), N = next.length - j ∧ j ≤ next.length ∧ KS H0 v0 n wv i lv nv ws seen0 (done ++ l :: rest) done l (next.take j) next j t' H' seen' more' bs' bm') ?_ (next.length) t ds H ⟨rfl, 0, seen, more, bs, bm, by omega, by omega, by simpa using h0⟩)
  clear h0
  rintro N t1 ds H ⟨rfl, j, seen, more, bs, bm, rfl, hj, hS⟩
  have hfx := hS.fx
  obtain ⟨q0, q1, q6, q8, q9, q10⟩ := hfx
  have q11 := hS.j
  have hN := hS.anx.numsR he
  have k0 := hN.len
  have hf := hS.hs.kept.fn
  have hsl := sub_len hS.sn.nd hS.sn.sub
  unfold rnd_l30
  refine WK.seq (WK.seq (WK.reg_rr (fun t' => t'.get 47 = .bool (decide ((j : Int) < (next.length : Int))) ∧ Lo 12 t1 t') ?_ ?_))
  · simp (config := { maxSteps := 1000000 }) only [rnd_r10, WOR, wants_none', run, evalO_tmp, evalO_const, Rv_eq, Ro_some, ok_zero, true_and, get_putT (d := 7), q10, q11, k0, binV_lss, Nat.reducePow, Nat.reduceLT, Nat.reduceEqDiff, if_false, reduceIte]
    intro j hj
    simp (disch := omega) only [putT_lo (d := 7)]
  rintro t2 ⟨h47, hlo2⟩
  by_cases hlt : j < next.length
  case neg =>
    have : j = next.length := by omega
    subst this
    refine WK.cond (v := false) (by rw [evalO_tmp, h47, decide_eq_false (by omega)]; rfl) (WK.exit ?_)
    have hm := hS.mid
    have hno := hS.no
    rw [List.take_length] at hm hno
    exact hK1 t2 H bs bm seen more ⟨hS.fx.lo (hlo2.mono (by omega)), hS.hs.lo (hlo2.mono (by omega)), hS.aw, hS.al, hS.anx, hm, hS.sn, hno, (hlo2 11 (by omega)).trans q11⟩
  refine WK.cond (v := true) (by rw [evalO_tmp, h47, decide_eq_true (by omega)]; rfl) (WK.skip ?_)
  obtain ⟨y, hy⟩ : ∃ s, next[j]? = some s := ⟨next[j], by simp [hlt]⟩
  have htk : next.take (j + 1) = next.take j ++ [y] := by rw [List.take_add_one, hy]; rfl
  have hxy : (x, y) ∈ ws := (hsc.mem y).1 (List.mem_of_getElem? hy)
  have hinc : ∀ z ∈ next.take j, z < y := by
    have h1 : next = next.take j ++ (y :: next.drop (j + 1)) := by
      have h2 := List.take_append_drop (j + 1) next
      rw [htk, List.append_assoc] at h2; exact h2.symm
    have h3 := hsc.inc
    rw [h1] at h3
    intro z hz
    exact (List.pairwise_append.1 h3).2.2 z hz y (by simp)
  obtain ⟨b1, m1, m2, m3⟩ := hN.read hy
  -- the last region, and on
  have nxt : ∀ (t5 : T Value) (H5 : Hp) (seen5 : List Int) (more5 : List (List Int)) (bs5 bm5 : Nat), KS H0 v0 n wv i lv nv ws seen0 (done ++ l :: rest) done l (next.take (j + 1)) next j t5 H5 seen5 more5 bs5 bm5 →
      WK Tb0 sp e cx23 (.reg rnd_r29) t5 ds H5 (fun x_1 t1 ds1 H1 => match x_1 with
        | .normal => ∃ m, m < next.length - j ∧ ds1 = ds ∧ ∃ (j : Nat) (seen' : List Int) (more' : List (List Int)) (bs' bm' : Nat), m = next.length - j ∧ j ≤ next.length ∧ KS H0 v0 n wv i lv nv ws seen0 (done ++ l :: rest) done l (next.take j) next j t1 H1 seen' more' bs' bm'
        | y => inBl 4 K y t1 ds1 H1) := by
    intro t5 H5 seen5 more5 bs5 bm5 h5
    have hwr : wrapF .i64 ((j : Int) + 1) = ((j + 1 : Nat) : Int) := by rw [wrapF_i64 (by omega) (by omega)]; omega
    refine WK.reg_rr (fun t' => Lo 11 t5 t' ∧ t'.get 11 = vI (j + 1 : Nat)) ?_ ?_
    · simp (config := { maxSteps := 1000000 }) only [rnd_r29, WOR, wants_none', run, evalO_tmp, evalO_const, Rv_eq, Ro_some, ok_zero, true_and, get_putT (d := 7), h5.j, binV_add, hwr, Nat.reducePow, Nat.reduceLT, Nat.reduceEqDiff, if_false, reduceIte, and_true]
      intro j hj
      simp (disch := omega) only [putT_lo (d := 7)]
    rintro t6 ⟨hlo6, q11⟩
    exact ⟨next.length - (j + 1), by omega, rfl, j + 1, seen5, more5, bs5, bm5, rfl, by omega, ⟨h5.fx.lo hlo6, h5.hs.lo hlo6, h5.aw, h5.al, h5.anx, h5.mid, h5.sn, h5.no, q11⟩⟩
  have p1 := (hlo2 1 (by omega)).trans q1
  have p9 := (hlo2 9 (by omega)).trans q9
  have p10 := (hlo2 10 (by omega)).trans q10
  have p11 := (hlo2 11 (by omega)).trans q11
  refine WK.seq (WK.block (WK.seq (WK.seq (WK.reg_rr (fun t' => t'.get 55 = .bool (decide (y = n)) ∧ Lo 12 t2 t') ?_ ?_))))
  · simp (config := { maxSteps := 1000000 }) only [rnd_r11, WOR, wants_none', run, evalO_tmp, evalO_const, Rv_eq, Ro_some, ok_zero, true_and, get_putT (d := 7), p1, p10, p11, m1, m2, m3, exEq_int, Bc_f, Nat.reducePow, Nat.reduceLT, Nat.reduceEqDiff, if_false, reduceIte]
    intro j hj
    simp (disch := omega) only [putT_lo (d := 7)]
  rintro t3 ⟨h55, hlo3⟩
  have r9 := (hlo3 9 (by omega)).trans p9
  by_cases hyn : y = n
  · subst hyn
    refine WK.cond (v := true) (by rw [evalO_tmp, h55, decide_eq_true rfl]; rfl) (WK.seq (WK.reg_rr (fun t' => t'.get 4 = lv) ?_ ?_))
    · simp (config := { maxSteps := 1000000 }) only [rnd_r12, WOR, wants_none', run, evalO_tmp, Rv_eq, ok_zero, true_and, get_putT (d := 7), r9, Nat.reducePow, Nat.reduceLT, Nat.reduceEqDiff, reduceIte, and_self]
    intro t4 h4
    exact WK.ret (hK2 t4 H hS.hs.kept h4 ⟨bs, bm, hS.al⟩ hxy)
  refine WK.cond (v := false) (by rw [evalO_tmp, h55, decide_eq_false hyn]; rfl) (WK.skip ?_)
  have hno' : n ∉ next.take (j + 1) := by
    rw [htk, List.mem_append]
    rintro (h | h)
    · exact hS.no h
    · simp at h; exact hyn h.symm
  refine WK.seq (WK.reg_rr (fun t' => t'.get 12 = .bool false ∧ Lo 12 t3 t') ?_ ?_)
  · simp (config := { maxSteps := 1000000 }) only [rnd_r13, WOR, wants_none', run, evalO_const, Rv_eq, ok_zero, true_and, get_putT (d := 7), Nat.reducePow, Nat.reduceLT, Nat.reduceEqDiff, reduceIte]
    intro j hj
    simp (disch := omega) only [putT_lo (d := 7)]
  rintro t4 ⟨h12, hlo4⟩
  refine WK.seq (WK.seq (WK.reg_rr (fun t' => t'.get 13 = vI (0 : Nat) ∧ Lo 13 t4 t') ?_ ?_))
  · simp (config := { maxSteps := 1000000 }) only [rnd_r14, WOR, wants_none', run, evalO_const, Rv_eq, ok_zero, true_and, get_putT (d := 7), Nat.reducePow, Nat.reduceLT, Nat.reduceEqDiff, reduceIte]
    refine ⟨rfl, fun j hj => ?_⟩
    simp (disch := omega) only [putT_lo (d := 7)]
  rintro t5 ⟨h13, hlo5⟩
  have hl5 : Lo 12 t1 t5 := ((hlo2.trans hlo3).trans hlo4).trans (hlo5.mono (by omega))
  refine known_ok (hS.hs.s.numsR he) hN hy (by omega) (hl5 5 (by omega)) ((hl5 10 (by omega)).trans q10) ((hl5 11 (by omega)).trans q11) ((hlo5 12 (by omega)).trans h12) h13 ?_
  intro t6 hlo6 h12
  refine WK.seq (WK.reg_rr (fun t' => t'.get 76 = .bool (!decide (y ∈ seen)) ∧ Lo 12 t6 t') ?_ ?_)
  · simp (config := { maxSteps := 1000000 }) only [rnd_r19, WOR, wants_none', run, evalO_tmp, Rv_eq, ok_zero, true_and, get_putT (d := 7), h12, exUn_not, Nat.reducePow, Nat.reduceLT, Nat.reduceEqDiff, reduceIte]
    intro j hj
    simp (disch := omega) only [putT_lo (d := 7)]
  rintro t7 ⟨h76, hlo7⟩
  have hl7 : Lo 12 t1 t7 := (hl5.trans hlo6).trans hlo7
  by_cases hys : y ∈ seen
  · refine WK.cond (v := false) (by rw [evalO_tmp, h76, decide_eq_true hys]; rfl) (WK.skip ?_)
    refine nxt t7 H seen more bs bm ⟨hS.fx.lo (hl7.mono (by omega)), hS.hs.lo (hl7.mono (by omega)), hS.aw, hS.al, hS.anx, ?_, hS.sn, hno', (hl7 11 (by omega)).trans q11⟩
    rw [htk]
    exact hS.mid.known hL hx hxy hys hinc
  refine WK.cond (v := true) (by rw [evalO_tmp, h76, decide_eq_false hys]; rfl) ?_
  have hkept := hS.hs.kept
  have hne := hS.hs.ne
  have hos := hS.hs.s
  obtain ⟨vs, hom, hwl2⟩ := hS.hs.m
  have hnx := hkept.nx
  have ho5 : t7.get 5 = t1.get 5 := hl7 5 (by omega)
  have ho7 : t7.get 7 = t1.get 7 := hl7 7 (by omega)
  have u9 := (hl7 9 (by omega)).trans q9
  have u10 := (hl7 10 (by omega)).trans q10
  have u11 := (hl7 11 (by omega)).trans q11
  -- seen
  obtain ⟨s', H3, r3, w3, a1, a2, a3, a4, a5, a6⟩ := app_val (e := e) (by_ := 8) (w := vI y) hos he hf (by omega) (by simp; omega)
  have hfil : ∀ (t' : T Value), t'.get 81 = .int .i64 y → fillL t' [.int .i64 0] [(0, 1, .tmp 81)] = some [.int .i64 y] := fun t' h => fillL_one (by rw [evalO_tmp, h]; rfl)
  refine WK.seq (WK.reg_gg (fun t' H' => Lo 5 t7 t' ∧ (∀ j, 5 < j → j < 12 → t'.get j = t7.get j) ∧ t'.get 5 = s' ∧ H' = H3) ?_ ?_)
  · simp (config := { maxSteps := 1000000 }) only [rnd_r20, WOG, wants_none', run, evalO_tmp, evalO_const, Rv_eq, Ro_some, ok_zero, true_and, get_putT (d := 7), ho5, u10, u11, m1, m2, m3, hfil, exFill_some, alloc_bsl hf, Nat.reducePow, Nat.reduceLT, Nat.reduceEqDiff, reduceIte, Nat.le_refl]
    refine ⟨by rw [nx_push]; omega, ?_⟩
    rw [a1]
    simp (config := { maxSteps := 1000000 }) only [get_putT (d := 7), Nat.reducePow, Nat.reduceLT, Nat.reduceEqDiff, reduceIte, and_true]
    refine ⟨a2, by rw [nx_push]; omega, fun j hj => ?_, fun j hj hj2 => ?_⟩
    · simp (disch := omega) only [putT_lo (d := 7)]
    · rw [get_putT (by omega) (by omega), if_neg (by omega)]
      simp (disch := omega) only [putT_lo (d := 7)]
  rintro t8 H' ⟨hlo8, hmi8, h8s, rfl⟩
  have st3 : Step H bs bm H' (H.nx + 1) bm := ⟨a5, by omega, fun c hc h1 _ => a6 c hc h1, .inr (by omega), .inl rfl⟩
  have hl3 := hS.al.step st3
  have x9 := (hmi8 9 (by omega) (by omega)).trans u9
  -- longer
  refine WK.seq (WK.reg_gg (fun t' H4 => Lo 12 t8 t' ∧ Kept H' H4 ∧ ∃ b, Own H'.nx 3 H4 b (t'.get 14) []) ?_ ?_)
  · simp (config := { maxSteps := 1000000 }) only [rnd_r21, WOG, wants_none', run, evalO_tmp, Rv_eq, ok_zero, true_and, fillL_nil, exFill_some, alloc_bsl a5, get_putT (d := 7), Nat.reducePow, Nat.reduceLT, Nat.reduceEqDiff, reduceIte, nx_push]
    refine ⟨Nat.le_succ _, Nat.le_refl _, fun j hj => ?_, ⟨by rw [isFn_push]; exact a5, by rw [nx_push]; omega, fun b hb => blk_push_old (fn_room a5) _ hb⟩, H'.nx, Own.new a5 (Nat.le_refl _) []⟩
    simp (disch := omega) only [putT_lo (d := 7)]
  rintro t9 H4 ⟨hlo9, hk4, ho4⟩
  refine WK.seq (WK.seq (WK.reg_rr (fun t' => t'.get 15 = vI (0 : Nat) ∧ Lo 15 t9 t') ?_ ?_))
  · simp (config := { maxSteps := 1000000 }) only [rnd_r22, WOR, wants_none', run, evalO_const, Rv_eq, ok_zero, true_and, get_putT (d := 7), Nat.reducePow, Nat.reduceLT, Nat.reduceEqDiff, reduceIte]
    refine ⟨rfl, fun j hj => ?_⟩
    simp (disch := omega) only [putT_lo (d := 7)]
  rintro t10 ⟨h15, hlo10⟩
  refine copy_ok (H1 := H') (l := l) (by omega) (fun Hx hkx => (hl3.step (.of_kept hkx)).numsR he) (by omega) hk4 (by rw [hlo10 14 (by omega)]; exact ho4) ((hlo10 9 (by omega)).trans ((hlo9 9 (by omega)).trans x9)) h15 ?_
  rintro t11 H5 hlo11 hk5 ⟨bl, hol⟩
  have hf5 := hk5.fn
  have hnx5 := hk5.nx
  have hlo : Lo 12 t8 t11 := (hlo9.trans (hlo10.mono (by omega))).trans (hlo11.mono (by omega))
  have y10 := (hlo 10 (by omega)).trans ((hmi8 10 (by omega) (by omega)).trans u10)
  have y11 := (hlo 11 (by omega)).trans ((hmi8 11 (by omega) (by omega)).trans u11)
  obtain ⟨lg, hlg⟩ : ∃ lg, t11.get 14 = lg := ⟨_, rfl⟩
  rw [hlg] at hol
  obtain ⟨l', H6, r6, w6, c1, c2, c3, c4, c5, c6⟩ := app_val (e := e) (by_ := 8) (w := vI y) hol (by omega) hf5 (by omega) (by simp; omega)
  have hk6 : Kept H' H6 := ⟨c5, by omega, fun c hc => by
    have := hol.ge
    rw [c6 c (by omega) (by omega)]; exact hk5.old c hc⟩
  obtain ⟨d1, d2, d3, d4⟩ := (show ∃ b, exIaS 1 nv (vI j) H5 = .val (.pointer (some ⟨b, j, none⟩)) H5 0 0 ∧ exLd1 (.pointer (some ⟨b, j, none⟩)) H5 = .val (vI y) H5 (bit b) 0 ∧ e.ok (bit b) 0 H5 from (((hS.anx.step st3).step (.of_kept hk5)).numsR he).read hy)
  have hfil2 : ∀ (t' : T Value), t'.get 102 = .int .i64 y → fillL t' [.int .i64 0] [(0, 1, .tmp 102)] = some [.int .i64 y] := fun t' h => fillL_one (by rw [evalO_tmp, h]; rfl)
  refine WK.seq (WK.reg_gg (fun t' H' => Lo 12 t11 t' ∧ t'.get 14 = l' ∧ H' = H6) ?_ ?_)
  · simp (config := { maxSteps := 1000000 }) only [rnd_r27, WOG, wants_none', run, evalO_tmp, evalO_const, Rv_eq, Ro_some, ok_zero, true_and, get_putT (d := 7), hlg, y10, y11, d2, d3, d4, hfil2, exFill_some, alloc_bsl hf5, Nat.reducePow, Nat.reduceLT, Nat.reduceEqDiff, reduceIte, Nat.le_refl]
    refine ⟨by rw [nx_push]; omega, ?_⟩
    rw [c1]
    simp (config := { maxSteps := 1000000 }) only [get_putT (d := 7), Nat.reducePow, Nat.reduceLT, Nat.reduceEqDiff, reduceIte, and_true]
    refine ⟨c2, by rw [nx_push]; omega, fun j hj => ?_⟩
    simp (disch := omega) only [putT_lo (d := 7)]
  rintro t12 H'' ⟨hlo12, h14, rfl⟩
  -- more
  have st6 : Step H bs bm H'' (H.nx + 1) bm := ⟨c5, by omega, fun c hc h1 h2 => by rw [hk6.old c (by omega)]; exact a6 c hc h1, .inr (by omega), .inl rfl⟩
  have hom6 : Own H0.nx 138 H'' bm (t1.get 7) vs := hom.of_blk (by rw [hk6.old bm (by have := hom.lt; omega)]; exact a6 bm hom.lt (fun h => hne h.symm))
  obtain ⟨m', H7, r7, w7, e1, e2, e3, e4, e5, e6⟩ := app_val (e := e) (by_ := 24) (w := l') hom6 he c5 (by omega) (by rw [hwl2.len]; have := hS.sn.len; omega)
  have z7 : t12.get 7 = t1.get 7 := by rw [hlo12 7 (by omega), hlo 7 (by omega), hmi8 7 (by omega) (by omega), ho7]
  obtain ⟨bl', op', cl', hrow', hform'⟩ : ∃ bl' op cl', Row H'' (H5.nx + 1) 3 op (l.map vI ++ [vI y]) ∧ l' = .slice (some ⟨H5.nx + 1, 0, none⟩) bl' cl' := by
    obtain ⟨op, cc, g1, g2⟩ := c4.row
    exact ⟨_, op, cc, g1, g2⟩
  have hcell : cellsO l' = some [l'] := by rw [hform']; rfl
  have hfil3 : ∀ (t' : T Value), t'.get 106 = l' → fillL t' [.slice none 0 0] [(0, 1, .tmp 106)] = some [l'] := fun t' h => fillL_one (by rw [evalO_tmp, h]; exact hcell)
  have hfil4 : ∀ (t' : T Value), t'.get 107 = .agg ⟨[l']⟩ → fillL t' [.slice none 0 0] [(0, 1, .tmp 107)] = some [l'] := fun t' h => fillL_one (by rw [evalO_tmp, h]; rfl)
  refine WK.reg_gg (fun t' H' => Lo 7 t12 t' ∧ (∀ j, 7 < j → j < 12 → t'.get j = t12.get j) ∧ t'.get 7 = m' ∧ H' = H7) ?_ ?_
  · simp (config := { maxSteps := 1000000 }) only [rnd_r28, WOG, wants_none', run, evalO_tmp, evalO_const, Rv_eq, Ro_some, ok_zero, true_and, get_putT (d := 7), z7, h14, hfil3, hfil4, exFill_some, alloc_bsl c5, Nat.reducePow, Nat.reduceLT, Nat.reduceEqDiff, reduceIte, Nat.le_refl]
    refine ⟨by rw [nx_push]; omega, ?_⟩
    rw [e1]
    simp (config := { maxSteps := 1000000 }) only [get_putT (d := 7), Nat.reducePow, Nat.reduceLT, Nat.reduceEqDiff, reduceIte, and_true]
    refine ⟨e2, by rw [nx_push]; omega, fun j hj => ?_, fun j hj hj2 => ?_⟩
    · simp (disch := omega) only [putT_lo (d := 7)]
    · rw [get_putT (by omega) (by omega), if_neg (by omega)]
      simp (disch := omega) only [putT_lo (d := 7)]
  rintro t13 H8 ⟨hlo13, hmi13, h7, rfl⟩
  have st8 : Step H bs bm H8 (H.nx + 1) (H''.nx + 1) := ⟨e5, by omega, fun c hc h1 h2 => by rw [e6 c (by omega) h2]; exact st6.old c hc h1 h2, .inr (by omega), .inr (by omega)⟩
  have gl : ∀ j, j < 12 → j ≠ 5 → j ≠ 7 → t13.get j = t1.get j := fun j h1 h2 h3 => by
    have g1 : t13.get j = t12.get j := by
      rcases Nat.lt_or_ge j 7 with h | h
      · exact hlo13 j h
      · exact hmi13 j (by omega) h1
    have g2 : t8.get j = t7.get j := by
      rcases Nat.lt_or_ge j 5 with h | h
      · exact hlo8 j h
      · exact hmi8 j (by omega) h1
    rw [g1, hlo12 j h1, hlo j h1, g2, hl7 j h1]
  have h5 : t13.get 5 = s' := by rw [hlo13 5 (by omega), hlo12 5 (by omega), hlo 5 (by omega), h8s]
  have hos8 : Own H0.nx 3 H8 (H.nx + 1) s' ((seen ++ [y]).map vI) := by
    rw [List.map_append]
    exact a4.of_blk (by rw [e6 (H.nx + 1) (by omega) (by have := hom.lt; omega)]; exact hk6.old _ (by omega))
  have hway : WayAt H0.nx H8 (H.nx + 1) (H''.nx + 1) l' (l ++ [y]) := by
    obtain ⟨op, cc, g1, g2⟩ := c4.row
    refine ⟨H5.nx + 1, op, cc, by rw [g2]; simp, ?_, by omega, by omega, by omega⟩
    rw [List.map_append]
    exact g1.of_blk (e6 _ (by omega) (by have := hom.lt; omega))
  refine nxt t13 H8 (seen ++ [y]) (more ++ [l ++ [y]]) (H.nx + 1) (H''.nx + 1) ⟨⟨?_, ?_, ?_, ?_, ?_, ?_⟩, ⟨⟨e5, by omega, fun c hc => ?_⟩, by omega, by rw [h5]; exact hos8, ⟨vs ++ [l'], by rw [h7]; exact e4, (hwl2.step st8).snoc hway⟩⟩, hS.aw.step st8, hS.al.step st8, hS.anx.step st8, ?_, ⟨?_, ?_, ?_⟩, hno', ?_⟩
  · rw [gl 0 (by omega) (by omega) (by omega)]; exact q0
  · rw [gl 1 (by omega) (by omega) (by omega)]; exact q1
  · rw [gl 6 (by omega) (by omega) (by omega)]; exact q6
  · rw [gl 8 (by omega) (by omega) (by omega)]; exact q8
  · rw [gl 9 (by omega) (by omega) (by omega)]; exact q9
  · rw [gl 10 (by omega) (by omega) (by omega)]; exact q10
  · have g1 := hos.ge
    have g2 := hom.ge
    rw [st8.old c (by omega) (by omega) (by omega)]; exact hkept.old c hc
  · rw [htk]; exact hS.mid.new hL hx hxy hys hinc
  · rw [List.nodup_append]
    exact ⟨hS.sn.nd, by simp, fun a ha b hb => by simp at hb; subst hb; exact fun hab => hys (hab ▸ ha)⟩
  · intro z hz
    rcases List.mem_append.1 hz with hz | hz
    · exact hS.sn.sub z hz
    · simp at hz; subst hz; exact ⟨x, hxy⟩
  · have := hS.sn.len; simp; omega
  · rw [gl 11 (by omega) (by omega) (by omega)]; exact q11
end
end Go.Proofs.K25
end

noncomputable section
set_option linter.unusedSimpArgs false
set_option linter.unusedVariables false
namespace Go.Proofs.K25
open Go Go.Ev Go.Proofs Go.Cyc
theorem succs_len {ws : Ws} {x : Int} {L : List Int} (h : Succs ws x L) : L.length ≤ ws.length := by
  have := nodup_le (L.map fun y => (x, y)) ws (by
    have hn : L.Nodup := h.inc.imp fun hlt e => by omega
    exact List.Pairwise.map _ (fun a b hab e => hab (Prod.mk.inj e).2) hn) (fun p hp => by
    obtain ⟨y, hy, rfl⟩ := List.mem_map.1 hp; exact (h.mem y).1 hy)
  simpa using this
theorem WayAt.drop {N : Nat} {H : Hp} {bs bm : Nat} {v : Value} {p : List Int} (h : WayAt N H bs bm v p) : WayAt N H bs bs v p := by
  obtain ⟨b, op, c, h1, h2, h3, h4, h5⟩ := h.out; exact ⟨b, op, c, h1, h2, h3, h4, h4⟩
theorem WaysL.drop {N : Nat} {H : Hp} {bs bm : Nat} {vs : List Value} {ps : List (List Int)} (h : WaysL N H bs bm vs ps) : WaysL N H bs bs vs ps :=
  ⟨h.len, fun i p hp => let ⟨v, h1, h2⟩ := h.at_ i p hp; ⟨v, h1, h2.drop⟩⟩
theorem callV_func (f : FuncId) (args : List Value) : callV (.func (.func f) #[] #[]) args = .call f args := by
  show R.call f ([] ++ (args ++ [])) = _
  simp
/-- the state at the head of the loop over ways -/
structure IS (H0 : Hp) (v0 : Value) (n : Int) (wv : Value) (ws : Ws) (seen0 : List Int) (ways : List (List Int)) (i : Nat) (t : T Value) (H : Hp) (seen : List Int) (more : List (List Int)) (bs bm : Nat) : Prop where
  g0 : t.get 0 = v0
  g1 : t.get 1 = vI n
  g6 : t.get 6 = wv
  g8 : t.get 8 = vI i
  hs : HS H0 H t seen more bs bm
  aw : WaysAt H0.nx H bs bm wv ways
  mid : ∀ l, Mid ws n seen0 (ways.take i) l [] seen more
  sn : Sn ws seen0 seen more
  no : ∀ p ∈ ways.take i, ∀ z, Wk ws n p z → (z, n) ∉ ws
section
variable {sp : Nat → List Value → Hp → Option (Value × Hp × Nat × Nat)} {e : Env}
set_option maxRecDepth 10000 in
set_option maxHeartbeats 4000000 in
theorem iloop_ok (hsp : ∀ args H, sp 57 args H = none) {H0 H : Hp} {t : T Value} {ds : List Deferred} {v0 : Value} {n : Int} {ws : Ws} {k : Nat} {seen0 : List Int} {ways : List (List Int)} {wv : Value} {seen : List Int} {more : List (List Int)} {bs bm : Nat} {c : Code} {K : Ex → T Value → List Deferred → Hp → Prop}
    (he : e.n0 ≤ H0.nx) (hwl : ws.length < 1099511627776) (hkl : k ≤ ws.length) (hwn : ways.length ≤ ws.length + 1) (hpw : ∀ H', Kept H0 H' → PairsR e H' v0 ws) (hL : Lay ws n k seen0 ways)
    (h0 : IS H0 v0 n wv ws seen0 ways 0 t H seen more bs bm)
    (hK1 : ∀ t' H' bs' bm' seen' more', IS H0 v0 n wv ws seen0 ways ways.length t' H' seen' more' bs' bm' → K .normal t' ds H')
    (hK2 : ∀ t' H' r lv, Kept H0 H' → t'.get 4 = lv → (∃ bs bm, WayAt H0.nx H' bs bm lv (n :: r)) → Clo ws n (n :: r) → (∀ l', Clo ws n (n :: l') → r.length ≤ l'.length ∧ (l'.length = r.length → Le r l')) → K .ret t' ds H') : WK Tb0 sp e cx23 (.block 2 (.loop c rnd_l32)) t ds H K := by
  refine WK.block (WK.loop_ind (fun N t' ds' H' => ds' = ds ∧ ∃ (i : Nat) (seen' : List Int) (more' : List (List Int)) (bs' bm' : Nat), N = ways.length - i ∧ i ≤ ways.length ∧ IS H0 v0 n wv ws seen0 ways i t' H' seen' more' bs' bm') ?_ (ways.length) t ds H ⟨rfl, 0, seen, more, bs, bm, by omega, by omega, h0⟩)
  clear h0
  rintro N t1 ds H ⟨rfl, i, seen, more, bs, bm, rfl, hi, hS⟩
  obtain ⟨q0, q1, q6, q8⟩ := (⟨hS.g0, hS.g1, hS.g6, hS.g8⟩ : _ ∧ _ ∧ _ ∧ _)
  have k0 := hS.aw.len
  have hkept := hS.hs.kept
  have hf := hkept.fn
  have hnx := hkept.nx
  unfold rnd_l32
  refine WK.seq (WK.seq (WK.reg_rr (fun t' => t'.get 28 = .bool (decide ((i : Int) < (ways.length : Int))) ∧ Lo 9 t1 t') ?_ ?_))
  · simp (config := { maxSteps := 1000000 }) only [rnd_r6, WOR, wants_none', run, evalO_tmp, evalO_const, Rv_eq, Ro_some, ok_zero, true_and, get_putT (d := 7), q6, q8, k0, binV_lss, Nat.reducePow, Nat.reduceLT, Nat.reduceEqDiff, if_false, reduceIte]
    intro j hj
    simp (disch := omega) only [putT_lo (d := 7)]
  rintro t2 ⟨h28, hlo2⟩
  have hs2 : IS H0 v0 n wv ws seen0 ways i t2 H seen more bs bm := ⟨(hlo2 0 (by omega)).trans q0, (hlo2 1 (by omega)).trans q1, (hlo2 6 (by omega)).trans q6, (hlo2 8 (by omega)).trans q8, ⟨hkept, hS.hs.ne, by rw [hlo2 5 (by omega)]; exact hS.hs.s, by rw [hlo2 7 (by omega)]; exact hS.hs.m⟩, hS.aw, hS.mid, hS.sn, hS.no⟩
  by_cases hlt : i < ways.length
  case neg =>
    have : i = ways.length := by omega
    subst this
    refine WK.cond (v := false) (by rw [evalO_tmp, h28, decide_eq_false (by omega)]; rfl) (WK.exit ?_)
    exact hK1 t2 H bs bm seen more hs2
  refine WK.cond (v := true) (by rw [evalO_tmp, h28, decide_eq_true (by omega)]; rfl) (WK.skip ?_)
  obtain ⟨l, hl⟩ : ∃ l, ways[i]? = some l := ⟨ways[i], by simp [hlt]⟩
  have htk : ways.take (i + 1) = ways.take i ++ [l] := by rw [List.take_add_one, hl]; rfl
  have hdec : ways = ways.take i ++ l :: ways.drop (i + 1) := by
    have h2 := List.take_append_drop (i + 1) ways
    rw [htk, List.append_assoc] at h2; exact h2.symm
  obtain ⟨⟨x, hx⟩, hll⟩ := hL.wk l (List.mem_of_getElem? hl)
  have hlast := hx.last
  rw [List.getLast?_eq_getElem?] at hlast
  obtain ⟨b1, lv, m1, m2, m3, m4, hway⟩ := hS.aw.read he hl
  have p6 := hs2.g6
  have p8 := hs2.g8
  refine WK.seq (WK.block (WK.seq (WK.reg_rr (fun t' => t'.get 9 = lv ∧ Lo 9 t2 t') ?_ ?_)))
  · simp (config := { maxSteps := 1000000 }) only [rnd_r7, WOR, wants_none', run, evalO_tmp, evalO_const, Rv_eq, Ro_some, ok_zero, true_and, get_putT (d := 7), p6, p8, m1, m2, m3, m4, Nat.reducePow, Nat.reduceLT, Nat.reduceEqDiff, if_false, reduceIte]
    intro j hj
    simp (disch := omega) only [putT_lo (d := 7)]
  rintro t3 ⟨h9, hlo3⟩
  have hN := hway.numsR he
  have k1 := hN.len
  obtain ⟨b2, n1, n2, n3⟩ := hN.read hlast
  have hwr : wrapF .i64 ((l.length : Int) - 1) = ((l.length - 1 : Nat) : Int) := by rw [wrapF_i64 (by omega) (by omega)]; omega
  have p0 := (hlo3 0 (by omega)).trans hs2.g0
  refine WK.seq (WK.reg_gg (fun t' H' => t'.get 9 = lv ∧ Lo 9 t3 t' ∧ AfterK H ws x (t'.get 10) H') ?_ ?_)
  · simp (config := { maxSteps := 1000000 }) only [rnd_r8, WOG, WOGk, wants_none', run, evalO_tmp, evalO_const, evalO_func, evalL, callV_func, Rv_eq, Ro_some, ok_zero, true_and, get_putT (d := 7), h9, p0, k1, n1, n2, n3, binV_sub, hwr, Nat.reducePow, Nat.reduceLT, Nat.reduceEqDiff, reduceIte, Nat.le_refl]
    refine (after_ok hsp hf (by omega) (hpw H hkept) hwl).mono fun v H' hle hv => ?_
    simp (config := { maxSteps := 1000000 }) only [WOG, WOGk, wants_none', run, evalO_tmp, Rv_eq, ok_zero, true_and, get_putT (d := 7), h9, Nat.reducePow, Nat.reduceLT, Nat.reduceEqDiff, reduceIte, Nat.le_refl]
    refine ⟨fun j hj => ?_, hv⟩
    simp (disch := omega) only [putT_lo (d := 7)]
  rintro t4 H4 ⟨h9, hlo4, hk4, bn, next, hon, hsc⟩
  have hlo24 : Lo 9 t2 t4 := hlo3.trans hlo4
  have st4 : Step H bs bm H4 bs bm := .of_kept hk4
  obtain ⟨nv, hnv⟩ : ∃ nv, t4.get 10 = nv := ⟨_, rfl⟩
  rw [hnv] at hon
  refine WK.seq (WK.reg_rr (fun t' => t'.get 11 = vI (0 : Nat) ∧ Lo 11 t4 t') ?_ ?_)
  · simp (config := { maxSteps := 1000000 }) only [rnd_r9, WOR, wants_none', run, evalO_const, Rv_eq, ok_zero, true_and, get_putT (d := 7), Nat.reducePow, Nat.reduceLT, Nat.reduceEqDiff, reduceIte]
    refine ⟨rfl, fun j hj => ?_⟩
    simp (disch := omega) only [putT_lo (d := 7)]
  rintro t5 ⟨h11, hlo5⟩
  have hlo25 : Lo 9 t2 t5 := hlo24.trans (hlo5.mono (by omega))
  have hnw : WayAt H0.nx H4 bs bm nv next := by
    obtain ⟨op, cc, g1, g2⟩ := hon.row
    have g3 := hon.ge
    have g4 := hS.hs.s.lt
    obtain ⟨vs, g5, _⟩ := hS.hs.m
    have g6 := g5.lt
    exact ⟨bn, op, cc, by rw [g2]; simp, g1, by omega, by omega, by omega⟩
  have hks : KS H0 v0 n wv i lv nv ws seen0 (ways.take i ++ l :: ways.drop (i + 1)) (ways.take i) l [] next 0 t5 H4 seen more bs bm := by
    refine ⟨⟨(hlo25 0 (by omega)).trans hs2.g0, (hlo25 1 (by omega)).trans hs2.g1, (hlo25 6 (by omega)).trans hs2.g6, (hlo25 8 (by omega)).trans hs2.g8, (hlo5 9 (by omega)).trans h9, (hlo5 10 (by omega)).trans hnv⟩,
      ⟨hkept.trans hk4, hs2.hs.ne, ?_, ?_⟩, ?_, hway.step st4, hnw, hS.mid l, hS.sn, by simp, h11⟩
    · rw [hlo25 5 (by omega)]
      exact hs2.hs.s.of_blk (hk4.old _ hs2.hs.s.lt)
    · rw [hlo25 7 (by omega)]
      obtain ⟨vs, g1, g2⟩ := hs2.hs.m
      exact ⟨vs, g1.of_blk (hk4.old _ g1.lt), g2.step st4⟩
    · rw [← hdec]; exact hS.aw.step st4
  refine kloop_ok he hwl (by omega) (hdec ▸ hL) hx hsc (succs_len hsc) hks ?_ ?_
  · intro t6 H6 bs6 bm6 seen6 more6 h6
    have hwr2 : wrapF .i64 ((i : Int) + 1) = ((i + 1 : Nat) : Int) := by rw [wrapF_i64 (by omega) (by omega)]; omega
    have g8 := h6.fx.g8
    refine WK.reg_rr (fun t' => Lo 8 t6 t' ∧ t'.get 8 = vI (i + 1 : Nat)) ?_ ?_
    · simp (config := { maxSteps := 1000000 }) only [rnd_r31, WOR, wants_none', run, evalO_tmp, evalO_const, Rv_eq, Ro_some, ok_zero, true_and, get_putT (d := 7), g8, binV_add, hwr2, Nat.reducePow, Nat.reduceLT, Nat.reduceEqDiff, if_false, reduceIte, and_true]
      intro j hj
      simp (disch := omega) only [putT_lo (d := 7)]
    rintro t7 ⟨hlo7, g8⟩
    refine ⟨ways.length - (i + 1), by omega, rfl, i + 1, seen6, more6, bs6, bm6, rfl, by omega, ⟨(hlo7 0 (by omega)).trans h6.fx.g0, (hlo7 1 (by omega)).trans h6.fx.g1, (hlo7 6 (by omega)).trans h6.fx.g6, g8, ⟨h6.hs.kept, h6.hs.ne, by rw [hlo7 5 (by omega)]; exact h6.hs.s, by rw [hlo7 7 (by omega)]; exact h6.hs.m⟩, by have := h6.aw; rwa [← hdec] at this, fun l' => ?_, h6.sn, fun p hp z hz => ?_⟩⟩
    · rw [htk]; exact h6.mid.next hx hsc.mem
    · rw [htk, List.mem_append] at hp
      rcases hp with hp | hp
      · exact hS.no p hp z hz
      · simp at hp; subst hp
        rw [hz.fn hx]
        exact fun hh => h6.no ((hsc.mem n).2 hh)
  · rintro t6 H6 hk6 h4 ⟨bs6, bm6, hw6⟩ hxn
    obtain ⟨r, rfl, hc, hbest⟩ := Lay.found (hdec ▸ hL) hx hxn hS.no
    exact hK2 t6 H6 r lv hk6 h4 ⟨bs6, bm6, hw6⟩ hc hbest
end
end Go.Proofs.K25
end
