/-
  A part of the proof that pliantlaw16.MeanConditions returns true and leaves its arguments alone. Conditions: those of the card in the last text.
-/
import Derived.Test.YtdmcanlbncbemaaGreatDoorG13
import Derived.Test.YtdmcanlbncbemaaGreatDoorG14
set_option linter.unusedSimpArgs false
set_option linter.unusedVariables false
set_option linter.unusedSectionVars false
noncomputable section
namespace Go.Proofs.MN
open Go Go.Ev Go.Proofs
noncomputable def snap_body : Code := (Tryz.f33.body).getD .skip
def snap_r0 : List CO := [
    ⟨(some 2), none, .alloc (blkL [.int .i64 (0), .int .i64 (0), .int .i64 (0), .int .i64 (0), .int .i64 (0), .int .u64 (0), .bool false] 68 0)⟩]
def snap_r1 : List CO := [
    ⟨(some 8), none, .mv (.tmp 0)⟩,
    ⟨(some 9), none, .eq false (.one .p) (.tmp 8) (.const (.pointer none))⟩]
def snap_r2 : List CO := [
    ⟨(some 10), none, .build [.int .i64 (0), .int .i64 (0), .int .i64 (0), .int .i64 (0), .int .i64 (0), .int .u64 (0), .bool false] [(6, 1, (.const (.bool true)))]⟩,
    ⟨none, none, .st 7 (.tmp 2) (.tmp 10)⟩]
def snap_r3 : List CO := [
    ⟨(some 12), none, .mv (.tmp 0)⟩,
    ⟨(some 13), none, .nilc (.tmp 12)⟩,
    ⟨(some 14), none, .fa 6 (.tmp 13)⟩,
    ⟨(some 15), none, .ld1 (.tmp 14)⟩,
    ⟨(some 16), none, .call (.func 51) [(.tmp 15), (.const (.int .i64 (0))), (.const (.int .i64 (65536)))]⟩,
    ⟨(some 11), none, .mv (.tmp 16)⟩,
    ⟨(some 17), none, .ext (.tmp 11) 0⟩,
    ⟨(some 18), none, .ext (.tmp 11) 1⟩,
    ⟨(some 3), none, .mv (.tmp 17)⟩,
    ⟨(some 4), none, .mv (.tmp 18)⟩]
def snap_r4 : List CO := [
    ⟨(some 19), none, .mv (.tmp 0)⟩,
    ⟨(some 20), none, .nilc (.tmp 19)⟩,
    ⟨(some 21), none, .fa 15 (.tmp 20)⟩,
    ⟨(some 22), none, .ld1 (.tmp 21)⟩,
    ⟨(some 23), none, .mv (.tmp 0)⟩,
    ⟨(some 24), none, .nilc (.tmp 23)⟩,
    ⟨(some 25), none, .fa 19 (.tmp 24)⟩,
    ⟨(some 26), none, .ld1 (.tmp 25)⟩,
    ⟨(some 27), none, .build [.int .i64 (0), .int .i64 (0), .int .i64 (0), .int .i64 (0), .int .i64 (0), .int .u64 (0), .bool false] [(0, 1, (.tmp 22)), (5, 1, (.const (.int .u64 (14695981039346656037)))), (6, 1, (.tmp 26))]⟩,
    ⟨(some 5), none, .alloc (blkL [.int .i64 (0), .int .i64 (0), .int .i64 (0), .int .i64 (0), .int .i64 (0), .int .u64 (0), .bool false] 68 0)⟩,
    ⟨none, none, .st 7 (.tmp 5) (.tmp 27)⟩]
def snap_r5 : List CO := [
    ⟨(some 28), none, .mv (.tmp 3)⟩,
    ⟨(some 29), none, .len 0 (.tmp 28)⟩,
    ⟨(some 30), none, .mv (.const (.int .i64 (0)))⟩]
def snap_r6 : List CO := [
    ⟨(some 31), none, .bin .lss (.tmp 30) (.tmp 29)⟩]
def snap_r7 : List CO := [
    ⟨(some 32), none, .mv (.tmp 30)⟩,
    ⟨(some 6), none, .mv (.tmp 32)⟩]
def snap_r8 : List CO := [
    ⟨(some 33), none, .fa 5 (.tmp 5)⟩,
    ⟨(some 34), none, .ld1 (.tmp 33)⟩,
    ⟨(some 35), none, .mv (.tmp 3)⟩,
    ⟨(some 36), none, .mv (.tmp 6)⟩,
    ⟨(some 37), none, .ixS (.tmp 35) (.tmp 36)⟩,
    ⟨(some 38), none, .cInt .u64 (.tmp 37)⟩,
    ⟨(some 39), none, .bin .xor (.tmp 34) (.tmp 38)⟩,
    ⟨(some 40), none, .bin .mul (.tmp 39) (.const (.int .u64 (1099511628211)))⟩,
    ⟨(some 41), none, .fa 5 (.tmp 5)⟩,
    ⟨none, none, .st 1 (.tmp 41) (.tmp 40)⟩]
def snap_r9 : List CO := [
    ⟨(some 42), none, .bin .add (.tmp 30) (.const (.int .i64 (1)))⟩,
    ⟨(some 30), none, .mv (.tmp 42)⟩]
noncomputable def snap_l10 : KC :=
  (.seq (.reg snap_r6)
  (.seq (.cond (.tmp 31) .skip
   (.exit 0))
  (.seq (.block 1 (.seq (.reg snap_r7)
   (.draw #[0, 1, 0, 0, 12, 28, 63, 127, 255, 511] snap_r8)))
  (.reg snap_r9))))
def snap_r11 : List CO := [
    ⟨(some 43), none, .mv (.tmp 0)⟩,
    ⟨(some 44), none, .nilc (.tmp 43)⟩,
    ⟨(some 45), none, .fa 19 (.tmp 44)⟩,
    ⟨(some 46), none, .ld1 (.tmp 45)⟩,
    ⟨(some 47), none, .un .not (.tmp 46)⟩]
def snap_r12 : List CO := [
    ⟨(some 48), none, .mv (.tmp 0)⟩,
    ⟨(some 49), none, .call (.func 52) [(.tmp 48)]⟩,
    ⟨(some 7), none, .mv (.tmp 49)⟩]
def snap_r13 : List CO := [
    ⟨(some 50), none, .mv (.tmp 0)⟩,
    ⟨(some 51), none, .nilc (.tmp 50)⟩,
    ⟨(some 52), none, .fa 17 (.tmp 51)⟩,
    ⟨(some 53), none, .ld1 (.tmp 52)⟩,
    ⟨(some 54), none, .mv (.tmp 0)⟩,
    ⟨(some 55), none, .nilc (.tmp 54)⟩,
    ⟨(some 56), none, .fa 7 (.tmp 55)⟩,
    ⟨(some 57), none, .ld1 (.tmp 56)⟩,
    ⟨(some 58), none, .len 1 (.tmp 57)⟩,
    ⟨(some 59), none, .mv (.tmp 7)⟩,
    ⟨(some 60), none, .nilc (.tmp 59)⟩,
    ⟨(some 61), none, .fa 0 (.tmp 60)⟩,
    ⟨(some 62), none, .ld1 (.tmp 61)⟩,
    ⟨(some 63), none, .mv (.tmp 7)⟩,
    ⟨(some 64), none, .nilc (.tmp 63)⟩,
    ⟨(some 65), none, .fa 2 (.tmp 64)⟩,
    ⟨(some 66), none, .ld1 (.tmp 65)⟩,
    ⟨(some 67), none, .bin .mul (.const (.int .i64 (8))) (.tmp 66)⟩,
    ⟨(some 68), none, .fa 1 (.tmp 5)⟩,
    ⟨none, none, .st 1 (.tmp 68) (.tmp 53)⟩,
    ⟨(some 69), none, .fa 2 (.tmp 5)⟩,
    ⟨none, none, .st 1 (.tmp 69) (.tmp 58)⟩,
    ⟨(some 70), none, .fa 3 (.tmp 5)⟩,
    ⟨none, none, .st 1 (.tmp 70) (.tmp 62)⟩,
    ⟨(some 71), none, .fa 4 (.tmp 5)⟩,
    ⟨none, none, .st 1 (.tmp 71) (.tmp 67)⟩]
def snap_r14 : List CO := [
    ⟨(some 72), none, .ldN 7 (.tmp 5)⟩,
    ⟨none, none, .st 7 (.tmp 2) (.tmp 72)⟩]
noncomputable def snap_k : KC :=
  (.seq (.reg snap_r0)
  (.seq (.seq (.reg snap_r1)
  (.cond (.tmp 9) (.seq (.reg snap_r2)
   .ret)
   .skip))
  (.seq (.reg snap_r3)
  (.seq (.draw #[0, 1, 3, 7, 0, 16, 48, 112, 255, 0, 1023] snap_r4)
  (.seq (.seq (.reg snap_r5)
  (.block 0 (.loop snap_body.sr.sr.sr.sr.sl.sr.bl.lp snap_l10)))
  (.seq (.seq (.reg snap_r11)
  (.cond (.tmp 47) (.seq (.reg snap_r12)
   (.draw #[0, 1, 3, 7, 0, 16, 48, 112, 240, 0, 512, 1536, 3584, 0, 8192, 24576, 57344, 122880, 15, 262159, 786943, 1835519, 3940351, 8134655, 16777215, 33554431] snap_r13))
   .skip))
  (.seq (.reg snap_r14)
  .ret)))))))
theorem snap_comp : kcomp Tb0 Tryz.f33.ntmps snap_body = snap_k := by kernel_rfl
theorem snap_some : Tryz.f33.body = some snap_body := rfl
noncomputable def mbytes_body : Code := (Tryz.f51.body).getD .skip
def mbytes_r0 : List CO := [
    ⟨(some 6), none, .mv (.const (.string ⟨#[]⟩))⟩,
    ⟨(some 7), none, .mv (.const (.int .i64 (0)))⟩]
def mbytes_r1 : List CO := [
    ⟨(some 8), none, .mv (.tmp 0)⟩,
    ⟨(some 9), none, .eq false (.one .p) (.tmp 8) (.const (.pointer none))⟩]
def mbytes_r2 : List CO := [
    ⟨(some 10), none, .call (.func 54) []⟩,
    ⟨(some 0), none, .mv (.tmp 10)⟩]
def mbytes_r3 : List CO := [
    ⟨(some 11), none, .mv (.tmp 2)⟩,
    ⟨(some 12), none, .bin .lss (.tmp 11) (.const (.int .i64 (0)))⟩,
    ⟨(some 13), none, .mv (.tmp 12)⟩,
    ⟨(some 14), (some (13, false)), .mv (.tmp 2)⟩,
    ⟨(some 15), (some (13, false)), .bin .gtr (.tmp 14) (.const (.int .i64 (65536)))⟩,
    ⟨(some 16), none, .pick (.tmp 13) (.const (.bool true)) (.tmp 15)⟩,
    ⟨(some 17), none, .mv (.tmp 16)⟩,
    ⟨(some 18), (some (17, false)), .mv (.tmp 1)⟩,
    ⟨(some 19), (some (17, false)), .mv (.tmp 2)⟩,
    ⟨(some 20), (some (17, false)), .bin .mul (.const (.int .i64 (8))) (.tmp 19)⟩,
    ⟨(some 21), (some (17, false)), .call (.func 106) [(.tmp 18), (.tmp 20)]⟩,
    ⟨(some 22), (some (17, false)), .un .not (.tmp 21)⟩,
    ⟨(some 23), none, .pick (.tmp 17) (.const (.bool true)) (.tmp 22)⟩]
def mbytes_r4 : List CO := [
    ⟨(some 6), none, .mv (.const (.string ⟨#[]⟩))⟩,
    ⟨(some 7), none, .mv (.const (.int .i64 (8091)))⟩]
def mbytes_r5 : List CO := [
    ⟨(some 24), none, .mv (.tmp 1)⟩,
    ⟨(some 25), none, .bin .rem (.tmp 24) (.const (.int .i64 (8)))⟩,
    ⟨(some 26), none, .eq true (.one .i) (.tmp 25) (.const (.int .i64 (0)))⟩]
def mbytes_r6 : List CO := [
    ⟨(some 6), none, .mv (.const (.string ⟨#[]⟩))⟩,
    ⟨(some 7), none, .mv (.const (.int .i64 (8095)))⟩]
def mbytes_r7 : List CO := [
    ⟨(some 27), none, .mv (.tmp 0)⟩,
    ⟨(some 28), none, .nilc (.tmp 27)⟩,
    ⟨(some 29), none, .fa 0 (.tmp 28)⟩,
    ⟨(some 30), none, .mv (.tmp 1)⟩,
    ⟨(some 31), none, .bin .quo (.tmp 30) (.const (.int .i64 (8)))⟩,
    ⟨(some 32), none, .mv (.tmp 1)⟩,
    ⟨(some 33), none, .bin .quo (.tmp 32) (.const (.int .i64 (8)))⟩,
    ⟨(some 34), none, .mv (.tmp 2)⟩,
    ⟨(some 35), none, .bin .add (.tmp 33) (.tmp 34)⟩,
    ⟨(some 36), none, .slA 65536 1 (.tmp 29) (some (.tmp 31)) (some (.tmp 35)) none⟩,
    ⟨(some 37), none, .cToS (.tmp 36)⟩,
    ⟨(some 6), none, .mv (.tmp 37)⟩,
    ⟨(some 7), none, .mv (.const (.int .i64 (0)))⟩]
noncomputable def mbytes_k : KC :=
  (.seq (.reg mbytes_r0)
  (.seq (.seq (.reg mbytes_r1)
  (.cond (.tmp 9) (.reg mbytes_r2)
   .skip))
  (.seq (.seq (.reg mbytes_r3)
  (.cond (.tmp 23) (.seq (.reg mbytes_r4)
   .ret)
   .skip))
  (.seq (.seq (.reg mbytes_r5)
  (.cond (.tmp 26) (.seq (.reg mbytes_r6)
   .ret)
   .skip))
  (.seq (.reg mbytes_r7)
  .ret)))))
theorem mbytes_comp : kcomp Tb0 Tryz.f51.ntmps mbytes_body = mbytes_k := by kernel_rfl
theorem mbytes_some : Tryz.f51.body = some mbytes_body := rfl
noncomputable def fits_body : Code := (Tryz.f106.body).getD .skip
def fits_r0 : List CO := [
    ⟨(some 4), none, .mv (.const (.bool false))⟩]
def fits_r1 : List CO := [
    ⟨(some 5), none, .mv (.tmp 0)⟩,
    ⟨(some 6), none, .bin .geq (.tmp 5) (.const (.int .i64 (0)))⟩,
    ⟨(some 7), none, .mv (.tmp 6)⟩,
    ⟨(some 8), (some (7, true)), .mv (.tmp 1)⟩,
    ⟨(some 9), (some (7, true)), .bin .geq (.tmp 8) (.const (.int .i64 (0)))⟩,
    ⟨(some 10), none, .pick (.tmp 7) (.tmp 9) (.const (.bool false))⟩,
    ⟨(some 11), none, .mv (.tmp 10)⟩,
    ⟨(some 12), (some (11, true)), .mv (.tmp 0)⟩,
    ⟨(some 13), (some (11, true)), .bin .leq (.tmp 12) (.const (.int .i64 (524288)))⟩,
    ⟨(some 14), none, .pick (.tmp 11) (.tmp 13) (.const (.bool false))⟩,
    ⟨(some 15), none, .mv (.tmp 14)⟩,
    ⟨(some 16), (some (15, true)), .mv (.tmp 1)⟩,
    ⟨(some 17), (some (15, true)), .mv (.tmp 0)⟩,
    ⟨(some 18), (some (15, true)), .bin .sub (.const (.int .i64 (524288))) (.tmp 17)⟩,
    ⟨(some 19), (some (15, true)), .bin .leq (.tmp 16) (.tmp 18)⟩,
    ⟨(some 20), none, .pick (.tmp 15) (.tmp 19) (.const (.bool false))⟩,
    ⟨(some 4), none, .mv (.tmp 20)⟩]
noncomputable def fits_k : KC :=
  (.seq (.reg fits_r0)
  (.seq (.reg fits_r1)
  .ret))
theorem fits_comp : kcomp Tb0 Tryz.f106.ntmps fits_body = fits_k := by kernel_rfl
theorem fits_some : Tryz.f106.body = some fits_body := rfl
end Go.Proofs.MN
end
noncomputable section
namespace Go.Proofs.MN
open Go Go.Ev Go.Proofs Go.Ar
variable [SyQ]
theorem fn106 : Tb0.fn 106 = some Tryz.f106 := by kernel_rfl
theorem fn51 : Tb0.fn 51 = some Tryz.f51 := by kernel_rfl
theorem fn33 : Tb0.fn 33 = some Tryz.f33 := by kernel_rfl
theorem binV_mulT (a b : Int) : binV .mul (.int .i64 a) (.int .i64 b) = some (.int .i64 (wrapF .i64 (a * b))) := rfl
section
attribute [local go_sem] Bc_f Bc_t GT Ro_some Rv_eq WOG WOX Yj Yk Yl Ym Yn Yo Yp Yq Yr and_self and_true binV_add binV_geq binV_gtr binV_leq binV_lss binV_sub binV_mulT callV_func dec_F dec_T evalL evalM evalO_const evalO_func evalO_tmp exEq_int exFa_ptr exLen_str exPick_f exPick_t exUn_not if_false if_true no_bits ok_zero putT_none run true_and wantsV_U wantsV_ff wantsV_ft wantsV_tf wantsV_tt wants_none' wants_some
variable {sp : Nat → List Value → Hp → Option (Value × Hp × Nat × Nat)} {e : Env}
set_option maxRecDepth 10000 in
set_option maxHeartbeats 4000000 in
theorem fits_ok (S : ∀ f args H, sp f args H = none) {H : Hp} (hf : H.isFn = true) (he : e.n0 ≤ H.nx) {at_ k : Nat} (h : at_ + k ≤ 524288) : EC Tb0 sp e 106 [iN at_, iN k] H fun v H' => v = .bool true ∧ H' = H := by
  refine EC.i2 fn106 fits_some fits_comp (S _ _ _) (by show 2 ≤ 21; decide) fun t0 g0 g1 => ?_
  show WK Tb0 sp e ⟨2, 21, none, false⟩ fits_k t0 [] H _
  unfold fits_k
  refine WK.seq ?_
  refine WK.reg_g ?_
  refine WOG.all (fun t' H' => H = H' ∧ GT t' [(0, iN at_), (1, iN k), (4, .bool false)]) ?_ ?_
  · simp +decide only [fits_r0, g0, g1, Xo 2, go_sem]
  rintro t1_ _ ⟨rfl, g0_1, g1_1, g4_1, -⟩
  refine WK.seq ?_
  refine WK.reg_g ?_
  have d3_ : decide (((at_ : Nat) : Int) < (0 : Int)) = false := decide_eq_false (by omega)
  have d4_ : decide (((k : Nat) : Int) < (0 : Int)) = false := decide_eq_false (by omega)
  have d5_ : decide ((524288 : Int) < ((at_ : Nat) : Int)) = false := decide_eq_false (by omega)
  have w6_ : Value.int .i64 (wrapF .i64 ((524288 : Int) - ((at_ : Nat) : Int))) = .int .i64 (((524288 - at_) : Nat) : Int) := wF (by omega)
  have d7_ : decide ((((524288 - at_) : Nat) : Int) < ((k : Nat) : Int)) = false := decide_eq_false (by omega)
  refine WOG.all (fun t' H' => H = H' ∧ t'.get 4 = .bool true) ?_ ?_
  · simp +decide only [fits_r1, g0_1, g1_1, g4_1, d3_, d4_, d5_, w6_, d7_, Xo 2, go_sem]
  rintro t8_ _ ⟨rfl, g4_8⟩
  refine WK.ret ⟨.inr rfl, rfl, [.bool true], 0, ?_, .zero _ _, rfl, rfl⟩
  show resL Tb0 21 t8_ _ [.tmp 4] = _
  simp only [resL, g4_8]; rfl
set_option maxRecDepth 10000 in
set_option maxHeartbeats 4000000 in
theorem mbytes_ok (S : ∀ f args H, sp f args H = none) {H : Hp} (hf : H.isFn = true) (he : e.n0 ≤ H.nx) {bm p n : Nat} {fm : By} (hr : ByU H bm 199 fm 65536) (hn : p + n ≤ 65536) (hp : p < 65536) (hpm : bm < e.n0 → e.Rd bm) : EC Tb0 sp e 51 [pA bm 0, iN (8 * p), iN n] H fun v H' => v = .tuple #[vS (strF (fun i => fm (p + i)) n), vN 0] ∧ H' = H := by
  refine EC.i3 fn51 mbytes_some mbytes_comp (S _ _ _) (by show 3 ≤ 38; decide) fun t0 g0 g1 g2 => ?_
  show WK Tb0 sp e ⟨2, 38, none, false⟩ mbytes_k t0 [] H _
  unfold mbytes_k
  have lt1_ := hr.lt
  refine WK.seq ?_
  refine WK.reg_g ?_
  refine WOG.all (fun t' H' => H = H' ∧ GT t' [(0, pA bm 0), (1, iN (8 * p)), (2, iN n), (6, .string ⟨#[]⟩), (7, .int .i64 (0))]) ?_ ?_
  · simp +decide only [mbytes_r0, g0, g1, g2, Xo 2, go_sem]
  rintro t2_ _ ⟨rfl, g0_2, g1_2, g2_2, g6_2, g7_2, -⟩
  refine WK.seq ?_
  refine WK.seq ?_
  refine WK.reg_g ?_
  have m4_ : ∀ Hq, exEq false (.one .p) (pA bm 0) (.pointer none) Hq = .val (.bool false) Hq 0 0 := fun Hq => rfl
  refine WOG.all (fun t' H' => H = H' ∧ GT t' [(0, pA bm 0), (1, iN (8 * p)), (2, iN n), (6, .string ⟨#[]⟩), (7, .int .i64 (0)), (9, .bool false)]) ?_ ?_
  · simp +decide only [mbytes_r1, g0_2, g1_2, g2_2, g6_2, g7_2, m4_, Xo 2, go_sem]
  rintro t5_ _ ⟨rfl, g0_5, g1_5, g2_5, g6_5, g7_5, g9_5, -⟩
  refine WK.cond (v := false) (by rw [evalO_tmp, g9_5]; rfl) ?_
  refine WK.skip ?_
  refine WK.seq ?_
  refine WK.seq ?_
  refine WK.reg_g ?_
  refine WOG.hide fun K0 hK0 => ?_
  have d7_ : decide (((n : Nat) : Int) < (0 : Int)) = false := decide_eq_false (by omega)
  have d8_ : decide ((65536 : Int) < ((n : Nat) : Int)) = false := decide_eq_false (by omega)
  have w9_ : Value.int .i64 (wrapF .i64 ((8 : Int) * ((n : Nat) : Int))) = .int .i64 (((8 * n) : Nat) : Int) := wF (by omega)
  simp +decide only [mbytes_r3, g1_5, g2_5, d7_, d8_, w9_, Xo 2, go_sem]
  refine EC.mono (fits_ok S hf (by omega) (at_ := 8 * p) (k := (8 * n)) (by omega)) fun v H10_ _ hv11_ => ?_
  obtain ⟨rfl, hh12_⟩ := hv11_
  rw [hh12_]; clear hh12_
  rw [WOGk]
  refine WOG.all (fun t' H' => H = H' ∧ GT t' [(0, pA bm 0), (1, iN (8 * p)), (2, iN n), (6, .string ⟨#[]⟩), (7, .int .i64 (0)), (23, .bool false)]) ?_ ?_
  · simp +decide only [mbytes_r3, g0_5, g1_5, g2_5, g6_5, g7_5, g9_5, Xo 2, go_sem]
  rintro t13_ _ ⟨rfl, g0_13, g1_13, g2_13, g6_13, g7_13, g23_13, -⟩
  refine hK0 _ _ ?_
  refine WK.cond (v := false) (by rw [evalO_tmp, g23_13]; rfl) ?_
  refine WK.skip ?_
  refine WK.seq ?_
  refine WK.seq ?_
  refine WK.reg_g ?_
  have m15_ : ∀ Hq, R.o (binV .rem (iN (8 * p)) (.int .i64 8)) Hq = .val (.int .i64 (0)) Hq 0 0 := fun Hq => rem8q (n := 8 * p) (q := 0) (by omega) Hq
  have d16_ : decide ((0 : Int) = (0 : Int)) = true := decide_eq_true (by omega)
  refine WOG.all (fun t' H' => H = H' ∧ GT t' [(0, pA bm 0), (1, iN (8 * p)), (2, iN n), (6, .string ⟨#[]⟩), (7, .int .i64 (0)), (26, .bool false)]) ?_ ?_
  · simp +decide only [mbytes_r5, g0_13, g1_13, g2_13, g6_13, g7_13, g23_13, m15_, d16_, Xo 2, go_sem]
  rintro t17_ _ ⟨rfl, g0_17, g1_17, g2_17, g6_17, g7_17, g26_17, -⟩
  refine WK.cond (v := false) (by rw [evalO_tmp, g26_17]; rfl) ?_
  refine WK.skip ?_
  refine WK.seq ?_
  refine WK.reg_g ?_
  have m19_ : ∀ Hq, exNil (pA bm 0) Hq = .val (pA bm 0) Hq 0 0 := fun _ => rfl
  have m20_ : ∀ Hq, R.o (binV .quo (iN (8 * p)) (.int .i64 8)) Hq = .val (iN p) Hq 0 0 := fun Hq => quo8 (by omega) (by omega) _
  have m21_ : ∀ Hq, R.o (binV .quo (iN (8 * p)) (.int .i64 8)) Hq = .val (iN p) Hq 0 0 := fun Hq => quo8 (by omega) (by omega) _
  have w22_ : Value.int .i64 (wrapF .i64 (((p : Nat) : Int) + ((n : Nat) : Int))) = .int .i64 (((p + n) : Nat) : Int) := wF (by omega)
  have m23_ : ∀ Hq, exSlA 65536 1 (pA bm 0) (some (iN p)) (some (iN ((p + n)))) none Hq = .val (sC bm p (n) (2 * (65536 - p))) Hq 0 0 := fun Hq => slA_n Hq (by omega) (by omega)
  have m24_ : exToS (sC bm p (n) (2 * (65536 - p))) H = .val (vS (strF (fun i => fm (p + i)) (n))) H (bit (bm)) 0 := ByU.toS hr (by omega)
  have o25_ : e.ok (bit (bm)) 0 H := .read hr.lt hpm
  refine WOG.all (fun t' H' => H = H' ∧ GT t' [(6, vS (strF (fun i => fm (p + i)) (n))), (7, .int .i64 (0))]) ?_ ?_
  · simp +decide only [mbytes_r7, g0_17, g1_17, g2_17, g6_17, g7_17, g26_17, m19_, m20_, m21_, w22_, m23_, m24_, o25_, Xo 2, go_sem]
  rintro t26_ _ ⟨rfl, g6_26, g7_26, -⟩
  refine WK.ret ⟨.inr rfl, rfl, [vS (strF (fun i => fm (p + i)) (n)), .int .i64 (0)], 0, ?_, .zero _ _, rfl, rfl⟩
  show resL Tb0 38 t26_ _ [.tmp 6, .tmp 7] = _
  simp only [resL, g6_26, g7_26]; rfl
end
end Go.Proofs.MN
end
noncomputable section
namespace Go.Proofs.MN
open Go Go.Ev Go.Proofs Go.Ar
variable [SyQ]
theorem exIxS_strF {f : By} {n i : Nat} (h : i < n) (H : Hp) : exIxS (vS (strF f n)) (iN i) H = .val (uB (f i)) H 0 0 := by
  have : idx (vN ((i : Nat) : Int)) (strF f n).length = some i := by
    show Bc (Nat.blt i (strF f n).length) (some i) none = _
    rw [(blt_iff _ _).2 (by rw [strF_len]; exact h)]; rfl
  show (match idx (vN ((i : Nat) : Int)) (strF f n).length with | some m => (match (strF f n)[m]? with | some c => R.v (.int .u8 (.ofNat c.toNat)) H | none => .fail) | none => .fail) = _
  rw [this]; simp only [strF_get h]; rfl
theorem len_strF (f : By) (n : Nat) (H : Hp) : exLen 0 (vS (strF f n)) H = .val (vN (n : Nat)) H 0 0 := by
  rw [exLen_str, strF_len]
theorem xor64 (a b : Int) : ∃ c, binV .xor (.int .u64 a) (.int .u64 b) = some (.int .u64 c) := by
  show ∃ c, some (bitsI .xor .u64 a b) = some (.int .u64 c)
  unfold bitsI
  repeat' split
  all_goals exact ⟨_, rfl⟩
theorem mul64 (a b : Int) : ∃ c, binV .mul (.int .u64 a) (.int .u64 b) = some (.int .u64 c) := ⟨_, rfl⟩
theorem resL_cell {tb : Tb} {nt a ty b n : Nat} {t : T Value} {H : Hp} {l : List Value} (hb : Bc (Nat.blt a nt) (Bc (match isAggT tb ty with | some b => b | none => false) (match szOf tb ty with | some k => Nat.beq k n | none => false) false) false = true) (hg : t.get a = .pointer (some ⟨b, 0, none⟩)) (hr : rdN H b 0 n = some l) :
    resL tb nt t H [.cell a ty] = some ([.agg ⟨l⟩], bit b) := by
  cases h1 : Nat.blt a nt with
  | false => rw [h1, Bc_f] at hb; cases hb
  | true =>
    rw [h1, Bc_t] at hb
    cases h2 : isAggT tb ty with
    | none => rw [h2] at hb; simp [Bc_f] at hb
    | some x =>
      rw [h2] at hb
      cases x with
      | false => simp [Bc_f] at hb
      | true =>
        simp only [Bc_t] at hb
        cases h3 : szOf tb ty with
        | none => rw [h3] at hb; cases hb
        | some k =>
          rw [h3] at hb
          obtain rfl := (beq_iff _ _).1 hb
          simp only [resL, h1, Bc_t, hg, asPtr, h2, h3, hr]
          rw [lor_zero']
open Go.Ar (By)
section
attribute [local go_sem] Bc_f Bc_t GT Ro_some Rv_eq WOG WOX Yj Yk Yl Ym Yn Yo Yp Yq Yr and_self and_true binV_add binV_geq binV_gtr binV_leq binV_lss binV_mulT binV_sub callV_func dec_F dec_T evalL evalM evalO_const evalO_func evalO_tmp exEq_int exFa_ptr exFill_some exLen_str exPick_f exPick_t exUn_not if_false if_true no_bits ok_zero putT_none run true_and wantsV_U wantsV_ff wantsV_ft wantsV_tf wantsV_tt wants_none' wants_some
variable {sp : Nat → List Value → Hp → Option (Value × Hp × Nat × Nat)} {e : Env}
def snL (m : Nat) (k : Int) : List Value := [iN m, .int .i64 (0), .int .i64 (0), .int .i64 (0), .int .i64 (0), .int .u64 k, .bool true]
set_option maxRecDepth 10000 in
set_option maxHeartbeats 4000000 in
theorem snap_ok (S : ∀ f args H, sp f args H = none) {H : Hp} (hf : H.isFn = true) (he : e.n0 ≤ H.nx) {sb ty bm m : Nat} {fm : By} {L : List Value} (hs : Row H sb ty 0 L) (hL6 : L[6]? = some (pA bm 0)) (hL15 : L[15]? = some (iN m)) (hL19 : L[19]? = some (.bool true)) (hr : ByU H bm 199 fm 65536) (hpm : bm < e.n0 → e.Rd bm) (hps : sb < e.n0 → e.Rd sb) : EC Tb0 sp e 33 [pA sb 0] H fun v H' => (∃ k, v = .agg ⟨snL m k⟩) ∧ Kept H H' ∧ H'.nx = H.nx + 2 := by
  refine EC.i1 fn33 snap_some snap_comp (S _ _ _) (by show 1 ≤ 73; decide) fun t0 g0 => ?_
  show WK Tb0 sp e ⟨3, 73, none, false⟩ snap_k t0 [] H _
  unfold snap_k
  have ltb := hr.lt
  have lts := hs.lt
  refine WK.seq ?_
  refine WK.reg_g ?_
  obtain ⟨H1_, nb1_⟩ := newB hf [.int .i64 (0), .int .i64 (0), .int .i64 (0), .int .i64 (0), .int .i64 (0), .int .u64 (0), .bool false] 68
  have m1_ : alloc1 (blkL [.int .i64 (0), .int .i64 (0), .int .i64 (0), .int .i64 (0), .int .i64 (0), .int .u64 (0), .bool false] 68 0) H ptrTo 0 0 = .val (.pointer (some ⟨H.nx, 0, none⟩)) H1_ 0 0 := nb1_.al
  have hf1_ := nb1_.kept.fn
  have nx1_ : H1_.nx = H.nx + 1 := nb1_.nx
  have m2_ : H.nx ≤ H1_.nx := by omega
  have k1_ := nb1_.kept
  refine WOG.all (fun t' H' => H1_ = H' ∧ GT t' [(0, pA sb 0), (2, pA H.nx 0)]) ?_ ?_
  · simp +decide only [snap_r0, g0, m1_, m2_, Xo 3, go_sem]
  rintro t1_ _ ⟨rfl, g0_1, g2_1, -⟩
  have hs1 := hs.mv k1_
  have hr1 : ByU H1_ bm 199 fm 65536 := Row.mv hr k1_
  refine WK.seq ?_
  refine WK.seq ?_
  refine WK.reg_g ?_
  have m4_ : ∀ Hq, exEq false (.one .p) (pA sb 0) (.pointer none) Hq = .val (.bool false) Hq 0 0 := fun Hq => rfl
  refine WOG.all (fun t' H' => H1_ = H' ∧ GT t' [(0, pA sb 0), (2, pA H.nx 0), (9, .bool false)]) ?_ ?_
  · simp +decide only [snap_r1, g0_1, g2_1, m4_, Xo 3, go_sem]
  rintro t2_ _ ⟨rfl, g0_2, g2_2, g9_2, -⟩
  refine WK.cond (v := false) (by rw [evalO_tmp, g9_2]; rfl) ?_
  refine WK.skip ?_
  refine WK.seq ?_
  refine WK.reg_g ?_
  refine WOG.hide fun K0 hK0 => ?_
  have m5_ : ∀ Hq, exNil (pA sb 0) Hq = .val (pA sb 0) Hq 0 0 := fun _ => rfl
  have m6_ : exLd1 (pA sb 6) H1_ = .val (pA bm 0) H1_ (bit sb) 0 := exLd1_row hs1 hL6
  have o7_ : e.ok (bit sb) 0 H1_ := .read hs1.lt hps
  simp +decide only [snap_r3, g0_2, m5_, m6_, o7_, Xo 3, go_sem]
  refine EC.mono (mbytes_ok S hf1_ (by omega) (p := 0) (n := 65536) hr1 (by omega) (by omega) hpm) fun v H10_ _ hv11_ => ?_
  obtain ⟨rfl, hh12_⟩ := hv11_
  rw [hh12_, show (fun i => fm (0 + i)) = fm from funext fun i => by rw [Nat.zero_add]]; clear hh12_
  have x0_ : ∀ (a b : Value) Hq, exExt (.tuple #[a, b]) 0 Hq = .val a Hq 0 0 := fun _ _ _ => rfl
  have x1_ : ∀ (a b : Value) Hq, exExt (.tuple #[a, b]) 1 Hq = .val b Hq 0 0 := fun _ _ _ => rfl
  rw [WOGk]
  refine WOG.all (fun t' H' => H1_ = H' ∧ GT t' [(0, pA sb 0), (2, pA H.nx 0), (3, vS (strF fm 65536))]) ?_ ?_
  · simp +decide only [snap_r3, g0_2, g2_2, x0_, x1_, Xo 3, go_sem]
  rintro t3_ _ ⟨rfl, g0_3, g2_3, g3_3, -⟩
  refine hK0 _ _ ?_
  refine WK.seq ?_
  refine WK.draw_xx (fun _ => False) [.p, .p, .p, .q, .p, .p, .p, .q, .p, .q, .x] (by omega) rfl ?_
  have m21_ : exLd1 (pA sb 15) H1_ = .val (iN m) H1_ (bit sb) 0 := exLd1_row hs1 hL15
  have m22_ : exLd1 (pA sb 19) H1_ = .val (.bool true) H1_ (bit sb) 0 := exLd1_row hs1 hL19
  have b23_ : ∀ cq, (bit sb).testBit cq = true → cq < H1_.nx := the_bit (P := fun cq => cq < H1_.nx) (by omega)
  have m24_ : ∀ t : T Value, t.get 22 = iN m → t.get 26 = .bool true → fillL t [.int .i64 (0), .int .i64 (0), .int .i64 (0), .int .i64 (0), .int .i64 (0), .int .u64 (0), .bool false] [(0, 1, (.tmp 22)), (5, 1, (.const (.int .u64 (14695981039346656037)))), (6, 1, (.tmp 26))] = some (snL m 14695981039346656037) := fun t h0 h1 => by simp only [fillL, evalO_tmp, evalO_const, h0, h1]; rfl
  obtain ⟨H2_, nb2_⟩ := newB hf1_ [.int .i64 (0), .int .i64 (0), .int .i64 (0), .int .i64 (0), .int .i64 (0), .int .u64 (0), .bool false] 68
  have m25_ : alloc1 (blkL [.int .i64 (0), .int .i64 (0), .int .i64 (0), .int .i64 (0), .int .i64 (0), .int .u64 (0), .bool false] 68 0) H1_ ptrTo 0 0 = .val (.pointer (some ⟨H1_.nx, 0, none⟩)) H2_ 0 0 := nb2_.al
  have hf2_ := nb2_.kept.fn
  have nx2_ : H2_.nx = H1_.nx + 1 := nb2_.nx
  have m26_ : H1_.nx ≤ H2_.nx := by omega
  obtain ⟨H3_, e3_, wr3_⟩ := exStN_at (o := 0) (vs := snL m 14695981039346656037) hf2_ nb2_.row (by show 0 + 7 ≤ 7; decide)
  have m27_ : exSt 7 (pA H1_.nx 0) (.agg ⟨snL m 14695981039346656037⟩) H2_ = .val U H3_ 0 (bit (H1_.nx)) := e3_
  have hf3_ := wr3_.fn
  have nx3_ : H3_.nx = H2_.nx := wr3_.nx
  have m28_ : H2_.nx ≤ H3_.nx := by omega
  have r3_ : Row H3_ (H1_.nx) 68 0 (snL m 14695981039346656037) := wr3_.row
  have o29_ : e.ok 0 (bit (H1_.nx)) H3_ := .write r3_.lt (fun h => absurd h (by omega))
  have k3_ : Kept H1_ H3_ := ⟨wr3_.fn, by omega, fun c hc => (wr3_.else_ c (by omega)).trans (nb2_.kept.old c hc)⟩
  refine WOX.all (fun t' H' => H3_ = H' ∧ GT t' [(0, pA sb 0), (2, pA H.nx 0), (3, vS (strF fm 65536)), (5, pA H1_.nx 0)]) ?_ ?_
  · simp +decide only [snap_r4, g0_3, g2_3, g3_3, m5_, m21_, m22_, b23_, m24_, exFill_some, m25_, m26_, m27_, m28_, o7_, o29_, Xo 3, go_sem]
    all_goals ((repeat' apply And.intro) <;> assumption)
  rintro t4_ _ ⟨rfl, g0_4, g2_4, g3_4, g5_4, -⟩
  refine WK.seq ?_
  refine WK.seq ?_
  refine WK.reg_g ?_
  have m31_ : ∀ Hq, exLen 0 (vS (strF fm 65536)) Hq = .val (vN ((65536 : Nat))) Hq 0 0 := fun _ => len_strF _ _ _
  refine WOG.all (fun t' H' => H3_ = H' ∧ GT t' [(0, pA sb 0), (2, pA H.nx 0), (3, vS (strF fm 65536)), (5, pA H1_.nx 0), (29, iN 65536), (30, .int .i64 (0))]) ?_ ?_
  · simp +decide only [snap_r5, g0_4, g2_4, g3_4, g5_4, m31_, Xo 3, go_sem]
  rintro t5_ _ ⟨rfl, g0_5, g2_5, g3_5, g5_5, g29_5, g30_5, -⟩
  refine WK.block (WK.loop_ind (fun mm t' ds' H' => ds' = [] ∧ ∃ (i : Nat) (k : Int), mm = 65536 - i ∧ i ≤ 65536 ∧ Kept H1_ H' ∧ H'.nx = H1_.nx + 1 ∧ Row H' (H1_.nx) 68 0 (snL m k) ∧ t'.get 0 = pA sb 0 ∧ t'.get 2 = pA H.nx 0 ∧ t'.get 3 = vS (strF fm 65536) ∧ t'.get 5 = pA H1_.nx 0 ∧ t'.get 29 = iN 65536 ∧ t'.get 30 = iN i) ?_ _ t5_ [] H3_ ⟨rfl, 0, _, rfl, by omega, k3_, by omega, r3_, g0_5, g2_5, g3_5, g5_5, g29_5, g30_5⟩)
  rintro m_l t_l ds_ H_l ⟨rfl, i, k, rfl, hi, kl, nxl, rl, g0_l, g2_l, g3_l, g5_l, g29_l, g30_l⟩
  have hfl := kl.fn
  unfold snap_l10
  refine WK.seq ?_
  by_cases hlt : i < 65536
  case pos =>
    refine WK.reg_g ?_
    have d6_ : decide (((i : Nat) : Int) < ((65536 : Nat) : Int)) = true := decide_eq_true (by omega)
    refine WOG.all (fun t' H' => H_l = H' ∧ GT t' [(0, pA sb 0), (2, pA H.nx 0), (3, vS (strF fm 65536)), (5, pA H1_.nx 0), (29, iN 65536), (30, iN i), (31, .bool true)]) ?_ ?_
    · simp +decide only [snap_r6, g0_l, g2_l, g3_l, g5_l, g29_l, g30_l, d6_, Xo 3, go_sem]
    rintro t7_ _ ⟨rfl, g0_7, g2_7, g3_7, g5_7, g29_7, g30_7, g31_7, -⟩
    refine WK.seq ?_
    refine WK.cond (v := true) (by rw [evalO_tmp, g31_7]; rfl) ?_
    refine WK.skip ?_
    refine WK.seq ?_
    refine WK.block ?_
    refine WK.seq ?_
    refine WK.reg_g ?_
    refine WOG.all (fun t' H' => H_l = H' ∧ GT t' [(0, pA sb 0), (2, pA H.nx 0), (3, vS (strF fm 65536)), (5, pA H1_.nx 0), (6, iN i), (29, iN 65536), (30, iN i)]) ?_ ?_
    · simp +decide only [snap_r7, g0_7, g2_7, g3_7, g5_7, g29_7, g30_7, g31_7, Xo 3, go_sem]
    rintro t8_ _ ⟨rfl, g0_8, g2_8, g3_8, g5_8, g6_8, g29_8, g30_8, -⟩
    refine WK.draw_xx (fun _ => False) [.p, .q, .p, .p, .p, .p, .p, .p, .p, .x] (by omega) rfl ?_
    have m41_ : exLd1 (pA H1_.nx 5) H_l = .val (.int .u64 k) H_l (bit H1_.nx) 0 := exLd1_row rl rfl
    have o42_ : e.ok (bit H1_.nx) 0 H_l := .read rl.lt (fun h => absurd h (by omega))
    have b43_ : ∀ cq, (bit H1_.nx).testBit cq = true → cq < H_l.nx := the_bit (P := fun cq => cq < H_l.nx) (by omega)
    have m44_ : ∀ Hq, exIxS (vS (strF fm 65536)) (iN i) Hq = .val (uB (fm i)) Hq 0 0 := fun Hq => exIxS_strF hlt Hq
    have m45_ : ∃ c, ∀ Hq, exCInt .u64 (uB (fm i)) Hq = .val (.int .u64 c) Hq 0 0 := ⟨_, fun _ => rfl⟩
    obtain ⟨c1, m45_⟩ := m45_
    obtain ⟨c2, m46_⟩ := xor64 k c1
    obtain ⟨c3, m47_⟩ := mul64 c2 1099511628211
    obtain ⟨H4_, e4_, wr4_⟩ := exSt1_at (o := 5) (v := .int .u64 c3) rfl hfl rl (by show 5 + 1 ≤ 7; decide)
    have m48_ : exSt 1 (pA H1_.nx 5) (.int .u64 c3) H_l = .val U H4_ 0 (bit (H1_.nx)) := e4_
    have nx4_ : H4_.nx = H_l.nx := wr4_.nx
    have m49_ : H_l.nx ≤ H4_.nx := by omega
    have r4_ : Row H4_ (H1_.nx) 68 0 (snL m c3) := wr4_.row
    have o50_ : e.ok 0 (bit (H1_.nx)) H4_ := .write r4_.lt (fun h => absurd h (by omega))
    have k4_ : Kept H1_ H4_ := ⟨wr4_.fn, by omega, fun c hc => (wr4_.else_ c (by omega)).trans (kl.old c hc)⟩
    refine WOX.all (fun t' H' => H4_ = H' ∧ GT t' [(0, pA sb 0), (2, pA H.nx 0), (3, vS (strF fm 65536)), (5, pA H1_.nx 0), (29, iN 65536), (30, iN i)]) ?_ ?_
    · simp +decide only [snap_r8, g0_8, g2_8, g3_8, g5_8, g6_8, g29_8, g30_8, m41_, o42_, b43_, m44_, m45_, m46_, m47_, m48_, m49_, o50_, Xo 3, go_sem]
      all_goals ((repeat' apply And.intro) <;> assumption)
    rintro t9_ _ ⟨rfl, g0_9, g2_9, g3_9, g5_9, g29_9, g30_9, -⟩
    refine WK.reg_g ?_
    have w51_ : Value.int .i64 (wrapF .i64 (((i : Nat) : Int) + (1 : Int))) = .int .i64 (((i + 1) : Nat) : Int) := wF (by omega)
    refine WOG.all (fun t' H' => H4_ = H' ∧ GT t' [(0, pA sb 0), (2, pA H.nx 0), (3, vS (strF fm 65536)), (5, pA H1_.nx 0), (29, iN 65536), (30, iN ((i + 1)))]) ?_ ?_
    · simp +decide only [snap_r9, g0_9, g2_9, g3_9, g5_9, g29_9, g30_9, w51_, Xo 3, go_sem]
    rintro t10_ _ ⟨rfl, g0_10, g2_10, g3_10, g5_10, g29_10, g30_10, -⟩
    exact ⟨_, by omega, rfl, i + 1, c3, rfl, by omega, k4_, by omega, r4_, g0_10, g2_10, g3_10, g5_10, g29_10, g30_10⟩
  case neg =>
    refine WK.reg_g ?_
    have d6_ : decide (((i : Nat) : Int) < ((65536 : Nat) : Int)) = false := decide_eq_false (by omega)
    refine WOG.all (fun t' H' => H_l = H' ∧ GT t' [(0, pA sb 0), (2, pA H.nx 0), (5, pA H1_.nx 0), (31, .bool false)]) ?_ ?_
    · simp +decide only [snap_r6, g0_l, g2_l, g3_l, g5_l, g29_l, g30_l, d6_, Xo 3, go_sem]
    rintro t7_ _ ⟨rfl, g0_7, g2_7, g5_7, g31_7, -⟩
    refine WK.seq ?_
    refine WK.cond (v := false) (by rw [evalO_tmp, g31_7]; rfl) ?_
    refine WK.exit ?_
    show WK Tb0 sp e ⟨3, 73, none, false⟩ _ t7_ [] H_l _
    refine WK.seq ?_
    refine WK.seq ?_
    refine WK.reg_g ?_
    have hsl := hs1.mv kl
    have m61_ : exLd1 (pA sb 19) H_l = .val (.bool true) H_l (bit sb) 0 := exLd1_row hsl hL19
    have o62_ : e.ok (bit sb) 0 H_l := .read hsl.lt hps
    refine WOG.all (fun t' H' => H_l = H' ∧ GT t' [(2, pA H.nx 0), (5, pA H1_.nx 0), (47, .bool false)]) ?_ ?_
    · simp +decide only [snap_r11, g0_7, g2_7, g5_7, g31_7, m5_, m61_, o62_, Xo 3, go_sem]
    rintro t11_ _ ⟨rfl, g2_11, g5_11, g47_11, -⟩
    refine WK.cond (v := false) (by rw [evalO_tmp, g47_11]; rfl) ?_
    refine WK.skip ?_
    refine WK.seq ?_
    refine WK.reg_g ?_
    have m71_ : exLdN 7 (pA H1_.nx 0) H_l = .val (.agg ⟨snL m k⟩) H_l (bit H1_.nx) 0 := exLdN_row (o := 0) (k := 7) rl (by show 0 + 7 ≤ 7; decide)
    have o72_ : e.ok (bit H1_.nx) 0 H_l := .read rl.lt (fun h => absurd h (by omega))
    have rn_ := nb1_.row.mv kl
    obtain ⟨H5_, e5_, wr5_⟩ := exStN_at (o := 0) (vs := snL m k) hfl rn_ (by show 0 + 7 ≤ 7; decide)
    have m73_ : exSt 7 (pA H.nx 0) (.agg ⟨snL m k⟩) H_l = .val U H5_ 0 (bit (H.nx)) := e5_
    have nx5_ : H5_.nx = H_l.nx := wr5_.nx
    have m74_ : H_l.nx ≤ H5_.nx := by omega
    have r5_ : Row H5_ (H.nx) 68 0 (snL m k) := wr5_.row
    have o75_ : e.ok 0 (bit (H.nx)) H5_ := .write r5_.lt (fun h => absurd h (by omega))
    have k5_ : Kept H H5_ := ⟨wr5_.fn, by omega, fun c hc => (wr5_.else_ c (by omega)).trans ((kl.old c (by omega)).trans (k1_.old c hc))⟩
    refine WOG.all (fun t' H' => H5_ = H' ∧ t'.get 2 = pA H.nx 0) ?_ ?_
    · simp +decide only [snap_r14, g2_11, g5_11, m71_, o72_, m73_, m74_, o75_, Xo 3, go_sem]
    rintro t12_ _ ⟨rfl, g2_12⟩
    show WK Tb0 sp e ⟨3, 73, none, false⟩ _ t12_ [] H5_ _
    have hld : rdN H5_ (H.nx) 0 7 = some (snL m k) := rdN_row (o := 0) (k := 7) r5_ (by show 0 + 7 ≤ 7; decide)
    refine WK.ret ⟨.inr rfl, rfl, [.agg ⟨snL m k⟩], bit (H.nx), ?_, .read r5_.lt (fun h => absurd h (by omega)), ⟨k, rfl⟩, k5_, by omega⟩
    show resL Tb0 73 t12_ _ [.cell 2 68] = _
    exact resL_cell rfl g2_12 hld
end
end Go.Proofs.MN
end
noncomputable section
namespace Go.Proofs.MN
open Go Go.Ev Go.Proofs Go.Ev.SM
variable [SyO]
def globL : List (Nat × Blk) := [(2, pwB), (3, shB), (6, opB)]
def clSane : Clm := ⟨7, [], globL, NG, .bool true, [], NG, 76, 0⟩
end Go.Proofs.MN
end
noncomputable section
namespace Go.Proofs.MN
open Go Go.Ev Go.Proofs Go.Ev.SM
variable [SyO]
def spSnap (args : List Value) (H : Hp) : Ans := match args with
  | [.pointer (some ⟨b, 0, none⟩)] => (match H.blk b with
    | .cells t n ty op lo hi => Bc (Nat.beq n 22 && (Nat.beq op 0 && Nat.beq lo 0 && Nat.beq hi 0) && (isI 2 (t.get 15) && (match t.get 19 with | .bool x => x | _ => false))) (match t.get 6 with
      | .pointer (some ⟨m, 0, none⟩) => (match memOk (H.blk m) with
        | some _ => Bc (nxOk H) (some (.agg ⟨[nV 2, nV 0, nV 0, nV 0, nV 0, sy 0, .bool true]⟩, H, Nat.lor (bit b) (bit m), 0)) none
        | none => none)
      | _ => none) none
    | _ => none)
  | _ => none
noncomputable def saneB : Bool := clB (spX 0 false 33 spSnap) tab0 clSane []
end Go.Proofs.MN
end
noncomputable section
namespace Go.Proofs.MN
open Go Go.Ev Go.Proofs Go.Ev.SM
open Go.Ar (By)
def cz (v : Option Value) : Value := match v with | some (.bool x) => .bool x | _ => sy 0
theorem one_cells {v : Value} (h : oneC v = true) : v.cells = #[v] := by
  cases v with
  | agg _ => cases h
  | tuple _ => cases h
  | _ => rfl
theorem cz_one (v : Option Value) : oneC (cz v) = true := by
  unfold cz; split <;> rfl
theorem cz_rel {n : Nat} {β : Mp} (tb : Tbl n β) {v : Value} (h : oneC v = true) : VRel β (cz (some v)) v := by
  have key : (∀ b, v ≠ .bool b) → VRel β (sy 0) v := fun hb => .sym 0 _ _ (tb 0) (.inr (.inr (.inr (.inr (.inl ⟨rfl, hb, h, one_cells h⟩)))))
  by_cases e : ∃ b, v = .bool b
  · obtain ⟨b, rfl⟩ := e; exact .bool b
  · have hb : ∀ b, v ≠ .bool b := fun b hh => e ⟨b, hh⟩
    have : cz (some v) = sy 0 := by
      unfold cz; split
      · rename_i x hx; cases hx; exact absurd rfl (hb _)
      · rfl
    rw [this]; exact key hb
section
variable [SyQ]
def stL (cs : Array Value) (bm : Nat) : List Value := (List.range 22).map fun i => if i = 6 then .pointer (some ⟨bm, 0, none⟩) else if i = 15 then nV 2 else cz cs[i]?
theorem stL_len (cs : Array Value) (bm : Nat) : (stL cs bm).length = 22 := by simp [stL]
theorem stL_get {cs : Array Value} {bm i : Nat} (h : i < 22) : (stL cs bm)[i]? = some (if i = 6 then .pointer (some ⟨bm, 0, none⟩) else if i = 15 then nV 2 else cz cs[i]?) := by simp [stL, h]
noncomputable def Hs (sb ty : Nat) (L : List Value) (b : Nat) (f : By) (nx : Nat) : Hp := .fn (fun c => Bc (Nat.beq c sb) (blkL L ty 0) (Bc (Nat.beq c b) (blkL (bys f 65536) 199 0) .no)) nx
theorem Hs_s {sb ty b nx : Nat} {L : List Value} (f : By) (h : sb < nx) : (Hs sb ty L b f nx).blk sb = blkL L ty 0 := by
  unfold Hs
  rw [blk_fn, if_pos h, (beq_iff _ _).2 rfl, Bc_t]
theorem Hs_b {sb ty b nx : Nat} {L : List Value} (f : By) (h : b < nx) (hn : b ≠ sb) : (Hs sb ty L b f nx).blk b = blkL (bys f 65536) 199 0 := by
  unfold Hs
  have : Nat.beq b sb = false := by cases e : Nat.beq b sb with | true => exact absurd ((beq_iff _ _).1 e) hn | false => rfl
  rw [blk_fn, if_pos h, this, Bc_f, (beq_iff _ _).2 rfl, Bc_t]
theorem Hs_ne {sb ty b c nx : Nat} {L : List Value} (f : By) (h : c ≠ b) (h2 : c ≠ sb) : (Hs sb ty L b f nx).blk c = .no := by
  unfold Hs
  have e1 : Nat.beq c sb = false := by cases e : Nat.beq c sb with | true => exact absurd ((beq_iff _ _).1 e) h2 | false => rfl
  have e2 : Nat.beq c b = false := by cases e : Nat.beq c b with | true => exact absurd ((beq_iff _ _).1 e) h | false => rfl
  rw [blk_fn]
  split
  · rw [e1, e2]; rfl
  · rfl
theorem Hs_alive {sb ty b c nx : Nat} {L : List Value} {f : By} (h : alive (Hs sb ty L b f nx) c) : c = b ∨ c = sb := by
  by_cases e : c = b
  · exact .inl e
  by_cases e2 : c = sb
  · exact .inr e2
  · exact absurd (Hs_ne f e e2) h.2
end
theorem ptr_of {β : Mp} {b : Nat} {m : Bm} {v' : Value} (e : β b = some m) (h : VRel β (.pointer (some ⟨b, 0, none⟩)) v') : v' = .pointer (some ⟨m.rb, 0 + m.sh, none⟩) := by
  cases h with | ptr _ _ m' e' => rw [e] at e'; cases e'; rfl
theorem spSnap_ok {P : Nat → Prop} {args : List Value} {H H' : Hp} {v : Value} {r w : Nat} (hw : H.wf) (h : spSnap args H = some (v, H', r, w)) : @TaskOk (SyN P) Tryz.prog NG (.call 33 args) H (.k (.ret v H' r w)) := by
  letI := SyN P
  unfold spSnap at h
  split at h
  case h_2 => cases h
  rename_i sb
  split at h
  case h_2 => cases h
  rename_i t n ty op lo hi hB
  have h2 := bc_some h
  clear h
  obtain ⟨h1, h⟩ := h2
  simp only [Bool.and_eq_true, beq_iff] at h1
  obtain ⟨⟨rfl, ⟨rfl, rfl⟩, rfl⟩, h15, h19⟩ := h1
  split at h
  case h_2 => cases h
  rename_i bm h6
  split at h
  case h_2 => cases h
  rename_i tm hm
  have h2 := bc_some h
  clear h
  obtain ⟨h1, h⟩ := h2
  simp only [Bool.and_eq_true, nxOk, ble_iff] at h1
  obtain ⟨hnx, hng⟩ := h1
  cases h
  have hsy : 40000 < SY := by unfold SY; decide
  refine ⟨Can.refl hw, fun β W hg p args' hl => ?_⟩
  obtain ⟨hg1, n', hPn, hn, tb⟩ := hg
  obtain ⟨hM, _⟩ := memOk_inv hm
  have hal : alive H bm := (alive_iff _ _).2 (by rw [hM]; intro e; cases e)
  have hals : alive H sb := (alive_iff _ _).2 (by rw [hB]; intro e; cases e)
  have hbx : bm < H.nx := hal.1
  have hsx : sb < H.nx := hals.1
  have hne : bm ≠ sb := fun e => by rw [e, hB] at hM; cases hM
  obtain ⟨m, em, hbk⟩ := p.rel bm (.inl (by show (Nat.lor _ _).testBit _ = true; rw [show Nat.lor (bit sb) (bit bm) = bit sb ||| bit bm from rfl, Nat.testBit_or, (bit_iff bm bm).2 rfl, Bool.or_true])) hal
  obtain ⟨ms, ems, hsk⟩ := p.rel sb (.inl (by show (Nat.lor _ _).testBit _ = true; rw [show Nat.lor (bit sb) (bit bm) = bit sb ||| bit bm from rfl, Nat.testBit_or, (bit_iff sb sb).2 rfl, Bool.true_or])) hals
  obtain ⟨hs, ht, cs, fr, f, ho, hc, hf, hcs⟩ := mem_real hn tb hm hbk
  rw [hB] at hsk
  obtain ⟨o, hso, ss, sfr, rfl, s1, s2, s3, s4, s5, s6⟩ := hsk
  obtain ⟨hss, hst⟩ := s3 rfl
  have h15 : t.get 15 = nV 2 := by
    revert h15; generalize t.get 15 = x
    intro h15
    unfold isI at h15
    split at h15
    · rw [eqI_eq, beq_iff_eq] at h15; subst h15; rfl
    · cases h15
  have h19 : t.get 19 = .bool true := by
    revert h19; generalize t.get 19 = x
    intro h19
    split at h19
    · rw [h19]
    · cases h19
  have hcell : ∀ i, i < 22 → ∃ v', ss[i]? = some v' ∧ VRel β (t.get i) v' ∧ oneC v' = true := fun i hi => by
    obtain ⟨q1, v', q2, q3⟩ := s5 i hi
    rw [hss, Nat.zero_add] at q2
    exact ⟨v', q2, q3, one_rel q3 q1⟩
  have hrow : Row (Hs sb ty (stL ss bm) bm f H.nx) sb ty 0 (stL ss bm) := by
    obtain ⟨t1, e1, e2⟩ := blkL_eq (stL ss bm) ty 0
    exact ⟨t1, by rw [Hs_s f hsx, e1], e2⟩
  have hrowb : ByU (Hs sb ty (stL ss bm) bm f H.nx) bm 199 f 65536 := by
    obtain ⟨t1, e1, e2⟩ := blkL_eq (bys f 65536) 199 0
    exact ⟨t1, by rw [Hs_b f hbx hne, e1], e2⟩
  have hL19 : (stL ss bm)[19]? = some (.bool true) := by
    obtain ⟨v', q1, q2, _⟩ := hcell 19 (by omega)
    rw [h19] at q2; cases q2
    rw [stL_get (by omega), if_neg (by omega), if_neg (by omega), q1]; rfl
  have hec := snap_ok (sp := fun _ _ _ => none) (e := ⟨H.nx, fun c => c = bm ∨ c = sb, fun _ => False⟩) (fun _ _ _ => rfl) (H := Hs sb ty (stL ss bm) bm f H.nx) rfl (Nat.le_refl _) (m := 2) hrow (by rw [stL_get (by omega), if_pos rfl]) (by rw [stL_get (by omega), if_neg (by omega), if_pos rfl]; try rfl) hL19 hrowb (fun _ => .inl rfl) (fun _ => .inr rfl)
  obtain ⟨N, v1, H1, r1, w1, hev, hok, hn1, ⟨k, rfl⟩, hkp, hub⟩ := hec
  have hub : H1.nx = H.nx + 2 := hub
  have hT := ev_ok tb_ok (LpOk.none fun _ _ => rfl) (spNo_ok Tryz.prog Tb0.ng) N (.call 33 [.pointer (some ⟨sb, 0, none⟩)]) (Hs sb ty (stL ss bm) bm f H.nx) trivial
  rw [show ev Tb0 (fun _ _ _ => none) N (.call 33 [.pointer (some ⟨sb, 0, none⟩)]) (Hs sb ty (stL ss bm) bm f H.nx) = _ from hev] at hT
  have hpre : Pre (β.cut H.nx) (Hs sb ty (stL ss bm) bm f H.nx) H1 r1 w1 W := by
    refine ⟨fun c hc ha => ?_, fun c d mc md hwc _ ac ad _ _ _ => ?_, fun c h1 h2 => ?_, fun c mc e => p.dom c mc (Mp.cut_le _ _ _ _ e)⟩
    · rcases Hs_alive ha with rfl | rfl
      · refine ⟨m, by rw [Mp.cut_lt hbx]; exact em, ?_⟩
        obtain ⟨t1, e1, e2⟩ := blkL_eq (bys f 65536) 199 0
        rw [Hs_b f hbx hne, e1, bys_len]
        refine ⟨_, ho, cs, fr, rfl, by omega, by omega, fun _ => ⟨hs, ht⟩, (fun k h => by cases h), fun i hi => ?_, hf⟩
        have e := e2 i _ (bys_get hi)
        rw [e, hs, Nat.zero_add]
        exact ⟨rfl, _, (hcs i hi).1, .int _ _⟩
      · refine ⟨ms, by rw [Mp.cut_lt hsx]; exact ems, ?_⟩
        obtain ⟨t1, e1, e2⟩ := blkL_eq (stL ss bm) ty 0
        rw [Hs_s f hsx, e1, stL_len]
        refine ⟨_, hso, ss, sfr, rfl, by omega, by omega, fun _ => ⟨hss, hst⟩, (fun k h => by cases h), fun i hi => ?_, s6⟩
        have e := e2 i _ (stL_get hi)
        rw [e, hss, Nat.zero_add]
        obtain ⟨v', q1, q2, q3⟩ := hcell i hi
        have tb2 : Tbl n' (β.cut H.nx) := fun k => by rw [Mp.cut_sy (by omega)]; exact tb k
        by_cases i6 : i = 6
        · subst i6
          rw [if_pos rfl]
          rw [h6] at q2
          rw [ptr_of em q2] at q1
          exact ⟨rfl, _, q1, .ptr _ _ m (by rw [Mp.cut_lt hbx]; exact em)⟩
        by_cases i15 : i = 15
        · subst i15
          rw [if_neg (by omega), if_pos rfl]
          rw [h15] at q2; cases q2
          exact ⟨rfl, _, q1, .int _ _⟩
        · rw [if_neg i6, if_neg i15, q1]
          exact ⟨cz_one _, _, rfl, cz_rel tb2 q3⟩
    · exact (hok.wr c ac.1 hwc).elim
    · have h1 : H.nx ≤ c := h1
      exact Mp.cut_no h1 (by omega)
  have hg2 : GRel NG (β.cut H.nx) := GRel.cut hng ⟨hg1, n', hPn, hn, tb⟩
  have hl2 : LRel (β.cut H.nx) [.pointer (some ⟨sb, 0, none⟩)] args'.toList := by
    obtain ⟨x1, l1, e, hx1, hl⟩ := hl.cons_inv
    have := hl.nil_inv; subst this
    rw [e]
    refine LRel.cons ?_ (LRel.nil _)
    cases hx1 with | ptr _ _ m' e' => exact .ptr _ _ m' (by rw [Mp.cut_lt hsx]; exact e')
  refine (hT.2 _ W hg2 hpre args' hl2).mono fun e W' hR => ?_
  obtain ⟨β1, v', he, hv, q⟩ := hR
  have hv' : v' = .agg ⟨snL 2 k⟩ := flat_eq 10 _ _ rfl hv
  refine ⟨β, v', he, ?_, ?_⟩
  · rw [hv']
    have l : LRel β [nV 2, nV 0, nV 0, nV 0, nV 0, sy 0, .bool true] (snL 2 k) :=
      LRel.cons (.int _ _) (LRel.cons (.int _ _) (LRel.cons (.int _ _) (LRel.cons (.int _ _) (LRel.cons (.int _ _) (LRel.cons (.sym 0 _ _ (tb 0) (.inr (.inr (.inr (.inr (.inl ⟨rfl, (fun b h => by cases h), rfl, rfl⟩)))))) (LRel.cons (.bool _) (LRel.nil β)))))))
    exact .agg _ _ rfl l.1 l.2
  · refine ⟨Mp.le.refl _, fun c mc e1 e2 => (by rw [e2] at e1; cases e1), fun c hc' hac => ?_, fun rb o ho' hno => q.frame rb o ho' fun c mc hc' hwc ec => ?_, q.size, fun c mc e1 => Nat.lt_of_lt_of_le (p.dom c mc e1) q.size, fun c mc _ e1 e2 => (by rw [e1] at e2; cases e2), fun c d mc md hc' _ hac => ?_, q.env⟩
    · rcases hc' with h | h
      · have := hac.1; omega
      · simp at h
    · exact (hok.wr c hc' hwc).elim
    · rcases hc' with h | h
      · have := hac.1; omega
      · simp at h
end Go.Proofs.MN
end
