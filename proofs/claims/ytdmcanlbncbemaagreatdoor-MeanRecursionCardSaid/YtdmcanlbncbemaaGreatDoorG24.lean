/-
  A part of the proof that pliantlaw16.MeanRecursion returns true and leaves its arguments alone. Conditions: those of the card in the last text.
-/
import Derived.Test.YtdmcanlbncbemaaGreatDoorG14
import Derived.Test.YtdmcanlbncbemaaGreatDoorG15
import Derived.Test.YtdmcanlbncbemaaGreatDoorG19
import Derived.Test.YtdmcanlbncbemaaGreatDoorG20
import Derived.Test.YtdmcanlbncbemaaGreatDoorG21
import Derived.Test.YtdmcanlbncbemaaGreatDoorG22
import Derived.Test.YtdmcanlbncbemaaGreatDoorG23
set_option linter.unusedSimpArgs false
set_option linter.unusedVariables false
set_option linter.unusedSectionVars false
noncomputable section
namespace Go.Proofs.MN
open Go Go.Ev Go.Proofs Go.Ev.SM
set_option maxRecDepth 100000000 in
theorem new_run : Nat.beq (Bc (clB (spX 0 false 1000000 (fun _ _ => none)) tab0 clNew srcNew) 1 0) 1 = true := by kernel_rfl
set_option maxRecDepth 100000000 in
theorem first_all : Nat.beq (Bc (allB firstB r61) 1 0) 1 = true := by kernel_rfl
theorem int_uniq {m : Bm} {x : Nat} (h : m.esz = 0) (hx : m.sh = x) : symR m (nV (Int.ofNat x)) ∧ ∀ v', symR m v' → v' = nV (Int.ofNat x) := by
  refine ⟨.inl ⟨h, by rw [hx]; rfl⟩, fun v' hv => ?_⟩
  rcases hv with ⟨_, h2⟩ | ⟨h2, _⟩ | ⟨h2, _⟩ | ⟨h2, _⟩ | ⟨h2, _⟩ | ⟨h2, _⟩
  · rw [h2, hx]; rfl
  all_goals (rw [h] at h2; cases h2)
theorem byte_uniq {m : Bm} {x : Nat} (h : m.esz = 2) (hx : m.sh = x) : symR m (.int .u8 (Int.ofNat x)) ∧ ∀ v', symR m v' → v' = .int .u8 (Int.ofNat x) := by
  refine ⟨.inr (.inr (.inl ⟨h, by rw [hx]⟩)), fun v' hv => ?_⟩
  rcases hv with ⟨h2, _⟩ | ⟨h2, _⟩ | ⟨_, h2⟩ | ⟨h2, _⟩ | ⟨h2, _⟩ | ⟨h2, _⟩
  case inr.inr.inl => rw [h2, hx]
  all_goals (rw [h] at h2; cases h2)
theorem tabN_ok (m : Nat) : @TabOk (SyN (· = m)) (valN m) := by
  intro β k v hq h
  obtain ⟨n, rfl, hn, tb⟩ := hq
  unfold valN at h
  have ek := tb k
  split at h
  · rename_i h1
    cases h
    rw [bm_V h1.1 h1.2] at ek
    exact ⟨_, ek, int_uniq rfl rfl⟩
  · split at h
    · rename_i h1
      cases h
      rw [bm_B h1.1 h1.2] at ek
      exact ⟨_, ek, byte_uniq rfl rfl⟩
    · split at h
      · rename_i h1
        cases h
        rw [bm_S h1.1 h1.2] at ek
        exact ⟨_, ek, int_uniq rfl rfl⟩
      · split at h
        · rename_i h1
          cases h
          rw [h1, bm_T] at ek
          rw [h1]
          exact ⟨_, ek, int_uniq rfl rfl⟩
        · cases h
theorem base_run {e : Nat} (h1 : 1 ≤ e) (h2 : e ≤ 61) : baseB e = true := by
  rcases Nat.lt_or_ge e 17 with h | h
  · exact allB_mem (bool_of base_0) e (by simp; omega)
  rcases Nat.lt_or_ge e 33 with h' | h'
  · exact allB_mem (bool_of base_1) e (by simp; omega)
  rcases Nat.lt_or_ge e 49 with h'' | h''
  · exact allB_mem (bool_of base_2) e (by simp; omega)
  · exact allB_mem (bool_of base_3) e (by simp; omega)
theorem deep_run {e : Nat} (h1 : 1 ≤ e) (h2 : e ≤ 60) : deepB e = true := by
  rcases Nat.lt_or_ge e 17 with h | h
  · exact allB_mem (bool_of deep_0) e (by simp; omega)
  rcases Nat.lt_or_ge e 33 with h' | h'
  · exact allB_mem (bool_of deep_1) e (by simp; omega)
  rcases Nat.lt_or_ge e 49 with h'' | h''
  · exact allB_mem (bool_of deep_2) e (by simp; omega)
  · exact allB_mem (bool_of deep_3) e (by simp; omega)
theorem no_nest {P : Nat → Prop} {g : Nat} : ∀ (args : List Value) (H : Hp) (v : Value) (H' : Hp) (r w : Nat), H.wf → (fun _ _ => none : List Value → Hp → Ans) args H = some (v, H', r, w) → @TaskOk (SyN P) Tryz.prog NG (.call g args) H (.k (.ret v H' r w)) := fun _ _ _ _ _ _ _ h => by cases h
theorem base_ok {e : Nat} (h1 : 1 ≤ e) (h2 : e ≤ 61) : @ClOk (SyN (· = e - 1)) Tryz.prog NG (clE e) ∧ Fits NG (clE e) := by
  letI := SyN (· = e - 1)
  exact clB_ok (spX_ok (P := (· = e - 1)) (fun n hn => ⟨by have : n = e - 1 := hn; show e - 1 ≤ n; omega, fun _ => hn⟩) (by show e - 1 ≤ 61; omega) no_nest) (tabN_ok (e - 1)) (base_run h1 h2)
theorem level_ok : ∀ (d e : Nat), e + d = 61 → 1 ≤ e → @ClOk (SyN (fun n => e - 1 ≤ n)) Tryz.prog NG (clE e)
  | 0, e, hd, h1 => by
    have hb := (base_ok (e := e) h1 (by omega)).1
    exact ClOk.weaken (fun n hn hle => by show n = e - 1; omega) hb
  | d + 1, e, hd, h1 => by
    have ih := level_ok d (e + 1) (by omega) (by omega)
    have hf := (base_ok (e := e + 1) (by omega) (by omega)).2
    have hb := (base_ok (e := e) h1 (by omega)).1
    have hdp : @ClOk (SyN (fun n => e ≤ n)) Tryz.prog NG (clE e) := by
      letI := SyN (fun n => e ≤ n)
      refine (clB_ok (spX_ok (P := fun n => e ≤ n) (lim := e) (base := false) (g := 153) (nest := nestE (Nat.succ e)) (fun n hn => ⟨hn, fun h => by cases h⟩) (by omega) ?_) tab0_ok (deep_run h1 (by omega))).1
      intro args H v H' r w hw h
      exact spC_ok tab0_ok hf ih hw h
    exact ClOk.or (P1 := (· = e - 1)) (P2 := fun n => e ≤ n) (fun n hn hle => by
      have hn : e - 1 ≤ n := hn
      by_cases h : n = e - 1
      · exact .inl h
      · exact .inr (by omega)) hb hdp
theorem new_ok (P : Nat → Prop) : @ClOk (SyN P) Tryz.prog NG clNew ∧ Fits NG clNew := by
  letI := SyN P
  exact clB_ok (spX_ok (P := P) (fun n hn => ⟨Nat.zero_le _, fun h => by cases h⟩) (by omega) no_nest) tab0_ok (bool_of new_run)
theorem first_ok {n : Nat} (h : n < 61) : @ClOk (SyN (· = n)) Tryz.prog NG (clF n) ∧ Fits NG (clF n) := by
  letI := SyN (· = n)
  have hb := allB_mem (bool_of first_all) n (r61_mem h)
  unfold firstB at hb
  split at hb
  · rename_i v H r w hsp
    cases hf : (clF n).fits NG with
    | false => rw [hf, Bc_f] at hb; cases hb
    | true =>
      rw [hf, Bc_t] at hb
      have F := Clm.fits_ok hf
      have c1 : @ClOk (SyN (· = n)) Tryz.prog NG (clE 1) := ClOk.weaken (fun m hm _ => by show 1 - 1 ≤ m; omega) (level_ok 60 1 rfl (Nat.le_refl _))
      have t := spC_ok (tabN_ok n) (base_ok (e := 1) (Nat.le_refl _) (by omega)).2 c1 (show (clF n).h0.wf from Nat.le_trans F.le F.n1) hsp
      exact ⟨ClOk.of_run (tabN_ok n) F (endB_ok hb) t, F⟩
  · cases hb
end Go.Proofs.MN
end
