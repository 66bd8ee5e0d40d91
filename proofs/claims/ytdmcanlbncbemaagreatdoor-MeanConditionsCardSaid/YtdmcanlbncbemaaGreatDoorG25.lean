/-
  A part of the proof that pliantlaw16.MeanConditions returns true and leaves its arguments alone. Conditions: those of the card in the last text.
-/
import Derived.Test.YtdmcanlbncbemaaGreatDoorG21
import Derived.Test.YtdmcanlbncbemaaGreatDoorG22
import Derived.Test.YtdmcanlbncbemaaGreatDoorG23
import Derived.Test.YtdmcanlbncbemaaGreatDoorG24
set_option linter.unusedSimpArgs false
set_option linter.unusedVariables false
set_option linter.unusedSectionVars false
noncomputable section
namespace Go.Proofs.CN
open Go Go.Ev Go.Proofs Go.Ev.SM Go.Proofs.MN
section
variable (K : Nat) (k a b : Int)
def zA : Int := a.tmod 32768
def zB : Int := b.tmod 32768
def zR : Int := (zA a).tmod (zB b)
def zW : Int := if zB b = 0 then 0 else if zR a b < 0 then zR a b + (zB b).natAbs else zR a b
def zN : Int := zA a * 8 + (zB b).tmod 8
def z3 : Int := if K = 0 then zW a b else if K = 1 then zN a b else if K = 2 then zA a else 0
def z4 : Int := if K = 0 then zW a b else if K = 1 then (zN a b).tmod 32768 else if K = 2 then zA a else 0
def zsK : Nat → Int
  | 1 => zA a | 2 => zB b | 3 => z3 K a b | 4 => z4 K a b | 5 => zR a b | 6 => z4 K a b + (zB b).natAbs | 7 => zA a * 8 | 8 => (zB b).tmod 8
  | 9 => a | 10 => b | 11 => k | 12 => k.tmod 4 | 13 => k.tmod 4 + 4 | 14 => - zB b | 15 => (zB b).natAbs | _ => 0
end
section
variable {K : Nat} {k a b : Int}
theorem zA_bd : -32767 ≤ zA a ∧ zA a ≤ 32767 := by have := tmod_bd a (m := 32768) (by decide); unfold zA; omega
theorem zB_bd : -32767 ≤ zB b ∧ zB b ≤ 32767 := by have := tmod_bd b (m := 32768) (by decide); unfold zB; omega
theorem zN_bd : -262143 ≤ zN a b ∧ zN a b ≤ 262143 := by
  have h1 := zA_bd (a := a)
  have h2 := tmod_bd (zB b) (m := 8) (by decide)
  unfold zN; omega
theorem zR_abs (h : zB b ≠ 0) : (zR a b).natAbs < (zB b).natAbs := by
  unfold zR
  have e : (zA a).tmod (zB b) = (zA a).tmod ((zB b).natAbs : Int) := by
    rcases (by omega : ((zB b).natAbs : Int) = zB b ∨ ((zB b).natAbs : Int) = - zB b) with h | h
    · rw [h]
    · rw [h, Int.tmod_neg]
  rw [e]
  have := tmod_bd (zA a) (m := ((zB b).natAbs : Int)) (by omega)
  omega
theorem zW_bd : 0 ≤ zW a b ∧ zW a b ≤ 32767 := by
  have hb := zB_bd (b := b)
  unfold zW
  by_cases h : zB b = 0
  · rw [if_pos h]; omega
  · rw [if_neg h]
    have := zR_abs (a := a) h
    split <;> omega
theorem z4_bd : -32767 ≤ z4 K a b ∧ z4 K a b ≤ 32767 := by
  have h1 := zA_bd (a := a)
  have h2 := zW_bd (a := a) (b := b)
  have h3 := tmod_bd (zN a b) (m := 32768) (by decide)
  unfold z4
  repeat' split
  all_goals omega
theorem pw_of : PW (One (zsK K k a b)) (semZ (zsK K k a b)) := by
  have := z4_bd (K := K) (a := a) (b := b)
  refine ⟨_, rfl, ?_, ?_, rfl⟩
  · show -32768 < z4 K a b; omega
  · show z4 K a b < 32768; omega
theorem cs0z (hk : (k.tmod 4 + 4).tmod 4 = 0) (hb : zB b = 0) : CsOk ⟨0, true, false, false, 0⟩ (zsK 0 k a b) where
  z := {
    a := rfl, b := rfl, bz := fun _ => hb, bn := fun _ h => (by cases h), k1 := rfl, k2 := rfl, k3 := hk, nb := rfl, ab := rfl, r := fun _ h => (by cases h), rn := fun _ h => (by cases h),
    w0 := fun _ h => (by cases h), s6 := rfl, a8 := rfl, b8 := rfl, n1 := fun h => (by cases h), n0 := fun _ => rfl, n2 := fun h => (by cases h), m8 := fun h => (by cases h) }
  h4 := z4_bd
  h3 := fun _ => z4_bd (K := 0)
theorem cs0 {rn : Bool} (hk : (k.tmod 4 + 4).tmod 4 = 0) (hb : zB b ≠ 0) (h1 : rn = true → zR a b < 0) (h2 : rn = false → 0 ≤ zR a b) : CsOk ⟨0, false, rn, false, 0⟩ (zsK 0 k a b) where
  z := {
    a := rfl, b := rfl, bz := fun h => (by cases h), bn := fun _ _ => hb, k1 := rfl, k2 := rfl, k3 := hk, nb := rfl, ab := rfl, r := fun _ _ => rfl, rn := fun _ _ => ⟨h1, h2⟩,
    w0 := fun _ _ => (by
      show zW a b = Bc rn (zR a b + (zB b).natAbs) (zR a b)
      unfold zW
      rw [if_neg hb]
      cases rn with
      | true => rw [if_pos (h1 rfl)]; rfl
      | false => rw [if_neg (by have := h2 rfl; omega)]; rfl), s6 := rfl, a8 := rfl, b8 := rfl, n1 := fun h => (by cases h), n0 := fun _ => rfl, n2 := fun h => (by cases h), m8 := fun h => (by cases h) }
  h4 := z4_bd
  h3 := fun _ => z4_bd (K := 0)
theorem cs1 {cut : Bool} (hk : (k.tmod 4 + 4).tmod 4 = 1) (h1 : cut = true → (zN a b).tmod 32768 ≠ zN a b) (h2 : cut = false → (zN a b).tmod 32768 = zN a b) : CsOk ⟨1, false, false, cut, 0⟩ (zsK 1 k a b) where
  z := {
    a := rfl, b := rfl, bz := fun h => (by cases h), bn := fun h => (by cases h), k1 := rfl, k2 := rfl, k3 := hk, nb := rfl, ab := rfl, r := fun h => (by cases h), rn := fun h => (by cases h),
    w0 := fun h => (by cases h), s6 := rfl, a8 := rfl, b8 := rfl, n1 := fun _ => ⟨rfl, rfl, h1, h2⟩, n0 := fun h => (by rcases h with h | h <;> cases h), n2 := fun h => (by cases h), m8 := fun h => (by cases h) }
  h4 := z4_bd
  h3 := fun h => absurd rfl h
theorem cs2 (hk : (k.tmod 4 + 4).tmod 4 = 2) : CsOk ⟨2, false, false, false, 0⟩ (zsK 2 k a b) where
  z := {
    a := rfl, b := rfl, bz := fun h => (by cases h), bn := fun h => (by cases h), k1 := rfl, k2 := rfl, k3 := hk, nb := rfl, ab := rfl, r := fun h => (by cases h), rn := fun h => (by cases h),
    w0 := fun h => (by cases h), s6 := rfl, a8 := rfl, b8 := rfl, n1 := fun h => (by cases h), n0 := fun _ => rfl, n2 := fun _ => rfl, m8 := fun h => (by cases h) }
  h4 := z4_bd
  h3 := fun _ => z4_bd (K := 2)
theorem shW_ok {z : Int} (h0 : z ≠ 0) (h : z.natAbs < 32768) : ShOk (shW (nd z.natAbs) (decide (z < 0))) z := by
  have h1 := nd_dn (m := z.natAbs) (by omega)
  have h2 := nd_up (m := z.natAbs) (by omega)
  have hp := nd_pos z.natAbs
  have e : shW (nd z.natAbs) (decide (z < 0)) = ⟨nd z.natAbs, 6, decide (z < 0), 10 ^ (nd z.natAbs - 1), min (10 ^ nd z.natAbs - 1) 32767⟩ := by
    unfold shW
    rw [show Nat.beq (nd z.natAbs) 0 = false from by rw [← Bool.not_eq_true, beq_iff]; omega]; rfl
  rw [e]
  exact ⟨rfl, fun h => absurd h (Nat.lt_irrefl 6), h1, by show _ ≤ min _ _; omega, by show min _ _ < _; omega, ng_dec z⟩
theorem shW_0 : ShOk (shW 0 false) 0 := shZ_ok
theorem by_shape {z : Int} {P : Nat → Bool → Prop} (h : -32767 ≤ z ∧ z ≤ 32767) (h0 : z = 0 → P 0 false) (hp : ∀ L, 1 ≤ L → L ≤ 5 → 0 < z → L = nd z.natAbs → P L false) (hn : ∀ L, 1 ≤ L → L ≤ 5 → z < 0 → L = nd z.natAbs → P L true) : ∃ L ng, ShOk (shW L ng) z ∧ P L ng := by
  by_cases hz : z = 0
  · exact ⟨0, false, by rw [hz]; exact shW_0, h0 hz⟩
  · have h5 := nd_le5 (m := z.natAbs) (by omega)
    have h1 := nd_pos z.natAbs
    refine ⟨nd z.natAbs, decide (z < 0), shW_ok hz (by omega), ?_⟩
    by_cases hs : z < 0
    · rw [decide_eq_true hs]; exact hn _ h1 h5 hs rfl
    · rw [decide_eq_false hs]; exact hp _ h1 h5 (by omega) rfl
theorem five {L : Nat} {f : Nat → Bool} (h1 : 1 ≤ L) (h5 : L ≤ 5) (a1 : f 1 = true) (a2 : f 2 = true) (a3 : f 3 = true) (a4 : f 4 = true) (a5 : f 5 = true) : f L = true := by
  rcases (by omega : L = 1 ∨ L = 2 ∨ L = 3 ∨ L = 4 ∨ L = 5) with rfl | rfl | rfl | rfl | rfl <;> assumption
variable {hk : HkOp → List Value → Option Value} {u : Bool}
theorem law0 (h0 : (k.tmod 4 + 4).tmod 4 = 0) {hok : HkOk (PW (One (zsK 0 k a b))) hk} : Cl (zsK 0 k a b) hk hok (lawK u) := by
  have hcl : ∀ (c : Cs) (L : Nat) (ng : Bool), c.K = 0 → ∀ x ∈ clK c L ng, ∀ hk hok, Cl (zsK 0 k a b) hk hok x := by
    intro c L ng hc x hx hk hok
    unfold clK at hx
    rw [hc] at hx
    have hx : x ∈ [clSane, toK T15 v3 0] ++ fitL T15 := hx
    have hw := zW_bd (a := a) (b := b)
    rcases List.mem_append.1 hx with hx | hx
    · simp only [List.mem_cons, List.mem_nil_iff, or_false] at hx
      rcases hx with rfl | rfl
      · exact cl_sane
      · exact toF_ok (show 0 ≤ zW a b from hw.1) (show zW a b < 32768 by omega) rfl
    · exact fitL15 zA_bd zB_bd (show -32767 ≤ zW a b ∧ zW a b ≤ 32767 by omega) (show -32767 ≤ zW a b ∧ zW a b ≤ 32767 by omega) x hx
  by_cases hb : zB b = 0
  · refine run0_ok (cs0z h0 hb) (hcl _ _ _ rfl) ?_
    cases u
    · exact bool_of z0F
    · exact bool_of z0T
  · have hw := zW_bd (a := a) (b := b)
    by_cases hr : zR a b < 0
    · obtain ⟨L, ng, o, h⟩ := by_shape (z := zW a b) (P := fun L ng => runW ⟨0, false, true, false, 0⟩ u L ng = true) (by omega) (fun h => by
          exfalso
          unfold zW at h
          rw [if_neg hb, if_pos hr] at h
          have := zR_abs (a := a) hb
          omega) (fun L h1 h5 _ _ => by
          cases u
          · exact five (f := fun L => runW ⟨0, false, true, false, 0⟩ false L false) h1 h5 (bool_of r0FT1) (bool_of r0FT2) (bool_of r0FT3) (bool_of r0FT4) (bool_of r0FT5)
          · exact five (f := fun L => runW ⟨0, false, true, false, 0⟩ true L false) h1 h5 (bool_of r0TT1) (bool_of r0TT2) (bool_of r0TT3) (bool_of r0TT4) (bool_of r0TT5)) (fun L _ _ h _ => by omega)
      exact runW_ok (cs0 h0 hb (fun _ => hr) fun h => by cases h) o (hcl _ _ _ rfl) h
    · obtain ⟨L, ng, o, h⟩ := by_shape (z := zW a b) (P := fun L ng => runW ⟨0, false, false, false, 0⟩ u L ng = true) (by omega) (fun h => by
          cases u
          · exact bool_of r0FF0
          · exact bool_of r0TF0) (fun L h1 h5 _ _ => by
          cases u
          · exact five (f := fun L => runW ⟨0, false, false, false, 0⟩ false L false) h1 h5 (bool_of r0FF1) (bool_of r0FF2) (bool_of r0FF3) (bool_of r0FF4) (bool_of r0FF5)
          · exact five (f := fun L => runW ⟨0, false, false, false, 0⟩ true L false) h1 h5 (bool_of r0TF1) (bool_of r0TF2) (bool_of r0TF3) (bool_of r0TF4) (bool_of r0TF5)) (fun L _ _ h _ => by omega)
      exact runW_ok (cs0 h0 hb (fun h => by cases h) fun _ => by omega) o (hcl _ _ _ rfl) h
theorem tmod_ne {n : Int} (h : 32768 ≤ n.natAbs) : n.tmod 32768 ≠ n := fun e => by
  have := tmod_bd n (m := 32768) (by decide)
  rw [e] at this; omega
theorem law1 (h0 : (k.tmod 4 + 4).tmod 4 = 1) {hok : HkOk (PW (One (zsK 1 k a b))) hk} : Cl (zsK 1 k a b) hk hok (lawK u) := by
  have hn := zN_bd (a := a) (b := b)
  have h4 := z4_bd (K := 1) (a := a) (b := b)
  have hcl : ∀ (c : Cs) (L : Nat) (ng : Bool), c.K = 1 → (c.cut = true → 32768 ≤ (zN a b).natAbs) → (c.cut = false → (zN a b).natAbs < 32768) → ∀ x ∈ clK c L ng, ∀ hk hok, Cl (zsK 1 k a b) hk hok x := by
    intro c L ng hc hc1 hc2 x hx hk hok
    unfold clK at hx
    rw [hc] at hx
    have hx : x ∈ [clSane, toK T31 v3 (Bc c.cut 1 0)] ++ fitL T31 := hx
    rcases List.mem_append.1 hx with hx | hx
    · simp only [List.mem_cons, List.mem_nil_iff, or_false] at hx
      rcases hx with rfl | rfl
      · exact cl_sane
      · cases hcut : c.cut with
        | true => exact toN_ok (show 32768 ≤ (zN a b).natAbs from hc1 hcut) (show (zN a b).natAbs ≤ 262143 by omega) rfl
        | false => exact toU_ok (show (zN a b).natAbs < 32768 from hc2 hcut) (show (zN a b).tmod 32768 = zN a b from tmod_small (hc2 hcut))
    · exact fitL31 zA_bd zB_bd (show -300000 ≤ zN a b ∧ zN a b ≤ 300000 by omega) h4 x hx
  by_cases hc : 32768 ≤ (zN a b).natAbs
  · have hcs : CsOk ⟨1, false, false, true, 0⟩ (zsK 1 k a b) := cs1 h0 (fun _ => tmod_ne hc) fun h => by cases h
    cases u with
    | false => exact run0_ok hcs (hcl _ _ _ rfl (fun _ => hc) fun h => by cases h) (bool_of c1F)
    | true =>
      obtain ⟨L, ng, o, h⟩ := by_shape (z := z4 1 a b) (P := fun L ng => runW ⟨1, false, false, true, 0⟩ true L ng = true) h4 (fun _ => bool_of c1TF0)
        (fun L h1 h5 _ _ => five (f := fun L => runW ⟨1, false, false, true, 0⟩ true L false) h1 h5 (bool_of c1TF1) (bool_of c1TF2) (bool_of c1TF3) (bool_of c1TF4) (bool_of c1TF5))
        (fun L h1 h5 _ _ => five (f := fun L => runW ⟨1, false, false, true, 0⟩ true L true) h1 h5 (bool_of c1TT1) (bool_of c1TT2) (bool_of c1TT3) (bool_of c1TT4) (bool_of c1TT5))
      exact runW_ok hcs o (hcl _ _ _ rfl (fun _ => hc) fun h => by cases h) h
  · have hc' : (zN a b).natAbs < 32768 := by omega
    have hcs : CsOk ⟨1, false, false, false, 0⟩ (zsK 1 k a b) := cs1 h0 (fun h => by cases h) fun _ => tmod_small hc'
    obtain ⟨L, ng, o, h⟩ := by_shape (z := z4 1 a b) (P := fun L ng => runW ⟨1, false, false, false, 0⟩ u L ng = true) h4 (fun _ => by
        cases u
        · exact bool_of r1FF0
        · exact bool_of r1TF0)
      (fun L h1 h5 _ _ => by
        cases u
        · exact five (f := fun L => runW ⟨1, false, false, false, 0⟩ false L false) h1 h5 (bool_of r1FF1) (bool_of r1FF2) (bool_of r1FF3) (bool_of r1FF4) (bool_of r1FF5)
        · exact five (f := fun L => runW ⟨1, false, false, false, 0⟩ true L false) h1 h5 (bool_of r1TF1) (bool_of r1TF2) (bool_of r1TF3) (bool_of r1TF4) (bool_of r1TF5))
      (fun L h1 h5 _ _ => by
        cases u
        · exact five (f := fun L => runW ⟨1, false, false, false, 0⟩ false L true) h1 h5 (bool_of r1FT1) (bool_of r1FT2) (bool_of r1FT3) (bool_of r1FT4) (bool_of r1FT5)
        · exact five (f := fun L => runW ⟨1, false, false, false, 0⟩ true L true) h1 h5 (bool_of r1TT1) (bool_of r1TT2) (bool_of r1TT3) (bool_of r1TT4) (bool_of r1TT5))
    exact runW_ok hcs o (hcl _ _ _ rfl (fun h => by cases h) fun _ => hc') h
theorem law2 (h0 : (k.tmod 4 + 4).tmod 4 = 2) {hok : HkOk (PW (One (zsK 2 k a b))) hk} : Cl (zsK 2 k a b) hk hok (lawK u) := by
  have ha := zA_bd (a := a)
  have hcl : ∀ (c : Cs) (L : Nat) (ng : Bool), c.K = 2 → (L ≠ 0 → L = nd (zA a).natAbs ∧ ng = decide (zA a < 0)) → ∀ x ∈ clK c L ng, ∀ hk hok, Cl (zsK 2 k a b) hk hok x := by
    intro c L ng hc hL x hx hk hok
    unfold clK at hx
    rw [hc] at hx
    have hx : x ∈ Bc (Nat.beq L 0) ([clSane] ++ fitL T15) ([clSane, toK (tyC (L + sg ng)) v3S 0] ++ fitL T15) := hx
    have hf := fitL15 (hk := hk) (hok := hok) (zs := zsK 2 k a b) zA_bd zB_bd (show -32767 ≤ zA a ∧ zA a ≤ 32767 from ha) (show -32767 ≤ zA a ∧ zA a ≤ 32767 from ha)
    cases hl : Nat.beq L 0 with
    | true =>
      rw [hl, Bc_t] at hx
      rcases List.mem_append.1 hx with hx | hx
      · simp only [List.mem_cons, List.mem_nil_iff, or_false] at hx
        subst hx; exact cl_sane
      · exact hf x hx
    | false =>
      rw [hl, Bc_f] at hx
      obtain ⟨e1, e2⟩ := hL (fun h => by rw [(beq_iff _ _).2 h] at hl; cases hl)
      rcases List.mem_append.1 hx with hx | hx
      · simp only [List.mem_cons, List.mem_nil_iff, or_false] at hx
        rcases hx with rfl | rfl
        · exact cl_sane
        · subst e1; subst e2
          exact toS_ok (zs := zsK 2 k a b) (show (zA a).natAbs < 32768 by omega) rfl
      · exact hf x hx
  obtain ⟨L, ng, o, h, hL⟩ := by_shape (z := z4 2 a b) (P := fun L ng => runW ⟨2, false, false, false, 0⟩ u L ng = true ∧ (L ≠ 0 → L = nd (zA a).natAbs ∧ ng = decide (zA a < 0))) z4_bd (fun _ => by
      refine ⟨?_, fun h => absurd rfl h⟩
      cases u
      · exact bool_of r2FF0
      · exact bool_of r2TF0)
    (fun L h1 h5 hz e => by
      refine ⟨?_, fun _ => ⟨e, (decide_eq_false (by have : 0 < zA a := hz; omega)).symm⟩⟩
      cases u
      · exact five (f := fun L => runW ⟨2, false, false, false, 0⟩ false L false) h1 h5 (bool_of r2FF1) (bool_of r2FF2) (bool_of r2FF3) (bool_of r2FF4) (bool_of r2FF5)
      · exact five (f := fun L => runW ⟨2, false, false, false, 0⟩ true L false) h1 h5 (bool_of r2TF1) (bool_of r2TF2) (bool_of r2TF3) (bool_of r2TF4) (bool_of r2TF5))
    (fun L h1 h5 hz e => by
      refine ⟨?_, fun _ => ⟨e, (decide_eq_true (show zA a < 0 from hz)).symm⟩⟩
      cases u
      · exact five (f := fun L => runW ⟨2, false, false, false, 0⟩ false L true) h1 h5 (bool_of r2FT1) (bool_of r2FT2) (bool_of r2FT3) (bool_of r2FT4) (bool_of r2FT5)
      · exact five (f := fun L => runW ⟨2, false, false, false, 0⟩ true L true) h1 h5 (bool_of r2TT1) (bool_of r2TT2) (bool_of r2TT3) (bool_of r2TT4) (bool_of r2TT5))
  exact runW_ok (cs2 h0) o (hcl _ _ _ rfl hL) h
end
end Go.Proofs.CN
end
