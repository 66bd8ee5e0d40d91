/-
  A part of the reckoner for the statements of a Go program: what it answers, the model answers. Holds for every program whose tables are as given.
-/
import Derived.Sort.Grow
import Derived.Sort.Row
import Derived.Test.YtdmcanlbncbemaaGreatDoorG06
import Derived.Test.YtdmcanlbncbemaaGreatDoorG07
import Derived.Test.YtdmcanlbncbemaaGreatDoorG08
set_option linter.unusedSimpArgs false
set_option linter.unusedVariables false
set_option linter.unusedSectionVars false
noncomputable section
namespace Go.Ev
variable [SyQ]
open Go.Ar (By)
theorem ofNat_toNat8 (n : Nat) : (UInt8.ofNat n).toNat = n % 256 := by simp
theorem wrapF_nat {n : Nat} (h : n ≤ 9223372036854775807) : wrapF .i64 ((n : Nat) : Int) = ((n : Nat) : Int) := wrapF_i64 (by omega) (by omega)
theorem dec_T {h : Decidable True} : @decide True h = true := decide_eq_true trivial
theorem dec_F {h : Decidable False} : @decide False h = false := decide_eq_false id
theorem exLen_str (s : List UInt8) (H : Hp) : exLen 0 (vS s) H = .val (vN s.length) H 0 0 := rfl
theorem OvB.refl {H : Hp} {b ty n : Nat} {f : By} (hf : H.isFn = true) (h : ByU H b ty f n) : OvB H b ty f n H := ⟨h, hf, rfl, fun _ _ => rfl⟩
theorem OvB.trans {H H1 H2 : Hp} {b ty n : Nat} {f g : By} (h : OvB H b ty f n H1) (k : OvB H1 b ty g n H2) : OvB H b ty g n H2 := ⟨k.row, k.fn, by rw [k.nx, h.nx], fun c hc => by rw [k.else_ c hc, h.else_ c hc]⟩
theorem OvB.as {H H1 : Hp} {b ty n : Nat} {f g : By} (h : OvB H b ty f n H1) (e : f = g) : OvB H b ty g n H1 := by rw [← e]; exact h
def bitU (u : UInt8) (i : Nat) : UInt8 := UInt8.ofNat (48 + u.toNat / 2 ^ (7 - i) % 2)
def bitsOf (u : UInt8) : List UInt8 := (List.range 8).map (bitU u)
theorem ByU.congr {H : Hp} {b ty n : Nat} {f g : By} (h : ByU H b ty f n) (e : ∀ i, i < n → f i = g i) : ByU H b ty g n := by
  show Row H b ty 0 (bys g n)
  rw [← bys_congr e]; exact h
theorem ByU.toS0 {H : Hp} {b ty n k c : Nat} {f : By} (h : ByU H b ty f n) (hle : 0 + k ≤ n) : exToS (.slice (some ⟨b, 0, none⟩) k c) H = .val (vS (strF f k)) H (bit b) 0 := by
  rw [h.toS hle]
  simp only [Nat.zero_add]
theorem slA_lh {b l h : Nat} (H : Hp) (h1 : l ≤ h) (h2 : h ≤ 65536) (h3 : l < 65536) : exSlA 65536 1 (.pointer (some ⟨b, 0, none⟩)) (some (vN ((l : Nat) : Int))) (some (vN ((h : Nat) : Int))) none H = .val (.slice (some ⟨b, l, none⟩) (h - l) (2 * (65536 - l))) H 0 0 := by
  have : bounds 65536 65536 (some (vN (l : Int))) (some (vN (h : Int))) none = some (l, h, 65536) := by
    unfold bounds
    rw [show Bc ((none : Option Value).isSome && (some (vN (h : Int))).isNone) none (bnd none 65536 65536) = some 65536 from rfl]
    simp only []
    rw [bnd_some h2]
    simp only []
    rw [bnd_some h1]
  show (match bounds 65536 65536 (some (vN (l : Int))) (some (vN (h : Int))) none with
    | none => R.fail
    | some (l, h, m) => Bc (Nat.beq m l) (R.v (mkSlV (some (b, 0)) (h - l) (m - l) false) H) (R.v (mkSlV (some (b, 0 + l * 1)) (h - l) (m - l) false) H)) = _
  rw [this]
  simp only []
  have e : Nat.beq 65536 l = false := by
    cases hh : Nat.beq 65536 l with
    | false => rfl
    | true => have := (beq_iff _ _).1 hh; omega
  rw [e, Bc_f, Nat.mul_one, Nat.zero_add]
  rfl
theorem slA_n {b p n : Nat} (H : Hp) (h1 : p + n ≤ 65536) (h2 : p < 65536) : exSlA 65536 1 (.pointer (some ⟨b, 0, none⟩)) (some (vN ((p : Nat) : Int))) (some (vN ((p + n : Nat) : Int))) none H = .val (.slice (some ⟨b, p, none⟩) n (2 * (65536 - p))) H 0 0 := by
  rw [slA_lh H (by omega) h1 h2, show p + n - p = n by omega]
theorem quo8 {n q : Nat} (h : n / 8 = q) (hn : n < 9223372036854775808) (H : Hp) : R.o (binV .quo (vN ((n : Nat) : Int)) (.int .i64 8)) H = .val (vN ((q : Nat) : Int)) H 0 0 := by
  have : binV .quo (vN ((n : Nat) : Int)) (.int .i64 8) = some (vN ((q : Nat) : Int)) := by
    show Bc (eqI 8 0) none (some (Value.int .i64 (wrapF .i64 (((n : Nat) : Int).tdiv 8)))) = _
    rw [show eqI 8 0 = false from rfl, Bc_f]
    have : ((n : Nat) : Int).tdiv 8 = ((q : Nat) : Int) := by rw [Int.tdiv_eq_ediv_of_nonneg (Int.natCast_nonneg _)]; omega
    rw [this, wrapF_nat (by omega)]
  rw [this]; rfl
theorem remK {n q k : Nat} (hk : 0 < k) (h : n % k = q) (H : Hp) : R.o (binV .rem (vN ((n : Nat) : Int)) (.int .i64 ((k : Nat) : Int))) H = .val (vN ((q : Nat) : Int)) H 0 0 := by
  have : binV .rem (vN ((n : Nat) : Int)) (.int .i64 ((k : Nat) : Int)) = some (vN ((q : Nat) : Int)) := by
    refine binV_of ?_
    show Bc (eqI ((k : Nat) : Int) 0) none (some (Value.int .i64 (((n : Nat) : Int).tmod ((k : Nat) : Int)))) = _
    have e : eqI ((k : Nat) : Int) 0 = false := by
      rw [eqI_dec]; exact decide_eq_false (by omega)
    rw [e, Bc_f]
    have : ((n : Nat) : Int).tmod ((k : Nat) : Int) = ((q : Nat) : Int) := by
      rw [Int.tmod_eq_emod_of_nonneg (Int.natCast_nonneg _), ← h]; rfl
    rw [this]
  rw [this]; rfl
theorem rem8q {n q : Nat} (h : n % 8 = q) (H : Hp) : R.o (binV .rem (vN ((n : Nat) : Int)) (.int .i64 8)) H = .val (vN ((q : Nat) : Int)) H 0 0 := remK (k := 8) (by decide) h H
abbrev nB (n : Nat) : Value := .int .u8 ((n : Nat) : Int)
theorem nB_uB {n : Nat} (h : n < 256) : nB n = uB (UInt8.ofNat n) := by
  show Value.int .u8 (.ofNat n) = Value.int .u8 (.ofNat (UInt8.ofNat n).toNat)
  rw [ofNat_toNat8, Nat.mod_eq_of_lt h]
theorem shr8u {n k : Nat} (hk : k < 8) : binV .shr (nB n) (vN ((k : Nat) : Int)) = some (nB (n / 2 ^ k)) := by
  refine binV_of ?_
  show Bc (ltI (k : Int) 0) none (some (Value.int .u8 (((n : Nat) : Int).fdiv (2 ^ (min ((k : Int)).toNat IntKind.u8.bits))))) = _
  rw [show ltI (k : Int) 0 = false from by rw [ltI_dec]; exact decide_eq_false (by omega), Bc_f]
  have e : min ((k : Int)).toNat IntKind.u8.bits = k := by
    rw [Int.toNat_natCast]; exact Nat.min_eq_left (by show k ≤ 8; omega)
  rw [e]
  have : ((2 : Int) ^ k) = ((2 ^ k : Nat) : Int) := by simp
  rw [this, Int.fdiv_eq_ediv_of_nonneg _ (by exact Int.natCast_nonneg _)]
  congr 2
theorem wrap8 {n : Nat} (h : n < 256) : wrapF .u8 ((n : Nat) : Int) = ((n : Nat) : Int) := by
  show Bc (Nat.ble n (kmax .u8)) (Int.ofNat n) _ = _
  rw [(ble_iff _ _).2 (by show n ≤ 255; omega), Bc_t]; rfl
theorem and1 {n : Nat} (h : n < 256) : binV .and (nB n) (.int .u8 1) = some (nB (n % 2)) := by
  show some (Value.int .u8 (wrapF .u8 (.ofNat (Nat.land n 1)))) = _
  have : Nat.land n 1 = n % 2 := Nat.and_one_is_mod n
  rw [this]
  show some (Value.int .u8 (wrapF .u8 ((n % 2 : Nat) : Int))) = _
  rw [wrap8 (by omega)]
theorem add48 {n : Nat} (h : n < 2) : binV .add (.int .u8 48) (nB n) = some (nB (48 + n)) := by
  show some (Value.int .u8 (wrapF .u8 (48 + ((n : Nat) : Int)))) = _
  rw [show (48 + ((n : Nat) : Int)) = ((48 + n : Nat) : Int) by omega, wrap8 (by omega)]
def mixU (a u i : Nat) : Nat := 2 ^ (8 - i) * (u / 2 ^ (8 - i)) + a % 2 ^ (8 - i)
theorem mix_bit {a u i : Nat} (hu : u < 256) (j : Nat) : (mixU a u i).testBit j = if j < 8 - i then a.testBit j else u.testBit j := by
  unfold mixU
  rw [Nat.testBit_two_pow_mul_add _ (Nat.mod_lt _ (Nat.two_pow_pos _))]
  by_cases h : j < 8 - i
  · rw [if_pos h, if_pos h, Nat.testBit_mod_two_pow]; simp [h]
  · rw [if_neg h, if_neg h, Nat.testBit_div_two_pow]; congr 1; omega
theorem mix_lt {a u i : Nat} (ha : a < 256) (hu : u < 256) : mixU a u i < 256 := by
  have : mixU a u i < 2 ^ 8 := Nat.lt_pow_two_of_testBit _ fun j hj => by
    rw [mix_bit hu]
    have e1 : a.testBit j = false := Nat.testBit_lt_two_pow (Nat.lt_of_lt_of_le ha (show 256 ≤ 2 ^ j from Nat.pow_le_pow_right (n := 2) (by decide) hj))
    have e2 : u.testBit j = false := Nat.testBit_lt_two_pow (Nat.lt_of_lt_of_le hu (show 256 ≤ 2 ^ j from Nat.pow_le_pow_right (n := 2) (by decide) hj))
    rw [e1, e2]; simp
  exact this
theorem mix_zero {a u : Nat} (ha : a < 256) (hu : u < 256) : mixU a u 0 = a := by
  unfold mixU
  have e1 : u / 2 ^ (8 - 0) = 0 := Nat.div_eq_of_lt hu
  have e2 : a % 2 ^ (8 - 0) = a := Nat.mod_eq_of_lt ha
  rw [e1, e2]; omega
theorem mix_all (a u : Nat) : mixU a u 8 = u := by
  unfold mixU; simp [Nat.mod_one]
theorem shr128 {i : Nat} (h : i < 8) : binV .shr (.int .u8 128) (vN ((i : Nat) : Int)) = some (nB (2 ^ (7 - i))) := by
  have := shr8u (n := 128) h
  rw [show (128 : Nat) = 2 ^ 7 from rfl, Nat.pow_div (by omega) (by decide)] at this
  exact this
theorem mix_or {a u i : Nat} (ha : a < 256) (hu : u < 256) (hi : i < 8) (hb : u / 2 ^ (7 - i) % 2 = 1) : binV .or (nB (mixU a u i)) (nB (2 ^ (7 - i))) = some (nB (mixU a u (i + 1))) := by
  have hb' : u.testBit (7 - i) = true := by rw [Nat.testBit_eq_decide_div_mod_eq]; simp [hb]
  have e : Nat.lor (mixU a u i) (2 ^ (7 - i)) = mixU a u (i + 1) := by
    apply Nat.eq_of_testBit_eq
    intro j
    show (mixU a u i ||| 2 ^ (7 - i)).testBit j = _
    rw [Nat.testBit_or, mix_bit hu, mix_bit hu, Nat.testBit_two_pow]
    by_cases h1 : 7 - i = j
    · subst h1
      rw [if_pos (by omega : 7 - i < 8 - i), if_neg (by omega : ¬ 7 - i < 8 - (i + 1)), hb']; simp
    · simp only [h1, decide_false, Bool.or_false]
      by_cases h2 : j < 8 - i
      · rw [if_pos h2, if_pos (by omega)]
      · rw [if_neg h2, if_neg (by omega)]
  show some (Value.int .u8 (wrapF .u8 (.ofNat (Nat.lor (mixU a u i) (2 ^ (7 - i)))))) = _
  rw [e]
  show some (Value.int .u8 (wrapF .u8 ((mixU a u (i + 1) : Nat) : Int))) = _
  rw [wrap8 (mix_lt ha hu)]
theorem mix_and {a u i : Nat} (ha : a < 256) (hu : u < 256) (hi : i < 8) (hb : u / 2 ^ (7 - i) % 2 = 0) : binV .andNot (nB (mixU a u i)) (nB (2 ^ (7 - i))) = some (nB (mixU a u (i + 1))) := by
  have hb' : u.testBit (7 - i) = false := by rw [Nat.testBit_eq_decide_div_mod_eq]; simp [hb]
  have hm := mix_lt (i := i) ha hu
  have hp : 2 ^ (7 - i) < 256 := Nat.pow_lt_pow_right (a := 2) (m := 7 - i) (n := 8) (by decide) (by omega)
  have e : (BitVec.ofInt 8 ((mixU a u i : Nat) : Int) &&& ~~~ (BitVec.ofInt 8 ((2 ^ (7 - i) : Nat) : Int))).toNat = mixU a u (i + 1) := by
    have e1 : (BitVec.ofInt 8 ((mixU a u i : Nat) : Int)) = BitVec.ofNat 8 (mixU a u i) := by simp
    have e2 : (BitVec.ofInt 8 ((2 ^ (7 - i) : Nat) : Int)) = BitVec.ofNat 8 (2 ^ (7 - i)) := BitVec.ofInt_natCast _ _
    rw [e1, e2]
    apply Nat.eq_of_testBit_eq
    intro j
    rw [BitVec.testBit_toNat, BitVec.getLsbD_and, BitVec.getLsbD_not, BitVec.getLsbD_ofNat, BitVec.getLsbD_ofNat, mix_bit hu, mix_bit hu, Nat.testBit_two_pow]
    by_cases h8 : j < 8
    · by_cases h1 : 7 - i = j
      · subst h1
        rw [if_neg (by omega : ¬ 7 - i < 8 - (i + 1)), hb']; simp
      · simp only [h1, decide_false, h8, decide_true, Bool.true_and, Bool.not_false, Bool.and_true, Bool.and_false]
        by_cases h2 : j < 8 - i
        · rw [if_pos h2, if_pos (by omega)]
        · rw [if_neg h2, if_neg (by omega)]
    · have e2 : u.testBit j = false := Nat.testBit_lt_two_pow (Nat.lt_of_lt_of_le hu (show 256 ≤ 2 ^ j from Nat.pow_le_pow_right (n := 2) (by decide) (show 8 ≤ j by omega)))
      have n1 : ¬ j < 8 - i := by omega
      have n2 : ¬ j < 8 - (i + 1) := by omega
      have n3 : ¬ j < 7 - i := by omega
      simp [h8, n1, n2, n3, e2]
  show some (Value.int .u8 (IntKind.u8.wrap ((BitVec.ofInt 8 ((mixU a u i : Nat) : Int) &&& ~~~ (BitVec.ofInt 8 ((2 ^ (7 - i) : Nat) : Int))).toNat : Nat))) = _
  rw [e, ← wrapF_eq, wrap8 (mix_lt ha hu)]
end Go.Ev
namespace Go.Ev
variable [SyQ]
open Go.Ar (By)
theorem bit_add (u : UInt8) (i : Nat) : binV .add (.int .u8 48) (nB (u.toNat / 2 ^ (7 - i) % 2)) = some (uB (bitU u i)) := by
  have := Nat.mod_lt (u.toNat / 2 ^ (7 - i)) (show 0 < 2 by decide)
  rw [add48 this, nB_uB (by omega)]; rfl
theorem eq49_t {u : UInt8} {i : Nat} (h : u.toNat / 2 ^ (7 - i) % 2 = 1) (H : Hp) : exEq false (.one .i) (uB (bitU u i)) (.int .u8 49) H = .val (.bool true) H 0 0 := by
  have : bitU u i = 49 := by unfold bitU; rw [h]; rfl
  rw [this]; rfl
theorem eq49_f {u : UInt8} {i : Nat} (h : u.toNat / 2 ^ (7 - i) % 2 = 0) (H : Hp) : exEq false (.one .i) (uB (bitU u i)) (.int .u8 49) H = .val (.bool false) H 0 0 := by
  have : bitU u i = 48 := by unfold bitU; rw [h]; rfl
  rw [this]; rfl
def memF (f : By) (p x : Nat) : By := over f p 1 fun _ => UInt8.ofNat x
theorem memF_at (f : By) (p x : Nat) : memF f p x p = UInt8.ofNat x := by unfold memF over; rw [if_pos (by omega)]
theorem mem_or {f : By} {p i : Nat} {u : UInt8} (hi : i < 8) (hb : u.toNat / 2 ^ (7 - i) % 2 = 1) : binV .or (uB (memF f p (mixU (f p).toNat u.toNat i) p)) (nB (2 ^ (7 - i))) = some (uB (UInt8.ofNat (mixU (f p).toNat u.toNat (i + 1)))) := by
  rw [memF_at, ← nB_uB (mix_lt (f p).toNat_lt u.toNat_lt), mix_or (f p).toNat_lt u.toNat_lt hi hb, nB_uB (mix_lt (f p).toNat_lt u.toNat_lt)]
theorem mem_and {f : By} {p i : Nat} {u : UInt8} (hi : i < 8) (hb : u.toNat / 2 ^ (7 - i) % 2 = 0) : binV .andNot (uB (memF f p (mixU (f p).toNat u.toNat i) p)) (nB (2 ^ (7 - i))) = some (uB (UInt8.ofNat (mixU (f p).toNat u.toNat (i + 1)))) := by
  rw [memF_at, ← nB_uB (mix_lt (f p).toNat_lt u.toNat_lt), mix_and (f p).toNat_lt u.toNat_lt hi hb, nB_uB (mix_lt (f p).toNat_lt u.toNat_lt)]
end Go.Ev
end
noncomputable section
namespace Go.Ev
variable [SyQ]
def SameBlk (x y : Blk) : Prop := x = y ∨ ∃ t1 t2 n ty op lo hi, x = .cells t1 n ty op lo hi ∧ y = .cells t2 n ty op lo hi ∧ ∀ i, i < n → t1.get i = t2.get i
theorem SameBlk.orel {x y : Blk} (h : SameBlk x y) {β : Mp} {m : Bm} {o : Obj} (hr : ORel β m x o) : ORel β m y o := by
  rcases h with rfl | ⟨t1, t2, n, ty, op, lo, hi, rfl, rfl, hg⟩
  · exact hr
  · obtain ⟨cs, fr, h1, h2, h3, h4, h5, h6, h7⟩ := hr
    exact ⟨cs, fr, h1, h2, h3, h4, h5, fun i hi => by rw [← hg i hi]; exact h6 i hi, h7⟩
theorem SameBlk.dead {x y : Blk} (h : SameBlk x y) : x = .no ↔ y = .no := by
  rcases h with rfl | ⟨t1, t2, n, ty, op, lo, hi, rfl, rfl, hg⟩
  · exact Iff.rfl
  · exact ⟨fun h => (by cases h), fun h => (by cases h)⟩
theorem Post.same {β β' : Mp} {H H1 H2 : Hp} {w : Nat} {W W' : World} (q : Post β β' H H1 w W W') (hn : H2.nx = H1.nx) (hb : ∀ b, SameBlk (H1.blk b) (H2.blk b)) : Post β β' H H2 w W W' := by
  have ha : ∀ b, alive H2 b ↔ alive H1 b := fun b => by
    rw [alive_iff, alive_iff]
    exact not_congr (hb b).dead.symm
  refine ⟨q.le, fun b m h1 h2 => by rw [hn]; exact q.only b m h1 h2, fun b h1 h2 => ?_, q.frame, q.size, q.dom, fun b m h1 h2 h3 => ?_, fun b c mb mc h1 h2 h3 h4 => q.inj b c mb mc h1 h2 ((ha b).1 h3) ((ha c).1 h4), q.env⟩
  · obtain ⟨m, e, o, ho, hr⟩ := q.rel b h1 ((ha b).1 h2)
    exact ⟨m, e, o, ho, (hb b).orel hr⟩
  · rcases q.new b m h1 h2 h3 with h | ⟨c, mc, a1, a2, a3, a4, a5⟩
    · exact .inl h
    · exact .inr ⟨c, mc, a1, a2, a3, a4, fun h => a5 ((ha c).1 h)⟩
section
variable {P : Program} {tb : Tb} (ok : TbOk P tb) (hlp : LpOk P tb) {sp : Nat → List Value → Hp → Option (Value × Hp × Nat × Nat)} (hsp : SpOk P tb.ng sp)
include ok hlp hsp
theorem ec_task {f : FuncId} {args : List Value} {H H2 : Hp} {v : Value} {b : Nat} (hw : H.wf) {K : Value → Hp → Prop} (h : EC tb sp ⟨H.nx, fun c => c = b, fun _ => False⟩ f args H K)
    (hK : ∀ v' H', K v' H' → v' = v ∧ Can H H2 0 ∧ H2.nx = H'.nx ∧ ∀ b, SameBlk (H'.blk b) (H2.blk b)) :
    ∃ r w, TaskOk P tb.ng (.call f args) H (.k (.ret v H2 r w)) ∧ (∀ c, c < H.nx → r.testBit c = true → c = b) ∧ (∀ c, c < H.nx → w.testBit c = false) := by
  obtain ⟨N, v', H', r, w, hev, hok, hn, hk⟩ := h
  obtain ⟨rfl, hcan, hnx, hs⟩ := hK _ _ hk
  have t := ev_ok ok hlp hsp N (.call f args) H hw
  rw [hev] at t
  have hwl : ∀ c, c < H.nx → w.testBit c = false := fun c hc => by
    cases hh : w.testBit c with
    | false => rfl
    | true => exact (hok.wr c hc hh).elim
  refine ⟨r, w, ⟨⟨hcan.wf, hcan.mono, fun c h1 h2 => hcan.keep c h1 (by simp), fun c h1 h2 => by rw [hwl c h1] at h2; cases h2⟩, fun β W hg p => ?_⟩, fun c hc hh => hok.rd c hc hh, hwl⟩
  intro args' hl
  have p' : Pre β H H' r w W := ⟨p.rel, p.inj, fun c h1 h2 => p.fresh c h1 (by rw [hnx]; exact h2), p.dom⟩
  rcases t.2 β W hg p' args' hl with ⟨h1, h2⟩ | ⟨x, W', h1, β', y, h2, h3, h4⟩
  · refine .inl ⟨h1, callsIn_wide.2 ((callsIn_wide.1 h2).mono fun e W' hR => ?_)⟩
    obtain ⟨β', y, h2, h3, h4⟩ := hR
    exact ⟨β', y, h2, h3, h4.same hnx hs⟩
  · exact .inr ⟨x, W', h1, β', y, h2, h3, h4.same hnx hs⟩
omit ok hlp hsp in
theorem TaskOk.more {ng : Nat} {f : FuncId} {args : List Value} {H H' : Hp} {v : Value} {r w r' : Nat} (h : TaskOk P ng (.call f args) H (.k (.ret v H' r w))) (hr : ∀ c, alive H c → r.testBit c = true → r'.testBit c = true) (hw : ∀ c, c < H.nx → w.testBit c = false) (hcan : Can H H' 0) :
    TaskOk P ng (.call f args) H (.k (.ret v H' r' 0)) := by
  refine ⟨hcan, fun β W hg p => ?_⟩
  intro args' hl
  have p' : Pre β H H' r w W := by
    refine ⟨fun b hb ha => p.rel b ?_ ha, fun b c mb mc h1 h2 ha => ?_, p.fresh, p.dom⟩
    · rcases hb with hb | hb
      · exact .inl (hr b ha hb)
      · rw [hw b ha.1] at hb; cases hb
    · rw [hw b ha.1] at h1; cases h1
  have fin : ∀ {e W'}, RetP β H H' w W v e W' → RetP β H H' 0 W v e W' := fun {e W'} hR => by
    obtain ⟨β', y, h2, h3, q⟩ := hR
    refine ⟨β', y, h2, h3, ⟨q.le, q.only, fun b hb ha => q.rel b (hb.imp id fun h => by simp at h) ha, fun rb o h1 h2 => q.frame rb o h1 fun b m hb hwb => ?_, q.size, q.dom, fun b m h1 h2 h3 => ?_, fun b c mb mc h1 h2 => q.inj b c mb mc (h1.imp id fun h => by simp at h) (h2.imp id fun h => by simp at h), q.env⟩⟩
    · rw [hw b hb] at hwb; cases hwb
    · rcases q.new b m h1 h2 h3 with h | ⟨c, mc, a1, a2, _⟩
      · exact .inl h
      · rw [hw c a1] at a2; cases a2
  rcases h.2 β W hg p' args' hl with ⟨h1, h2⟩ | ⟨x, W', h1, h2⟩
  · exact .inl ⟨h1, callsIn_wide.2 ((callsIn_wide.1 h2).mono fun e W' hR => fin hR)⟩
  · exact .inr ⟨x, W', h1, fin h2⟩
end
theorem spNo_ok (P : Program) (ng : Nat) : SpOk P ng (fun _ _ _ => none) := fun f args H v H' r w _ h => by cases h
end Go.Ev
end
noncomputable section
namespace Go.Ev
variable [SyQ]
theorem Post.grow {β β' : Mp} {H H' : Hp} {w : Nat} {W W1 W2 : World} {os : Array Obj} (q : Post β β' H H' w W W1) (h : W2.heap = W1.heap ++ os) (he : W2.os = W1.os ∧ W2.tape = W1.tape ∧ W2.output = W1.output) : Post β β' H H' w W W2 := by
  have up : ∀ (i : Nat) o, W1.heap[i]? = some o → W2.heap[i]? = some o := fun i o ho => by
    have hi : i < W1.heap.size := by
      rcases Nat.lt_or_ge i W1.heap.size with h' | h'
      · exact h'
      · rw [Array.getElem?_eq_none h'] at ho; cases ho
    rw [h, Array.getElem?_append_left hi]; exact ho
  have sz : W1.heap.size ≤ W2.heap.size := by rw [h, Array.size_append]; omega
  exact ⟨q.le, q.only, fun b hb ha => let ⟨m, e1, o, ho, hr⟩ := q.rel b hb ha; ⟨m, e1, o, up _ _ ho, hr⟩, fun rb o ho hn => up _ _ (q.frame rb o ho hn), Nat.le_trans q.size sz,
    fun b m e => Nat.lt_of_lt_of_le (q.dom b m e) sz, q.new, q.inj, ⟨he.1.trans q.env.1, he.2.1.trans q.env.2.1, he.2.2.trans q.env.2.2⟩⟩
end Go.Ev
end
