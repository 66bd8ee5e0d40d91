/-
  A part of the proof that pliantlaw16.MeanGoto returns true and leaves its arguments alone. Conditions: those of the card in the last text.
-/
import Derived.Test.YtdmcanlbncbemaaGreatDoorG14
import Derived.Test.YtdmcanlbncbemaaGreatDoorG20
import Derived.Test.YtdmcanlbncbemaaGreatDoorG21
import Derived.Test.YtdmcanlbncbemaaGreatDoorG22
import Derived.Test.YtdmcanlbncbemaaGreatDoorG23
import Derived.Test.YtdmcanlbncbemaaGreatDoorG24
import Derived.Test.YtdmcanlbncbemaaGreatDoorG25
set_option linter.unusedSimpArgs false
set_option linter.unusedVariables false
set_option linter.unusedSectionVars false
noncomputable section
namespace Go.Proofs.MN
open Go Go.Ev Go.Proofs Go.Ev.SM
theorem no_nest1 {P : Nat → Prop} {g : Nat} : ∀ (args : List Value) (H : Hp) (v : Value) (H' : Hp) (r w : Nat), H.wf → (fun _ _ => none : List Value → Hp → Ans) args H = some (v, H', r, w) → @TaskOk (SyN P) Tryz.prog NG (.call g args) H (.k (spKR v H' r w)) := fun _ _ _ _ _ _ _ h => by cases h
theorem lev_base {g : GV} {u : Nat → Value} {e : Nat} (h1 : 1 ≤ e) (h2 : e ≤ 50) (hb : gBaseB g u e = true) : @ClOk (SyN (· = e)) Tryz.prog NG (clGn g e e (u e)) ∧ Fits NG (clGn g e e (u e)) := by
  letI := SyN (· = e)
  exact clB_ok (spGt_ok (P := (· = e)) (lim := e - 1) (base := true) (fun n hn => ⟨by have : n = e := hn; omega, fun _ => by have : n = e := hn; omega⟩) (by omega) no_nest1) (gTab_ok h1 h2) hb
theorem nest_ok {g : GV} {u : Value} {n e : Nat} (h : @ClOk (SyN (· = n)) Tryz.prog NG (clGn g n e u) ∧ Fits NG (clGn g n e u)) : ∀ (args : List Value) (H : Hp) (v : Value) (H' : Hp) (r w : Nat), H.wf → gNest g u e (gX g n) (2 * gX g n + 1) (nV (Int.ofNat (gX g n))) (gB (gX g n)) args H = some (v, H', r, w) → @TaskOk (SyN (· = n)) Tryz.prog NG (.call 153 args) H (.k (spKR v H' r w)) := by
  intro args H v H' r w hw hh
  letI := SyN (· = n)
  exact spC_ok tab0_ok h.2 h.1 hw hh
theorem lev_run {g : GV} {u : Value} (hb : ∀ e, 1 ≤ e → e ≤ 50 → gBaseB g (fun _ => u) e = true) (hd : ∀ e, 1 ≤ e → e < 50 → ∀ x c z B, gDeep g u e x c (nV z) B = some (nV z, gS g (Nat.succ e) x c, B)) {n : Nat} (hn : n ≤ 50) : ∀ d e, e + d = n → 1 ≤ e → @ClOk (SyN (· = n)) Tryz.prog NG (clGn g n e u) ∧ Fits NG (clGn g n e u)
  | 0, e, h, h1 => by
    obtain rfl : e = n := by omega
    exact lev_base (u := fun _ => u) h1 hn (hb e h1 hn)
  | d + 1, e, h, h1 => by
    have ih := lev_run hb hd hn d (e + 1) (by omega) (by omega)
    exact step_up hn (spGt_ok (P := (· = n)) (lim := e) (base := false) (fun m hm => ⟨by have : m = n := hm; omega, fun h => by cases h⟩) (by omega) (nest_ok ih)) (hd e h1 (by omega) _ _ _ _)
theorem lkB_ex [SyQ] {l : List (Nat × Blk)} {b : Nat} : (∃ B, lkB l b = some B) ↔ b ∈ l.map (·.1) := by
  constructor
  · rintro ⟨B, h⟩; exact List.mem_map.2 ⟨_, lkB_mem h, rfl⟩
  · intro h
    obtain ⟨x, hx, rfl⟩ := List.mem_map.1 h
    exact lkB_some (List.any_eq_true.2 ⟨x, hx, (beq_iff _ _).2 rfl⟩)
theorem Fits.ids [SyQ] {ng : Nat} {c c2 : Clm} (F : Fits ng c) (h : c2.n0 = c.n0 ∧ c2.n1 = c.n1 ∧ c2.r = c.r ∧ c2.w = c.w) (h1 : c2.pre.map (·.1) = c.pre.map (·.1)) (h2 : c2.post.map (·.1) = c.post.map (·.1)) : Fits ng c2 := by
  have mem : ∀ {l l' : List (Nat × Blk)}, l.map (·.1) = l'.map (·.1) → ∀ x ∈ l, ∃ y ∈ l', y.1 = x.1 := fun {l l'} e x hx => by
    have : x.1 ∈ l.map (·.1) := List.mem_map.2 ⟨x, hx, rfl⟩
    rw [e] at this
    obtain ⟨y, hy, e⟩ := List.mem_map.1 this
    exact ⟨y, hy, e⟩
  refine ⟨by rw [h.1]; exact F.ng, by rw [h.1, h.2.1]; exact F.le, by rw [h.2.1]; exact F.n1, by rw [h.1, h.2.2.1]; exact F.r, by rw [h.1, h.2.2.2]; exact F.w, fun x hx => ?_, fun x hx => ?_, fun x hx hw => ?_, fun b hb hb' => ?_⟩
  · obtain ⟨y, hy, e⟩ := mem h1 x hx
    rw [← e, h.1]; exact F.pre y hy
  · obtain ⟨y, hy, e⟩ := mem h2 x hx
    rw [← e, h.1, h.2.1, h.2.2.2]; exact F.post y hy
  · obtain ⟨y, hy, e⟩ := mem h1 x hx
    rw [← e, h.2.2.2] at hw
    rw [← e]
    have := F.wp y hy hw
    rw [lkB_ex] at this ⊢
    rw [h2]; exact this
  · rw [h.1] at hb; rw [h.2.1] at hb'
    have := F.new b hb hb'
    rw [lkB_ex] at this ⊢
    rw [h2]; exact this
theorem lev_conv {g : GV} {n e : Nat} {u u2 : Value} (h1 : ∀ s, @BImp (SyN (· = n)) (blkL (gMa g s u2) 98 0) (blkL (gMa g s u) 98 0)) (h2 : ∀ s, @BImp (SyN (· = n)) (blkL (gMa g s u) 98 0) (blkL (gMa g s u2) 98 0)) (h : @ClOk (SyN (· = n)) Tryz.prog NG (clGn g n e u) ∧ Fits NG (clGn g n e u)) : @ClOk (SyN (· = n)) Tryz.prog NG (clGn g n e u2) ∧ Fits NG (clGn g n e u2) := by
  letI := SyN (· = n)
  have F2 : Fits NG (clGn g n e u2) := Fits.ids h.2 ⟨rfl, rfl, rfl, rfl⟩ rfl rfl
  refine ⟨ClOk.conv (c := clGn g n e u) (c2 := clGn g n e u2) ⟨rfl, rfl, rfl, rfl, rfl, rfl, rfl⟩ h.2 F2 ?_ ?_ h.1, F2⟩
  · exact ⟨rfl, BImp.refl _, rfl, BImp.refl _, rfl, BImp.refl _, rfl, h1 _, rfl, BImp.refl _, ZImp.refl _⟩
  · exact ⟨rfl, BImp.refl _, rfl, BImp.refl _, rfl, BImp.refl _, rfl, h2 _, rfl, BImp.refl _, rfl, BImp.refl _, rfl, BImp.refl _, trivial⟩
theorem spStep_ok {g : GV} {n e : Nat} (hr : ∀ i, i < 3 → ∀ d, gStepR g e i (uD d e i) = some (uD d e i)) (hn : e < n) {args : List Value} {H H' : Hp} {v : Value} {r w : Nat} (hw : H.wf) (h : spStep g e (gU g) args H = some (v, H', r, w)) : @TaskOk (SyN (· = n)) Tryz.prog NG (.call 225 args) H (.k (spKR v H' r w)) := by
  letI := SyN (· = n)
  have use : ∀ i, i < 3 → spC (fun _ => none) (clS g e i (gU g)) 225 args H = some (v, H', r, w) → TaskOk Tryz.prog NG (.call 225 args) H (.k (spKR v H' r w)) := fun i hi hh => by
    obtain ⟨a, b⟩ := step_sym (hr i hi) hi hn
    exact spC_ok tab0_ok b a hw hh
  unfold spStep at h
  split at h
  · rename_i x hx
    rw [h] at hx; exact use 0 (by omega) hx
  · split at h
    · rename_i x hx
      rw [h] at hx; exact use 1 (by omega) hx
    · exact use 2 (by omega) h
theorem spGw_ok {g : GV} {n e : Nat} {nest : List Value → Hp → Ans} (hr : ∀ i, i < 3 → ∀ d, gStepR g e i (uD d e i) = some (uD d e i)) (hn : e < n) (hn2 : n ≤ 50)
    (hnest : ∀ args H v H' r w, H.wf → nest args H = some (v, H', r, w) → @TaskOk (SyN (· = n)) Tryz.prog NG (.call 153 args) H (.k (spKR v H' r w))) : @SpOk (SyN (· = n)) Tryz.prog NG (spGw g e nest) := by
  letI := SyN (· = n)
  intro f args H v H' r w hw h
  unfold spGw at h
  cases h1 : Nat.beq f 225 with
  | true => rw [h1, Bc_t] at h; rw [(beq_iff _ _).1 h1]; exact spStep_ok hr hn hw h
  | false =>
    rw [h1, Bc_f] at h
    exact spGt_ok (P := (· = n)) (lim := e) (base := false) (fun m hm => ⟨by have : m = n := hm; omega, fun h => by cases h⟩) (by omega) hnest f args H v H' r w hw h
theorem lev_wat {g : GV} (hb : ∀ e, 1 ≤ e → e ≤ 50 → gBaseB g (uW g) e = true) (hd : ∀ e, 1 ≤ e → e < 50 → ∀ x c z B, gDeepW g e x c (nV z) B = some (nV z, gS g (Nat.succ e) x c, B)) (hs : ∀ e, 1 ≤ e → e < 50 → ∀ i, i < 3 → ∀ d, gStepR g e i (uD d e i) = some (uD d e i)) {n : Nat} (hn : n ≤ 50) : ∀ d e, e + d = n → 1 ≤ e → @ClOk (SyN (· = n)) Tryz.prog NG (clGn g n e (gU g)) ∧ Fits NG (clGn g n e (gU g))
  | 0, e, h, h1 => by
    obtain rfl : e = n := by omega
    exact lev_conv (fun s => ma_to g s e) (fun s => ma_fro g s e) (lev_base (u := uW g) h1 hn (hb e h1 hn))
  | d + 1, e, h, h1 => by
    have ih := lev_wat hb hd hs hn d (e + 1) (by omega) (by omega)
    exact step_up hn (spGw_ok (hs e h1 (by omega)) (by omega) hn (nest_ok ih)) (hd e h1 (by omega) _ _ _ _)
theorem in3 {l1 l2 l3 : List Nat} {m : Nat} (h : (l1 ++ (l2 ++ l3)) = (List.range m).map (· + 1)) {e : Nat} (h1 : 1 ≤ e) (h2 : e ≤ m) : e ∈ l1 ∨ e ∈ l2 ∨ e ∈ l3 := by
  have : e ∈ (List.range m).map (· + 1) := List.mem_map.2 ⟨e - 1, List.mem_range.2 (by omega), by omega⟩
  rw [← h] at this
  rcases List.mem_append.1 this with h | h
  · exact .inl h
  · exact .inr (List.mem_append.1 h)
theorem in50 {e : Nat} (h1 : 1 ≤ e) (h2 : e ≤ 50) : e ∈ ([1, 2, 3, 4, 5, 6, 7, 8, 9, 10, 11, 12, 13, 14, 15, 16, 17] : List Nat) ∨ e ∈ ([18, 19, 20, 21, 22, 23, 24, 25, 26, 27, 28, 29, 30, 31, 32, 33, 34] : List Nat) ∨ e ∈ ([35, 36, 37, 38, 39, 40, 41, 42, 43, 44, 45, 46, 47, 48, 49, 50] : List Nat) := in3 (m := 50) (by decide) h1 h2
theorem in49 {e : Nat} (h1 : 1 ≤ e) (h2 : e ≤ 49) : e ∈ ([1, 2, 3, 4, 5, 6, 7, 8, 9, 10, 11, 12, 13, 14, 15, 16, 17] : List Nat) ∨ e ∈ ([18, 19, 20, 21, 22, 23, 24, 25, 26, 27, 28, 29, 30, 31, 32, 33, 34] : List Nat) ∨ e ∈ ([35, 36, 37, 38, 39, 40, 41, 42, 43, 44, 45, 46, 47, 48, 49] : List Nat) := in3 (m := 49) (by decide) h1 h2
theorem map_at {α : Type} {f g : Nat → α} {l : List Nat} (h : l.map f = l.map g) {e : Nat} (he : e ∈ l) : f e = g e := List.map_inj_left.1 h e he
theorem bF {e : Nat} (h1 : 1 ≤ e) (h2 : e ≤ 50) : gBaseB rF (fun _ => nV (-1)) e = true := by
  rcases in50 h1 h2 with h | h | h
  · exact allB_mem (bool_of baseF_0) e h
  · exact allB_mem (bool_of baseF_1) e h
  · exact allB_mem (bool_of baseF_2) e h
theorem bT {e : Nat} (h1 : 1 ≤ e) (h2 : e ≤ 50) : gBaseB rT (fun _ => nV (-1)) e = true := by
  rcases in50 h1 h2 with h | h | h
  · exact allB_mem (bool_of baseT_0) e h
  · exact allB_mem (bool_of baseT_1) e h
  · exact allB_mem (bool_of baseT_2) e h
theorem bWF {e : Nat} (h1 : 1 ≤ e) (h2 : e ≤ 50) : gBaseB wF (uW wF) e = true := by
  rcases in50 h1 h2 with h | h | h
  · exact allB_mem (bool_of baseWF_0) e h
  · exact allB_mem (bool_of baseWF_1) e h
  · exact allB_mem (bool_of baseWF_2) e h
theorem bWT {e : Nat} (h1 : 1 ≤ e) (h2 : e ≤ 50) : gBaseB wT (uW wT) e = true := by
  rcases in50 h1 h2 with h | h | h
  · exact allB_mem (bool_of baseWT_0) e h
  · exact allB_mem (bool_of baseWT_1) e h
  · exact allB_mem (bool_of baseWT_2) e h
theorem dF {e : Nat} (h1 : 1 ≤ e) (h2 : e < 50) (x c : Nat) (z : Int) (B : Blk) : gDeep rF (nV (-1)) e x c (nV z) B = some (nV z, gS rF (Nat.succ e) x c, B) := by
  rcases in49 h1 (by omega : e ≤ 49) with h | h | h
  · exact map_at (deepF_0 x c z B) h
  · exact map_at (deepF_1 x c z B) h
  · exact map_at (deepF_2 x c z B) h
theorem dT {e : Nat} (h1 : 1 ≤ e) (h2 : e < 50) (x c : Nat) (z : Int) (B : Blk) : gDeep rT (nV (-1)) e x c (nV z) B = some (nV z, gS rT (Nat.succ e) x c, B) := by
  rcases in49 h1 (by omega : e ≤ 49) with h | h | h
  · exact map_at (deepT_0 x c z B) h
  · exact map_at (deepT_1 x c z B) h
  · exact map_at (deepT_2 x c z B) h
theorem dWF {e : Nat} (h1 : 1 ≤ e) (h2 : e < 50) (x c : Nat) (z : Int) (B : Blk) : gDeepW wF e x c (nV z) B = some (nV z, gS wF (Nat.succ e) x c, B) := by
  rcases in49 h1 (by omega : e ≤ 49) with h | h | h
  · exact map_at (deepWF_0 x c z B) h
  · exact map_at (deepWF_1 x c z B) h
  · exact map_at (deepWF_2 x c z B) h
theorem dWT {e : Nat} (h1 : 1 ≤ e) (h2 : e < 50) (x c : Nat) (z : Int) (B : Blk) : gDeepW wT e x c (nV z) B = some (nV z, gS wT (Nat.succ e) x c, B) := by
  rcases in49 h1 (by omega : e ≤ 49) with h | h | h
  · exact map_at (deepWT_0 x c z B) h
  · exact map_at (deepWT_1 x c z B) h
  · exact map_at (deepWT_2 x c z B) h
theorem sF {e : Nat} (h1 : 1 ≤ e) (h2 : e < 50) (i : Nat) (hi : i < 3) (d : Nat) : gStepR wF e i (uD d e i) = some (uD d e i) := by
  rcases (show i = 0 ∨ i = 1 ∨ i = 2 from by omega) with rfl | rfl | rfl
  · rcases in49 h1 (by omega : e ≤ 49) with h | h | h
    · exact map_at (stepF_0_0 d) h
    · exact map_at (stepF_0_1 d) h
    · exact map_at (stepF_0_2 d) h
  · rcases in49 h1 (by omega : e ≤ 49) with h | h | h
    · exact map_at (stepF_1_0 d) h
    · exact map_at (stepF_1_1 d) h
    · exact map_at (stepF_1_2 d) h
  · rcases in49 h1 (by omega : e ≤ 49) with h | h | h
    · exact map_at (stepF_2_0 d) h
    · exact map_at (stepF_2_1 d) h
    · exact map_at (stepF_2_2 d) h
theorem sT {e : Nat} (h1 : 1 ≤ e) (h2 : e < 50) (i : Nat) (hi : i < 3) (d : Nat) : gStepR wT e i (uD d e i) = some (uD d e i) := by
  rcases (show i = 0 ∨ i = 1 ∨ i = 2 from by omega) with rfl | rfl | rfl
  · rcases in49 h1 (by omega : e ≤ 49) with h | h | h
    · exact map_at (stepT_0_0 d) h
    · exact map_at (stepT_0_1 d) h
    · exact map_at (stepT_0_2 d) h
  · rcases in49 h1 (by omega : e ≤ 49) with h | h | h
    · exact map_at (stepT_1_0 d) h
    · exact map_at (stepT_1_1 d) h
    · exact map_at (stepT_1_2 d) h
  · rcases in49 h1 (by omega : e ≤ 49) with h | h | h
    · exact map_at (stepT_2_0 d) h
    · exact map_at (stepT_2_1 d) h
    · exact map_at (stepT_2_2 d) h
theorem ent_run (th : Bool) {n : Nat} (h1 : 1 ≤ n) (hn : n ≤ 50) : @ClOk (SyN (· = n)) Tryz.prog NG (clGn (if th then rT else rF) n 1 (nV (-1))) ∧ Fits NG (clGn (if th then rT else rF) n 1 (nV (-1))) := by
  cases th with
  | false => exact lev_run (g := rF) (fun e a b => bF a b) (fun e a b => dF a b) hn (n - 1) 1 (by omega) (Nat.le_refl _)
  | true => exact lev_run (g := rT) (fun e a b => bT a b) (fun e a b => dT a b) hn (n - 1) 1 (by omega) (Nat.le_refl _)
theorem ent_wat (th : Bool) {n : Nat} (h1 : 1 ≤ n) (hn : n ≤ 50) : @ClOk (SyN (· = n)) Tryz.prog NG (clGn (if th then wT else wF) n 1 (uW (if th then wT else wF) n)) ∧ Fits NG (clGn (if th then wT else wF) n 1 (uW (if th then wT else wF) n)) := by
  cases th with
  | false => exact lev_conv (fun s => ma_fro wF s n) (fun s => ma_to wF s n) (lev_wat (g := wF) (fun e a b => bWF a b) (fun e a b => dWF a b) (fun e a b => sF a b) hn (n - 1) 1 (by omega) (Nat.le_refl _))
  | true => exact lev_conv (fun s => ma_fro wT s n) (fun s => ma_to wT s n) (lev_wat (g := wT) (fun e a b => bWT a b) (fun e a b => dWT a b) (fun e a b => sT a b) hn (n - 1) 1 (by omega) (Nat.le_refl _))
end Go.Proofs.MN
end
noncomputable section
namespace Go.Proofs.MN
open Go Go.Ev Go.Proofs
noncomputable def snap_body : Code := (Tryz.f33.body).getD .skip
def snap_r0 : List CO := [
    ⟨(some 2), none, .alloc (blkL [.int .i64 (0), .int .i64 (0), .int .i64 (0), .int .i64 (0), .int .i64 (0), .int .u64 (0), .bool false] 68 0)⟩]
def snap_r1 : List CO := [
    ⟨(some 8), none, .mv (.tmp 0)⟩,
    ⟨(some 9), none, .eq false (.one .p) (.tmp 8) (.const (.pointer none))⟩]
def snap_r2 : List CO := [
    ⟨(some 10), none, .build [.int .i64 (0), .int .i64 (0), .int .i64 (0), .int .i64 (0), .int .i64 (0), .int .u64 (0), .bool false] [(6, 1, (.const (.bool true)))]⟩,
    ⟨none, none, .st 7 (.tmp 2) (.tmp 10)⟩]
def snap_r3 : List CO := [
    ⟨(some 12), none, .mv (.tmp 0)⟩,
    ⟨(some 13), none, .nilc (.tmp 12)⟩,
    ⟨(some 14), none, .fa 6 (.tmp 13)⟩,
    ⟨(some 15), none, .ld1 (.tmp 14)⟩,
    ⟨(some 16), none, .call (.func 51) [(.tmp 15), (.const (.int .i64 (0))), (.const (.int .i64 (65536)))]⟩,
    ⟨(some 11), none, .mv (.tmp 16)⟩,
    ⟨(some 17), none, .ext (.tmp 11) 0⟩,
    ⟨(some 18), none, .ext (.tmp 11) 1⟩,
    ⟨(some 3), none, .mv (.tmp 17)⟩,
    ⟨(some 4), none, .mv (.tmp 18)⟩]
def snap_r4 : List CO := [
    ⟨(some 19), none, .mv (.tmp 0)⟩,
    ⟨(some 20), none, .nilc (.tmp 19)⟩,
    ⟨(some 21), none, .fa 15 (.tmp 20)⟩,
    ⟨(some 22), none, .ld1 (.tmp 21)⟩,
    ⟨(some 23), none, .mv (.tmp 0)⟩,
    ⟨(some 24), none, .nilc (.tmp 23)⟩,
    ⟨(some 25), none, .fa 19 (.tmp 24)⟩,
    ⟨(some 26), none, .ld1 (.tmp 25)⟩,
    ⟨(some 27), none, .build [.int .i64 (0), .int .i64 (0), .int .i64 (0), .int .i64 (0), .int .i64 (0), .int .u64 (0), .bool false] [(0, 1, (.tmp 22)), (5, 1, (.const (.int .u64 (14695981039346656037)))), (6, 1, (.tmp 26))]⟩,
    ⟨(some 5), none, .alloc (blkL [.int .i64 (0), .int .i64 (0), .int .i64 (0), .int .i64 (0), .int .i64 (0), .int .u64 (0), .bool false] 68 0)⟩,
    ⟨none, none, .st 7 (.tmp 5) (.tmp 27)⟩]
def snap_r5 : List CO := [
    ⟨(some 28), none, .mv (.tmp 3)⟩,
    ⟨(some 29), none, .len 0 (.tmp 28)⟩,
    ⟨(some 30), none, .mv (.const (.int .i64 (0)))⟩]
def snap_r6 : List CO := [
    ⟨(some 31), none, .bin .lss (.tmp 30) (.tmp 29)⟩]
def snap_r7 : List CO := [
    ⟨(some 32), none, .mv (.tmp 30)⟩,
    ⟨(some 6), none, .mv (.tmp 32)⟩]
def snap_r8 : List CO := [
    ⟨(some 33), none, .fa 5 (.tmp 5)⟩,
    ⟨(some 34), none, .ld1 (.tmp 33)⟩,
    ⟨(some 35), none, .mv (.tmp 3)⟩,
    ⟨(some 36), none, .mv (.tmp 6)⟩,
    ⟨(some 37), none, .ixS (.tmp 35) (.tmp 36)⟩,
    ⟨(some 38), none, .cInt .u64 (.tmp 37)⟩,
    ⟨(some 39), none, .bin .xor (.tmp 34) (.tmp 38)⟩,
    ⟨(some 40), none, .bin .mul (.tmp 39) (.const (.int .u64 (1099511628211)))⟩,
    ⟨(some 41), none, .fa 5 (.tmp 5)⟩,
    ⟨none, none, .st 1 (.tmp 41) (.tmp 40)⟩]
def snap_r9 : List CO := [
    ⟨(some 42), none, .bin .add (.tmp 30) (.const (.int .i64 (1)))⟩,
    ⟨(some 30), none, .mv (.tmp 42)⟩]
noncomputable def snap_l10 : KC :=
  (.seq (.reg snap_r6)
  (.seq (.cond (.tmp 31) .skip
   (.exit 0))
  (.seq (.block 1 (.seq (.reg snap_r7)
   (.draw #[0, 1, 0, 0, 12, 28, 63, 127, 255, 511] snap_r8)))
  (.reg snap_r9))))
def snap_r11 : List CO := [
    ⟨(some 43), none, .mv (.tmp 0)⟩,
    ⟨(some 44), none, .nilc (.tmp 43)⟩,
    ⟨(some 45), none, .fa 19 (.tmp 44)⟩,
    ⟨(some 46), none, .ld1 (.tmp 45)⟩,
    ⟨(some 47), none, .un .not (.tmp 46)⟩]
def snap_r12 : List CO := [
    ⟨(some 48), none, .mv (.tmp 0)⟩,
    ⟨(some 49), none, .call (.func 52) [(.tmp 48)]⟩,
    ⟨(some 7), none, .mv (.tmp 49)⟩]
def snap_r13 : List CO := [
    ⟨(some 50), none, .mv (.tmp 0)⟩,
    ⟨(some 51), none, .nilc (.tmp 50)⟩,
    ⟨(some 52), none, .fa 17 (.tmp 51)⟩,
    ⟨(some 53), none, .ld1 (.tmp 52)⟩,
    ⟨(some 54), none, .mv (.tmp 0)⟩,
    ⟨(some 55), none, .nilc (.tmp 54)⟩,
    ⟨(some 56), none, .fa 7 (.tmp 55)⟩,
    ⟨(some 57), none, .ld1 (.tmp 56)⟩,
    ⟨(some 58), none, .len 1 (.tmp 57)⟩,
    ⟨(some 59), none, .mv (.tmp 7)⟩,
    ⟨(some 60), none, .nilc (.tmp 59)⟩,
    ⟨(some 61), none, .fa 0 (.tmp 60)⟩,
    ⟨(some 62), none, .ld1 (.tmp 61)⟩,
    ⟨(some 63), none, .mv (.tmp 7)⟩,
    ⟨(some 64), none, .nilc (.tmp 63)⟩,
    ⟨(some 65), none, .fa 2 (.tmp 64)⟩,
    ⟨(some 66), none, .ld1 (.tmp 65)⟩,
    ⟨(some 67), none, .bin .mul (.const (.int .i64 (8))) (.tmp 66)⟩,
    ⟨(some 68), none, .fa 1 (.tmp 5)⟩,
    ⟨none, none, .st 1 (.tmp 68) (.tmp 53)⟩,
    ⟨(some 69), none, .fa 2 (.tmp 5)⟩,
    ⟨none, none, .st 1 (.tmp 69) (.tmp 58)⟩,
    ⟨(some 70), none, .fa 3 (.tmp 5)⟩,
    ⟨none, none, .st 1 (.tmp 70) (.tmp 62)⟩,
    ⟨(some 71), none, .fa 4 (.tmp 5)⟩,
    ⟨none, none, .st 1 (.tmp 71) (.tmp 67)⟩]
def snap_r14 : List CO := [
    ⟨(some 72), none, .ldN 7 (.tmp 5)⟩,
    ⟨none, none, .st 7 (.tmp 2) (.tmp 72)⟩]
noncomputable def snap_k : KC :=
  (.seq (.reg snap_r0)
  (.seq (.seq (.reg snap_r1)
  (.cond (.tmp 9) (.seq (.reg snap_r2)
   .ret)
   .skip))
  (.seq (.reg snap_r3)
  (.seq (.draw #[0, 1, 3, 7, 0, 16, 48, 112, 255, 0, 1023] snap_r4)
  (.seq (.seq (.reg snap_r5)
  (.block 0 (.loop snap_body.sr.sr.sr.sr.sl.sr.bl.lp snap_l10)))
  (.seq (.seq (.reg snap_r11)
  (.cond (.tmp 47) (.seq (.reg snap_r12)
   (.draw #[0, 1, 3, 7, 0, 16, 48, 112, 240, 0, 512, 1536, 3584, 0, 8192, 24576, 57344, 122880, 15, 262159, 786943, 1835519, 3940351, 8134655, 16777215, 33554431] snap_r13))
   .skip))
  (.seq (.reg snap_r14)
  .ret)))))))
theorem snap_comp : kcomp Tb0 Tryz.f33.ntmps snap_body = snap_k := by kernel_rfl
theorem snap_some : Tryz.f33.body = some snap_body := rfl
noncomputable def mbytes_body : Code := (Tryz.f51.body).getD .skip
def mbytes_r0 : List CO := [
    ⟨(some 6), none, .mv (.const (.string ⟨#[]⟩))⟩,
    ⟨(some 7), none, .mv (.const (.int .i64 (0)))⟩]
def mbytes_r1 : List CO := [
    ⟨(some 8), none, .mv (.tmp 0)⟩,
    ⟨(some 9), none, .eq false (.one .p) (.tmp 8) (.const (.pointer none))⟩]
def mbytes_r2 : List CO := [
    ⟨(some 10), none, .call (.func 54) []⟩,
    ⟨(some 0), none, .mv (.tmp 10)⟩]
def mbytes_r3 : List CO := [
    ⟨(some 11), none, .mv (.tmp 2)⟩,
    ⟨(some 12), none, .bin .lss (.tmp 11) (.const (.int .i64 (0)))⟩,
    ⟨(some 13), none, .mv (.tmp 12)⟩,
    ⟨(some 14), (some (13, false)), .mv (.tmp 2)⟩,
    ⟨(some 15), (some (13, false)), .bin .gtr (.tmp 14) (.const (.int .i64 (65536)))⟩,
    ⟨(some 16), none, .pick (.tmp 13) (.const (.bool true)) (.tmp 15)⟩,
    ⟨(some 17), none, .mv (.tmp 16)⟩,
    ⟨(some 18), (some (17, false)), .mv (.tmp 1)⟩,
    ⟨(some 19), (some (17, false)), .mv (.tmp 2)⟩,
    ⟨(some 20), (some (17, false)), .bin .mul (.const (.int .i64 (8))) (.tmp 19)⟩,
    ⟨(some 21), (some (17, false)), .call (.func 106) [(.tmp 18), (.tmp 20)]⟩,
    ⟨(some 22), (some (17, false)), .un .not (.tmp 21)⟩,
    ⟨(some 23), none, .pick (.tmp 17) (.const (.bool true)) (.tmp 22)⟩]
def mbytes_r4 : List CO := [
    ⟨(some 6), none, .mv (.const (.string ⟨#[]⟩))⟩,
    ⟨(some 7), none, .mv (.const (.int .i64 (8091)))⟩]
def mbytes_r5 : List CO := [
    ⟨(some 24), none, .mv (.tmp 1)⟩,
    ⟨(some 25), none, .bin .rem (.tmp 24) (.const (.int .i64 (8)))⟩,
    ⟨(some 26), none, .eq true (.one .i) (.tmp 25) (.const (.int .i64 (0)))⟩]
def mbytes_r6 : List CO := [
    ⟨(some 6), none, .mv (.const (.string ⟨#[]⟩))⟩,
    ⟨(some 7), none, .mv (.const (.int .i64 (8095)))⟩]
def mbytes_r7 : List CO := [
    ⟨(some 27), none, .mv (.tmp 0)⟩,
    ⟨(some 28), none, .nilc (.tmp 27)⟩,
    ⟨(some 29), none, .fa 0 (.tmp 28)⟩,
    ⟨(some 30), none, .mv (.tmp 1)⟩,
    ⟨(some 31), none, .bin .quo (.tmp 30) (.const (.int .i64 (8)))⟩,
    ⟨(some 32), none, .mv (.tmp 1)⟩,
    ⟨(some 33), none, .bin .quo (.tmp 32) (.const (.int .i64 (8)))⟩,
    ⟨(some 34), none, .mv (.tmp 2)⟩,
    ⟨(some 35), none, .bin .add (.tmp 33) (.tmp 34)⟩,
    ⟨(some 36), none, .slA 65536 1 (.tmp 29) (some (.tmp 31)) (some (.tmp 35)) none⟩,
    ⟨(some 37), none, .cToS (.tmp 36)⟩,
    ⟨(some 6), none, .mv (.tmp 37)⟩,
    ⟨(some 7), none, .mv (.const (.int .i64 (0)))⟩]
noncomputable def mbytes_k : KC :=
  (.seq (.reg mbytes_r0)
  (.seq (.seq (.reg mbytes_r1)
  (.cond (.tmp 9) (.reg mbytes_r2)
   .skip))
  (.seq (.seq (.reg mbytes_r3)
  (.cond (.tmp 23) (.seq (.reg mbytes_r4)
   .ret)
   .skip))
  (.seq (.seq (.reg mbytes_r5)
  (.cond (.tmp 26) (.seq (.reg mbytes_r6)
   .ret)
   .skip))
  (.seq (.reg mbytes_r7)
  .ret)))))
theorem mbytes_comp : kcomp Tb0 Tryz.f51.ntmps mbytes_body = mbytes_k := by kernel_rfl
theorem mbytes_some : Tryz.f51.body = some mbytes_body := rfl
noncomputable def fits_body : Code := (Tryz.f106.body).getD .skip
def fits_r0 : List CO := [
    ⟨(some 4), none, .mv (.const (.bool false))⟩]
def fits_r1 : List CO := [
    ⟨(some 5), none, .mv (.tmp 0)⟩,
    ⟨(some 6), none, .bin .geq (.tmp 5) (.const (.int .i64 (0)))⟩,
    ⟨(some 7), none, .mv (.tmp 6)⟩,
    ⟨(some 8), (some (7, true)), .mv (.tmp 1)⟩,
    ⟨(some 9), (some (7, true)), .bin .geq (.tmp 8) (.const (.int .i64 (0)))⟩,
    ⟨(some 10), none, .pick (.tmp 7) (.tmp 9) (.const (.bool false))⟩,
    ⟨(some 11), none, .mv (.tmp 10)⟩,
    ⟨(some 12), (some (11, true)), .mv (.tmp 0)⟩,
    ⟨(some 13), (some (11, true)), .bin .leq (.tmp 12) (.const (.int .i64 (524288)))⟩,
    ⟨(some 14), none, .pick (.tmp 11) (.tmp 13) (.const (.bool false))⟩,
    ⟨(some 15), none, .mv (.tmp 14)⟩,
    ⟨(some 16), (some (15, true)), .mv (.tmp 1)⟩,
    ⟨(some 17), (some (15, true)), .mv (.tmp 0)⟩,
    ⟨(some 18), (some (15, true)), .bin .sub (.const (.int .i64 (524288))) (.tmp 17)⟩,
    ⟨(some 19), (some (15, true)), .bin .leq (.tmp 16) (.tmp 18)⟩,
    ⟨(some 20), none, .pick (.tmp 15) (.tmp 19) (.const (.bool false))⟩,
    ⟨(some 4), none, .mv (.tmp 20)⟩]
noncomputable def fits_k : KC :=
  (.seq (.reg fits_r0)
  (.seq (.reg fits_r1)
  .ret))
theorem fits_comp : kcomp Tb0 Tryz.f106.ntmps fits_body = fits_k := by kernel_rfl
theorem fits_some : Tryz.f106.body = some fits_body := rfl
end Go.Proofs.MN
end
noncomputable section
namespace Go.Proofs.MN
open Go Go.Ev Go.Proofs Go.Ar
variable [SyQ]
theorem fn106 : Tb0.fn 106 = some Tryz.f106 := by kernel_rfl
theorem fn51 : Tb0.fn 51 = some Tryz.f51 := by kernel_rfl
theorem fn33 : Tb0.fn 33 = some Tryz.f33 := by kernel_rfl
theorem binV_mulT (a b : Int) : binV .mul (.int .i64 a) (.int .i64 b) = some (.int .i64 (wrapF .i64 (a * b))) := rfl
section
attribute [local go_sem] Bc_f Bc_t GT Ro_some Rv_eq WOG WOX Yj Yk Yl Ym Yn Yo Yp Yq Yr and_self and_true binV_add binV_geq binV_gtr binV_leq binV_lss binV_sub binV_mulT callV_func dec_F dec_T evalL evalM evalO_const evalO_func evalO_tmp exEq_int exFa_ptr exLen_str exPick_f exPick_t exUn_not if_false if_true no_bits ok_zero putT_none run true_and wantsV_U wantsV_ff wantsV_ft wantsV_tf wantsV_tt wants_none' wants_some
variable {sp : Nat → List Value → Hp → Option (Value × Hp × Nat × Nat)} {e : Env}
set_option maxRecDepth 10000 in
set_option maxHeartbeats 4000000 in
theorem fits_ok (S : ∀ f args H, sp f args H = none) {H : Hp} (hf : H.isFn = true) (he : e.n0 ≤ H.nx) {at_ k : Nat} (h : at_ + k ≤ 524288) : EC Tb0 sp e 106 [iN at_, iN k] H fun v H' => v = .bool true ∧ H' = H := by
  refine EC.i2 fn106 fits_some fits_comp (S _ _ _) (by show 2 ≤ 21; decide) fun t0 g0 g1 => ?_
  show WK Tb0 sp e ⟨2, 21, none, false⟩ fits_k t0 [] H _
  unfold fits_k
  refine WK.seq ?_
  refine WK.reg_g ?_
  refine WOG.all (fun t' H' => H = H' ∧ GT t' [(0, iN at_), (1, iN k), (4, .bool false)]) ?_ ?_
  · simp +decide only [fits_r0, g0, g1, Xo 2, go_sem]
  rintro t1_ _ ⟨rfl, g0_1, g1_1, g4_1, -⟩
  refine WK.seq ?_
  refine WK.reg_g ?_
  have d3_ : decide (((at_ : Nat) : Int) < (0 : Int)) = false := decide_eq_false (by omega)
  have d4_ : decide (((k : Nat) : Int) < (0 : Int)) = false := decide_eq_false (by omega)
  have d5_ : decide ((524288 : Int) < ((at_ : Nat) : Int)) = false := decide_eq_false (by omega)
  have w6_ : Value.int .i64 (wrapF .i64 ((524288 : Int) - ((at_ : Nat) : Int))) = .int .i64 (((524288 - at_) : Nat) : Int) := wF (by omega)
  have d7_ : decide ((((524288 - at_) : Nat) : Int) < ((k : Nat) : Int)) = false := decide_eq_false (by omega)
  refine WOG.all (fun t' H' => H = H' ∧ t'.get 4 = .bool true) ?_ ?_
  · simp +decide only [fits_r1, g0_1, g1_1, g4_1, d3_, d4_, d5_, w6_, d7_, Xo 2, go_sem]
  rintro t8_ _ ⟨rfl, g4_8⟩
  refine WK.ret ⟨.inr rfl, rfl, [.bool true], 0, ?_, .zero _ _, rfl, rfl⟩
  show resL Tb0 21 t8_ _ [.tmp 4] = _
  simp only [resL, g4_8]; rfl
set_option maxRecDepth 10000 in
set_option maxHeartbeats 4000000 in
theorem mbytes_ok (S : ∀ f args H, sp f args H = none) {H : Hp} (hf : H.isFn = true) (he : e.n0 ≤ H.nx) {bm p n : Nat} {fm : By} (hr : ByU H bm 199 fm 65536) (hn : p + n ≤ 65536) (hp : p < 65536) (hpm : bm < e.n0 → e.Rd bm) : EC Tb0 sp e 51 [pA bm 0, iN (8 * p), iN n] H fun v H' => v = .tuple #[vS (strF (fun i => fm (p + i)) n), vN 0] ∧ H' = H := by
  refine EC.i3 fn51 mbytes_some mbytes_comp (S _ _ _) (by show 3 ≤ 38; decide) fun t0 g0 g1 g2 => ?_
  show WK Tb0 sp e ⟨2, 38, none, false⟩ mbytes_k t0 [] H _
  unfold mbytes_k
  have lt1_ := hr.lt
  refine WK.seq ?_
  refine WK.reg_g ?_
  refine WOG.all (fun t' H' => H = H' ∧ GT t' [(0, pA bm 0), (1, iN (8 * p)), (2, iN n), (6, .string ⟨#[]⟩), (7, .int .i64 (0))]) ?_ ?_
  · simp +decide only [mbytes_r0, g0, g1, g2, Xo 2, go_sem]
  rintro t2_ _ ⟨rfl, g0_2, g1_2, g2_2, g6_2, g7_2, -⟩
  refine WK.seq ?_
  refine WK.seq ?_
  refine WK.reg_g ?_
  have m4_ : ∀ Hq, exEq false (.one .p) (pA bm 0) (.pointer none) Hq = .val (.bool false) Hq 0 0 := fun Hq => rfl
  refine WOG.all (fun t' H' => H = H' ∧ GT t' [(0, pA bm 0), (1, iN (8 * p)), (2, iN n), (6, .string ⟨#[]⟩), (7, .int .i64 (0)), (9, .bool false)]) ?_ ?_
  · simp +decide only [mbytes_r1, g0_2, g1_2, g2_2, g6_2, g7_2, m4_, Xo 2, go_sem]
  rintro t5_ _ ⟨rfl, g0_5, g1_5, g2_5, g6_5, g7_5, g9_5, -⟩
  refine WK.cond (v := false) (by rw [evalO_tmp, g9_5]; rfl) ?_
  refine WK.skip ?_
  refine WK.seq ?_
  refine WK.seq ?_
  refine WK.reg_g ?_
  refine WOG.hide fun K0 hK0 => ?_
  have d7_ : decide (((n : Nat) : Int) < (0 : Int)) = false := decide_eq_false (by omega)
  have d8_ : decide ((65536 : Int) < ((n : Nat) : Int)) = false := decide_eq_false (by omega)
  have w9_ : Value.int .i64 (wrapF .i64 ((8 : Int) * ((n : Nat) : Int))) = .int .i64 (((8 * n) : Nat) : Int) := wF (by omega)
  simp +decide only [mbytes_r3, g1_5, g2_5, d7_, d8_, w9_, Xo 2, go_sem]
  refine EC.mono (fits_ok S hf (by omega) (at_ := 8 * p) (k := (8 * n)) (by omega)) fun v H10_ _ hv11_ => ?_
  obtain ⟨rfl, hh12_⟩ := hv11_
  rw [hh12_]; clear hh12_
  rw [WOGk]
  refine WOG.all (fun t' H' => H = H' ∧ GT t' [(0, pA bm 0), (1, iN (8 * p)), (2, iN n), (6, .string ⟨#[]⟩), (7, .int .i64 (0)), (23, .bool false)]) ?_ ?_
  · simp +decide only [mbytes_r3, g0_5, g1_5, g2_5, g6_5, g7_5, g9_5, Xo 2, go_sem]
  rintro t13_ _ ⟨rfl, g0_13, g1_13, g2_13, g6_13, g7_13, g23_13, -⟩
  refine hK0 _ _ ?_
  refine WK.cond (v := false) (by rw [evalO_tmp, g23_13]; rfl) ?_
  refine WK.skip ?_
  refine WK.seq ?_
  refine WK.seq ?_
  refine WK.reg_g ?_
  have m15_ : ∀ Hq, R.o (binV .rem (iN (8 * p)) (.int .i64 8)) Hq = .val (.int .i64 (0)) Hq 0 0 := fun Hq => rem8q (n := 8 * p) (q := 0) (by omega) Hq
  have d16_ : decide ((0 : Int) = (0 : Int)) = true := decide_eq_true (by omega)
  refine WOG.all (fun t' H' => H = H' ∧ GT t' [(0, pA bm 0), (1, iN (8 * p)), (2, iN n), (6, .string ⟨#[]⟩), (7, .int .i64 (0)), (26, .bool false)]) ?_ ?_
  · simp +decide only [mbytes_r5, g0_13, g1_13, g2_13, g6_13, g7_13, g23_13, m15_, d16_, Xo 2, go_sem]
  rintro t17_ _ ⟨rfl, g0_17, g1_17, g2_17, g6_17, g7_17, g26_17, -⟩
  refine WK.cond (v := false) (by rw [evalO_tmp, g26_17]; rfl) ?_
  refine WK.skip ?_
  refine WK.seq ?_
  refine WK.reg_g ?_
  have m19_ : ∀ Hq, exNil (pA bm 0) Hq = .val (pA bm 0) Hq 0 0 := fun _ => rfl
  have m20_ : ∀ Hq, R.o (binV .quo (iN (8 * p)) (.int .i64 8)) Hq = .val (iN p) Hq 0 0 := fun Hq => quo8 (by omega) (by omega) _
  have m21_ : ∀ Hq, R.o (binV .quo (iN (8 * p)) (.int .i64 8)) Hq = .val (iN p) Hq 0 0 := fun Hq => quo8 (by omega) (by omega) _
  have w22_ : Value.int .i64 (wrapF .i64 (((p : Nat) : Int) + ((n : Nat) : Int))) = .int .i64 (((p + n) : Nat) : Int) := wF (by omega)
  have m23_ : ∀ Hq, exSlA 65536 1 (pA bm 0) (some (iN p)) (some (iN ((p + n)))) none Hq = .val (sC bm p (n) (2 * (65536 - p))) Hq 0 0 := fun Hq => slA_n Hq (by omega) (by omega)
  have m24_ : exToS (sC bm p (n) (2 * (65536 - p))) H = .val (vS (strF (fun i => fm (p + i)) (n))) H (bit (bm)) 0 := ByU.toS hr (by omega)
  have o25_ : e.ok (bit (bm)) 0 H := .read hr.lt hpm
  refine WOG.all (fun t' H' => H = H' ∧ GT t' [(6, vS (strF (fun i => fm (p + i)) (n))), (7, .int .i64 (0))]) ?_ ?_
  · simp +decide only [mbytes_r7, g0_17, g1_17, g2_17, g6_17, g7_17, g26_17, m19_, m20_, m21_, w22_, m23_, m24_, o25_, Xo 2, go_sem]
  rintro t26_ _ ⟨rfl, g6_26, g7_26, -⟩
  refine WK.ret ⟨.inr rfl, rfl, [vS (strF (fun i => fm (p + i)) (n)), .int .i64 (0)], 0, ?_, .zero _ _, rfl, rfl⟩
  show resL Tb0 38 t26_ _ [.tmp 6, .tmp 7] = _
  simp only [resL, g6_26, g7_26]; rfl
end
end Go.Proofs.MN
end
noncomputable section
namespace Go.Proofs.MN
open Go Go.Ev Go.Proofs Go.Ar
variable [SyQ]
theorem exIxS_strF {f : By} {n i : Nat} (h : i < n) (H : Hp) : exIxS (vS (strF f n)) (iN i) H = .val (uB (f i)) H 0 0 := by
  have : idx (vN ((i : Nat) : Int)) (strF f n).length = some i := by
    show Bc (Nat.blt i (strF f n).length) (some i) none = _
    rw [(blt_iff _ _).2 (by rw [strF_len]; exact h)]; rfl
  show (match idx (vN ((i : Nat) : Int)) (strF f n).length with | some m => (match (strF f n)[m]? with | some c => R.v (.int .u8 (.ofNat c.toNat)) H | none => .fail) | none => .fail) = _
  rw [this]; simp only [strF_get h]; rfl
theorem len_strF (f : By) (n : Nat) (H : Hp) : exLen 0 (vS (strF f n)) H = .val (vN (n : Nat)) H 0 0 := by
  rw [exLen_str, strF_len]
theorem xor64 (a b : Int) : ∃ c, binV .xor (.int .u64 a) (.int .u64 b) = some (.int .u64 c) := by
  show ∃ c, some (bitsI .xor .u64 a b) = some (.int .u64 c)
  unfold bitsI
  repeat' split
  all_goals exact ⟨_, rfl⟩
theorem mul64 (a b : Int) : ∃ c, binV .mul (.int .u64 a) (.int .u64 b) = some (.int .u64 c) := ⟨_, rfl⟩
theorem resL_cell {tb : Tb} {nt a ty b n : Nat} {t : T Value} {H : Hp} {l : List Value} (hb : Bc (Nat.blt a nt) (Bc (match isAggT tb ty with | some b => b | none => false) (match szOf tb ty with | some k => Nat.beq k n | none => false) false) false = true) (hg : t.get a = .pointer (some ⟨b, 0, none⟩)) (hr : rdN H b 0 n = some l) :
    resL tb nt t H [.cell a ty] = some ([.agg ⟨l⟩], bit b) := by
  cases h1 : Nat.blt a nt with
  | false => rw [h1, Bc_f] at hb; cases hb
  | true =>
    rw [h1, Bc_t] at hb
    cases h2 : isAggT tb ty with
    | none => rw [h2] at hb; simp [Bc_f] at hb
    | some x =>
      rw [h2] at hb
      cases x with
      | false => simp [Bc_f] at hb
      | true =>
        simp only [Bc_t] at hb
        cases h3 : szOf tb ty with
        | none => rw [h3] at hb; cases hb
        | some k =>
          rw [h3] at hb
          obtain rfl := (beq_iff _ _).1 hb
          simp only [resL, h1, Bc_t, hg, asPtr, h2, h3, hr]
          rw [lor_zero']
open Go.Ar (By)
section
attribute [local go_sem] Bc_f Bc_t GT Ro_some Rv_eq WOG WOX Yj Yk Yl Ym Yn Yo Yp Yq Yr and_self and_true binV_add binV_geq binV_gtr binV_leq binV_lss binV_mulT binV_sub callV_func dec_F dec_T evalL evalM evalO_const evalO_func evalO_tmp exEq_int exFa_ptr exFill_some exLen_str exPick_f exPick_t exUn_not if_false if_true no_bits ok_zero putT_none run true_and wantsV_U wantsV_ff wantsV_ft wantsV_tf wantsV_tt wants_none' wants_some
variable {sp : Nat → List Value → Hp → Option (Value × Hp × Nat × Nat)} {e : Env}
def snL (m : Nat) (k : Int) : List Value := [iN m, .int .i64 (0), .int .i64 (0), .int .i64 (0), .int .i64 (0), .int .u64 k, .bool true]
set_option maxRecDepth 10000 in
set_option maxHeartbeats 4000000 in
theorem snap_ok (S : ∀ f args H, sp f args H = none) {H : Hp} (hf : H.isFn = true) (he : e.n0 ≤ H.nx) {sb ty bm m : Nat} {fm : By} {L : List Value} (hs : Row H sb ty 0 L) (hL6 : L[6]? = some (pA bm 0)) (hL15 : L[15]? = some (iN m)) (hL19 : L[19]? = some (.bool true)) (hr : ByU H bm 199 fm 65536) (hpm : bm < e.n0 → e.Rd bm) (hps : sb < e.n0 → e.Rd sb) : EC Tb0 sp e 33 [pA sb 0] H fun v H' => (∃ k, v = .agg ⟨snL m k⟩) ∧ Kept H H' ∧ H'.nx = H.nx + 2 := by
  refine EC.i1 fn33 snap_some snap_comp (S _ _ _) (by show 1 ≤ 73; decide) fun t0 g0 => ?_
  show WK Tb0 sp e ⟨3, 73, none, false⟩ snap_k t0 [] H _
  unfold snap_k
  have ltb := hr.lt
  have lts := hs.lt
  refine WK.seq ?_
  refine WK.reg_g ?_
  obtain ⟨H1_, nb1_⟩ := newB hf [.int .i64 (0), .int .i64 (0), .int .i64 (0), .int .i64 (0), .int .i64 (0), .int .u64 (0), .bool false] 68
  have m1_ : alloc1 (blkL [.int .i64 (0), .int .i64 (0), .int .i64 (0), .int .i64 (0), .int .i64 (0), .int .u64 (0), .bool false] 68 0) H ptrTo 0 0 = .val (.pointer (some ⟨H.nx, 0, none⟩)) H1_ 0 0 := nb1_.al
  have hf1_ := nb1_.kept.fn
  have nx1_ : H1_.nx = H.nx + 1 := nb1_.nx
  have m2_ : H.nx ≤ H1_.nx := by omega
  have k1_ := nb1_.kept
  refine WOG.all (fun t' H' => H1_ = H' ∧ GT t' [(0, pA sb 0), (2, pA H.nx 0)]) ?_ ?_
  · simp +decide only [snap_r0, g0, m1_, m2_, Xo 3, go_sem]
  rintro t1_ _ ⟨rfl, g0_1, g2_1, -⟩
  have hs1 := hs.mv k1_
  have hr1 : ByU H1_ bm 199 fm 65536 := Row.mv hr k1_
  refine WK.seq ?_
  refine WK.seq ?_
  refine WK.reg_g ?_
  have m4_ : ∀ Hq, exEq false (.one .p) (pA sb 0) (.pointer none) Hq = .val (.bool false) Hq 0 0 := fun Hq => rfl
  refine WOG.all (fun t' H' => H1_ = H' ∧ GT t' [(0, pA sb 0), (2, pA H.nx 0), (9, .bool false)]) ?_ ?_
  · simp +decide only [snap_r1, g0_1, g2_1, m4_, Xo 3, go_sem]
  rintro t2_ _ ⟨rfl, g0_2, g2_2, g9_2, -⟩
  refine WK.cond (v := false) (by rw [evalO_tmp, g9_2]; rfl) ?_
  refine WK.skip ?_
  refine WK.seq ?_
  refine WK.reg_g ?_
  refine WOG.hide fun K0 hK0 => ?_
  have m5_ : ∀ Hq, exNil (pA sb 0) Hq = .val (pA sb 0) Hq 0 0 := fun _ => rfl
  have m6_ : exLd1 (pA sb 6) H1_ = .val (pA bm 0) H1_ (bit sb) 0 := exLd1_row hs1 hL6
  have o7_ : e.ok (bit sb) 0 H1_ := .read hs1.lt hps
  simp +decide only [snap_r3, g0_2, m5_, m6_, o7_, Xo 3, go_sem]
  refine EC.mono (mbytes_ok S hf1_ (by omega) (p := 0) (n := 65536) hr1 (by omega) (by omega) hpm) fun v H10_ _ hv11_ => ?_
  obtain ⟨rfl, hh12_⟩ := hv11_
  rw [hh12_, show (fun i => fm (0 + i)) = fm from funext fun i => by rw [Nat.zero_add]]; clear hh12_
  have x0_ : ∀ (a b : Value) Hq, exExt (.tuple #[a, b]) 0 Hq = .val a Hq 0 0 := fun _ _ _ => rfl
  have x1_ : ∀ (a b : Value) Hq, exExt (.tuple #[a, b]) 1 Hq = .val b Hq 0 0 := fun _ _ _ => rfl
  rw [WOGk]
  refine WOG.all (fun t' H' => H1_ = H' ∧ GT t' [(0, pA sb 0), (2, pA H.nx 0), (3, vS (strF fm 65536))]) ?_ ?_
  · simp +decide only [snap_r3, g0_2, g2_2, x0_, x1_, Xo 3, go_sem]
  rintro t3_ _ ⟨rfl, g0_3, g2_3, g3_3, -⟩
  refine hK0 _ _ ?_
  refine WK.seq ?_
  refine WK.draw_xx (fun _ => False) [.p, .p, .p, .q, .p, .p, .p, .q, .p, .q, .x] (by omega) rfl ?_
  have m21_ : exLd1 (pA sb 15) H1_ = .val (iN m) H1_ (bit sb) 0 := exLd1_row hs1 hL15
  have m22_ : exLd1 (pA sb 19) H1_ = .val (.bool true) H1_ (bit sb) 0 := exLd1_row hs1 hL19
  have b23_ : ∀ cq, (bit sb).testBit cq = true → cq < H1_.nx := the_bit (P := fun cq => cq < H1_.nx) (by omega)
  have m24_ : ∀ t : T Value, t.get 22 = iN m → t.get 26 = .bool true → fillL t [.int .i64 (0), .int .i64 (0), .int .i64 (0), .int .i64 (0), .int .i64 (0), .int .u64 (0), .bool false] [(0, 1, (.tmp 22)), (5, 1, (.const (.int .u64 (14695981039346656037)))), (6, 1, (.tmp 26))] = some (snL m 14695981039346656037) := fun t h0 h1 => by simp only [fillL, evalO_tmp, evalO_const, h0, h1]; rfl
  obtain ⟨H2_, nb2_⟩ := newB hf1_ [.int .i64 (0), .int .i64 (0), .int .i64 (0), .int .i64 (0), .int .i64 (0), .int .u64 (0), .bool false] 68
  have m25_ : alloc1 (blkL [.int .i64 (0), .int .i64 (0), .int .i64 (0), .int .i64 (0), .int .i64 (0), .int .u64 (0), .bool false] 68 0) H1_ ptrTo 0 0 = .val (.pointer (some ⟨H1_.nx, 0, none⟩)) H2_ 0 0 := nb2_.al
  have hf2_ := nb2_.kept.fn
  have nx2_ : H2_.nx = H1_.nx + 1 := nb2_.nx
  have m26_ : H1_.nx ≤ H2_.nx := by omega
  obtain ⟨H3_, e3_, wr3_⟩ := exStN_at (o := 0) (vs := snL m 14695981039346656037) hf2_ nb2_.row (by show 0 + 7 ≤ 7; decide)
  have m27_ : exSt 7 (pA H1_.nx 0) (.agg ⟨snL m 14695981039346656037⟩) H2_ = .val U H3_ 0 (bit (H1_.nx)) := e3_
  have hf3_ := wr3_.fn
  have nx3_ : H3_.nx = H2_.nx := wr3_.nx
  have m28_ : H2_.nx ≤ H3_.nx := by omega
  have r3_ : Row H3_ (H1_.nx) 68 0 (snL m 14695981039346656037) := wr3_.row
  have o29_ : e.ok 0 (bit (H1_.nx)) H3_ := .write r3_.lt (fun h => absurd h (by omega))
  have k3_ : Kept H1_ H3_ := ⟨wr3_.fn, by omega, fun c hc => (wr3_.else_ c (by omega)).trans (nb2_.kept.old c hc)⟩
  refine WOX.all (fun t' H' => H3_ = H' ∧ GT t' [(0, pA sb 0), (2, pA H.nx 0), (3, vS (strF fm 65536)), (5, pA H1_.nx 0)]) ?_ ?_
  · simp +decide only [snap_r4, g0_3, g2_3, g3_3, m5_, m21_, m22_, b23_, m24_, exFill_some, m25_, m26_, m27_, m28_, o7_, o29_, Xo 3, go_sem]
    all_goals ((repeat' apply And.intro) <;> assumption)
  rintro t4_ _ ⟨rfl, g0_4, g2_4, g3_4, g5_4, -⟩
  refine WK.seq ?_
  refine WK.seq ?_
  refine WK.reg_g ?_
  have m31_ : ∀ Hq, exLen 0 (vS (strF fm 65536)) Hq = .val (vN ((65536 : Nat))) Hq 0 0 := fun _ => len_strF _ _ _
  refine WOG.all (fun t' H' => H3_ = H' ∧ GT t' [(0, pA sb 0), (2, pA H.nx 0), (3, vS (strF fm 65536)), (5, pA H1_.nx 0), (29, iN 65536), (30, .int .i64 (0))]) ?_ ?_
  · simp +decide only [snap_r5, g0_4, g2_4, g3_4, g5_4, m31_, Xo 3, go_sem]
  rintro t5_ _ ⟨rfl, g0_5, g2_5, g3_5, g5_5, g29_5, g30_5, -⟩
  refine WK.block (WK.loop_ind (fun mm t' ds' H' => ds' = [] ∧ ∃ (i : Nat) (k : Int), mm = 65536 - i ∧ i ≤ 65536 ∧ Kept H1_ H' ∧ H'.nx = H1_.nx + 1 ∧ Row H' (H1_.nx) 68 0 (snL m k) ∧ t'.get 0 = pA sb 0 ∧ t'.get 2 = pA H.nx 0 ∧ t'.get 3 = vS (strF fm 65536) ∧ t'.get 5 = pA H1_.nx 0 ∧ t'.get 29 = iN 65536 ∧ t'.get 30 = iN i) ?_ _ t5_ [] H3_ ⟨rfl, 0, _, rfl, by omega, k3_, by omega, r3_, g0_5, g2_5, g3_5, g5_5, g29_5, g30_5⟩)
  rintro m_l t_l ds_ H_l ⟨rfl, i, k, rfl, hi, kl, nxl, rl, g0_l, g2_l, g3_l, g5_l, g29_l, g30_l⟩
  have hfl := kl.fn
  unfold snap_l10
  refine WK.seq ?_
  by_cases hlt : i < 65536
  case pos =>
    refine WK.reg_g ?_
    have d6_ : decide (((i : Nat) : Int) < ((65536 : Nat) : Int)) = true := decide_eq_true (by omega)
    refine WOG.all (fun t' H' => H_l = H' ∧ GT t' [(0, pA sb 0), (2, pA H.nx 0), (3, vS (strF fm 65536)), (5, pA H1_.nx 0), (29, iN 65536), (30, iN i), (31, .bool true)]) ?_ ?_
    · simp +decide only [snap_r6, g0_l, g2_l, g3_l, g5_l, g29_l, g30_l, d6_, Xo 3, go_sem]
    rintro t7_ _ ⟨rfl, g0_7, g2_7, g3_7, g5_7, g29_7, g30_7, g31_7, -⟩
    refine WK.seq ?_
    refine WK.cond (v := true) (by rw [evalO_tmp, g31_7]; rfl) ?_
    refine WK.skip ?_
    refine WK.seq ?_
    refine WK.block ?_
    refine WK.seq ?_
    refine WK.reg_g ?_
    refine WOG.all (fun t' H' => H_l = H' ∧ GT t' [(0, pA sb 0), (2, pA H.nx 0), (3, vS (strF fm 65536)), (5, pA H1_.nx 0), (6, iN i), (29, iN 65536), (30, iN i)]) ?_ ?_
    · simp +decide only [snap_r7, g0_7, g2_7, g3_7, g5_7, g29_7, g30_7, g31_7, Xo 3, go_sem]
    rintro t8_ _ ⟨rfl, g0_8, g2_8, g3_8, g5_8, g6_8, g29_8, g30_8, -⟩
    refine WK.draw_xx (fun _ => False) [.p, .q, .p, .p, .p, .p, .p, .p, .p, .x] (by omega) rfl ?_
    have m41_ : exLd1 (pA H1_.nx 5) H_l = .val (.int .u64 k) H_l (bit H1_.nx) 0 := exLd1_row rl rfl
    have o42_ : e.ok (bit H1_.nx) 0 H_l := .read rl.lt (fun h => absurd h (by omega))
    have b43_ : ∀ cq, (bit H1_.nx).testBit cq = true → cq < H_l.nx := the_bit (P := fun cq => cq < H_l.nx) (by omega)
    have m44_ : ∀ Hq, exIxS (vS (strF fm 65536)) (iN i) Hq = .val (uB (fm i)) Hq 0 0 := fun Hq => exIxS_strF hlt Hq
    have m45_ : ∃ c, ∀ Hq, exCInt .u64 (uB (fm i)) Hq = .val (.int .u64 c) Hq 0 0 := ⟨_, fun _ => rfl⟩
    obtain ⟨c1, m45_⟩ := m45_
    obtain ⟨c2, m46_⟩ := xor64 k c1
    obtain ⟨c3, m47_⟩ := mul64 c2 1099511628211
    obtain ⟨H4_, e4_, wr4_⟩ := exSt1_at (o := 5) (v := .int .u64 c3) rfl hfl rl (by show 5 + 1 ≤ 7; decide)
    have m48_ : exSt 1 (pA H1_.nx 5) (.int .u64 c3) H_l = .val U H4_ 0 (bit (H1_.nx)) := e4_
    have nx4_ : H4_.nx = H_l.nx := wr4_.nx
    have m49_ : H_l.nx ≤ H4_.nx := by omega
    have r4_ : Row H4_ (H1_.nx) 68 0 (snL m c3) := wr4_.row
    have o50_ : e.ok 0 (bit (H1_.nx)) H4_ := .write r4_.lt (fun h => absurd h (by omega))
    have k4_ : Kept H1_ H4_ := ⟨wr4_.fn, by omega, fun c hc => (wr4_.else_ c (by omega)).trans (kl.old c hc)⟩
    refine WOX.all (fun t' H' => H4_ = H' ∧ GT t' [(0, pA sb 0), (2, pA H.nx 0), (3, vS (strF fm 65536)), (5, pA H1_.nx 0), (29, iN 65536), (30, iN i)]) ?_ ?_
    · simp +decide only [snap_r8, g0_8, g2_8, g3_8, g5_8, g6_8, g29_8, g30_8, m41_, o42_, b43_, m44_, m45_, m46_, m47_, m48_, m49_, o50_, Xo 3, go_sem]
      all_goals ((repeat' apply And.intro) <;> assumption)
    rintro t9_ _ ⟨rfl, g0_9, g2_9, g3_9, g5_9, g29_9, g30_9, -⟩
    refine WK.reg_g ?_
    have w51_ : Value.int .i64 (wrapF .i64 (((i : Nat) : Int) + (1 : Int))) = .int .i64 (((i + 1) : Nat) : Int) := wF (by omega)
    refine WOG.all (fun t' H' => H4_ = H' ∧ GT t' [(0, pA sb 0), (2, pA H.nx 0), (3, vS (strF fm 65536)), (5, pA H1_.nx 0), (29, iN 65536), (30, iN ((i + 1)))]) ?_ ?_
    · simp +decide only [snap_r9, g0_9, g2_9, g3_9, g5_9, g29_9, g30_9, w51_, Xo 3, go_sem]
    rintro t10_ _ ⟨rfl, g0_10, g2_10, g3_10, g5_10, g29_10, g30_10, -⟩
    exact ⟨_, by omega, rfl, i + 1, c3, rfl, by omega, k4_, by omega, r4_, g0_10, g2_10, g3_10, g5_10, g29_10, g30_10⟩
  case neg =>
    refine WK.reg_g ?_
    have d6_ : decide (((i : Nat) : Int) < ((65536 : Nat) : Int)) = false := decide_eq_false (by omega)
    refine WOG.all (fun t' H' => H_l = H' ∧ GT t' [(0, pA sb 0), (2, pA H.nx 0), (5, pA H1_.nx 0), (31, .bool false)]) ?_ ?_
    · simp +decide only [snap_r6, g0_l, g2_l, g3_l, g5_l, g29_l, g30_l, d6_, Xo 3, go_sem]
    rintro t7_ _ ⟨rfl, g0_7, g2_7, g5_7, g31_7, -⟩
    refine WK.seq ?_
    refine WK.cond (v := false) (by rw [evalO_tmp, g31_7]; rfl) ?_
    refine WK.exit ?_
    show WK Tb0 sp e ⟨3, 73, none, false⟩ _ t7_ [] H_l _
    refine WK.seq ?_
    refine WK.seq ?_
    refine WK.reg_g ?_
    have hsl := hs1.mv kl
    have m61_ : exLd1 (pA sb 19) H_l = .val (.bool true) H_l (bit sb) 0 := exLd1_row hsl hL19
    have o62_ : e.ok (bit sb) 0 H_l := .read hsl.lt hps
    refine WOG.all (fun t' H' => H_l = H' ∧ GT t' [(2, pA H.nx 0), (5, pA H1_.nx 0), (47, .bool false)]) ?_ ?_
    · simp +decide only [snap_r11, g0_7, g2_7, g5_7, g31_7, m5_, m61_, o62_, Xo 3, go_sem]
    rintro t11_ _ ⟨rfl, g2_11, g5_11, g47_11, -⟩
    refine WK.cond (v := false) (by rw [evalO_tmp, g47_11]; rfl) ?_
    refine WK.skip ?_
    refine WK.seq ?_
    refine WK.reg_g ?_
    have m71_ : exLdN 7 (pA H1_.nx 0) H_l = .val (.agg ⟨snL m k⟩) H_l (bit H1_.nx) 0 := exLdN_row (o := 0) (k := 7) rl (by show 0 + 7 ≤ 7; decide)
    have o72_ : e.ok (bit H1_.nx) 0 H_l := .read rl.lt (fun h => absurd h (by omega))
    have rn_ := nb1_.row.mv kl
    obtain ⟨H5_, e5_, wr5_⟩ := exStN_at (o := 0) (vs := snL m k) hfl rn_ (by show 0 + 7 ≤ 7; decide)
    have m73_ : exSt 7 (pA H.nx 0) (.agg ⟨snL m k⟩) H_l = .val U H5_ 0 (bit (H.nx)) := e5_
    have nx5_ : H5_.nx = H_l.nx := wr5_.nx
    have m74_ : H_l.nx ≤ H5_.nx := by omega
    have r5_ : Row H5_ (H.nx) 68 0 (snL m k) := wr5_.row
    have o75_ : e.ok 0 (bit (H.nx)) H5_ := .write r5_.lt (fun h => absurd h (by omega))
    have k5_ : Kept H H5_ := ⟨wr5_.fn, by omega, fun c hc => (wr5_.else_ c (by omega)).trans ((kl.old c (by omega)).trans (k1_.old c hc))⟩
    refine WOG.all (fun t' H' => H5_ = H' ∧ t'.get 2 = pA H.nx 0) ?_ ?_
    · simp +decide only [snap_r14, g2_11, g5_11, m71_, o72_, m73_, m74_, o75_, Xo 3, go_sem]
    rintro t12_ _ ⟨rfl, g2_12⟩
    show WK Tb0 sp e ⟨3, 73, none, false⟩ _ t12_ [] H5_ _
    have hld : rdN H5_ (H.nx) 0 7 = some (snL m k) := rdN_row (o := 0) (k := 7) r5_ (by show 0 + 7 ≤ 7; decide)
    refine WK.ret ⟨.inr rfl, rfl, [.agg ⟨snL m k⟩], bit (H.nx), ?_, .read r5_.lt (fun h => absurd h (by omega)), ⟨k, rfl⟩, k5_, by omega⟩
    show resL Tb0 73 t12_ _ [.cell 2 68] = _
    exact resL_cell rfl g2_12 hld
end
end Go.Proofs.MN
end
noncomputable section
namespace Go.Proofs.MN
open Go Go.Ev Go.Proofs Go.Ar
variable [SyQ]
noncomputable def newest_body : Code := (Tryz.f52.body).getD .skip
def newest_r0 : List CO := [
    ⟨(some 2), none, .mv (.const (.pointer none))⟩]
def newest_r1 : List CO := [
    ⟨(some 3), none, .mv (.tmp 0)⟩,
    ⟨(some 4), none, .nilc (.tmp 3)⟩,
    ⟨(some 5), none, .fa 7 (.tmp 4)⟩,
    ⟨(some 6), none, .ld1 (.tmp 5)⟩,
    ⟨(some 7), none, .mv (.tmp 0)⟩,
    ⟨(some 8), none, .nilc (.tmp 7)⟩,
    ⟨(some 9), none, .fa 7 (.tmp 8)⟩,
    ⟨(some 10), none, .ld1 (.tmp 9)⟩,
    ⟨(some 11), none, .len 1 (.tmp 10)⟩,
    ⟨(some 12), none, .bin .sub (.tmp 11) (.const (.int .i64 (1)))⟩,
    ⟨(some 13), none, .iaS 10 (.tmp 6) (.tmp 12)⟩,
    ⟨(some 2), none, .mv (.tmp 13)⟩]
noncomputable def newest_k : KC :=
  (.seq (.reg newest_r0)
  (.seq (.draw #[0, 1, 3, 7, 0, 16, 48, 112, 240, 496, 1023, 2047] newest_r1)
  .ret))
theorem newest_comp : kcomp Tb0 Tryz.f52.ntmps newest_body = newest_k := by kernel_rfl
theorem newest_some : Tryz.f52.body = some newest_body := rfl
open Go.Ar (By)
section
attribute [local go_sem] Bc_f Bc_t GT Ro_some Rv_eq WOG WOX Yj Yk Yl Ym Yn Yo Yp Yq Yr and_self and_true binV_add binV_geq binV_gtr binV_leq binV_lss binV_mulT binV_sub callV_func dec_F dec_T evalL evalM evalO_const evalO_func evalO_tmp exEq_int exFa_ptr exFill_some exLen_str exPick_f exPick_t exUn_not if_false if_true no_bits ok_zero putT_none run true_and wantsV_U wantsV_ff wantsV_ft wantsV_tf wantsV_tt wants_none' wants_some
variable {sp : Nat → List Value → Hp → Option (Value × Hp × Nat × Nat)} {e : Env}
def snF (m : Nat) (k : Int) : List Value := [iN m, .int .i64 (0), .int .i64 (0), .int .i64 (0), .int .i64 (0), .int .u64 k, .bool false]
def snG (m : Nat) (k : Int) : List Value := [iN m, iN 40, vN ((1 : Nat)), iN 0, .int .i64 (128), .int .u64 k, .bool false]
theorem fn52 : Tb0.fn 52 = some Tryz.f52 := by kernel_rfl
set_option maxRecDepth 10000 in
set_option maxHeartbeats 4000000 in
theorem newest_ok (S : ∀ f args H, sp f args H = none) {H : Hp} (hf : H.isFn = true) (he : e.n0 ≤ H.nx) {sb ty : Nat} {L : List Value} (hps : sb < e.n0 → e.Rd sb) (hst : Row H sb ty 0 L) {ba ca : Nat} (h7 : L[7]? = some (.slice (some ⟨ba, 0, none⟩) 1 ca)) : EC Tb0 sp e 52 [pA sb 0] H fun v H' => v = pA ba 0 ∧ H' = H := by
  refine EC.i1 fn52 newest_some newest_comp (S _ _ _) (by show 1 ≤ 14; decide) fun t0 g0 => ?_
  show WK Tb0 sp e ⟨2, 14, none, false⟩ newest_k t0 [] H _
  unfold newest_k
  have lt1_ := hst.lt
  refine WK.seq ?_
  refine WK.reg_g ?_
  refine WOG.all (fun t' H' => H = H' ∧ GT t' [(0, pA sb 0), (2, .pointer none)]) ?_ ?_
  · simp +decide only [newest_r0, g0, Xo 2, go_sem]
  rintro t2_ _ ⟨rfl, g0_2, g2_2, -⟩
  refine WK.seq ?_
  refine WK.draw_xx (fun _ => False) [.p, .p, .p, .q, .p, .p, .p, .q, .p, .p, .p, .p] (by omega) rfl ?_
  have m4_ : ∀ Hq, exNil (pA sb 0) Hq = .val (pA sb 0) Hq 0 0 := fun _ => rfl
  have m5_ : exLd1 (pA sb 7) H = .val (.slice (some ⟨ba, 0, none⟩) 1 ca) H (bit (sb)) 0 := exLd1_row hst h7
  have o6_ : e.ok (bit (sb)) 0 H := .read hst.lt hps
  have o7_ : ∀ cq, (bit (sb)).testBit cq = true → cq < H.nx := the_bit (P := fun cq => cq < H.nx) (by have := hst.lt; omega)
  have m10_ : ∀ Hq, exLen 1 (.slice (some ⟨ba, 0, none⟩) 1 ca) Hq = .val (vN ((1 : Nat))) Hq 0 0 := fun _ => rfl
  have m11_ : Value.int .i64 (wrapF .i64 (((1 : Nat) : Int) - (1 : Int))) = .int .i64 (0) := rfl
  have m12_ : ∀ Hq, exIaS 10 (.slice (some ⟨ba, 0, none⟩) 1 ca) (.int .i64 (0)) Hq = .val (pA ba 0) Hq 0 0 := fun Hq => by rw [exIaS_int (by omega) (by omega)]; rfl
  refine WOX.all (fun t' H' => H = H' ∧ t'.get 2 = pA ba 0) ?_ ?_
  · simp +decide only [newest_r1, g0_2, g2_2, m4_, m5_, o6_, o7_, m10_, m11_, m12_, Xo 2, go_sem]
    all_goals ((repeat' apply And.intro) <;> assumption)
  rintro t13_ _ ⟨rfl, g2_13⟩
  refine WK.ret ⟨.inr rfl, rfl, [pA ba 0], 0, ?_, .zero _ _, rfl, rfl⟩
  show resL Tb0 14 t13_ _ [.tmp 2] = _
  simp only [resL, g2_13]; rfl
set_option maxRecDepth 10000 in
set_option maxHeartbeats 4000000 in
theorem snap2_ok (S : ∀ f args H, sp f args H = none) {H : Hp} (hf : H.isFn = true) (he : e.n0 ≤ H.nx) {sb ty bm m ab ca aty aop : Nat} {fm : By} {L LA : List Value} (hs : Row H sb ty 0 L) (hL7 : L[7]? = some (.slice (some ⟨ab, 0, none⟩) 1 ca)) (hL17 : L[17]? = some (iN 40)) (ha : Row H ab aty aop LA) (ha0 : LA[0]? = some (iN 0)) (ha2 : LA[2]? = some (iN 16)) (hpa : ab < e.n0 → e.Rd ab) (hL6 : L[6]? = some (pA bm 0)) (hL15 : L[15]? = some (iN m)) (hL19 : L[19]? = some (.bool false)) (hr : ByU H bm 199 fm 65536) (hpm : bm < e.n0 → e.Rd bm) (hps : sb < e.n0 → e.Rd sb) : EC Tb0 sp e 33 [pA sb 0] H fun v H' => (∃ k, v = .agg ⟨snG m k⟩) ∧ Kept H H' ∧ H'.nx = H.nx + 2 := by
  refine EC.i1 fn33 snap_some snap_comp (S _ _ _) (by show 1 ≤ 73; decide) fun t0 g0 => ?_
  show WK Tb0 sp e ⟨3, 73, none, false⟩ snap_k t0 [] H _
  unfold snap_k
  have ltb := hr.lt
  have lts := hs.lt
  have lta := ha.lt
  refine WK.seq ?_
  refine WK.reg_g ?_
  obtain ⟨H1_, nb1_⟩ := newB hf [.int .i64 (0), .int .i64 (0), .int .i64 (0), .int .i64 (0), .int .i64 (0), .int .u64 (0), .bool false] 68
  have m1_ : alloc1 (blkL [.int .i64 (0), .int .i64 (0), .int .i64 (0), .int .i64 (0), .int .i64 (0), .int .u64 (0), .bool false] 68 0) H ptrTo 0 0 = .val (.pointer (some ⟨H.nx, 0, none⟩)) H1_ 0 0 := nb1_.al
  have hf1_ := nb1_.kept.fn
  have nx1_ : H1_.nx = H.nx + 1 := nb1_.nx
  have m2_ : H.nx ≤ H1_.nx := by omega
  have k1_ := nb1_.kept
  refine WOG.all (fun t' H' => H1_ = H' ∧ GT t' [(0, pA sb 0), (2, pA H.nx 0)]) ?_ ?_
  · simp +decide only [snap_r0, g0, m1_, m2_, Xo 3, go_sem]
  rintro t1_ _ ⟨rfl, g0_1, g2_1, -⟩
  have hs1 := hs.mv k1_
  have hr1 : ByU H1_ bm 199 fm 65536 := Row.mv hr k1_
  refine WK.seq ?_
  refine WK.seq ?_
  refine WK.reg_g ?_
  have m4_ : ∀ Hq, exEq false (.one .p) (pA sb 0) (.pointer none) Hq = .val (.bool false) Hq 0 0 := fun Hq => rfl
  refine WOG.all (fun t' H' => H1_ = H' ∧ GT t' [(0, pA sb 0), (2, pA H.nx 0), (9, .bool false)]) ?_ ?_
  · simp +decide only [snap_r1, g0_1, g2_1, m4_, Xo 3, go_sem]
  rintro t2_ _ ⟨rfl, g0_2, g2_2, g9_2, -⟩
  refine WK.cond (v := false) (by rw [evalO_tmp, g9_2]; rfl) ?_
  refine WK.skip ?_
  refine WK.seq ?_
  refine WK.reg_g ?_
  refine WOG.hide fun K0 hK0 => ?_
  have m5_ : ∀ Hq, exNil (pA sb 0) Hq = .val (pA sb 0) Hq 0 0 := fun _ => rfl
  have m6_ : exLd1 (pA sb 6) H1_ = .val (pA bm 0) H1_ (bit sb) 0 := exLd1_row hs1 hL6
  have o7_ : e.ok (bit sb) 0 H1_ := .read hs1.lt hps
  simp +decide only [snap_r3, g0_2, m5_, m6_, o7_, Xo 3, go_sem]
  refine EC.mono (mbytes_ok S hf1_ (by omega) (p := 0) (n := 65536) hr1 (by omega) (by omega) hpm) fun v H10_ _ hv11_ => ?_
  obtain ⟨rfl, hh12_⟩ := hv11_
  rw [hh12_, show (fun i => fm (0 + i)) = fm from funext fun i => by rw [Nat.zero_add]]; clear hh12_
  have x0_ : ∀ (a b : Value) Hq, exExt (.tuple #[a, b]) 0 Hq = .val a Hq 0 0 := fun _ _ _ => rfl
  have x1_ : ∀ (a b : Value) Hq, exExt (.tuple #[a, b]) 1 Hq = .val b Hq 0 0 := fun _ _ _ => rfl
  rw [WOGk]
  refine WOG.all (fun t' H' => H1_ = H' ∧ GT t' [(0, pA sb 0), (2, pA H.nx 0), (3, vS (strF fm 65536))]) ?_ ?_
  · simp +decide only [snap_r3, g0_2, g2_2, x0_, x1_, Xo 3, go_sem]
  rintro t3_ _ ⟨rfl, g0_3, g2_3, g3_3, -⟩
  refine hK0 _ _ ?_
  refine WK.seq ?_
  refine WK.draw_xx (fun _ => False) [.p, .p, .p, .q, .p, .p, .p, .q, .p, .q, .x] (by omega) rfl ?_
  have m21_ : exLd1 (pA sb 15) H1_ = .val (iN m) H1_ (bit sb) 0 := exLd1_row hs1 hL15
  have m22_ : exLd1 (pA sb 19) H1_ = .val (.bool false) H1_ (bit sb) 0 := exLd1_row hs1 hL19
  have b23_ : ∀ cq, (bit sb).testBit cq = true → cq < H1_.nx := the_bit (P := fun cq => cq < H1_.nx) (by omega)
  have m24_ : ∀ t : T Value, t.get 22 = iN m → t.get 26 = .bool false → fillL t [.int .i64 (0), .int .i64 (0), .int .i64 (0), .int .i64 (0), .int .i64 (0), .int .u64 (0), .bool false] [(0, 1, (.tmp 22)), (5, 1, (.const (.int .u64 (14695981039346656037)))), (6, 1, (.tmp 26))] = some (snF m 14695981039346656037) := fun t h0 h1 => by simp only [fillL, evalO_tmp, evalO_const, h0, h1]; rfl
  obtain ⟨H2_, nb2_⟩ := newB hf1_ [.int .i64 (0), .int .i64 (0), .int .i64 (0), .int .i64 (0), .int .i64 (0), .int .u64 (0), .bool false] 68
  have m25_ : alloc1 (blkL [.int .i64 (0), .int .i64 (0), .int .i64 (0), .int .i64 (0), .int .i64 (0), .int .u64 (0), .bool false] 68 0) H1_ ptrTo 0 0 = .val (.pointer (some ⟨H1_.nx, 0, none⟩)) H2_ 0 0 := nb2_.al
  have hf2_ := nb2_.kept.fn
  have nx2_ : H2_.nx = H1_.nx + 1 := nb2_.nx
  have m26_ : H1_.nx ≤ H2_.nx := by omega
  obtain ⟨H3_, e3_, wr3_⟩ := exStN_at (o := 0) (vs := snF m 14695981039346656037) hf2_ nb2_.row (by show 0 + 7 ≤ 7; decide)
  have m27_ : exSt 7 (pA H1_.nx 0) (.agg ⟨snF m 14695981039346656037⟩) H2_ = .val U H3_ 0 (bit (H1_.nx)) := e3_
  have hf3_ := wr3_.fn
  have nx3_ : H3_.nx = H2_.nx := wr3_.nx
  have m28_ : H2_.nx ≤ H3_.nx := by omega
  have r3_ : Row H3_ (H1_.nx) 68 0 (snF m 14695981039346656037) := wr3_.row
  have o29_ : e.ok 0 (bit (H1_.nx)) H3_ := .write r3_.lt (fun h => absurd h (by omega))
  have k3_ : Kept H1_ H3_ := ⟨wr3_.fn, by omega, fun c hc => (wr3_.else_ c (by omega)).trans (nb2_.kept.old c hc)⟩
  refine WOX.all (fun t' H' => H3_ = H' ∧ GT t' [(0, pA sb 0), (2, pA H.nx 0), (3, vS (strF fm 65536)), (5, pA H1_.nx 0)]) ?_ ?_
  · simp +decide only [snap_r4, g0_3, g2_3, g3_3, m5_, m21_, m22_, b23_, m24_, exFill_some, m25_, m26_, m27_, m28_, o7_, o29_, Xo 3, go_sem]
    all_goals ((repeat' apply And.intro) <;> assumption)
  rintro t4_ _ ⟨rfl, g0_4, g2_4, g3_4, g5_4, -⟩
  refine WK.seq ?_
  refine WK.seq ?_
  refine WK.reg_g ?_
  have m31_ : ∀ Hq, exLen 0 (vS (strF fm 65536)) Hq = .val (vN ((65536 : Nat))) Hq 0 0 := fun _ => len_strF _ _ _
  refine WOG.all (fun t' H' => H3_ = H' ∧ GT t' [(0, pA sb 0), (2, pA H.nx 0), (3, vS (strF fm 65536)), (5, pA H1_.nx 0), (29, iN 65536), (30, .int .i64 (0))]) ?_ ?_
  · simp +decide only [snap_r5, g0_4, g2_4, g3_4, g5_4, m31_, Xo 3, go_sem]
  rintro t5_ _ ⟨rfl, g0_5, g2_5, g3_5, g5_5, g29_5, g30_5, -⟩
  refine WK.block (WK.loop_ind (fun mm t' ds' H' => ds' = [] ∧ ∃ (i : Nat) (k : Int), mm = 65536 - i ∧ i ≤ 65536 ∧ Kept H1_ H' ∧ H'.nx = H1_.nx + 1 ∧ Row H' (H1_.nx) 68 0 (snF m k) ∧ t'.get 0 = pA sb 0 ∧ t'.get 2 = pA H.nx 0 ∧ t'.get 3 = vS (strF fm 65536) ∧ t'.get 5 = pA H1_.nx 0 ∧ t'.get 29 = iN 65536 ∧ t'.get 30 = iN i) ?_ _ t5_ [] H3_ ⟨rfl, 0, _, rfl, by omega, k3_, by omega, r3_, g0_5, g2_5, g3_5, g5_5, g29_5, g30_5⟩)
  rintro m_l t_l ds_ H_l ⟨rfl, i, k, rfl, hi, kl, nxl, rl, g0_l, g2_l, g3_l, g5_l, g29_l, g30_l⟩
  have hfl := kl.fn
  unfold snap_l10
  refine WK.seq ?_
  by_cases hlt : i < 65536
  case pos =>
    refine WK.reg_g ?_
    have d6_ : decide (((i : Nat) : Int) < ((65536 : Nat) : Int)) = true := decide_eq_true (by omega)
    refine WOG.all (fun t' H' => H_l = H' ∧ GT t' [(0, pA sb 0), (2, pA H.nx 0), (3, vS (strF fm 65536)), (5, pA H1_.nx 0), (29, iN 65536), (30, iN i), (31, .bool true)]) ?_ ?_
    · simp +decide only [snap_r6, g0_l, g2_l, g3_l, g5_l, g29_l, g30_l, d6_, Xo 3, go_sem]
    rintro t7_ _ ⟨rfl, g0_7, g2_7, g3_7, g5_7, g29_7, g30_7, g31_7, -⟩
    refine WK.seq ?_
    refine WK.cond (v := true) (by rw [evalO_tmp, g31_7]; rfl) ?_
    refine WK.skip ?_
    refine WK.seq ?_
    refine WK.block ?_
    refine WK.seq ?_
    refine WK.reg_g ?_
    refine WOG.all (fun t' H' => H_l = H' ∧ GT t' [(0, pA sb 0), (2, pA H.nx 0), (3, vS (strF fm 65536)), (5, pA H1_.nx 0), (6, iN i), (29, iN 65536), (30, iN i)]) ?_ ?_
    · simp +decide only [snap_r7, g0_7, g2_7, g3_7, g5_7, g29_7, g30_7, g31_7, Xo 3, go_sem]
    rintro t8_ _ ⟨rfl, g0_8, g2_8, g3_8, g5_8, g6_8, g29_8, g30_8, -⟩
    refine WK.draw_xx (fun _ => False) [.p, .q, .p, .p, .p, .p, .p, .p, .p, .x] (by omega) rfl ?_
    have m41_ : exLd1 (pA H1_.nx 5) H_l = .val (.int .u64 k) H_l (bit H1_.nx) 0 := exLd1_row rl rfl
    have o42_ : e.ok (bit H1_.nx) 0 H_l := .read rl.lt (fun h => absurd h (by omega))
    have b43_ : ∀ cq, (bit H1_.nx).testBit cq = true → cq < H_l.nx := the_bit (P := fun cq => cq < H_l.nx) (by omega)
    have m44_ : ∀ Hq, exIxS (vS (strF fm 65536)) (iN i) Hq = .val (uB (fm i)) Hq 0 0 := fun Hq => exIxS_strF hlt Hq
    have m45_ : ∃ c, ∀ Hq, exCInt .u64 (uB (fm i)) Hq = .val (.int .u64 c) Hq 0 0 := ⟨_, fun _ => rfl⟩
    obtain ⟨c1, m45_⟩ := m45_
    obtain ⟨c2, m46_⟩ := xor64 k c1
    obtain ⟨c3, m47_⟩ := mul64 c2 1099511628211
    obtain ⟨H4_, e4_, wr4_⟩ := exSt1_at (o := 5) (v := .int .u64 c3) rfl hfl rl (by show 5 + 1 ≤ 7; decide)
    have m48_ : exSt 1 (pA H1_.nx 5) (.int .u64 c3) H_l = .val U H4_ 0 (bit (H1_.nx)) := e4_
    have nx4_ : H4_.nx = H_l.nx := wr4_.nx
    have m49_ : H_l.nx ≤ H4_.nx := by omega
    have r4_ : Row H4_ (H1_.nx) 68 0 (snF m c3) := wr4_.row
    have o50_ : e.ok 0 (bit (H1_.nx)) H4_ := .write r4_.lt (fun h => absurd h (by omega))
    have k4_ : Kept H1_ H4_ := ⟨wr4_.fn, by omega, fun c hc => (wr4_.else_ c (by omega)).trans (kl.old c hc)⟩
    refine WOX.all (fun t' H' => H4_ = H' ∧ GT t' [(0, pA sb 0), (2, pA H.nx 0), (3, vS (strF fm 65536)), (5, pA H1_.nx 0), (29, iN 65536), (30, iN i)]) ?_ ?_
    · simp +decide only [snap_r8, g0_8, g2_8, g3_8, g5_8, g6_8, g29_8, g30_8, m41_, o42_, b43_, m44_, m45_, m46_, m47_, m48_, m49_, o50_, Xo 3, go_sem]
      all_goals ((repeat' apply And.intro) <;> assumption)
    rintro t9_ _ ⟨rfl, g0_9, g2_9, g3_9, g5_9, g29_9, g30_9, -⟩
    refine WK.reg_g ?_
    have w51_ : Value.int .i64 (wrapF .i64 (((i : Nat) : Int) + (1 : Int))) = .int .i64 (((i + 1) : Nat) : Int) := wF (by omega)
    refine WOG.all (fun t' H' => H4_ = H' ∧ GT t' [(0, pA sb 0), (2, pA H.nx 0), (3, vS (strF fm 65536)), (5, pA H1_.nx 0), (29, iN 65536), (30, iN ((i + 1)))]) ?_ ?_
    · simp +decide only [snap_r9, g0_9, g2_9, g3_9, g5_9, g29_9, g30_9, w51_, Xo 3, go_sem]
    rintro t10_ _ ⟨rfl, g0_10, g2_10, g3_10, g5_10, g29_10, g30_10, -⟩
    exact ⟨_, by omega, rfl, i + 1, c3, rfl, by omega, k4_, by omega, r4_, g0_10, g2_10, g3_10, g5_10, g29_10, g30_10⟩
  case neg =>
    refine WK.reg_g ?_
    have d6_ : decide (((i : Nat) : Int) < ((65536 : Nat) : Int)) = false := decide_eq_false (by omega)
    refine WOG.all (fun t' H' => H_l = H' ∧ GT t' [(0, pA sb 0), (2, pA H.nx 0), (5, pA H1_.nx 0), (31, .bool false)]) ?_ ?_
    · simp +decide only [snap_r6, g0_l, g2_l, g3_l, g5_l, g29_l, g30_l, d6_, Xo 3, go_sem]
    rintro t7_ _ ⟨rfl, g0_7, g2_7, g5_7, g31_7, -⟩
    refine WK.seq ?_
    refine WK.cond (v := false) (by rw [evalO_tmp, g31_7]; rfl) ?_
    refine WK.exit ?_
    show WK Tb0 sp e ⟨3, 73, none, false⟩ _ t7_ [] H_l _
    refine WK.seq ?_
    refine WK.seq ?_
    refine WK.reg_g ?_
    have hsl := hs1.mv kl
    have m61_ : exLd1 (pA sb 19) H_l = .val (.bool false) H_l (bit sb) 0 := exLd1_row hsl hL19
    have o62_ : e.ok (bit sb) 0 H_l := .read hsl.lt hps
    refine WOG.all (fun t' H' => H_l = H' ∧ GT t' [(0, pA sb 0), (2, pA H.nx 0), (5, pA H1_.nx 0), (47, .bool true)]) ?_ ?_
    · simp +decide only [snap_r11, g0_7, g2_7, g5_7, g31_7, m5_, m61_, o62_, Xo 3, go_sem]
    rintro t11_ _ ⟨rfl, g0_11, g2_11, g5_11, g47_11, -⟩
    refine WK.cond (v := true) (by rw [evalO_tmp, g47_11]; rfl) ?_
    show WK Tb0 sp e ⟨3, 73, none, false⟩ _ t11_ [] H_l _
    refine WK.seq ?_
    refine WK.reg_g ?_
    refine WOG.hide fun K0 hK0 => ?_
    have hal := (ha.mv k1_).mv kl
    simp +decide only [snap_r12, g0_11, Xo 3, go_sem]
    refine EC.mono (newest_ok S hfl (by omega) hps hsl hL7) fun v H10_ _ hv11_ => ?_
    obtain ⟨rfl, hh12_⟩ := hv11_
    rw [hh12_]; clear hh12_
    rw [WOGk]
    refine WOG.all (fun t' H' => H_l = H' ∧ GT t' [(0, pA sb 0), (2, pA H.nx 0), (5, pA H1_.nx 0), (7, pA ab 0)]) ?_ ?_
    · simp +decide only [snap_r12, g0_11, g2_11, g5_11, Xo 3, go_sem]
    rintro t12_ _ ⟨rfl, g0_12, g2_12, g5_12, g7_12, -⟩
    refine hK0 _ _ ?_
    refine WK.draw_xx (fun c => c = sb ∨ c = ab) [.p, .p, .p, .u, .p, .p, .p, .u, .p, .p, .p, .p, .u, .p, .p, .p, .u, .p, .p, .y, .p, .y, .p, .y, .p, .y] (by omega) rfl ?_
    have q1_ : ∀ Hq, exNil (pA ab 0) Hq = .val (pA ab 0) Hq 0 0 := fun _ => rfl
    have q2_ : exLd1 (pA sb 17) H_l = .val (iN 40) H_l (bit sb) 0 := exLd1_row hsl hL17
    have q3_ : exLd1 (pA sb 7) H_l = .val (.slice (some ⟨ab, 0, none⟩) 1 ca) H_l (bit sb) 0 := exLd1_row hsl hL7
    have q4_ : ∀ Hq, exLen 1 (.slice (some ⟨ab, 0, none⟩) 1 ca) Hq = .val (vN ((1 : Nat))) Hq 0 0 := fun _ => rfl
    have q5_ : exLd1 (pA ab 0) H_l = .val (iN 0) H_l (bit ab) 0 := exLd1_row hal ha0
    have q6_ : exLd1 (pA ab 2) H_l = .val (iN 16) H_l (bit ab) 0 := exLd1_row hal ha2
    have q7_ : Value.int .i64 (wrapF .i64 ((8 : Int) * ((16 : Nat) : Int))) = .int .i64 (128) := rfl
    have o63_ : e.ok (bit ab) 0 H_l := .read hal.lt hpa
    have b64_ : ∀ cq, (bit sb).testBit cq = true → cq < H_l.nx ∧ (cq = sb ∨ cq = ab) := the_bit (P := fun cq => cq < H_l.nx ∧ (cq = sb ∨ cq = ab)) ⟨by have := hsl.lt; omega, .inl rfl⟩
    have b65_ : ∀ cq, (bit ab).testBit cq = true → cq < H_l.nx ∧ (cq = sb ∨ cq = ab) := the_bit (P := fun cq => cq < H_l.nx ∧ (cq = sb ∨ cq = ab)) ⟨by have := hal.lt; omega, .inr rfl⟩
    have b66_ : ∀ cq, (bit H1_.nx).testBit cq = true → ¬ (cq = sb ∨ cq = ab) := the_bit (P := fun cq => ¬ (cq = sb ∨ cq = ab)) (by omega)
    obtain ⟨Ha_, ea_, wra_⟩ := exSt1_at (o := 1) (v := iN 40) rfl hfl rl (by show 1 + 1 ≤ 7; decide)
    have ra_ : Row Ha_ (H1_.nx) 68 0 [iN m, iN 40, .int .i64 (0), .int .i64 (0), .int .i64 (0), .int .u64 k, .bool false] := wra_.row
    obtain ⟨Hb_, eb_, wrb_⟩ := exSt1_at (o := 2) (v := vN ((1 : Nat))) rfl wra_.fn ra_ (by show 2 + 1 ≤ 7; decide)
    have rb_ : Row Hb_ (H1_.nx) 68 0 [iN m, iN 40, vN ((1 : Nat)), .int .i64 (0), .int .i64 (0), .int .u64 k, .bool false] := wrb_.row
    obtain ⟨Hc_, ec_, wrc_⟩ := exSt1_at (o := 3) (v := iN 0) rfl wrb_.fn rb_ (by show 3 + 1 ≤ 7; decide)
    have rc_ : Row Hc_ (H1_.nx) 68 0 [iN m, iN 40, vN ((1 : Nat)), iN 0, .int .i64 (0), .int .u64 k, .bool false] := wrc_.row
    obtain ⟨Hd_, ed_, wrd_⟩ := exSt1_at (o := 4) (v := .int .i64 (128)) rfl wrc_.fn rc_ (by show 4 + 1 ≤ 7; decide)
    have rd_ : Row Hd_ (H1_.nx) 68 0 (snG m k) := wrd_.row
    have sa_ : exSt 1 (pA H1_.nx 1) (iN 40) H_l = .val U Ha_ 0 (bit (H1_.nx)) := ea_
    have sb_ : exSt 1 (pA H1_.nx 2) (vN ((1 : Nat))) Ha_ = .val U Hb_ 0 (bit (H1_.nx)) := eb_
    have sc_ : exSt 1 (pA H1_.nx 3) (iN 0) Hb_ = .val U Hc_ 0 (bit (H1_.nx)) := ec_
    have sd_ : exSt 1 (pA H1_.nx 4) (.int .i64 (128)) Hc_ = .val U Hd_ 0 (bit (H1_.nx)) := ed_
    have na_ : Ha_.nx = H_l.nx := wra_.nx
    have nb_ : Hb_.nx = Ha_.nx := wrb_.nx
    have nc_ : Hc_.nx = Hb_.nx := wrc_.nx
    have nd_ : Hd_.nx = Hc_.nx := wrd_.nx
    have oa_ : e.ok 0 (bit (H1_.nx)) Ha_ := .write ra_.lt (fun h => absurd h (by omega))
    have ob_ : e.ok 0 (bit (H1_.nx)) Hb_ := .write rb_.lt (fun h => absurd h (by omega))
    have oc_ : e.ok 0 (bit (H1_.nx)) Hc_ := .write rc_.lt (fun h => absurd h (by omega))
    have od_ : e.ok 0 (bit (H1_.nx)) Hd_ := .write rd_.lt (fun h => absurd h (by omega))
    have kd_ : Kept H1_ Hd_ := ⟨wrd_.fn, by omega, fun c hc => (wrd_.else_ c (by omega)).trans ((wrc_.else_ c (by omega)).trans ((wrb_.else_ c (by omega)).trans ((wra_.else_ c (by omega)).trans (kl.old c hc))))⟩
    refine WOX.all (fun t' H' => Hd_ = H' ∧ GT t' [(2, pA H.nx 0), (5, pA H1_.nx 0)]) ?_ ?_
    · simp +decide only [snap_r13, g0_12, g2_12, g5_12, g7_12, m5_, q1_, q2_, q3_, q4_, q5_, q6_, q7_, o62_, o63_, b64_, b65_, b66_, sa_, sb_, sc_, sd_, na_, nb_, nc_, nd_, oa_, ob_, oc_, od_, Xo 3, go_sem]
      all_goals ((repeat' apply And.intro) <;> assumption)
    rintro t13_ _ ⟨rfl, g2_13, g5_13, -⟩
    refine WK.seq ?_
    refine WK.reg_g ?_
    have m71_ : exLdN 7 (pA H1_.nx 0) Hd_ = .val (.agg ⟨snG m k⟩) Hd_ (bit H1_.nx) 0 := exLdN_row (o := 0) (k := 7) rd_ (by show 0 + 7 ≤ 7; decide)
    have o72_ : e.ok (bit H1_.nx) 0 Hd_ := .read rd_.lt (fun h => absurd h (by omega))
    have rn_ := nb1_.row.mv kd_
    obtain ⟨H5_, e5_, wr5_⟩ := exStN_at (o := 0) (vs := snG m k) wrd_.fn rn_ (by show 0 + 7 ≤ 7; decide)
    have m73_ : exSt 7 (pA H.nx 0) (.agg ⟨snG m k⟩) Hd_ = .val U H5_ 0 (bit (H.nx)) := e5_
    have nx5_ : H5_.nx = Hd_.nx := wr5_.nx
    have m74_ : Hd_.nx ≤ H5_.nx := by omega
    have r5_ : Row H5_ (H.nx) 68 0 (snG m k) := wr5_.row
    have o75_ : e.ok 0 (bit (H.nx)) H5_ := .write r5_.lt (fun h => absurd h (by omega))
    have k5_ : Kept H H5_ := ⟨wr5_.fn, by omega, fun c hc => (wr5_.else_ c (by omega)).trans ((kd_.old c (by omega)).trans (k1_.old c hc))⟩
    refine WOG.all (fun t' H' => H5_ = H' ∧ t'.get 2 = pA H.nx 0) ?_ ?_
    · simp +decide only [snap_r14, g2_13, g5_13, m71_, o72_, m73_, m74_, o75_, Xo 3, go_sem]
    rintro t14_ _ ⟨rfl, g2_14⟩
    show WK Tb0 sp e ⟨3, 73, none, false⟩ _ t14_ [] H5_ _
    have hld : rdN H5_ (H.nx) 0 7 = some (snG m k) := rdN_row (o := 0) (k := 7) r5_ (by show 0 + 7 ≤ 7; decide)
    refine WK.ret ⟨.inr rfl, rfl, [.agg ⟨snG m k⟩], bit (H.nx), ?_, .read r5_.lt (fun h => absurd h (by omega)), ⟨k, rfl⟩, k5_, by omega⟩
    show resL Tb0 73 t14_ _ [.cell 2 68] = _
    exact resL_cell rfl g2_14 hld
end
end Go.Proofs.MN
end
noncomputable section
namespace Go.Proofs.MN
open Go Go.Ev Go.Proofs Go.Ev.SM
def globL : List (Nat × Blk) := [(2, pwB), (3, shB), (6, opB)]
def clSane : Clm := ⟨7, [], globL, NG, .bool true, [], NG, 76, 0⟩
def spSnap2 (args : List Value) (H : Hp) : Ans := match args with
  | [.pointer (some ⟨b, 0, none⟩)] => (match H.blk b with
    | .cells t n _ op lo hi => Bc (Nat.beq n 22 && (Nat.beq op 0 && (Nat.beq lo 0 && (Nat.beq hi 0 && (isI 40 (t.get 17) && (match t.get 19 with | .bool x => !x | _ => false)))))) (match t.get 6 with
      | .pointer (some ⟨m, 0, none⟩) => (match t.get 7 with
        | .slice (some ⟨A, 0, none⟩) l _ => (match t.get 15 with
          | .int .i64 (.ofNat st) => (match memOk (H.blk m) with
            | some _ => (match H.blk A with
              | .cells ta na _ _ la ha => Bc (nxOk H && (!Nat.beq A b && (!Nat.beq A m && (Nat.beq l 1 && (Nat.beq la 0 && (Nat.beq ha 0 && (Nat.ble 10 na && (isI 0 (ta.get 0) && isI 16 (ta.get 2)))))))))
                (some (.agg ⟨[nV (Int.ofNat st), nV 40, nV 1, nV 0, nV 128, sy 0, .bool false]⟩, H, Nat.lor (bit b) (Nat.lor (bit m) (bit A)), 0)) none
              | _ => none)
            | none => none)
          | _ => none)
        | _ => none)
      | _ => none) none
    | _ => none)
  | _ => none
def clChk (th : Bool) : Clm := ⟨44, if th then chkAT else chkAF, (3, shB) :: (6, opB) :: (if th then progT else progF), 160, nV 0, [], 160, maskL (3 :: 6 :: (if th then progT else progF).map (·.1)), 0⟩
noncomputable def chkB (th : Bool) : Bool := clB (spGt 0 false 1000000 (fun _ _ => none)) tab0 (clChk th) []
def gTabL (n k : Nat) : Option Value := Bc (Nat.beq k 200) (some (.int .u8 (Int.ofNat n))) (Bc (Nat.beq k 100) (some (nV (Int.ofNat n))) none)
def deadR (a b : Nat) : List (Nat × Blk) := (List.range (b - a)).map fun i => (a + i, .no)
def srcR (a b : Nat) : List Nat := (List.range (b - a)).map fun i => a + i
def gExp (op : Int) (s : Value) (n : Int) (l k : Value) : List Value := [nV op, nV 2, nV 15, nV 0, f0, s0, nV n, s0, nV 0, l, k]
def clTwo1 : Clm := ⟨11, [nV 7, .agg ⟨gExp 2 s0 0 sn (sl 54 1 2)⟩, .agg ⟨gExp 1 s0 1 sn sn⟩], [], 57, .agg ⟨gExp 4 s0 0 (sl 89 1 2) sn⟩, deadR 57 90 ++ progF.filter (fun x => Nat.beq x.1 88 || Nat.beq x.1 89), 90, 0, 0⟩
def clTwo2 : Clm := ⟨11, [nV 9, .agg ⟨gExp 1 s0 1 sn sn⟩, .agg ⟨gExp 1 s0 0 sn sn⟩], [], 102, .agg ⟨gExp 4 s0 0 (sl 134 1 2) sn⟩, deadR 102 135 ++ progF.filter (fun x => Nat.beq x.1 133 || Nat.beq x.1 134), 135, 0, 0⟩
def gOps : Blk := .cells (wrL 2 opsL 0 (.e .nilFunc)) 32 189 0 0 0
def clTab (g : GV) : Clm := ⟨48, [], [], 202 + g.o, sl (202 + g.o) 32 64, [(202 + g.o, gOps)], 203 + g.o, 0, 0⟩
def gAll (th : Bool) : List (Nat × Blk) := (3, shB) :: (6, opB) :: (if th then progT else progF)
def clNew (g : GV) (a : Nat) : Clm := ⟨47, (if g.th then chkAT else chkAF) ++ [.agg ⟨[sl a 1 2, sl (a + 1) 1 2, nV 1000]⟩], gAll g.th ++ [(a, blkL [s0] 9 0), (a + 1, blkL [sn] 113 0)], 162 + g.o, .tuple ⟨[pt (186 + g.o), nV 0]⟩,
  deadR (162 + g.o) (202 + g.o) ++ [(186 + g.o, blkL (gSt g (sl (201 + g.o) 1 3) 18 (nV 0) 0) 130 0), (183 + g.o, gOwn), (170 + g.o, blkL [st8 [83, 89, 83, 80, 82, 73, 78, 84], nV 2] 90 3), (184 + g.o, .cells memZ 65536 199 0 0 0), (201 + g.o, blkL [nV 0, sn, nV 16, nV (-1), sn, nV 0, nV 0, nV 0, s0, s0] 137 11),
    (192 + g.o, blkL [.pointer none] 177 2), (194 + g.o, blkL [pt (190 + g.o)] 154 2), (190 + g.o, blkL [nV 2, pt (189 + g.o)] 159 0), (189 + g.o, blkL [s0, nV 0] 222 0), (196 + g.o, blkL [.pointer none] 160 2), (185 + g.o, blkL [] 59 0)], 202 + g.o, maskL (a :: (a + 1) :: (gAll g.th).map (·.1)), 0⟩
def clPut (g : GV) : Clm := ⟨291, [pt (203 + g.o), .agg ⟨[nV 15, nV 40, sn, sl 34 1 2, nV 0, nV 0, nV 0, sn, nV 0, f0, f0]⟩], (gAll g.th).filter (fun x => Nat.beq x.1 33 || Nat.beq x.1 34) ++ [(183 + g.o, gOwn), (184 + g.o, gMe (.int .u8 1)), (186 + g.o, blkL (gSt g (sl (gN0 g 1) 1 3) 24 UK 40) 130 0), (189 + g.o, blkL [s0, nV 0] 222 0), (190 + g.o, blkL [nV 2, pt (189 + g.o)] 159 0), (194 + g.o, blkL [pt (190 + g.o)] 154 2), (202 + g.o, gOps), (203 + g.o, blkL (gMa g UK UK) 98 0), (gN0 g 1, blkL (gAct g 0) 137 11)], 257 + g.o, .tuple #[],
  (189 + g.o, blkL [st8 [49], nV 1] 222 0) :: deadR (257 + g.o) (316 + g.o), 316 + g.o, maskL [33, 34, 183 + g.o, 184 + g.o, 186 + g.o, 189 + g.o, 190 + g.o, 194 + g.o, 202 + g.o, 203 + g.o, gN0 g 1], maskL [189 + g.o]⟩
def spChk (th : Bool) (args : List Value) (H : Hp) : Ans := spC tab0 (clChk th) 44 args H
noncomputable def newB (g : GV) (a : Nat) : Bool := clB (spX 0 false 44 (spChk g.th)) tab0 (clNew g a) (srcR (162 + g.o) (202 + g.o))
noncomputable def simB (c : Clm) : Bool := clB (spX 0 false 1000000 (fun _ _ => none)) tab0 c (srcR c.n0 c.n1)
def clLawG (th : Bool) (n : Nat) : Clm := ⟨4, [nN n, .bool th], globL, 20, .bool true, [], 20, 76, 0⟩
def gR (th : Bool) : GV := if th then rT else rF
def gWt (th : Bool) : GV := if th then wT else wF
def spEnt (th : Bool) (n : Nat) (args : List Value) (H : Hp) : Ans := match spC (gTabL n) (clGn (gR th) n 1 (nV (-1))) 153 args H with
  | some x => some x
  | none => spC (gTabL n) (clGn (gWt th) n 1 (uW (gWt th) n)) 153 args H
def or2 (x y : Ans) : Ans := match x with | some q => some q | none => y
def spLawG (th : Bool) (n f : Nat) (args : List Value) (H : Hp) : Ans :=
  Bc (Nat.testBit mkTy f) (npS (spTy f args H)) (Bc (Nat.testBit mkSy f) (npS (spSy 0 false f args H)) (Bc (Nat.beq f 153) (spEnt th n args H) (Bc (Nat.testBit mkM f) (npS (spM f args H)) (Bc (Nat.beq f 54) (npS (spMem args H)) (Bc (Nat.beq f 7) (spC tab0 clSane 7 args H) (Bc (Nat.beq f 44) (spC (gTabL n) (clChk th) 44 args H) (Bc (Nat.beq f 33) (npS (spSnap2 args H))
    (Bc (Nat.beq f 11) (or2 (spC tab0 clTwo1 11 args H) (spC tab0 clTwo2 11 args H)) (Bc (Nat.beq f 47) (or2 (spC (gTabL n) (clNew (gR th) (if th then 160 else 155)) 47 args H) (spC (gTabL n) (clNew (gWt th) (if th then 340 else 335)) 47 args H)) (Bc (Nat.beq f 48) (or2 (spC tab0 (clTab (gR th)) 48 args H) (spC tab0 (clTab (gWt th)) 48 args H)) (Bc (Nat.beq f 291) (spC tab0 (clPut (gR th)) 291 args H) none)))))))))))
noncomputable def lawG (th : Bool) (n : Nat) : Bool := clB (spLawG th n) tab0 (clLawG th n) []
def spSnap (args : List Value) (H : Hp) : Ans := match args with
  | [.pointer (some ⟨b, 0, none⟩)] => (match H.blk b with
    | .cells t n ty op lo hi => Bc (Nat.beq n 22 && (Nat.beq op 0 && Nat.beq lo 0 && Nat.beq hi 0) && (isI 2 (t.get 15) && (match t.get 19 with | .bool x => x | _ => false))) (match t.get 6 with
      | .pointer (some ⟨m, 0, none⟩) => (match memOk (H.blk m) with
        | some _ => Bc (nxOk H) (some (.agg ⟨[nV 2, nV 0, nV 0, nV 0, nV 0, sy 0, .bool true]⟩, H, Nat.lor (bit b) (bit m), 0)) none
        | none => none)
      | _ => none) none
    | _ => none)
  | _ => none
noncomputable def saneB : Bool := clB (spX 0 false 33 spSnap) tab0 clSane []
end Go.Proofs.MN
end
noncomputable section
namespace Go.Proofs.MN
open Go Go.Ev Go.Proofs Go.Ev.SM
open Go.Ar (By)
def cz (v : Option Value) : Value := match v with | some (.bool x) => .bool x | _ => sy 0
theorem one_cells {v : Value} (h : oneC v = true) : v.cells = #[v] := by
  cases v with
  | agg _ => cases h
  | tuple _ => cases h
  | _ => rfl
theorem cz_one (v : Option Value) : oneC (cz v) = true := by
  unfold cz; split <;> rfl
theorem cz_rel {n : Nat} {β : Mp} (tb : Tbl n β) {v : Value} (h : oneC v = true) : VRel β (cz (some v)) v := by
  have key : (∀ b, v ≠ .bool b) → VRel β (sy 0) v := fun hb => .sym 0 _ _ (tb 0) (.inr (.inr (.inr (.inr (.inl ⟨rfl, hb, h, one_cells h⟩)))))
  by_cases e : ∃ b, v = .bool b
  · obtain ⟨b, rfl⟩ := e; exact .bool b
  · have hb : ∀ b, v ≠ .bool b := fun b hh => e ⟨b, hh⟩
    have : cz (some v) = sy 0 := by
      unfold cz; split
      · rename_i x hx; cases hx; exact absurd rfl (hb _)
      · rfl
    rw [this]; exact key hb
section
variable [SyQ]
def stL (cs : Array Value) (bm : Nat) : List Value := (List.range 22).map fun i => if i = 6 then .pointer (some ⟨bm, 0, none⟩) else if i = 15 then nV 2 else cz cs[i]?
theorem stL_len (cs : Array Value) (bm : Nat) : (stL cs bm).length = 22 := by simp [stL]
theorem stL_get {cs : Array Value} {bm i : Nat} (h : i < 22) : (stL cs bm)[i]? = some (if i = 6 then .pointer (some ⟨bm, 0, none⟩) else if i = 15 then nV 2 else cz cs[i]?) := by simp [stL, h]
noncomputable def Hs (sb ty : Nat) (L : List Value) (b : Nat) (f : By) (nx : Nat) : Hp := .fn (fun c => Bc (Nat.beq c sb) (blkL L ty 0) (Bc (Nat.beq c b) (blkL (bys f 65536) 199 0) .no)) nx
theorem Hs_s {sb ty b nx : Nat} {L : List Value} (f : By) (h : sb < nx) : (Hs sb ty L b f nx).blk sb = blkL L ty 0 := by
  unfold Hs
  rw [blk_fn, if_pos h, (beq_iff _ _).2 rfl, Bc_t]
theorem Hs_b {sb ty b nx : Nat} {L : List Value} (f : By) (h : b < nx) (hn : b ≠ sb) : (Hs sb ty L b f nx).blk b = blkL (bys f 65536) 199 0 := by
  unfold Hs
  have : Nat.beq b sb = false := by cases e : Nat.beq b sb with | true => exact absurd ((beq_iff _ _).1 e) hn | false => rfl
  rw [blk_fn, if_pos h, this, Bc_f, (beq_iff _ _).2 rfl, Bc_t]
theorem Hs_ne {sb ty b c nx : Nat} {L : List Value} (f : By) (h : c ≠ b) (h2 : c ≠ sb) : (Hs sb ty L b f nx).blk c = .no := by
  unfold Hs
  have e1 : Nat.beq c sb = false := by cases e : Nat.beq c sb with | true => exact absurd ((beq_iff _ _).1 e) h2 | false => rfl
  have e2 : Nat.beq c b = false := by cases e : Nat.beq c b with | true => exact absurd ((beq_iff _ _).1 e) h | false => rfl
  rw [blk_fn]
  split
  · rw [e1, e2]; rfl
  · rfl
theorem Hs_alive {sb ty b c nx : Nat} {L : List Value} {f : By} (h : alive (Hs sb ty L b f nx) c) : c = b ∨ c = sb := by
  by_cases e : c = b
  · exact .inl e
  by_cases e2 : c = sb
  · exact .inr e2
  · exact absurd (Hs_ne f e e2) h.2
end
theorem ptr_of {β : Mp} {b : Nat} {m : Bm} {v' : Value} (e : β b = some m) (h : VRel β (.pointer (some ⟨b, 0, none⟩)) v') : v' = .pointer (some ⟨m.rb, 0 + m.sh, none⟩) := by
  cases h with | ptr _ _ m' e' => rw [e] at e'; cases e'; rfl
theorem spSnap_ok {P : Nat → Prop} {args : List Value} {H H' : Hp} {v : Value} {r w : Nat} (hw : H.wf) (h : spSnap args H = some (v, H', r, w)) : @TaskOk (SyN P) Tryz.prog NG (.call 33 args) H (.k (.ret v H' r w)) := by
  letI := SyN P
  unfold spSnap at h
  split at h
  case h_2 => cases h
  rename_i sb
  split at h
  case h_2 => cases h
  rename_i t n ty op lo hi hB
  have h2 := bc_some h
  clear h
  obtain ⟨h1, h⟩ := h2
  simp only [Bool.and_eq_true, beq_iff] at h1
  obtain ⟨⟨rfl, ⟨rfl, rfl⟩, rfl⟩, h15, h19⟩ := h1
  split at h
  case h_2 => cases h
  rename_i bm h6
  split at h
  case h_2 => cases h
  rename_i tm hm
  have h2 := bc_some h
  clear h
  obtain ⟨h1, h⟩ := h2
  simp only [Bool.and_eq_true, nxOk, ble_iff] at h1
  obtain ⟨hnx, hng⟩ := h1
  cases h
  have hsy : 40000 < SY := by unfold SY; decide
  refine ⟨Can.refl hw, fun β W hg p args' hl => ?_⟩
  obtain ⟨hg1, n', hPn, hn, tb⟩ := hg
  obtain ⟨hM, _⟩ := memOk_inv hm
  have hal : alive H bm := (alive_iff _ _).2 (by rw [hM]; intro e; cases e)
  have hals : alive H sb := (alive_iff _ _).2 (by rw [hB]; intro e; cases e)
  have hbx : bm < H.nx := hal.1
  have hsx : sb < H.nx := hals.1
  have hne : bm ≠ sb := fun e => by rw [e, hB] at hM; cases hM
  obtain ⟨m, em, hbk⟩ := p.rel bm (.inl (by show (Nat.lor _ _).testBit _ = true; rw [show Nat.lor (bit sb) (bit bm) = bit sb ||| bit bm from rfl, Nat.testBit_or, (bit_iff bm bm).2 rfl, Bool.or_true])) hal
  obtain ⟨ms, ems, hsk⟩ := p.rel sb (.inl (by show (Nat.lor _ _).testBit _ = true; rw [show Nat.lor (bit sb) (bit bm) = bit sb ||| bit bm from rfl, Nat.testBit_or, (bit_iff sb sb).2 rfl, Bool.true_or])) hals
  obtain ⟨hs, ht, cs, fr, f, ho, hc, hf, hcs⟩ := mem_real hn tb hm hbk
  rw [hB] at hsk
  obtain ⟨o, hso, ss, sfr, rfl, s1, s2, s3, s4, s5, s6⟩ := hsk
  obtain ⟨hss, hst⟩ := s3 rfl
  have h15 : t.get 15 = nV 2 := by
    revert h15; generalize t.get 15 = x
    intro h15
    unfold isI at h15
    split at h15
    · rw [eqI_eq, beq_iff_eq] at h15; subst h15; rfl
    · cases h15
  have h19 : t.get 19 = .bool true := by
    revert h19; generalize t.get 19 = x
    intro h19
    split at h19
    · rw [h19]
    · cases h19
  have hcell : ∀ i, i < 22 → ∃ v', ss[i]? = some v' ∧ VRel β (t.get i) v' ∧ oneC v' = true := fun i hi => by
    obtain ⟨q1, v', q2, q3⟩ := s5 i hi
    rw [hss, Nat.zero_add] at q2
    exact ⟨v', q2, q3, one_rel q3 q1⟩
  have hrow : Row (Hs sb ty (stL ss bm) bm f H.nx) sb ty 0 (stL ss bm) := by
    obtain ⟨t1, e1, e2⟩ := blkL_eq (stL ss bm) ty 0
    exact ⟨t1, by rw [Hs_s f hsx, e1], e2⟩
  have hrowb : ByU (Hs sb ty (stL ss bm) bm f H.nx) bm 199 f 65536 := by
    obtain ⟨t1, e1, e2⟩ := blkL_eq (bys f 65536) 199 0
    exact ⟨t1, by rw [Hs_b f hbx hne, e1], e2⟩
  have hL19 : (stL ss bm)[19]? = some (.bool true) := by
    obtain ⟨v', q1, q2, _⟩ := hcell 19 (by omega)
    rw [h19] at q2; cases q2
    rw [stL_get (by omega), if_neg (by omega), if_neg (by omega), q1]; rfl
  have hec := snap_ok (sp := fun _ _ _ => none) (e := ⟨H.nx, fun c => c = bm ∨ c = sb, fun _ => False⟩) (fun _ _ _ => rfl) (H := Hs sb ty (stL ss bm) bm f H.nx) rfl (Nat.le_refl _) (m := 2) hrow (by rw [stL_get (by omega), if_pos rfl]) (by rw [stL_get (by omega), if_neg (by omega), if_pos rfl]; try rfl) hL19 hrowb (fun _ => .inl rfl) (fun _ => .inr rfl)
  obtain ⟨N, v1, H1, r1, w1, hev, hok, hn1, ⟨k, rfl⟩, hkp, hub⟩ := hec
  have hub : H1.nx = H.nx + 2 := hub
  have hT := ev_ok tb_ok (LpOk.none fun _ _ => rfl) (spNo_ok Tryz.prog Tb0.ng) N (.call 33 [.pointer (some ⟨sb, 0, none⟩)]) (Hs sb ty (stL ss bm) bm f H.nx) trivial
  rw [show ev Tb0 (fun _ _ _ => none) N (.call 33 [.pointer (some ⟨sb, 0, none⟩)]) (Hs sb ty (stL ss bm) bm f H.nx) = _ from hev] at hT
  have hpre : Pre (β.cut H.nx) (Hs sb ty (stL ss bm) bm f H.nx) H1 r1 w1 W := by
    refine ⟨fun c hc ha => ?_, fun c d mc md hwc _ ac ad _ _ _ => ?_, fun c h1 h2 => ?_, fun c mc e => p.dom c mc (Mp.cut_le _ _ _ _ e)⟩
    · rcases Hs_alive ha with rfl | rfl
      · refine ⟨m, by rw [Mp.cut_lt hbx]; exact em, ?_⟩
        obtain ⟨t1, e1, e2⟩ := blkL_eq (bys f 65536) 199 0
        rw [Hs_b f hbx hne, e1, bys_len]
        refine ⟨_, ho, cs, fr, rfl, by omega, by omega, fun _ => ⟨hs, ht⟩, (fun k h => by cases h), fun i hi => ?_, hf⟩
        have e := e2 i _ (bys_get hi)
        rw [e, hs, Nat.zero_add]
        exact ⟨rfl, _, (hcs i hi).1, .int _ _⟩
      · refine ⟨ms, by rw [Mp.cut_lt hsx]; exact ems, ?_⟩
        obtain ⟨t1, e1, e2⟩ := blkL_eq (stL ss bm) ty 0
        rw [Hs_s f hsx, e1, stL_len]
        refine ⟨_, hso, ss, sfr, rfl, by omega, by omega, fun _ => ⟨hss, hst⟩, (fun k h => by cases h), fun i hi => ?_, s6⟩
        have e := e2 i _ (stL_get hi)
        rw [e, hss, Nat.zero_add]
        obtain ⟨v', q1, q2, q3⟩ := hcell i hi
        have tb2 : Tbl n' (β.cut H.nx) := fun k => by rw [Mp.cut_sy (by omega)]; exact tb k
        by_cases i6 : i = 6
        · subst i6
          rw [if_pos rfl]
          rw [h6] at q2
          rw [ptr_of em q2] at q1
          exact ⟨rfl, _, q1, .ptr _ _ m (by rw [Mp.cut_lt hbx]; exact em)⟩
        by_cases i15 : i = 15
        · subst i15
          rw [if_neg (by omega), if_pos rfl]
          rw [h15] at q2; cases q2
          exact ⟨rfl, _, q1, .int _ _⟩
        · rw [if_neg i6, if_neg i15, q1]
          exact ⟨cz_one _, _, rfl, cz_rel tb2 q3⟩
    · exact (hok.wr c ac.1 hwc).elim
    · have h1 : H.nx ≤ c := h1
      exact Mp.cut_no h1 (by omega)
  have hg2 : GRel NG (β.cut H.nx) := GRel.cut hng ⟨hg1, n', hPn, hn, tb⟩
  have hl2 : LRel (β.cut H.nx) [.pointer (some ⟨sb, 0, none⟩)] args'.toList := by
    obtain ⟨x1, l1, e, hx1, hl⟩ := hl.cons_inv
    have := hl.nil_inv; subst this
    rw [e]
    refine LRel.cons ?_ (LRel.nil _)
    cases hx1 with | ptr _ _ m' e' => exact .ptr _ _ m' (by rw [Mp.cut_lt hsx]; exact e')
  refine (hT.2 _ W hg2 hpre args' hl2).mono fun e W' hR => ?_
  obtain ⟨β1, v', he, hv, q⟩ := hR
  have hv' : v' = .agg ⟨snL 2 k⟩ := flat_eq 10 _ _ rfl hv
  refine ⟨β, v', he, ?_, ?_⟩
  · rw [hv']
    have l : LRel β [nV 2, nV 0, nV 0, nV 0, nV 0, sy 0, .bool true] (snL 2 k) :=
      LRel.cons (.int _ _) (LRel.cons (.int _ _) (LRel.cons (.int _ _) (LRel.cons (.int _ _) (LRel.cons (.int _ _) (LRel.cons (.sym 0 _ _ (tb 0) (.inr (.inr (.inr (.inr (.inl ⟨rfl, (fun b h => by cases h), rfl, rfl⟩)))))) (LRel.cons (.bool _) (LRel.nil β)))))))
    exact .agg _ _ rfl l.1 l.2
  · refine ⟨Mp.le.refl _, fun c mc e1 e2 => (by rw [e2] at e1; cases e1), fun c hc' hac => ?_, fun rb o ho' hno => q.frame rb o ho' fun c mc hc' hwc ec => ?_, q.size, fun c mc e1 => Nat.lt_of_lt_of_le (p.dom c mc e1) q.size, fun c mc _ e1 e2 => (by rw [e1] at e2; cases e2), fun c d mc md hc' _ hac => ?_, q.env⟩
    · rcases hc' with h | h
      · have := hac.1; omega
      · simp at h
    · exact (hok.wr c hc' hwc).elim
    · rcases hc' with h | h
      · have := hac.1; omega
      · simp at h
theorem isI_get {x : Value} {n : Int} (h : isI n x = true) : x = nV n := isI_inv h
def stK (cs : Array Value) (bm ab ca st : Nat) : List Value := (List.range 22).map fun i => if i = 6 then .pointer (some ⟨bm, 0, none⟩) else if i = 15 then nV (Int.ofNat st) else if i = 7 then .slice (some ⟨ab, 0, none⟩) 1 ca else if i = 17 then nV 40 else cz cs[i]?
theorem stK_len (cs : Array Value) (bm ab ca st : Nat) : (stK cs bm ab ca st).length = 22 := by simp [stK]
theorem stK_get {cs : Array Value} {bm ab ca st i : Nat} (h : i < 22) : (stK cs bm ab ca st)[i]? = some (if i = 6 then .pointer (some ⟨bm, 0, none⟩) else if i = 15 then nV (Int.ofNat st) else if i = 7 then .slice (some ⟨ab, 0, none⟩) 1 ca else if i = 17 then nV 40 else cz cs[i]?) := by simp [stK, h]
def acK (cs : Array Value) (sh n : Nat) : List Value := (List.range n).map fun i => if i = 0 then nV 0 else if i = 2 then nV 16 else cz cs[sh + i]?
theorem acK_len (cs : Array Value) (sh n : Nat) : (acK cs sh n).length = n := by simp [acK]
theorem acK_get {cs : Array Value} {sh n i : Nat} (h : i < n) : (acK cs sh n)[i]? = some (if i = 0 then nV 0 else if i = 2 then nV 16 else cz cs[sh + i]?) := by simp [acK, h]
noncomputable def Hk (sb ty : Nat) (L : List Value) (b : Nat) (f : By) (ab tyA opA : Nat) (LA : List Value) (nx : Nat) : Hp := .fn (fun c => Bc (Nat.beq c sb) (blkL L ty 0) (Bc (Nat.beq c b) (blkL (bys f 65536) 199 0) (Bc (Nat.beq c ab) (blkL LA tyA opA) .no))) nx
theorem beq_ne {a b : Nat} (h : a ≠ b) : Nat.beq a b = false := by cases e : Nat.beq a b with | true => exact absurd ((beq_iff _ _).1 e) h | false => rfl
section
variable {sb ty b ab tyA opA nx : Nat} {L LA : List Value} {f : By}
theorem Hk_s (h : sb < nx) : (Hk sb ty L b f ab tyA opA LA nx).blk sb = blkL L ty 0 := by
  unfold Hk; rw [blk_fn, if_pos h, (beq_iff _ _).2 rfl, Bc_t]
theorem Hk_b (h : b < nx) (hn : b ≠ sb) : (Hk sb ty L b f ab tyA opA LA nx).blk b = blkL (bys f 65536) 199 0 := by
  unfold Hk; rw [blk_fn, if_pos h, beq_ne hn, Bc_f, (beq_iff _ _).2 rfl, Bc_t]
theorem Hk_a (h : ab < nx) (hn : ab ≠ sb) (hn2 : ab ≠ b) : (Hk sb ty L b f ab tyA opA LA nx).blk ab = blkL LA tyA opA := by
  unfold Hk; rw [blk_fn, if_pos h, beq_ne hn, Bc_f, beq_ne hn2, Bc_f, (beq_iff _ _).2 rfl, Bc_t]
theorem Hk_ne {c : Nat} (h : c ≠ b) (h2 : c ≠ sb) (h3 : c ≠ ab) : (Hk sb ty L b f ab tyA opA LA nx).blk c = .no := by
  unfold Hk
  rw [blk_fn]
  split
  · rw [beq_ne h2, Bc_f, beq_ne h, Bc_f, beq_ne h3, Bc_f]
  · rfl
theorem Hk_alive {c : Nat} (h : alive (Hk sb ty L b f ab tyA opA LA nx) c) : c = b ∨ c = sb ∨ c = ab := by
  by_cases e : c = b
  · exact .inl e
  by_cases e2 : c = sb
  · exact .inr (.inl e2)
  by_cases e3 : c = ab
  · exact .inr (.inr e3)
  · exact absurd (Hk_ne e e2 e3) h.2
end
theorem spSnap2_ok {P : Nat → Prop} {args : List Value} {H H' : Hp} {v : Value} {r w : Nat} (hw : H.wf) (h : spSnap2 args H = some (v, H', r, w)) : @TaskOk (SyN P) Tryz.prog NG (.call 33 args) H (.k (.ret v H' r w)) := by
  letI := SyN P
  unfold spSnap2 at h
  split at h
  case h_2 => cases h
  rename_i sb
  split at h
  case h_2 => cases h
  rename_i t n ty op lo hi hB
  have h2 := bc_some h
  clear h
  obtain ⟨h1, h⟩ := h2
  simp only [Bool.and_eq_true, beq_iff] at h1
  obtain ⟨rfl, rfl, rfl, rfl, h17, h19⟩ := h1
  split at h
  case h_2 => cases h
  rename_i bm h6
  split at h
  case h_2 => cases h
  rename_i ab l ca h7
  split at h
  case h_2 => cases h
  rename_i st h15
  split at h
  case h_2 => cases h
  rename_i tm hm
  split at h
  case h_2 => cases h
  rename_i ta na tya opa la ha hA
  have h2 := bc_some h
  clear h
  obtain ⟨h1, h⟩ := h2
  simp only [Bool.and_eq_true, Bool.not_eq_true', nxOk, ble_iff, beq_iff] at h1
  obtain ⟨⟨hnx, hng⟩, hne1, hne2, rfl, rfl, rfl, h10, ha0, ha2⟩ := h1
  have hne1 : ab ≠ sb := fun e => by rw [(beq_iff _ _).2 e] at hne1; cases hne1
  have hne2 : ab ≠ bm := fun e => by rw [(beq_iff _ _).2 e] at hne2; cases hne2
  have ha0 := isI_inv ha0
  have ha2 := isI_inv ha2
  have h17 := isI_inv h17
  have h19 : t.get 19 = .bool false := by
    revert h19; generalize t.get 19 = x
    intro h19
    split at h19
    · rename_i y; cases y with
      | true => cases h19
      | false => rfl
    · cases h19
  cases h
  have hsy : 40000 < SY := by unfold SY; decide
  refine ⟨Can.refl hw, fun β W hg p args' hl => ?_⟩
  obtain ⟨hg1, n', hPn, hn, tb⟩ := hg
  obtain ⟨hM, _⟩ := memOk_inv hm
  have hal : alive H bm := (alive_iff _ _).2 (by rw [hM]; intro e; cases e)
  have hals : alive H sb := (alive_iff _ _).2 (by rw [hB]; intro e; cases e)
  have hala : alive H ab := (alive_iff _ _).2 (by rw [hA]; intro e; cases e)
  have hbx : bm < H.nx := hal.1
  have hsx : sb < H.nx := hals.1
  have hax : ab < H.nx := hala.1
  have hne : bm ≠ sb := fun e => by rw [e, hB] at hM; cases hM
  have hbits : ∀ c, (c = sb ∨ c = bm ∨ c = ab) → (Nat.lor (bit sb) (Nat.lor (bit bm) (bit ab))).testBit c = true := fun c hc => by
    rw [lor_bit, lor_bit, Bool.or_eq_true, Bool.or_eq_true, bit_iff, bit_iff, bit_iff]
    rcases hc with rfl | rfl | rfl
    · exact .inl rfl
    · exact .inr (.inl rfl)
    · exact .inr (.inr rfl)
  obtain ⟨m, em, hbk⟩ := p.rel bm (.inl (hbits _ (.inr (.inl rfl)))) hal
  obtain ⟨ms, ems, hsk⟩ := p.rel sb (.inl (hbits _ (.inl rfl))) hals
  obtain ⟨ma, ema, hak⟩ := p.rel ab (.inl (hbits _ (.inr (.inr rfl)))) hala
  obtain ⟨hs, ht, cs, fr, f, ho, hc, hf, hcs⟩ := mem_real hn tb hm hbk
  rw [hB] at hsk
  obtain ⟨o, hso, ss, sfr, rfl, s1, s2, s3, s4, s5, s6⟩ := hsk
  obtain ⟨hss, hst⟩ := s3 rfl
  rw [hA] at hak
  obtain ⟨oa, hao, aa, afr, rfl, a1, a2, a3, a4, a5, a6⟩ := hak
  have hcell : ∀ i, i < 22 → ∃ v', ss[i]? = some v' ∧ VRel β (t.get i) v' ∧ oneC v' = true := fun i hi => by
    obtain ⟨q1, v', q2, q3⟩ := s5 i hi
    rw [hss, Nat.zero_add] at q2
    exact ⟨v', q2, q3, one_rel q3 q1⟩
  have hrow : Row (Hk sb ty (stK ss bm ab ca st) bm f ab tya opa (acK aa ma.sh na) H.nx) sb ty 0 (stK ss bm ab ca st) := by
    obtain ⟨t1, e1, e2⟩ := blkL_eq (stK ss bm ab ca st) ty 0
    exact ⟨t1, by rw [Hk_s hsx, e1], e2⟩
  have hrowb : ByU (Hk sb ty (stK ss bm ab ca st) bm f ab tya opa (acK aa ma.sh na) H.nx) bm 199 f 65536 := by
    obtain ⟨t1, e1, e2⟩ := blkL_eq (bys f 65536) 199 0
    exact ⟨t1, by rw [Hk_b hbx hne, e1], e2⟩
  have hrowa : Row (Hk sb ty (stK ss bm ab ca st) bm f ab tya opa (acK aa ma.sh na) H.nx) ab tya opa (acK aa ma.sh na) := by
    obtain ⟨t1, e1, e2⟩ := blkL_eq (acK aa ma.sh na) tya opa
    exact ⟨t1, by rw [Hk_a hax hne1 hne2, e1], e2⟩
  have hL19 : (stK ss bm ab ca st)[19]? = some (.bool false) := by
    obtain ⟨v', q1, q2, _⟩ := hcell 19 (by omega)
    rw [h19] at q2; cases q2
    rw [stK_get (by omega), if_neg (by omega), if_neg (by omega), if_neg (by omega), if_neg (by omega), q1]; rfl
  have hec := snap2_ok (sp := fun _ _ _ => none) (e := ⟨H.nx, fun c => c = bm ∨ c = sb ∨ c = ab, fun _ => False⟩) (fun _ _ _ => rfl) (H := Hk sb ty (stK ss bm ab ca st) bm f ab tya opa (acK aa ma.sh na) H.nx) rfl (Nat.le_refl _) (m := st) hrow (by rw [stK_get (by omega), if_neg (by omega), if_neg (by omega), if_pos rfl]) (by rw [stK_get (by omega), if_neg (by omega), if_neg (by omega), if_neg (by omega), if_pos rfl]; rfl) hrowa (by rw [acK_get (by omega), if_pos rfl]; rfl) (by rw [acK_get (by omega), if_neg (by omega), if_pos rfl]; rfl) (fun _ => .inr (.inr rfl)) (by rw [stK_get (by omega), if_pos rfl]) (by rw [stK_get (by omega), if_neg (by omega), if_pos rfl]; rfl) hL19 hrowb (fun _ => .inl rfl) (fun _ => .inr (.inl rfl))
  obtain ⟨N, v1, H1, r1, w1, hev, hok, hn1, ⟨k, rfl⟩, hkp, hub⟩ := hec
  have hub : H1.nx = H.nx + 2 := hub
  have hT := ev_ok tb_ok (LpOk.none fun _ _ => rfl) (spNo_ok Tryz.prog Tb0.ng) N (.call 33 [.pointer (some ⟨sb, 0, none⟩)]) (Hk sb ty (stK ss bm ab ca st) bm f ab tya opa (acK aa ma.sh na) H.nx) trivial
  rw [show ev Tb0 (fun _ _ _ => none) N (.call 33 [.pointer (some ⟨sb, 0, none⟩)]) (Hk sb ty (stK ss bm ab ca st) bm f ab tya opa (acK aa ma.sh na) H.nx) = _ from hev] at hT
  have tb2 : Tbl n' (β.cut H.nx) := fun k => by rw [Mp.cut_sy (by omega)]; exact tb k
  have hpre : Pre (β.cut H.nx) (Hk sb ty (stK ss bm ab ca st) bm f ab tya opa (acK aa ma.sh na) H.nx) H1 r1 w1 W := by
    refine ⟨fun c hc ha => ?_, fun c d mc md hwc _ ac ad _ _ _ => ?_, fun c h1 h2 => ?_, fun c mc e => p.dom c mc (Mp.cut_le _ _ _ _ e)⟩
    · rcases Hk_alive ha with rfl | rfl | rfl
      · refine ⟨m, by rw [Mp.cut_lt hbx]; exact em, ?_⟩
        obtain ⟨t1, e1, e2⟩ := blkL_eq (bys f 65536) 199 0
        rw [Hk_b hbx hne, e1, bys_len]
        refine ⟨_, ho, cs, fr, rfl, by omega, by omega, fun _ => ⟨hs, ht⟩, (fun k h => by cases h), fun i hi => ?_, hf⟩
        have e := e2 i _ (bys_get hi)
        rw [e, hs, Nat.zero_add]
        exact ⟨rfl, _, (hcs i hi).1, .int _ _⟩
      · refine ⟨ms, by rw [Mp.cut_lt hsx]; exact ems, ?_⟩
        obtain ⟨t1, e1, e2⟩ := blkL_eq (stK ss bm ab ca st) ty 0
        rw [Hk_s hsx, e1, stK_len]
        refine ⟨_, hso, ss, sfr, rfl, by omega, by omega, fun _ => ⟨hss, hst⟩, (fun k h => by cases h), fun i hi => ?_, s6⟩
        have e := e2 i _ (stK_get hi)
        rw [e, hss, Nat.zero_add]
        obtain ⟨v', q1, q2, q3⟩ := hcell i hi
        by_cases i6 : i = 6
        · subst i6
          rw [if_pos rfl]
          rw [h6] at q2
          rw [ptr_of em q2] at q1
          exact ⟨rfl, _, q1, .ptr _ _ m (by rw [Mp.cut_lt hbx]; exact em)⟩
        by_cases i15 : i = 15
        · subst i15
          rw [if_neg (by omega), if_pos rfl]
          rw [h15] at q2; cases q2
          exact ⟨rfl, _, q1, .int _ _⟩
        by_cases i7 : i = 7
        · subst i7
          rw [if_neg (by omega), if_neg (by omega), if_pos rfl]
          rw [h7] at q2
          cases q2 with | sl b o l c c' mm e' hcc =>
          exact ⟨rfl, _, q1, .sl _ _ _ _ _ mm (by rw [Mp.cut_lt hax]; exact e') hcc⟩
        by_cases i17 : i = 17
        · subst i17
          rw [if_neg (by omega), if_neg (by omega), if_neg (by omega), if_pos rfl]
          rw [h17] at q2; cases q2
          exact ⟨rfl, _, q1, .int _ _⟩
        · rw [if_neg i6, if_neg i15, if_neg i7, if_neg i17, q1]
          exact ⟨cz_one _, _, rfl, cz_rel tb2 q3⟩
      · refine ⟨ma, by rw [Mp.cut_lt hax]; exact ema, ?_⟩
        obtain ⟨t1, e1, e2⟩ := blkL_eq (acK aa ma.sh na) tya opa
        rw [Hk_a hax hne1 hne2, e1, acK_len]
        refine ⟨_, hao, aa, afr, rfl, a1, a2, a3, a4, fun i hi => ?_, a6⟩
        have e := e2 i _ (acK_get hi)
        rw [e]
        obtain ⟨q1, v', q2, q3⟩ := a5 i hi
        by_cases i0 : i = 0
        · subst i0
          rw [if_pos rfl]
          rw [ha0] at q3; cases q3
          exact ⟨rfl, _, q2, .int _ _⟩
        by_cases i2 : i = 2
        · subst i2
          rw [if_neg (by omega), if_pos rfl]
          rw [ha2] at q3; cases q3
          exact ⟨rfl, _, q2, .int _ _⟩
        · rw [if_neg i0, if_neg i2, q2]
          exact ⟨cz_one _, _, rfl, cz_rel tb2 (one_rel q3 q1)⟩
    · exact (hok.wr c ac.1 hwc).elim
    · have h1 : H.nx ≤ c := h1
      exact Mp.cut_no h1 (by omega)
  have hg2 : GRel NG (β.cut H.nx) := GRel.cut hng ⟨hg1, n', hPn, hn, tb⟩
  have hl2 : LRel (β.cut H.nx) [.pointer (some ⟨sb, 0, none⟩)] args'.toList := by
    obtain ⟨x1, l1, e, hx1, hl⟩ := hl.cons_inv
    have := hl.nil_inv; subst this
    rw [e]
    refine LRel.cons ?_ (LRel.nil _)
    cases hx1 with | ptr _ _ m' e' => exact .ptr _ _ m' (by rw [Mp.cut_lt hsx]; exact e')
  refine (hT.2 _ W hg2 hpre args' hl2).mono fun e W' hR => ?_
  obtain ⟨β1, v', he, hv, q⟩ := hR
  have hv' : v' = .agg ⟨snG st k⟩ := flat_eq 10 _ _ rfl hv
  refine ⟨β, v', he, ?_, ?_⟩
  · rw [hv']
    have l : LRel β [nV (Int.ofNat st), nV 40, nV 1, nV 0, nV 128, sy 0, .bool false] (snG st k) :=
      LRel.cons (.int _ _) (LRel.cons (.int _ _) (LRel.cons (.int _ _) (LRel.cons (.int _ _) (LRel.cons (.int _ _) (LRel.cons (.sym 0 _ _ (tb 0) (.inr (.inr (.inr (.inr (.inl ⟨rfl, (fun b h => by cases h), rfl, rfl⟩)))))) (LRel.cons (.bool _) (LRel.nil β)))))))
    exact .agg _ _ rfl l.1 l.2
  · refine ⟨Mp.le.refl _, fun c mc e1 e2 => (by rw [e2] at e1; cases e1), fun c hc' hac => ?_, fun rb o ho' hno => q.frame rb o ho' fun c mc hc' hwc ec => ?_, q.size, fun c mc e1 => Nat.lt_of_lt_of_le (p.dom c mc e1) q.size, fun c mc _ e1 e2 => (by rw [e1] at e2; cases e2), fun c d mc md hc' _ hac => ?_, q.env⟩
    · rcases hc' with h | h
      · have := hac.1; omega
      · simp at h
    · exact (hok.wr c hc' hwc).elim
    · rcases hc' with h | h
      · have := hac.1; omega
      · simp at h
end Go.Proofs.MN
end
