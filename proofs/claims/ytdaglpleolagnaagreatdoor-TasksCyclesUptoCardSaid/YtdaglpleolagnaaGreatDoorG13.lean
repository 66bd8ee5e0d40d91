/-
  A part of the proof that pliantlaw25.TasksCycles returns true and leaves its argument alone. Conditions: those of the card in the last text.
-/
import Derived.Test.YtdaglpleolagnaaGreatDoorG12
set_option linter.unusedSimpArgs false
set_option linter.unusedVariables false

noncomputable section
/- Plain mathematics: layers of shortest ways. -/
namespace Go.Cyc
def Lt (a b : List Int) : Prop := Le a b ∧ a ≠ b
/-- a way from n that ends in x -/
inductive Wk (ws : Ws) (n : Int) : List Int → Int → Prop
  | start : Wk ws n [n] n
  | step (p : List Int) (x y : Int) (hp : Wk ws n p x) (he : (x, y) ∈ ws) : Wk ws n (p ++ [y]) y
theorem Wk.last {ws : Ws} {n : Int} {p : List Int} {x : Int} (h : Wk ws n p x) : p.getLast? = some x := by
  cases h with
  | start => rfl
  | step p x y _ _ => simp
theorem Wk.fn {ws : Ws} {n : Int} {p : List Int} {x y : Int} (h : Wk ws n p x) (h' : Wk ws n p y) : x = y := by
  have := h.last.symm.trans h'.last; cases this; rfl
theorem Wk.ne {ws : Ws} {n : Int} {p : List Int} {x : Int} (h : Wk ws n p x) : p ≠ [] := by
  cases h with
  | start => simp
  | step => simp
theorem Wk.pos {ws : Ws} {n : Int} {p : List Int} {x : Int} (h : Wk ws n p x) : 1 ≤ p.length := by
  have := h.ne; cases p with
  | nil => exact absurd rfl this
  | cons => simp
theorem Wk.head {ws : Ws} {n : Int} {p : List Int} {x : Int} (h : Wk ws n p x) : ∃ l, p = n :: l := by
  induction h with
  | start => exact ⟨[], rfl⟩
  | step p x y _ _ ih => obtain ⟨l, rfl⟩ := ih; exact ⟨l ++ [y], rfl⟩
theorem Wk.inv {ws : Ws} {n : Int} {p : List Int} {x : Int} (h : Wk ws n p x) : (p = [n] ∧ x = n) ∨ ∃ q z, p = q ++ [x] ∧ Wk ws n q z ∧ (z, x) ∈ ws := by
  cases h with
  | start => exact .inl ⟨rfl, rfl⟩
  | step p x y hp he => exact .inr ⟨p, x, rfl, hp, he⟩
theorem clo_snoc {ws : Ws} {s y : Int} : ∀ (p : List Int) (x : Int), p.getLast? = some x → (x, y) ∈ ws → (y, s) ∈ ws → (∀ s', (x, s') ∈ ws → Clo ws s' p) → Clo ws s (p ++ [y]) := by
  intro p
  induction p with
  | nil => intro x h; simp at h
  | cons a p ih =>
    intro x hl hxy hys hc
    cases p with
    | nil => simp at hl; subst hl; exact ⟨hxy, hys⟩
    | cons b p =>
      refine ⟨(hc y hxy).1, ih x (by simpa using hl) hxy hys fun s' hs' => (hc s' hs').2⟩
theorem Wk.clo {ws : Ws} {n : Int} {p : List Int} {x : Int} (h : Wk ws n p x) : ∀ s, (x, s) ∈ ws → Clo ws s p := by
  induction h with
  | start => exact fun s hs => hs
  | step p x y hp he ih => exact fun s hs => clo_snoc p x hp.last he hs ih
theorem clo_wk {ws : Ws} {n s : Int} : ∀ (l : List Int) (u : Int) (p : List Int), Clo ws s (u :: l) → Wk ws n p u → ∃ x, Wk ws n (p ++ l) x ∧ (x, s) ∈ ws := by
  intro l
  induction l with
  | nil => intro u p hc hp; exact ⟨u, by simpa using hp, hc⟩
  | cons y l ih =>
    intro u p hc hp
    obtain ⟨x, h1, h2⟩ := ih y (p ++ [y]) hc.2 (.step p u y hp hc.1)
    exact ⟨x, by simpa using h1, h2⟩
theorem le_snoc : ∀ {a b : List Int} (x y : Int), a.length = b.length → Le a b → a ≠ b → Le (a ++ [x]) (b ++ [y])
  | [], [], _, _, _, _, h => absurd rfl h
  | [], _ :: _, _, _, h, _, _ => by simp at h
  | _ :: _, [], _, _, h, _, _ => by simp at h
  | u :: a, v :: b, x, y, h, h1, h2 => by
    simp only [List.cons_append, Le] at *
    rcases h1 with h1 | ⟨rfl, h1⟩
    · exact .inl h1
    · exact .inr ⟨rfl, le_snoc x y (by simpa using h) h1 (fun e => h2 (by rw [e]))⟩
theorem le_snoc_same (a : List Int) {x y : Int} (h : x ≤ y) : Le (a ++ [x]) (a ++ [y]) := by
  induction a with
  | nil => simp only [List.nil_append, Le]; rcases Int.lt_or_eq_of_le h with h | h
           · exact .inl h
           · exact .inr ⟨h, trivial⟩
  | cons u a ih => exact .inr ⟨rfl, ih⟩
theorem le_snoc_of {a b : List Int} (x : Int) (hl : a.length = b.length) (h : Le a b) : Le (a ++ [x]) (b ++ [x]) := by
  by_cases e : a = b
  · subst e; exact Le.refl _
  · exact le_snoc x x hl h e
theorem snoc_inj {a b : List Int} {x y : Int} (h : a ++ [x] = b ++ [y]) : a = b ∧ x = y := by
  have := List.append_inj' h rfl
  simpa using this
/-- what stands behind x -/
structure Succs (ws : Ws) (x : Int) (l : List Int) : Prop where
  inc : l.Pairwise (· < ·)
  mem : ∀ y, y ∈ l ↔ (x, y) ∈ ws
/-- the ways of a layer -/
structure Lay (ws : Ws) (n : Int) (k : Nat) (seen : List Int) (ways : List (List Int)) : Prop where
  wk : ∀ p ∈ ways, (∃ x, Wk ws n p x) ∧ p.length = k + 1
  sorted : ways.Pairwise Lt
  best : ∀ w x, Wk ws n w x → w.length = k + 1 → (∀ w', Wk ws n w' x → k + 1 ≤ w'.length) → ∃ p ∈ ways, Wk ws n p x ∧ Le p w
  seen : ∀ y, y ∈ seen ↔ ∃ w x, Wk ws n w x ∧ w.length ≤ k ∧ (x, y) ∈ ws
  open_ : ∀ w x, Wk ws n w x → w.length ≤ k → (x, n) ∉ ws
theorem Lay.zero (ws : Ws) (n : Int) : Lay ws n 0 [] [[n]] := by
  refine ⟨fun p hp => ?_, by simp, fun w x hw hl _ => ?_, fun y => ?_, fun w x hw hl => ?_⟩
  · simp at hp; subst hp; exact ⟨⟨n, .start⟩, rfl⟩
  · rcases hw.inv with ⟨rfl, rfl⟩ | ⟨q, z, rfl, hq, _⟩
    · exact ⟨[x], by simp, .start, Le.refl _⟩
    · have := hq.pos; simp only [List.length_append, List.length_cons, List.length_nil] at hl; omega
  · constructor
    · intro h; cases h
    · rintro ⟨w, x, hw, hl, _⟩; have := hw.pos; omega
  · have := hw.pos; omega
/-- the first way of a layer that closes is the answer -/
theorem Lay.found {ws : Ws} {n : Int} {k : Nat} {seen : List Int} {done rest : List (List Int)} {l : List Int} {x : Int} (h : Lay ws n k seen (done ++ l :: rest)) (hx : Wk ws n l x) (hc : (x, n) ∈ ws)
    (hd : ∀ p ∈ done, ∀ z, Wk ws n p z → (z, n) ∉ ws) : ∃ r, l = n :: r ∧ Clo ws n (n :: r) ∧ ∀ l', Clo ws n (n :: l') → r.length ≤ l'.length ∧ (l'.length = r.length → Le r l') := by
  obtain ⟨r, rfl⟩ := hx.head
  have hlen : (n :: r).length = k + 1 := (h.wk _ (by simp)).2
  refine ⟨r, rfl, hx.clo n hc, fun l' hl' => ?_⟩
  obtain ⟨z, hz, hzn⟩ := clo_wk l' n [n] hl' .start
  have hge : k < (n :: l').length := Nat.lt_of_not_le fun hle => h.open_ _ _ hz hle hzn
  simp at hlen hge
  refine ⟨by omega, fun e => ?_⟩
  have hzl : ([n] ++ l').length = k + 1 := by simp; omega
  obtain ⟨p, hp, hpz, hle⟩ := h.best _ z hz hzl fun w' hw' => Nat.lt_of_not_le fun hle => h.open_ _ _ hw' hle hzn
  have hlp : Le (n :: r) p := by
    rcases List.mem_append.1 hp with hp | hp
    · exact absurd hzn (hd p hp z hpz)
    · rcases List.mem_cons.1 hp with rfl | hp
      · exact Le.refl _
      · have := (List.pairwise_append.1 h.sorted).2.1
        exact ((List.pairwise_cons.1 this).1 p hp).1
  have := hlp.trans hle
  simp only [List.cons_append, List.nil_append, Le] at this
  rcases this with h1 | h1
  · omega
  · exact h1.2
/-- no way that closes, where a layer is empty -/
theorem Lay.empty {ws : Ws} {n : Int} {k : Nat} {seen : List Int} (h : Lay ws n k seen []) : ∀ l, ¬ Clo ws n (n :: l) := by
  -- a shortest closed walk would pass a number whose shortest way has k + 1 numbers
  intro l hl
  obtain ⟨z, hz, hzn⟩ := clo_wk l n [n] hl .start
  -- every number that is come to has a way of at most k numbers
  have key : ∀ w x, Wk ws n w x → ∃ w', Wk ws n w' x ∧ w'.length ≤ k := by
    intro w x hw
    induction hw with
    | start =>
      apply Classical.byContradiction
      intro hno
      have : k = 0 := by
        rcases Nat.eq_zero_or_pos k with h0 | h0
        · exact h0
        · exact absurd ⟨[n], .start, by simp; omega⟩ hno
      subst this
      obtain ⟨p, hp, _⟩ := h.best [n] n .start rfl fun w' hw' => hw'.pos
      cases hp
    | step p x y hp he ih =>
      obtain ⟨w', hw', hlen⟩ := ih
      apply Classical.byContradiction
      intro hno
      have hy : Wk ws n (w' ++ [y]) y := .step w' x y hw' he
      have hge : ∀ w'', Wk ws n w'' y → k + 1 ≤ w''.length := fun w'' hw'' => Nat.lt_of_not_le fun hle => hno ⟨w'', hw'', hle⟩
      have hl2 : (w' ++ [y]).length = k + 1 := by have := hge _ hy; simp at this ⊢; omega
      obtain ⟨p, hp, _⟩ := h.best _ y hy hl2 hge
      cases hp
  obtain ⟨w', hw', hlen⟩ := key _ _ hz
  exact h.open_ _ _ hw' hlen hzn
/-- within a layer: the ways that are done, the one that is gone on with, the numbers behind it that have been looked at -/
structure Mid (ws : Ws) (n : Int) (seen0 : List Int) (done : List (List Int)) (l ys seen : List Int) (more : List (List Int)) : Prop where
  sn : ∀ y, y ∈ seen ↔ y ∈ seen0 ∨ (∃ p ∈ done, ∃ x, Wk ws n p x ∧ (x, y) ∈ ws) ∨ y ∈ ys
  mo : ∀ q ∈ more, ∃ p y, q = p ++ [y] ∧ y ∈ seen ∧ y ∉ seen0 ∧ (p ∈ done ∨ (p = l ∧ y ∈ ys)) ∧ ∃ x, Wk ws n p x ∧ (x, y) ∈ ws
  so : more.Pairwise Lt
  be : ∀ y, y ∈ seen → y ∉ seen0 → ∃ p, p ++ [y] ∈ more ∧ ∀ p', (p' ∈ done ∨ (p' = l ∧ y ∈ ys)) → (∃ x, Wk ws n p' x ∧ (x, y) ∈ ws) → Le (p ++ [y]) (p' ++ [y])
theorem Mid.start (ws : Ws) (n : Int) (seen0 l : List Int) : Mid ws n seen0 [] l [] seen0 [] :=
  ⟨fun y => by simp, fun q h => absurd h (List.not_mem_nil), List.Pairwise.nil, fun y h h' => absurd h h'⟩
section
variable {ws : Ws} {n : Int} {k : Nat} {seen0 : List Int} {ways done rest : List (List Int)} {l ys seen : List Int} {more : List (List Int)}
/-- a number that is known already -/
theorem Mid.known {x y : Int} (hL : Lay ws n k seen0 (done ++ l :: rest)) (h : Mid ws n seen0 done l ys seen more) (hx : Wk ws n l x) (he : (x, y) ∈ ws) (hy : y ∈ seen) (hinc : ∀ z ∈ ys, z < y) : Mid ws n seen0 done l (ys ++ [y]) seen more := by
  refine ⟨fun z => ?_, fun q hq => ?_, h.so, fun z hz hz0 => ?_⟩
  · rw [List.mem_append]
    constructor
    · intro hz
      rcases (h.sn z).1 hz with h1 | h1 | h1
      · exact .inl h1
      · exact .inr (.inl h1)
      · exact .inr (.inr (.inl h1))
    · rintro (h1 | h1 | h1 | h1)
      · exact (h.sn z).2 (.inl h1)
      · exact (h.sn z).2 (.inr (.inl h1))
      · exact (h.sn z).2 (.inr (.inr h1))
      · simp at h1; subst h1; exact hy
  · obtain ⟨p, z, rfl, h1, h2, h3, h4⟩ := h.mo q hq
    exact ⟨p, z, rfl, h1, h2, h3.imp id fun ⟨a, b⟩ => ⟨a, List.mem_append.2 (.inl b)⟩, h4⟩
  · obtain ⟨p, h1, h2⟩ := h.be z hz hz0
    refine ⟨p, h1, fun p' hp' hw => ?_⟩
    rcases hp' with hp' | ⟨rfl, hp'⟩
    · exact h2 p' (.inl hp') hw
    · rcases List.mem_append.1 hp' with h3 | h3
      · exact h2 p' (.inr ⟨rfl, h3⟩) hw
      · simp at h3; subst h3
        -- the way that has been found before
        obtain ⟨q, z', e, _, _, hq, _⟩ := h.mo _ h1
        obtain ⟨rfl, rfl⟩ := snoc_inj e
        rcases hq with hq | ⟨rfl, hq⟩
        · have hlt := (List.pairwise_append.1 hL.sorted).2.2 p hq p' (by simp)
          exact le_snoc_of z (by rw [(hL.wk p (List.mem_append.2 (.inl hq))).2, (hL.wk p' (by simp)).2]) hlt.1
        · exact Le.refl _
/-- a new one -/
theorem Mid.new {x y : Int} (hL : Lay ws n k seen0 (done ++ l :: rest)) (h : Mid ws n seen0 done l ys seen more) (hx : Wk ws n l x) (he : (x, y) ∈ ws) (hy : y ∉ seen) (hinc : ∀ z ∈ ys, z < y) : Mid ws n seen0 done l (ys ++ [y]) (seen ++ [y]) (more ++ [l ++ [y]]) := by
  have hy0 : y ∉ seen0 := fun h0 => hy ((h.sn y).2 (.inl h0))
  refine ⟨fun z => ?_, fun q hq => ?_, ?_, fun z hz hz0 => ?_⟩
  · rw [List.mem_append, h.sn z, List.mem_append]
    simp only [List.mem_singleton]
    constructor
    · rintro ((h1 | h1 | h1) | h1) <;> simp [h1]
    · rintro (h1 | h1 | h1 | h1) <;> simp [h1]
  · rcases List.mem_append.1 hq with hq | hq
    · obtain ⟨p, z, rfl, h1, h2, h3, h4⟩ := h.mo q hq
      exact ⟨p, z, rfl, List.mem_append.2 (.inl h1), h2, h3.imp id fun ⟨a, b⟩ => ⟨a, List.mem_append.2 (.inl b)⟩, h4⟩
    · simp at hq; subst hq
      exact ⟨l, y, rfl, by simp, hy0, .inr ⟨rfl, by simp⟩, x, hx, he⟩
  · rw [List.pairwise_append]
    refine ⟨h.so, by simp, fun q hq r hr => ?_⟩
    simp at hr; subst hr
    obtain ⟨p, z, rfl, h1, _, h3, _⟩ := h.mo q hq
    have hne : z ≠ y := fun e => hy (e ▸ h1)
    refine ⟨?_, fun e => hne (snoc_inj e).2⟩
    rcases h3 with h3 | ⟨rfl, h3⟩
    · have hlt := (List.pairwise_append.1 hL.sorted).2.2 p h3 l (by simp)
      exact le_snoc z y (by rw [(hL.wk p (List.mem_append.2 (.inl h3))).2, (hL.wk l (by simp)).2]) hlt.1 hlt.2
    · exact le_snoc_same p (Int.le_of_lt (hinc z h3))
  · rcases List.mem_append.1 hz with hzs | hz
    · obtain ⟨p, h1, h2⟩ := h.be z hzs hz0
      refine ⟨p, List.mem_append.2 (.inl h1), fun p' hp' hw => ?_⟩
      rcases hp' with hp' | ⟨rfl, hp'⟩
      · exact h2 p' (.inl hp') hw
      · rcases List.mem_append.1 hp' with h3 | h3
        · exact h2 p' (.inr ⟨rfl, h3⟩) hw
        · simp at h3; subst h3; exact absurd hzs hy
    · simp at hz; subst hz
      refine ⟨l, by simp, fun p' hp' hw => ?_⟩
      rcases hp' with hp' | ⟨rfl, hp'⟩
      · exact absurd ((h.sn z).2 (.inr (.inl ⟨p', hp', hw⟩))) hy
      · exact Le.refl _
/-- the next way -/
theorem Mid.next {x : Int} {l' : List Int} (h : Mid ws n seen0 done l ys seen more) (hx : Wk ws n l x) (hys : ∀ y, y ∈ ys ↔ (x, y) ∈ ws) : Mid ws n seen0 (done ++ [l]) l' [] seen more := by
  have conv : ∀ y, (∃ p ∈ done ++ [l], ∃ z, Wk ws n p z ∧ (z, y) ∈ ws) ↔ (∃ p ∈ done, ∃ z, Wk ws n p z ∧ (z, y) ∈ ws) ∨ y ∈ ys := by
    intro y
    constructor
    · rintro ⟨p, hp, z, h1, h2⟩
      rcases List.mem_append.1 hp with hp | hp
      · exact .inl ⟨p, hp, z, h1, h2⟩
      · simp at hp; subst hp
        have := h1.fn hx; subst this
        exact .inr ((hys y).2 h2)
    · rintro (⟨p, hp, hz⟩ | hy)
      · exact ⟨p, List.mem_append.2 (.inl hp), hz⟩
      · exact ⟨l, by simp, x, hx, (hys y).1 hy⟩
  refine ⟨fun y => ?_, fun q hq => ?_, h.so, fun y hy hy0 => ?_⟩
  · rw [h.sn y, conv y]; simp
  · obtain ⟨p, z, rfl, h1, h2, h3, h4⟩ := h.mo q hq
    refine ⟨p, z, rfl, h1, h2, .inl ?_, h4⟩
    rcases h3 with h3 | ⟨rfl, _⟩
    · exact List.mem_append.2 (.inl h3)
    · simp
  · obtain ⟨p, h1, h2⟩ := h.be y hy hy0
    refine ⟨p, h1, fun p' hp' hw => ?_⟩
    rcases hp' with hp' | ⟨_, hp'⟩
    · rcases List.mem_append.1 hp' with hp' | hp'
      · exact h2 p' (.inl hp') hw
      · simp at hp'; subst hp'
        obtain ⟨z, h3, h4⟩ := hw
        have := h3.fn hx; subst this
        exact h2 p' (.inr ⟨rfl, (hys y).2 h4⟩) ⟨z, h3, h4⟩
    · cases hp'
/-- the next layer -/
theorem Lay.next {l : List Int} (hL : Lay ws n k seen0 ways) (h : Mid ws n seen0 ways l [] seen more) (hno : ∀ p ∈ ways, ∀ z, Wk ws n p z → (z, n) ∉ ws) : Lay ws n (k + 1) seen more := by
  have short : ∀ w x y, Wk ws n w x → w.length ≤ k + 1 → (x, y) ∈ ws → y ∉ seen0 → ∃ p ∈ ways, Wk ws n p x ∧ Le p w ∧ w.length = k + 1 := by
    intro w x y hw hlen hxy hy0
    have hge : ∀ w', Wk ws n w' x → k + 1 ≤ w'.length := fun w' hw' => Nat.lt_of_not_le fun hle => hy0 ((hL.seen y).2 ⟨w', x, hw', hle, hxy⟩)
    have hl : w.length = k + 1 := by have := hge w hw; omega
    obtain ⟨p, h1, h2, h3⟩ := hL.best w x hw hl hge
    exact ⟨p, h1, h2, h3, hl⟩
  refine ⟨fun q hq => ?_, h.so, fun w x hw hlen hge => ?_, fun y => ?_, fun w x hw hlen hxn => ?_⟩
  · obtain ⟨p, y, rfl, _, _, h3, x, h4, h5⟩ := h.mo q hq
    have hp : p ∈ ways := by
      rcases h3 with h3 | ⟨_, h3⟩
      · exact h3
      · cases h3
    exact ⟨⟨y, .step p x y h4 h5⟩, by simp [(hL.wk p hp).2]⟩
  · rcases hw.inv with ⟨rfl, rfl⟩ | ⟨q, z, rfl, hq, hzx⟩
    · simp at hlen
    · simp at hlen
      have hx0 : x ∉ seen0 := by
        intro hx
        obtain ⟨w', x', h1, h2, h3⟩ := (hL.seen x).1 hx
        have := hge _ (.step w' x' x h1 h3)
        simp at this; omega
      obtain ⟨p, hp, hpz, hle, _⟩ := short q z x hq (by omega) hzx hx0
      have hxs : x ∈ seen := (h.sn x).2 (.inr (.inl ⟨p, hp, z, hpz, hzx⟩))
      obtain ⟨p0, h1, h2⟩ := h.be x hxs hx0
      have h3 := h2 p (.inl hp) ⟨z, hpz, hzx⟩
      obtain ⟨p1, x1, e, _, _, _, x2, h4, h5⟩ := h.mo _ h1
      obtain ⟨rfl, rfl⟩ := snoc_inj e
      exact ⟨p0 ++ [x], h1, .step p0 x2 x h4 h5, h3.trans (le_snoc_of x (by rw [(hL.wk p hp).2]; omega) hle)⟩
  · rw [h.sn y]
    constructor
    · rintro (h1 | ⟨p, hp, x, h1, h2⟩ | h1)
      · obtain ⟨w, x, a, b, c⟩ := (hL.seen y).1 h1; exact ⟨w, x, a, by omega, c⟩
      · exact ⟨p, x, h1, by rw [(hL.wk p hp).2]; omega, h2⟩
      · cases h1
    · rintro ⟨w, x, h1, h2, h3⟩
      by_cases hy0 : y ∈ seen0
      · exact .inl hy0
      · obtain ⟨p, hp, hpx, _⟩ := short w x y h1 h2 h3 hy0
        exact .inr (.inl ⟨p, hp, x, hpx, h3⟩)
  · by_cases hn0 : n ∈ seen0
    · obtain ⟨w', x', h1, h2, h3⟩ := (hL.seen n).1 hn0
      exact hL.open_ w' x' h1 h2 h3
    · obtain ⟨p, hp, hpx, _⟩ := short w x n hw hlen hxn hn0
      exact hno p hp x hpx hxn
end
end Go.Cyc
end

noncomputable section
set_option linter.unusedSimpArgs false
set_option linter.unusedVariables false
namespace Go.Proofs.K25
open Go Go.Ev Go.Proofs Go.Cyc
/-- behind the last one -/
def okL (L : List Int) (y : Int) : Prop := match L.getLast? with | none => True | some z => z < y
def BestI (ws : Ws) (x : Int) (L : List Int) (i : Nat) (best : Int) : Prop :=
  (best < 0 ∧ ∀ (k : Nat) (p : Int × Int), k < i → ws[k]? = some p → p.1 = x → ¬ okL L p.2) ∨
  ∃ (k : Nat) (y : Int), best = (k : Int) ∧ k < ws.length ∧ ws[k]? = some (x, y) ∧ okL L y ∧ ∀ (k' : Nat) (p : Int × Int), k' < i → ws[k']? = some p → p.1 = x → okL L p.2 → y ≤ p.2
theorem BestI.zero (ws : Ws) (x : Int) (L : List Int) : BestI ws x L 0 (-1) := .inl ⟨by omega, fun k p h => absurd h (by omega)⟩
theorem take_iff {ws : Ws} {x : Int} {L : List Int} {p : Int × Int} {best : Int} : take ws x L p best = true ↔ p.1 = x ∧ okL L p.2 ∧ (best < 0 ∨ ∃ q, ws[best.toNat]? = some q ∧ p.2 < q.2) := by
  unfold take okL
  simp only [Bool.and_eq_true, Bool.or_eq_true, decide_eq_true_eq, and_assoc]
  cases L.getLast? <;> cases h : ws[best.toNat]? <;> simp
theorem BestI.step {ws : Ws} {x : Int} {L : List Int} {i : Nat} {best : Int} {p : Int × Int} (h : BestI ws x L i best) (hi : ws[i]? = some p) : BestI ws x L (i + 1) (if take ws x L p best = true then (i : Int) else best) := by
  have hlt : i < ws.length := by
    rcases Nat.lt_or_ge i ws.length with h' | h'
    · exact h'
    · rw [List.getElem?_eq_none h'] at hi; cases hi
  split
  · rename_i ht
    obtain ⟨h1, h2, h3⟩ := take_iff.1 ht
    refine .inr ⟨i, p.2, rfl, hlt, by rw [hi, ← h1], h2, fun k' q hk hq hx hok => ?_⟩
    by_cases hki : k' = i
    · subst hki; rw [hi] at hq; cases hq; exact Int.le_refl _
    · rcases h with ⟨hb, h4⟩ | ⟨k, y, rfl, hk', hy, hyok, h4⟩
      · exact absurd hok (h4 k' q (by omega) hq hx)
      · have h5 := h4 k' q (by omega) hq hx hok
        rcases h3 with h3 | ⟨r, h6, h7⟩
        · omega
        · rw [Int.toNat_natCast, hy] at h6; cases h6
          have h7' : p.2 < y := h7
          omega
  · rename_i ht
    rw [take_iff] at ht
    rcases h with ⟨hb, h4⟩ | ⟨k, y, rfl, hk', hy, hyok, h4⟩
    · refine .inl ⟨hb, fun k q hk hq hx hok => ?_⟩
      by_cases hki : k = i
      · subst hki; rw [hi] at hq; cases hq; exact ht ⟨hx, hok, .inl hb⟩
      · exact h4 k q (by omega) hq hx hok
    · refine .inr ⟨k, y, rfl, hk', hy, hyok, fun k' q hk hq hx hok => ?_⟩
      by_cases hki : k' = i
      · subst hki; rw [hi] at hq; cases hq
        apply Classical.byContradiction
        intro hlt'
        exact ht ⟨hx, hok, .inr ⟨(x, y), by rw [Int.toNat_natCast]; exact hy, by show p.2 < y; omega⟩⟩
      · exact h4 k' q (by omega) hq hx hok
theorem BestI.range {ws : Ws} {x : Int} {L : List Int} {i : Nat} {best : Int} (h : BestI ws x L i best) : best < 0 ∨ ∃ k : Nat, best = (k : Int) ∧ k < ws.length := by
  rcases h with ⟨h, _⟩ | ⟨k, y, h1, h2, _⟩
  · exact .inl h
  · exact .inr ⟨k, h1, h2⟩
abbrev cx57 : Cx := ⟨7, 70, none, false⟩
structure In57 (v0 : Value) (x : Int) (v5 : Value) (best : Int) (i : Nat) (t : T Value) : Prop where
  h0 : t.get 0 = v0
  h1 : t.get 1 = .int .i64 x
  h5 : t.get 5 = v5
  h6 : t.get 6 = .int .i64 best
  h7 : t.get 7 = .int .i64 (i : Nat)
section
variable {tb : Tb} {sp : Nat → List Value → Hp → Option (Value × Hp × Nat × Nat)} {e : Env}
theorem _root_.Go.Ev.WOR.mono {d : Nat} {H : Hp} {K K' : T Value → Prop} (hk : ∀ t', K' t' → K t') : ∀ {cos : List CO} {t : T Value}, WOR e d H K' cos t → WOR e d H K cos t := by
  intro cos
  induction cos with
  | nil => intro t h; exact hk t h
  | cons o cos ih =>
    intro t h
    rw [WOR] at h ⊢
    cases hg : wants t o.guard with
    | true =>
      rw [hg] at h
      revert h
      cases run o.op t H with
      | val v H' r w => exact fun h => ⟨h.1, h.2.1, h.2.2.1, ih h.2.2.2⟩
      | _ => exact fun h => h.elim
    | false => rw [hg] at h; exact ih h
theorem _root_.Go.Ev.WK.reg_rr {cx : Cx} {cos : List CO} {t : T Value} {ds : List Deferred} {H : Hp} {K : Ex → T Value → List Deferred → Hp → Prop} (K' : T Value → Prop) (h : WOR e cx.d H K' cos t) (hk : ∀ t', K' t' → K .normal t' ds H) : WK tb sp e cx (.reg cos) t ds H K := WK.reg_r (h.mono hk)
theorem _root_.Go.Ev.WK.draw_rr {cx : Cx} {B : Array Nat} {cos : List CO} {t : T Value} {ds : List Deferred} {H : Hp} {K : Ex → T Value → List Deferred → Hp → Prop} (K' : T Value → Prop) (h : WOR e cx.d H K' cos t) (hk : ∀ t', K' t' → K .normal t' ds H) : WK tb sp e cx (.draw B cos) t ds H K := WK.draw_r (h.mono hk)
set_option maxRecDepth 10000 in
set_option maxHeartbeats 2000000 in
theorem inner_ok {H : Hp} {t : T Value} {ds : List Deferred} {x : Int} {v0 v5 : Value} {ws : List (Int × Int)} {L : List Int} {c : Code} {K : Ex → T Value → List Deferred → Hp → Prop}
    (hw : PairsR e H v0 ws) (hL : NumsR e H v5 L) (hlen : L.length < 4611686018427387904) (hwl : ws.length < 4611686018427387904) (ht : In57 v0 x v5 (-1) 0 t)
    (hK : ∀ t' best, BestI ws x L ws.length best → In57 v0 x v5 best ws.length t' → K .normal t' ds H) : WK tb sp e cx57 (.block 2 (.loop c aft_l8)) t ds H K := by
  refine WK.block (WK.loop_ind (fun n t' ds' H' => ds' = ds ∧ H' = H ∧ ∃ i best, n = ws.length - i ∧ i ≤ ws.length ∧ BestI ws x L i best ∧ In57 v0 x v5 best i t') ?_ (ws.length) t ds H ⟨rfl, rfl, 0, -1, by omega, by omega, .zero _ _ _, ht⟩)
  rintro n t ds H ⟨rfl, rfl, i, best, rfl, hi, hB, ht⟩
  obtain ⟨h0, h1, h5, h6, h7⟩ := ht
  have k0 := hw.len
  unfold aft_l8
  refine WK.seq (WK.seq (WK.reg_rr (fun t' => t'.get 12 = .bool (decide ((i : Int) < (ws.length : Int))) ∧ In57 v0 x v5 best i t') ?_ ?_))
  · simp (config := { maxSteps := 1000000 }) only [aft_r4, WOR, wants_none', run, evalO_tmp, evalO_const, Rv_eq, Ro_some, ok_zero, true_and, get_putT (d := 7), h0, h1, h5, h6, h7, k0, binV_lss, Nat.reducePow, Nat.reduceLT, Nat.reduceEqDiff, if_false, reduceIte]
    constructor <;> simp (config := { maxSteps := 1000000 }) only [get_putT (d := 7), h0, h1, h5, h6, h7, Nat.reducePow, Nat.reduceLT, Nat.reduceEqDiff, reduceIte]
  rintro t ⟨h12, ht⟩
  obtain ⟨h0, h1, h5, h6, h7⟩ := ht
  by_cases hlt : i < ws.length
  case neg =>
    have : i = ws.length := by omega
    subst this
    refine WK.cond (v := false) (by rw [evalO_tmp, h12, decide_eq_false (by omega)]; rfl) (WK.exit ?_)
    exact hK t best hB ⟨h0, h1, h5, h6, h7⟩
  refine WK.cond (v := true) (by rw [evalO_tmp, h12, decide_eq_true (by omega)]; rfl) (WK.skip ?_)
  obtain ⟨p, hp⟩ : ∃ p, ws[i]? = some p := ⟨ws[i], by simp [hlt]⟩
  refine WK.seq (WK.block (WK.seq (WK.draw_r (r5_ok h0 h1 h5 h6 h7 hw hL hp hB.range hlen _ fun t' h57 hold => ?_))))
  have hs := hB.step hp
  have g0 := (hold 0 (by omega)).trans h0
  have g1 := (hold 1 (by omega)).trans h1
  have g5 := (hold 5 (by omega)).trans h5
  have g6 := (hold 6 (by omega)).trans h6
  have g7 := (hold 7 (by omega)).trans h7
  have nxt : ∀ (t2 : T Value) (b2 : Int), BestI ws x L (i + 1) b2 → In57 v0 x v5 b2 i t2 → WK tb sp e cx57 (.reg aft_r7) t2 ds H (fun x_1 t1 ds1 H1 => match x_1 with | .normal => ∃ m, m < ws.length - i ∧ ds1 = ds ∧ H1 = H ∧ ∃ i best, m = ws.length - i ∧ i ≤ ws.length ∧ BestI ws x L i best ∧ In57 v0 x v5 best i t1 | y => inBl 2 K y t1 ds1 H1) := by
    rintro t2 b2 hb2 ⟨q0, q1, q5, q6, q7⟩
    have hwr : wrapF .i64 ((i : Int) + 1) = ((i + 1 : Nat) : Int) := by rw [wrapF_i64 (by omega) (by omega)]; omega
    refine WK.reg_rr (In57 v0 x v5 b2 (i + 1)) ?_ fun t3 h3 => ⟨ws.length - (i + 1), by omega, rfl, rfl, i + 1, b2, rfl, by omega, hb2, h3⟩
    simp (config := { maxSteps := 1000000 }) only [aft_r7, WOR, wants_none', run, evalO_tmp, evalO_const, Rv_eq, Ro_some, ok_zero, true_and, get_putT (d := 7), q7, binV_add, hwr, Nat.reducePow, Nat.reduceLT, Nat.reduceEqDiff, if_false, reduceIte]
    constructor <;> simp (config := { maxSteps := 1000000 }) only [get_putT (d := 7), q0, q1, q5, q6, q7, Nat.reducePow, Nat.reduceLT, Nat.reduceEqDiff, reduceIte]
  cases htk : take ws x L p best with
  | false =>
    rw [htk] at h57 hs
    refine WK.cond (v := false) (by rw [evalO_tmp, h57]; rfl) (WK.skip ?_)
    exact nxt t' best hs ⟨g0, g1, g5, g6, g7⟩
  | true =>
    rw [htk] at h57 hs
    refine WK.cond (v := true) (by rw [evalO_tmp, h57]; rfl) (WK.reg_rr (In57 v0 x v5 i i) ?_ fun t3 h3 => nxt t3 i hs h3)
    simp (config := { maxSteps := 1000000 }) only [aft_r6, WOR, wants_none', run, evalO_tmp, evalO_const, Rv_eq, Ro_some, ok_zero, true_and, get_putT (d := 7), g7, Nat.reducePow, Nat.reduceLT, Nat.reduceEqDiff, if_false, reduceIte]
    constructor <;> simp (config := { maxSteps := 1000000 }) only [get_putT (d := 7), g0, g1, g5, g6, g7, Nat.reducePow, Nat.reduceLT, Nat.reduceEqDiff, reduceIte]
end
end Go.Proofs.K25
end

noncomputable section
namespace Go.Ev
/-! ### Lists that a walk makes -/
section
def Hp.isFn : Hp → Bool | .fn _ _ => true | .mk _ _ => false
theorem fn_room {H : Hp} (h : H.isFn = true) : H.room = true := by cases H with | mk => cases h | fn => rfl
theorem fn_wf {H : Hp} (h : H.isFn = true) : H.wf := by cases H with | mk => cases h | fn => trivial
theorem isFn_push (H : Hp) (x : Blk) : (H.push x).isFn = H.isFn := by cases H <;> rfl
theorem isFn_put (H : Hp) (b : Nat) (x : Blk) : (H.put b x).isFn = H.isFn := by cases H <;> rfl
/-- a slice that holds a whole block, made behind n -/
structure Own (n ty : Nat) (H : Hp) (b : Nat) (v : Value) (L : List Value) : Prop where
  ge : n ≤ b
  form : (Row H b ty 0 L ∧ v = .slice (some ⟨b, 0, none⟩) L.length (2 * L.length)) ∨ (Row H b ty 2 L ∧ v = .slice (some ⟨b, 0, none⟩) L.length (2 * L.length + 1))
theorem Own.row {n ty : Nat} {H : Hp} {b : Nat} {v : Value} {L : List Value} (h : Own n ty H b v L) : ∃ op c, Row H b ty op L ∧ v = .slice (some ⟨b, 0, none⟩) L.length c := by
  rcases h.form with ⟨h1, h2⟩ | ⟨h1, h2⟩
  · exact ⟨_, _, h1, h2⟩
  · exact ⟨_, _, h1, h2⟩
theorem Own.lt {n ty : Nat} {H : Hp} {b : Nat} {v : Value} {L : List Value} (h : Own n ty H b v L) : b < H.nx := by obtain ⟨_, _, h, _⟩ := h.row; exact h.lt
theorem Own.of_blk {n ty : Nat} {H H' : Hp} {b : Nat} {v : Value} {L : List Value} (h : Own n ty H b v L) (e : H'.blk b = H.blk b) : Own n ty H' b v L :=
  ⟨h.ge, h.form.imp (fun ⟨a, c⟩ => ⟨a.of_blk e, c⟩) (fun ⟨a, c⟩ => ⟨a.of_blk e, c⟩)⟩
theorem Own.mono {n m ty : Nat} {H : Hp} {b : Nat} {v : Value} {L : List Value} (h : Own n ty H b v L) (hm : m ≤ n) : Own m ty H b v L := ⟨Nat.le_trans hm h.ge, h.form⟩
theorem alloc_bsl {H : Hp} (hf : H.isFn = true) (L : List Value) (ty len : Nat) : alloc1 (blkL L ty 0) H (fun i => mkSlV (some (i, 0)) len len false) 0 0 = .val (.slice (some ⟨H.nx, 0, none⟩) len (2 * len)) (H.push (blkL L ty 0)) 0 0 := by
  rw [alloc1_room (fn_room hf)]; rfl
theorem exFill_some (l : List Value) (k : List Value → R) : exFill (some l) k = k l := rfl
theorem fillL_nil (t : T Value) (c : List Value) : fillL t c [] = some c := rfl
theorem fillL_one {t : T Value} {z w : Value} {o : Operand} (h : cellsO (evalO t o) = some [w]) : fillL t [z] [(0, 1, o)] = some [w] := by
  simp only [fillL, h]; rfl
theorem Own.new {n ty : Nat} {H : Hp} (hf : H.isFn = true) (hn : n ≤ H.nx) (L : List Value) : Own n ty (H.push (blkL L ty 0)) H.nx (.slice (some ⟨H.nx, 0, none⟩) L.length (2 * L.length)) L := ⟨hn, .inl ⟨row_push (fn_room hf) L ty 0, rfl⟩⟩
theorem Env.ok.fresh {e : Env} {H : Hp} {b : Nat} (hb : b < H.nx) (hn : e.n0 ≤ b) : e.ok (bit b) 0 H := .read hb fun h => absurd h (by omega)
/-- appending -/
theorem Own.app {e : Env} {n ty by_ k r b : Nat} {H : Hp} {v x : Value} {L new : List Value} (ho : Own n ty H b v L) (he : e.n0 ≤ n) (hf : H.isFn = true) (hl : lenV x = some k) (hk : 0 < k) (hc : cellsOfV H 1 k x = some (new, r)) (hnew : new.length = k) (hr : e.ok r 0 H)
    (hb : (2 * (L.length + k) + 768) * by_ ≤ 140737488355328 ∧ L.length + k ≤ 140737488355328) :
    ∃ v' H1 r' w', exApp ty 1 by_ v x H = .val v' H1 r' w' ∧ e.ok r' w' H1 ∧ H1.nx = H.nx + 1 ∧ Own n ty H1 H.nx v' (L ++ new) ∧ H1.isFn = true ∧ ∀ c, c < H.nx → c ≠ b → H1.blk c = H.blk c := by
  have hlt := ho.lt
  have hge := ho.ge
  have hnx : n ≤ H.nx := by omega
  have hok : okBytes (L.length + k) by_ = true := okBytes_of hb.1 hb.2
  have hlen : (L ++ new).length = L.length + k := by rw [List.length_append, hnew]
  rcases ho.form with ⟨h1, rfl⟩ | ⟨h1, rfl⟩
  · refine ⟨_, _, _, _, exApp_shut (fn_room hf) h1 (m := L.length) (by omega) hl hk hc hok, ?_, ?_, ⟨hnx, .inr ⟨row_push (fn_room hf) (L ++ new) ty 2, by rw [hlen]⟩⟩, by rw [isFn_push]; exact hf, fun c hcl _ => blk_push_old (fn_room hf) _ hcl⟩
    · have h2 := hr.lor (Env.ok.fresh (e := e) (b := b) hlt (by omega)) (Nat.le_refl _)
      rw [lor_zero'] at h2
      exact ⟨h2.rd, h2.wr, fun c hcc => by rw [nx_push]; have := h2.lt c hcc; omega⟩
    · rw [nx_push]
  · refine ⟨_, _, _, _, exApp_open (fn_room hf) h1 (m := L.length) (by omega) hl hk hc hok, ?_, ?_, ⟨hnx, .inr ⟨?_, by rw [hlen]⟩⟩, by rw [isFn_push, isFn_put]; exact hf, fun c hcl hcb => ?_⟩
    · have h2 := hr.lor (Env.ok.write (e := e) (b := b) hlt (fun h => absurd h (by omega))) (Nat.le_refl _)
      rw [lor_zero', zero_lor'] at h2
      exact ⟨h2.rd, h2.wr, fun c hcc => by rw [nx_push, nx_put]; have := h2.lt c hcc; omega⟩
    · rw [nx_push, nx_put]
    · have := row_push (H := H.put b .no) (by rw [room_put]; exact (fn_room hf)) (L ++ new) ty 2
      rwa [nx_put] at this
    · rw [blk_push_old (by rw [room_put]; exact (fn_room hf)) _ (by rw [nx_put]; exact hcl), blk_put_ne (fn_wf hf) _ hlt hcb]
end
end Go.Ev
end

noncomputable section
namespace Go.Cyc
/-- how much a table of distances may still be lowered -/
def pot (big : Nat) (F : Int → Option Nat) : List Int → Nat
  | [] => 0
  | k :: l => (F k).getD big + pot big F l
theorem pot_le {big : Nat} {F G : Int → Option Nat} : ∀ (l : List Int), (∀ j, (G j).getD big ≤ (F j).getD big) → pot big G l ≤ pot big F l := by
  intro l h
  induction l with
  | nil => exact Nat.le_refl _
  | cons k l ih => simp only [pot]; have := h k; omega
theorem pot_lt {big : Nat} {F G : Int → Option Nat} {k : Int} : ∀ (l : List Int), k ∈ l → (∀ j, (G j).getD big ≤ (F j).getD big) → (G k).getD big < (F k).getD big → pot big G l < pot big F l := by
  intro l hk h hlt
  induction l with
  | nil => cases hk
  | cons a l ih =>
    simp only [pot]
    rcases List.mem_cons.1 hk with rfl | hk
    · have := pot_le l h; omega
    · have := ih hk; have := h a; omega
theorem nodup_le {α : Type} [DecidableEq α] : ∀ (l L : List α), l.Nodup → (∀ x ∈ l, x ∈ L) → l.length ≤ L.length := by
  intro l
  induction l with
  | nil => intro L _ _; exact Nat.zero_le _
  | cons a l ih =>
    intro L hn hs
    have ha := hs a (by simp)
    have h1 := ih (L.erase a) (List.nodup_cons.1 hn).2 fun x hx => by
      have hne : x ≠ a := fun e => (List.nodup_cons.1 hn).1 (e ▸ hx)
      exact (List.mem_erase_of_ne hne).2 (hs x (by simp [hx]))
    rw [List.length_erase_of_mem ha] at h1
    have : 0 < L.length := List.length_pos_of_mem ha
    simp; omega
end Go.Cyc
end

noncomputable section
set_option linter.unusedSimpArgs false
set_option linter.unusedVariables false
namespace Go.Proofs.K25
open Go Go.Ev Go.Proofs Go.Cyc
/-- the first ones of those that stand behind x -/
structure Fore (ws : Ws) (x : Int) (L : List Int) : Prop where
  inc : L.Pairwise (· < ·)
  mem : ∀ y ∈ L, (x, y) ∈ ws
  all : ∀ y, (x, y) ∈ ws → ¬ okL L y → y ∈ L
theorem Fore.nil (ws : Ws) (x : Int) : Fore ws x [] := ⟨.nil, fun y h => absurd h (by simp), fun y _ h => absurd trivial h⟩
theorem Fore.len {ws : Ws} {x : Int} {L : List Int} (h : Fore ws x L) : L.length ≤ ws.length := by
  have := nodup_le (L.map fun y => (x, y)) ws (by
    have hn : L.Nodup := h.inc.imp fun hlt e => by omega
    exact List.Pairwise.map _ (fun a b hab e => hab (Prod.mk.inj e).2) hn) (fun p hp => by
    obtain ⟨y, hy, rfl⟩ := List.mem_map.1 hp; exact h.mem y hy)
  simpa using this
theorem okL_snoc {L : List Int} {y z : Int} : okL (L ++ [y]) z ↔ y < z := by unfold okL; simp
theorem inc_last {L : List Int} {y : Int} (h : L.Pairwise (· < ·)) (ho : okL L y) : ∀ z ∈ L, z < y := by
  intro z hz
  rcases List.eq_nil_or_concat L with rfl | ⟨L0, w, rfl⟩
  · simp at hz
  · rw [List.concat_eq_append] at *
    have ho' := okL_snoc.1 ho
    rcases List.mem_append.1 hz with hz | hz
    · have := (List.pairwise_append.1 h).2.2 z hz w (by simp); omega
    · simp at hz; omega
theorem Fore.done {ws : Ws} {x best : Int} {L : List Int} (h : Fore ws x L) (hb : BestI ws x L ws.length best) (hneg : best < 0) : Succs ws x L := by
  refine ⟨h.inc, fun y => ⟨h.mem y, fun hy => h.all y hy ?_⟩⟩
  rcases hb with ⟨_, hb⟩ | ⟨k, y', h1, _⟩
  · obtain ⟨i, hi, e⟩ := List.mem_iff_getElem.1 hy
    exact hb i (x, y) hi (by rw [List.getElem?_eq_getElem hi, e]) rfl
  · omega
theorem Fore.step {ws : Ws} {x best : Int} {L : List Int} (h : Fore ws x L) (hb : BestI ws x L ws.length best) (hpos : ¬ best < 0) : ∃ (k : Nat) (y : Int), best = (k : Int) ∧ ws[k]? = some (x, y) ∧ Fore ws x (L ++ [y]) := by
  rcases hb with ⟨hb, _⟩ | ⟨k, y, h1, h2, h3, h4, h5⟩
  · exact absurd hb hpos
  refine ⟨k, y, h1, h3, ?_, fun z hz => ?_, fun z hz ho => ?_⟩
  · rw [List.pairwise_append]
    exact ⟨h.inc, by simp, fun a ha b hb => by simp at hb; subst hb; exact inc_last h.inc h4 a ha⟩
  · rcases List.mem_append.1 hz with hz | hz
    · exact h.mem z hz
    · simp at hz; subst hz; exact List.mem_of_getElem? h3
  · rw [okL_snoc] at ho
    by_cases hk : okL L z
    · obtain ⟨i, hi, e⟩ := List.mem_iff_getElem.1 hz
      have := h5 i (x, z) hi (by rw [List.getElem?_eq_getElem hi, e]) rfl hk
      have e2 : z = y := by have h6 : y ≤ z := this; omega
      simp [e2]
    · exact List.mem_append.2 (.inl (h.all z hz hk))
section
variable {sp : Nat → List Value → Hp → Option (Value × Hp × Nat × Nat)} {e : Env}
theorem _root_.Go.Ev.Own.numsR {n : Nat} {H : Hp} {b ty : Nat} {v : Value} {L : List Int} (h : Own n ty H b v (L.map vI)) (hn : e.n0 ≤ n) : NumsR e H v L := by
  obtain ⟨op, c, h1, h2⟩ := h.row
  rw [List.length_map] at h2
  subst h2
  exact .inRow b c ty op L h1 fun hlt => absurd hlt (by have := h.ge; omega)
theorem PairsR.of_blk {H H' : Hp} {v : Value} {ws : Ws} (h : PairsR e H v ws) (hk : ∀ b, b < H.nx → H'.blk b = H.blk b) : PairsR e H' v ws := by
  cases h with
  | nil c a => exact .nil c a
  | inRow b o c ty op ws cells h1 h2 h3 => exact .inRow b o c ty op ws cells (h1.of_blk (hk b h1.lt)) h2 h3
theorem _root_.Go.Ev.WOG.mono {tb : Tb} {d : Nat} {K K' : T Value → Hp → Prop} (hk : ∀ t' H', K' t' H' → K t' H') : ∀ {cos : List CO} {t : T Value} {H : Hp}, WOG tb sp e d K' cos t H → WOG tb sp e d K cos t H := by
  intro cos
  induction cos with
  | nil => intro t H h; rw [WOG] at *; exact hk t H h
  | cons o cos ih =>
    intro t H h
    rw [WOG] at h ⊢
    cases hg : wants t o.guard with
    | true =>
      rw [hg] at h
      revert h
      cases run o.op t H with
      | val v H' r w => exact fun h => ⟨h.1, h.2.1, ih h.2.2⟩
      | call f args => exact fun h => h.mono fun v H1 _ hh => by rw [WOGk] at *; exact ih hh
      | _ => exact fun h => h.elim
    | false => rw [hg] at h; exact ih h
theorem _root_.Go.Ev.WK.reg_gg {tb : Tb} {cx : Cx} {cos : List CO} {t : T Value} {ds : List Deferred} {H : Hp} {K : Ex → T Value → List Deferred → Hp → Prop} (K' : T Value → Hp → Prop) (h : WOG tb sp e cx.d K' cos t H) (hk : ∀ t' H', K' t' H' → K .normal t' ds H') : WK tb sp e cx (.reg cos) t ds H K := WK.reg_g (h.mono hk)
/-- what stays -/
structure Kept (H H' : Hp) : Prop where
  fn : H'.isFn = true
  nx : H.nx ≤ H'.nx
  old : ∀ b, b < H.nx → H'.blk b = H.blk b
theorem Kept.refl {H : Hp} (h : H.isFn = true) : Kept H H := ⟨h, Nat.le_refl _, fun _ _ => rfl⟩
theorem Kept.trans {H H1 H2 : Hp} (h : Kept H H1) (g : Kept H1 H2) : Kept H H2 := ⟨g.fn, Nat.le_trans h.nx g.nx, fun b hb => (g.old b (Nat.lt_of_lt_of_le hb h.nx)).trans (h.old b hb)⟩
structure Ou57 (H0 : Hp) (v0 : Value) (x : Int) (L : List Int) (t : T Value) (H : Hp) : Prop where
  h0 : t.get 0 = v0
  h1 : t.get 1 = .int .i64 x
  own : ∃ b, Own H0.nx 3 H b (t.get 5) (L.map vI)
  kept : Kept H0 H
/-- what after leaves -/
def AfterK (H0 : Hp) (ws : Ws) (x : Int) (v : Value) (H : Hp) : Prop := Kept H0 H ∧ ∃ b L, Own H0.nx 3 H b v (L.map vI) ∧ Succs ws x L
set_option maxRecDepth 10000 in
set_option maxHeartbeats 2000000 in
theorem after_ok (hs : ∀ args H, sp 57 args H = none) {H : Hp} {v0 : Value} {x : Int} {ws : Ws} (hf : H.isFn = true) (hn : e.n0 ≤ H.nx) (hw : PairsR e H v0 ws) (hwl : ws.length < 1099511627776) :
    EC Tb0 sp e 57 [v0, .int .i64 x] H (AfterK H ws x) := by
  refine EC.intro (fn := Tryz.f57) (c := aft_body) (hs _ _) (by rfl) aft_some aft_comp (by show 2 ≤ 70; decide) ?_
  have g0 : (enterT Tryz.f57 [v0, .int .i64 x]).get 0 = v0 := by rw [enterT_get (by show 2 ≤ 70; decide) (by show 0 < 70; decide)]; rfl
  have g1 : (enterT Tryz.f57 [v0, .int .i64 x]).get 1 = .int .i64 x := by rw [enterT_get (by show 2 ≤ 70; decide) (by show 1 < 70; decide)]; rfl
  revert g0 g1
  generalize enterT Tryz.f57 [v0, .int .i64 x] = t0
  intro g0 g1
  show WK Tb0 sp e cx57 aft_k t0 [] H _
  unfold aft_k
  refine WK.seq (WK.reg_rr (fun t' => t'.get 0 = v0 ∧ t'.get 1 = .int .i64 x) ?_ ?_)
  · simp (config := { maxSteps := 1000000 }) only [aft_r0, WOR, wants_none', run, evalO_const, Rv_eq, ok_zero, true_and, get_putT (d := 7), g0, g1, Nat.reducePow, Nat.reduceLT, Nat.reduceEqDiff, reduceIte, and_self]
  rintro t1 ⟨g0, g1⟩
  refine WK.seq (WK.reg_gg (Ou57 H v0 x []) ?_ ?_)
  · simp (config := { maxSteps := 1000000 }) only [aft_r1, WOG, wants_none', run, evalO_tmp, Rv_eq, ok_zero, true_and, fillL_nil, exFill_some, alloc_bsl hf, get_putT (d := 7), Nat.reducePow, Nat.reduceLT, Nat.reduceEqDiff, reduceIte, nx_push]
    refine ⟨Nat.le_succ _, Nat.le_refl _, ?_, ?_, ⟨H.nx, ?_⟩, by rw [isFn_push]; exact hf, by rw [nx_push]; omega, fun b hb => blk_push_old (fn_room hf) _ hb⟩
    · simp (config := { maxSteps := 1000000 }) only [get_putT (d := 7), g0, Nat.reducePow, Nat.reduceLT, Nat.reduceEqDiff, reduceIte]
    · simp (config := { maxSteps := 1000000 }) only [get_putT (d := 7), g1, Nat.reducePow, Nat.reduceLT, Nat.reduceEqDiff, reduceIte]
    · simp (config := { maxSteps := 1000000 }) only [get_putT (d := 7), Nat.reducePow, Nat.reduceLT, Nat.reduceEqDiff, reduceIte]
      exact Own.new hf (Nat.le_refl _) []
  intro t2 H2 hou
  refine WK.block (WK.loop_ind (fun m t' ds' H' => ds' = [] ∧ ∃ L, m = ws.length - L.length ∧ Fore ws x L ∧ Ou57 H v0 x L t' H') ?_ _ t2 [] H2 ⟨rfl, [], rfl, .nil _ _, hou⟩)
  rintro m t ds H1 ⟨rfl, L, rfl, hF, ⟨g0, g1, ⟨b, hown⟩, hkept⟩⟩
  have hLl := hF.len
  have hw1 : PairsR e H1 v0 ws := hw.of_blk hkept.old
  unfold aft_l12
  refine WK.block (WK.seq (WK.reg_rr (fun t' => t'.get 0 = v0 ∧ t'.get 1 = .int .i64 x ∧ t'.get 5 = t.get 5 ∧ t'.get 6 = .int .i64 (-1)) ?_ ?_))
  · simp (config := { maxSteps := 1000000 }) only [aft_r2, WOR, wants_none', run, evalO_const, Rv_eq, ok_zero, true_and, get_putT (d := 7), g0, g1, Nat.reducePow, Nat.reduceLT, Nat.reduceEqDiff, reduceIte, and_self]
  rintro t3 ⟨k0, k1, k5, k6⟩
  refine WK.seq (WK.seq (WK.reg_rr (In57 v0 x (t.get 5) (-1) 0) ?_ ?_))
  · simp (config := { maxSteps := 1000000 }) only [aft_r3, WOR, wants_none', run, evalO_const, Rv_eq, ok_zero, true_and]
    constructor <;> simp (config := { maxSteps := 1000000 }) only [get_putT (d := 7), k0, k1, k5, k6, Nat.reducePow, Nat.reduceLT, Nat.reduceEqDiff, reduceIte]
    rfl
  intro t4 hin
  refine inner_ok hw1 (hown.numsR hn) (by omega) (by omega) hin ?_
  rintro t5 best hB ⟨j0, j1, j5, j6, j7⟩
  refine WK.seq (WK.seq (WK.reg_rr (fun t' => t'.get 60 = .bool (decide (best < 0)) ∧ t'.get 0 = v0 ∧ t'.get 1 = .int .i64 x ∧ t'.get 5 = t.get 5 ∧ t'.get 6 = .int .i64 best) ?_ ?_))
  · simp (config := { maxSteps := 1000000 }) only [aft_r9, WOR, wants_none', run, evalO_tmp, evalO_const, Rv_eq, Ro_some, ok_zero, true_and, get_putT (d := 7), j0, j1, j5, j6, binV_lss, Nat.reducePow, Nat.reduceLT, Nat.reduceEqDiff, reduceIte, and_self]
  rintro t6 ⟨l60, l0, l1, l5, l6⟩
  by_cases hneg : best < 0
  · refine WK.cond (v := true) (by rw [evalO_tmp, l60, decide_eq_true hneg]; rfl) (WK.seq (WK.reg_rr (fun t' => t'.get 4 = t.get 5) ?_ ?_))
    · simp (config := { maxSteps := 1000000 }) only [aft_r10, WOR, wants_none', run, evalO_tmp, Rv_eq, ok_zero, true_and, get_putT (d := 7), l5, Nat.reducePow, Nat.reduceLT, Nat.reduceEqDiff, reduceIte, and_self]
    intro t7 h4
    refine WK.ret ⟨.inr rfl, rfl, [t.get 5], 0, ?_, .zero _ _, hkept, b, L, hown, hF.done hB hneg⟩
    show resL Tb0 70 t7 H1 [.tmp 4] = _
    simp only [resL, h4]; rfl
  refine WK.cond (v := false) (by rw [evalO_tmp, l60, decide_eq_false hneg]; rfl) (WK.skip ?_)
  obtain ⟨k, y, rfl, hk, hF2⟩ := hF.step hB hneg
  obtain ⟨pb, po, m1, m2, m2', m3, m4, m5⟩ := hw1.read hk
  have hfil : ∀ (t' : T Value), t'.get 67 = .int .i64 y → fillL t' [.int .i64 0] [(0, 1, .tmp 67)] = some [.int .i64 y] := fun t' h => fillL_one (by rw [evalO_tmp, h]; rfl)
  have hF1 := hkept.fn
  let H2 := H1.push (blkL [.int .i64 y] 3 0)
  have hown2 : Own H.nx 3 H2 b (t.get 5) (L.map vI) := hown.of_blk (blk_push_old (fn_room hF1) _ hown.lt)
  have hrow2 : Row H2 H1.nx 3 0 [.int .i64 y] := row_push (fn_room hF1) _ _ _
  have hf2 : H2.isFn = true := by show (H1.push _).isFn = true; rw [isFn_push]; exact hF1
  have hle2 := hF2.len
  rw [List.length_append] at hle2
  obtain ⟨v', H3, r', w', a1, a2, a3, a4, a5, a6⟩ := Own.app (e := e) (by_ := 8) (x := .slice (some ⟨H1.nx, 0, none⟩) 1 (2 * 1)) (new := [.int .i64 y]) (k := 1) hown2 hn hf2 rfl (by omega) (cellsOf_slice hrow2 (by simp)) rfl (.fresh (by show H1.nx < (H1.push _).nx; rw [nx_push]; omega) (by have := hkept.nx; omega)) (by simp at hle2 ⊢; omega)
  refine WK.reg_gg (Ou57 H v0 x (L ++ [y])) ?_ ?_
  · simp (config := { maxSteps := 1000000 }) only [aft_r11, WOG, wants_none', run, evalO_tmp, evalO_const, Rv_eq, Ro_some, ok_zero, true_and, get_putT (d := 7), l0, l1, l5, l6, m1, m2, m2', m3, m4, m5, hfil, exFill_some, alloc_bsl hF1, Nat.reducePow, Nat.reduceLT, Nat.reduceEqDiff, reduceIte, Nat.le_refl]
    refine ⟨by rw [nx_push]; omega, ?_⟩
    rw [show exApp 3 1 8 (t.get 5) (Value.slice (some ⟨H1.nx, 0, none⟩) 1 (2 * 1)) (H1.push (blkL [Value.int IntKind.i64 y] 3 0)) = .val v' H3 r' w' from a1]
    have hnx2 : H2.nx = H1.nx + 1 := nx_push _ _
    refine ⟨a2, by show H2.nx ≤ H3.nx; omega, ?_, ?_, ⟨H2.nx, ?_⟩, a5, by have := hkept.nx; omega, fun c hc => ?_⟩
    · simp (config := { maxSteps := 1000000 }) only [get_putT (d := 7), l0, Nat.reducePow, Nat.reduceLT, Nat.reduceEqDiff, reduceIte]
    · simp (config := { maxSteps := 1000000 }) only [get_putT (d := 7), l1, Nat.reducePow, Nat.reduceLT, Nat.reduceEqDiff, reduceIte]
    · simp (config := { maxSteps := 1000000 }) only [get_putT (d := 7), Nat.reducePow, Nat.reduceLT, Nat.reduceEqDiff, reduceIte]
      rw [List.map_append]; exact a4
    · have h1 := hkept.nx
      have h2 := hown.ge
      rw [a6 c (by omega) (by omega), ← hkept.old c hc]
      exact blk_push_old (fn_room hF1) _ (by omega)
  intro t7 H4 hou
  exact ⟨ws.length - (L ++ [y]).length, by simp at hle2 ⊢; omega, rfl, L ++ [y], rfl, hF2, hou⟩
end
end Go.Proofs.K25
end

noncomputable section
set_option linter.unusedSimpArgs false
set_option linter.unusedVariables false
namespace Go.Proofs.K25
open Go Go.Ev Go.Proofs Go.Cyc
/-! ### What ref.round makes -/
/-- registers below k stay -/
def Lo (k : Nat) (t t' : T Value) : Prop := ∀ j, j < k → t'.get j = t.get j
theorem putT_lo {d i j : Nat} (hj : j < i) (hi : i < 2 ^ d) (t : T Value) (v : Value) : (putT d t (some i) v).get j = t.get j := by
  rw [get_putT hi (by omega), if_neg (by omega)]
/-- one value more -/
theorem app_val {e : Env} {N ty by_ b : Nat} {H : Hp} {v w : Value} {L : List Value} (ho : Own N ty H b v L) (he : e.n0 ≤ N) (hf : H.isFn = true) (hby : by_ ≤ 24) (hlen : L.length < 2199023255552) :
    ∃ v' H3 r w', exApp ty 1 by_ v (.slice (some ⟨H.nx, 0, none⟩) 1 (2 * 1)) (H.push (blkL [w] ty 0)) = .val v' H3 r w' ∧ e.ok r w' H3 ∧ H3.nx = H.nx + 2 ∧ Own N ty H3 (H.nx + 1) v' (L ++ [w]) ∧ H3.isFn = true ∧ ∀ c, c < H.nx → c ≠ b → H3.blk c = H.blk c := by
  have hlt := ho.lt
  have hge := ho.ge
  have hown2 : Own N ty (H.push (blkL [w] ty 0)) b v L := ho.of_blk (blk_push_old (fn_room hf) _ hlt)
  have hrow2 : Row (H.push (blkL [w] ty 0)) H.nx ty 0 [w] := row_push (fn_room hf) _ _ _
  have hf2 : (H.push (blkL [w] ty 0)).isFn = true := by rw [isFn_push]; exact hf
  have hb : (2 * (L.length + 1) + 768) * by_ ≤ 140737488355328 := by
    have h1 : (2 * (L.length + 1) + 768) * by_ ≤ (2 * 2199023255552 + 768) * 24 := Nat.mul_le_mul (by omega) hby
    omega
  obtain ⟨v', H3, r', w', a1, a2, a3, a4, a5, a6⟩ := Own.app (e := e) (by_ := by_) (x := .slice (some ⟨H.nx, 0, none⟩) 1 (2 * 1)) (new := [w]) (k := 1) hown2 he hf2 rfl (by omega) (cellsOf_slice hrow2 (by simp)) rfl (.fresh (by rw [nx_push]; omega) (by omega)) ⟨hb, by omega⟩
  rw [nx_push] at a3 a4 a6
  exact ⟨v', H3, r', w', a1, a2, a3, a4, a5, fun c hc hcb => (a6 c (by omega) hcb).trans (blk_push_old (fn_room hf) _ hc)⟩
/-- a step that touches no more than two blocks -/
structure Step (H : Hp) (bs bm : Nat) (H' : Hp) (bs' bm' : Nat) : Prop where
  fn : H'.isFn = true
  nx : H.nx ≤ H'.nx
  old : ∀ c, c < H.nx → c ≠ bs → c ≠ bm → H'.blk c = H.blk c
  s : bs' = bs ∨ H.nx ≤ bs'
  m : bm' = bm ∨ H.nx ≤ bm'
theorem Step.of_kept {H H' : Hp} {bs bm : Nat} (h : Kept H H') : Step H bs bm H' bs bm := ⟨h.fn, h.nx, fun c hc _ _ => h.old c hc, .inl rfl, .inl rfl⟩
/-- a way in the heap -/
structure WayAt (N : Nat) (H : Hp) (bs bm : Nat) (v : Value) (p : List Int) : Prop where
  out : ∃ b op c, v = .slice (some ⟨b, 0, none⟩) p.length c ∧ Row H b 3 op (p.map vI) ∧ N ≤ b ∧ b ≠ bs ∧ b ≠ bm
theorem WayAt.step {N : Nat} {H H' : Hp} {bs bm bs' bm' : Nat} {v : Value} {p : List Int} (h : WayAt N H bs bm v p) (g : Step H bs bm H' bs' bm') : WayAt N H' bs' bm' v p := by
  obtain ⟨b, op, c, h1, h2, h3, h4, h5⟩ := h.out
  have hlt := h2.lt
  exact ⟨b, op, c, h1, h2.of_blk (g.old b hlt h4 h5), h3, by rcases g.s with g | g <;> omega, by rcases g.m with g | g <;> omega⟩
theorem WayAt.numsR {e : Env} {N : Nat} {H : Hp} {bs bm : Nat} {v : Value} {p : List Int} (h : WayAt N H bs bm v p) (he : e.n0 ≤ N) : NumsR e H v p := by
  obtain ⟨b, op, c, rfl, h2, h3, h4, h5⟩ := h.out
  exact .inRow b c 3 op p h2 fun hlt => absurd hlt (by omega)
structure WaysL (N : Nat) (H : Hp) (bs bm : Nat) (vs : List Value) (ps : List (List Int)) : Prop where
  len : vs.length = ps.length
  at_ : ∀ (i : Nat) p, ps[i]? = some p → ∃ v, vs[i]? = some v ∧ WayAt N H bs bm v p
theorem WaysL.nil (N : Nat) (H : Hp) (bs bm : Nat) : WaysL N H bs bm [] [] := ⟨rfl, fun i p h => by simp at h⟩
theorem WaysL.step {N : Nat} {H H' : Hp} {bs bm bs' bm' : Nat} {vs : List Value} {ps : List (List Int)} (h : WaysL N H bs bm vs ps) (g : Step H bs bm H' bs' bm') : WaysL N H' bs' bm' vs ps :=
  ⟨h.len, fun i p hp => let ⟨v, h1, h2⟩ := h.at_ i p hp; ⟨v, h1, h2.step g⟩⟩
theorem WaysL.snoc {N : Nat} {H : Hp} {bs bm : Nat} {vs : List Value} {ps : List (List Int)} {v : Value} {p : List Int} (h : WaysL N H bs bm vs ps) (hv : WayAt N H bs bm v p) : WaysL N H bs bm (vs ++ [v]) (ps ++ [p]) := by
  refine ⟨by simp [h.len], fun i q hq => ?_⟩
  rcases Nat.lt_trichotomy i ps.length with hi | hi | hi
  · rw [List.getElem?_append_left hi] at hq
    rw [List.getElem?_append_left (by rw [h.len]; exact hi)]
    exact h.at_ i q hq
  · subst hi
    simp at hq; subst hq
    exact ⟨v, by rw [← h.len]; simp, hv⟩
  · rw [List.getElem?_eq_none (by simp; omega)] at hq; cases hq
structure WaysAt (N : Nat) (H : Hp) (bs bm : Nat) (v : Value) (ps : List (List Int)) : Prop where
  out : ∃ b op c vs, v = .slice (some ⟨b, 0, none⟩) ps.length c ∧ Row H b 138 op vs ∧ N ≤ b ∧ b ≠ bs ∧ b ≠ bm ∧ WaysL N H bs bm vs ps
theorem WaysAt.step {N : Nat} {H H' : Hp} {bs bm bs' bm' : Nat} {v : Value} {ps : List (List Int)} (h : WaysAt N H bs bm v ps) (g : Step H bs bm H' bs' bm') : WaysAt N H' bs' bm' v ps := by
  obtain ⟨b, op, c, vs, h1, h2, h3, h4, h5, h6⟩ := h.out
  have hlt := h2.lt
  exact ⟨b, op, c, vs, h1, h2.of_blk (g.old b hlt h4 h5), h3, by rcases g.s with g | g <;> omega, by rcases g.m with g | g <;> omega, h6.step g⟩
theorem WaysAt.len {N : Nat} {H : Hp} {bs bm : Nat} {v : Value} {ps : List (List Int)} (h : WaysAt N H bs bm v ps) : exLen 1 v H = .val (vI ps.length) H 0 0 := by
  obtain ⟨b, op, c, vs, rfl, _⟩ := h.out; rfl
theorem WaysAt.read {e : Env} {N : Nat} {H : Hp} {bs bm : Nat} {v : Value} {ps : List (List Int)} (h : WaysAt N H bs bm v ps) (he : e.n0 ≤ N) {i : Nat} {p : List Int} (hi : ps[i]? = some p) :
    ∃ b w, exIaS 1 v (vI i) H = .val (.pointer (some ⟨b, i, none⟩)) H 0 0 ∧ exFa 0 (.pointer (some ⟨b, i, none⟩)) H = .val (.pointer (some ⟨b, i, none⟩)) H 0 0 ∧ exLd1 (.pointer (some ⟨b, i, none⟩)) H = .val w H (bit b) 0 ∧ e.ok (bit b) 0 H ∧ WayAt N H bs bm w p := by
  obtain ⟨b, op, c, vs, rfl, h2, h3, h4, h5, h6⟩ := h.out
  obtain ⟨w, h7, h8⟩ := h6.at_ i p hi
  have hlt : i < ps.length := by
    rcases Nat.lt_or_ge i ps.length with h' | h'
    · exact h'
    · rw [List.getElem?_eq_none h'] at hi; cases hi
  refine ⟨b, w, ?_, rfl, exLd1_row h2 h7, .fresh h2.lt (by omega), h8⟩
  rw [exIaS_int (by omega) (by omega)]; simp
end Go.Proofs.K25
end
