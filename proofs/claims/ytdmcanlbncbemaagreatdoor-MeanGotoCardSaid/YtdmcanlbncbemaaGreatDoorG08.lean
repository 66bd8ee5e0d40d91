/-
  A part of the reckoner for the statements of a Go program: what it answers, the model answers. Holds for every program whose tables are as given.
-/
import Derived.Below
import Derived.Laws.Externs
import Derived.Lib.MakeNoZero
import Derived.Test.YtdmcanlbncbemaaGreatDoorG00
import Derived.Test.YtdmcanlbncbemaaGreatDoorG06
import Derived.Test.YtdmcanlbncbemaaGreatDoorG07
set_option linter.unusedSimpArgs false
set_option linter.unusedVariables false
set_option linter.unusedSectionVars false
noncomputable section
namespace Go.Ev.F
variable [SyQ]
theorem join_join (r w r1 w1 : Nat) (x : CR) : CR.join (Nat.lor r r1) (Nat.lor w w1) x = CR.join r w (CR.join r1 w1 x) := by
  cases x with
  | fail => rfl
  | mk x t ds H r' w' => simp only [CR.join, lor_assoc']
theorem endOR_fail (K : CR → TR) : endOR .fail K = K .fail := rfl
theorem endOR_mk (x : Ex) (t : T Value) (ds : List Deferred) (H : Hp) (a : Acc) (r w : Nat) (K : CR → TR) : endOR (.mk x t ds H a r w) K = K (.mk x t ds H r w) := rfl
theorem crGo_fail (k : CK) (tb : Tb) (rec : RK) (cx : Cx) (K : CR → TR) : crGo .fail k tb rec cx K = K .fail := rfl
theorem crGo_norm (t : T Value) (ds : List Deferred) (H : Hp) (r w : Nat) (k : CK) (tb : Tb) (rec : RK) (cx : Cx) (K : CR → TR) : crGo (.mk .normal t ds H r w) k tb rec cx K = k tb rec cx t ds H r w K := rfl
theorem crGo_not {x : Ex} (hx : x ≠ .normal) (t : T Value) (ds : List Deferred) (H : Hp) (r w : Nat) (k : CK) (tb : Tb) (rec : RK) (cx : Cx) (K : CR → TR) : crGo (.mk x t ds H r w) k tb rec cx K = K (.mk x t ds H r w) := by
  cases x with
  | normal => exact absurd rfl hx
  | _ => rfl
theorem outK_eq (x : CR) (id : Nat) (K : CR → TR) : outK x id K = K (outBlock id x) := by
  cases x with
  | fail => rfl
  | mk x t ds H r w =>
    cases x with
    | exit j =>
      show Bc (Nat.beq j id) (K (.mk .normal t ds H r w)) (K (.mk (.exit j) t ds H r w)) = K (Bc (Nat.beq j id) (.mk .normal t ds H r w) (.mk (.exit j) t ds H r w))
      cases Nat.beq j id <;> rfl
    | _ => rfl
theorem outBlock_join (id r w : Nat) (x : CR) : outBlock id (CR.join r w x) = CR.join r w (outBlock id x) := by
  cases x with
  | fail => rfl
  | mk x t ds H r' w' =>
    cases x with
    | exit j =>
      show Bc (Nat.beq j id) _ _ = CR.join r w (Bc (Nat.beq j id) _ _)
      cases Nat.beq j id <;> rfl
    | _ => rfl
theorem ofTRK_c (x : CR) (K : CR → TR) : ofTRK (.c x) K = K x := rfl
theorem ofTRK_k (x : KR) (K : CR → TR) : ofTRK (.k x) K = K .fail := rfl
def CRel (z y : CR) : Prop := z = .fail ∨ z = y
theorem endORd_eq (tb : Tb) (nt d : Nat) (ops : Array Oper) {x : Ex} {t : T Value} {ds : List Deferred} {H : Hp} {a a' : Acc} {r w : Nat} (h : AccRel x a a') :
    endORd tb nt d ops (.mk x t ds H a r w) = ofORd tb nt d ops (Region.before ops) (.mk x t ds H a' r w) := by
  cases x with
  | normal =>
    show Bc (Nat.ble (Go.CheckFast.beforeF ops).toList.length 512) (okDraw (bT (Go.CheckFast.beforeF ops).toList) a (.mk .normal t ds H r w)) (Bc (okPair (Go.CheckFast.beforeF ops) a) (.mk .normal t ds H r w) .fail) = Bc (okPair (Region.before ops) a') (.mk .normal t ds H r w) .fail
    have h : filtF a = filtF a' := h
    cases e : Nat.ble (Go.CheckFast.beforeF ops).toList.length 512 with
    | true =>
      rw [Bc_t]
      unfold okDraw
      rw [okPairF_eq _ ((ble_iff _ _).1 e), h, okPair_filt, Go.CheckFast.beforeF_eq]
    | false => rw [Bc_f, ← okPair_filt _ a, h, okPair_filt, Go.CheckFast.beforeF_eq]
  | panic v =>
    obtain ⟨j, rest, rest', rfl, rfl, h⟩ := h
    show ofORd tb nt d ops (Go.CheckFast.beforeF ops) (.mk (.panic v) t ds H ((j, 0, 0) :: rest) r w) = _
    rw [Go.CheckFast.beforeF_eq]
    simp only [ofORd]
    rw [← okPair_filt _ rest, h, okPair_filt]
  | _ => rfl
theorem drAll_seq {a b : Code} (h : drAll (.seq a b) = true) : drAll a = true ∧ drAll b = true := by
  have h : Bc (drAll a) (drAll b) false = true := h
  cases ha : drAll a with
  | true => rw [ha] at h; exact ⟨rfl, h⟩
  | false => rw [ha] at h; cases h
section
variable {tb : Tb} {rec : RK} {rec' : Rec} (hrec : RecF rec rec')
include hrec
theorem loop_ok {cx : Cx} {b : Code} (hb : drAll b = true) (ih : ∀ (t : T Value) (ds : List Deferred) (H : Hp) (r w : Nat) (K : CR → TR), ∃ z, codeK b tb rec cx t ds H r w K = K z ∧ CRel z (CR.join r w (evCC tb rec' cx b t ds H))) (t : T Value) (ds : List Deferred) (H : Hp) (r w : Nat) (K : CR → TR) :
    ∃ z, c_loop b (codeK b) tb rec cx t ds H r w K = K z ∧ CRel z (CR.join r w (Bc (tb.hk cx.nt b) (sumUp tb b t ds H) (CR.andThen (evCC tb rec' cx b t ds H) fun t ds H => CR.ofTR (rec' (.loop b cx t ds) H)))) := by
  show ∃ z, condB (tb.hk cx.nt b) (sumK b) (loopK b (codeK b)) tb rec cx t ds H r w K = K z ∧ _
  cases tb.hk cx.nt b with
  | true => exact ⟨_, rfl, .inr rfl⟩
  | false =>
    rw [Bc_f]
    show ∃ z, codeK b tb rec cx t ds H r w (fun x => crGo x (againK b) tb rec cx K) = K z ∧ _
    obtain ⟨z, e, hz⟩ := ih t ds H r w (fun x => crGo x (againK b) tb rec cx K)
    rw [e]
    clear e
    rcases hz with rfl | rfl
    · rw [crGo_fail]; exact ⟨_, rfl, .inl rfl⟩
    · cases hev : evCC tb rec' cx b t ds H with
      | fail => exact ⟨_, rfl, .inl rfl⟩
      | mk x t1 ds1 H1 r1 w1 =>
        simp only [CR.join]
        by_cases hx : x = .normal
        · subst hx
          rw [crGo_norm]
          show ∃ z, rec (.loop b cx t1 ds1) H1 (Nat.lor r r1) (Nat.lor w w1) (fun x => ofTRK x K) = K z ∧ _
          obtain ⟨y, e, hy⟩ := hrec (.loop b cx t1 ds1) H1 (Nat.lor r r1) (Nat.lor w w1) (fun x => ofTRK x K) hb
          rw [e]
          clear e
          rcases hy with hy | hy
          · rcases isF_inv hy with ⟨n, rfl⟩ | rfl
            · rw [ofTRK_k]; exact ⟨_, rfl, .inl rfl⟩
            · rw [ofTRK_c]; exact ⟨_, rfl, .inl rfl⟩
          · subst hy
            cases hr : rec' (.loop b cx t1 ds1) H1 with
            | c x =>
              simp only [joinT, ofTRK_c]
              refine ⟨_, rfl, .inr ?_⟩
              simp only [CR.andThen, hr, CR.ofTR]
              exact join_join _ _ _ _ _
            | k x =>
              cases x <;> exact ⟨_, rfl, .inl rfl⟩
        · rw [crGo_not hx]
          refine ⟨_, rfl, .inr ?_⟩
          cases x <;> first | exact absurd rfl hx | rfl
theorem codeK_ok : ∀ (c : Code), drAll c = true → ∀ (cx : Cx) (t : T Value) (ds : List Deferred) (H : Hp) (r w : Nat) (K : CR → TR), ∃ z, codeK c tb rec cx t ds H r w K = K z ∧ CRel z (CR.join r w (evCC tb rec' cx c t ds H)) := by
  intro c
  induction c with
  | skip => intro _ cx t ds H r w K; exact ⟨.mk .normal t ds H r w, rfl, .inr (by simp only [evCC, CR.join, lor_zero'])⟩
  | label l => intro _ cx t ds H r w K; exact ⟨.mk .normal t ds H r w, rfl, .inr (by simp only [evCC, CR.join, lor_zero'])⟩
  | ret => intro _ cx t ds H r w K; exact ⟨.mk .ret t ds H r w, rfl, .inr (by simp only [evCC, CR.join, lor_zero'])⟩
  | exit id => intro _ cx t ds H r w K; exact ⟨.mk (.exit id) t ds H r w, rfl, .inr (by simp only [evCC, CR.join, lor_zero'])⟩
  | goto l => intro _ cx t ds H r w K; exact ⟨.mk (.goto l) t ds H r w, rfl, .inr (by simp only [evCC, CR.join, lor_zero'])⟩
  | refuse y => intro _ cx t ds H r w K; exact ⟨.fail, rfl, .inl rfl⟩
  | scope b ih => intro _ cx t ds H r w K; exact ⟨.fail, rfl, .inl rfl⟩
  | region id ops draw =>
    intro hd cx t ds H r w K
    cases draw with
    | false =>
      show ∃ z, opsK (compOsF tb cx.nt ops ops.toList) ⟨rec, cx, fun x => endOR x K⟩ 0 t ds H ⟨[], r, w⟩ = K z ∧ _
      rw [compOsF_eq]
      obtain ⟨z, e, hz⟩ := opsK_ok hrec (cx := cx) (compOs tb cx.nt ops ops.toList) (fun x => endOR x K) 0 t ds H ⟨[], r, w⟩ [] 0 0 r w rfl (lor_zero' _).symm (lor_zero' _).symm
      rw [e]
      rcases hz with rfl | ⟨x, t', ds', H', a, a', r', w', rfl, e2, e3⟩
      · exact ⟨.fail, rfl, .inl rfl⟩
      · rw [endOR_mk]
        exact ⟨_, rfl, .inr (by simp only [evCC, e2, ofOR, CR.join])⟩
    | true =>
      have hd : drawOk ops (Region.before ops) = true := hd
      show ∃ z, opsK (compOsF tb cx.nt ops ops.toList) ⟨rec, ⟨cx.d, cx.nt, cx.rnd, true⟩, fun x => K (CR.join r w (endORd tb cx.nt cx.d ops x))⟩ 0 t ds H ⟨[], 0, 0⟩ = K z ∧ _
      rw [compOsF_eq]
      obtain ⟨z, e, hz⟩ := opsK_ok hrec (cx := ⟨cx.d, cx.nt, cx.rnd, true⟩) (compOs tb cx.nt ops ops.toList) (fun x => K (CR.join r w (endORd tb cx.nt cx.d ops x))) 0 t ds H ⟨[], 0, 0⟩ [] 0 0 0 0 rfl rfl rfl
      rw [e]
      rcases hz with rfl | ⟨x, t', ds', H', a, a', r', w', rfl, e2, e3⟩
      · exact ⟨.fail, rfl, .inl rfl⟩
      · refine ⟨_, rfl, .inr ?_⟩
        rw [zero_lor', zero_lor', endORd_eq tb cx.nt cx.d ops e3]
        simp only [evCC, hd, Bc_t, e2]
  | seq a b iha ihb =>
    intro hd cx t ds H r w K
    obtain ⟨ha, hb⟩ := drAll_seq hd
    show ∃ z, codeK a tb rec cx t ds H r w (fun x => crGo x (codeK b) tb rec cx K) = K z ∧ _
    obtain ⟨z, e, hz⟩ := iha ha cx t ds H r w (fun x => crGo x (codeK b) tb rec cx K)
    rw [e]
    clear e
    simp only [evCC]
    rcases hz with rfl | rfl
    · rw [crGo_fail]; exact ⟨_, rfl, .inl rfl⟩
    · cases hev : evCC tb rec' cx a t ds H with
      | fail => exact ⟨_, rfl, .inl rfl⟩
      | mk x t1 ds1 H1 r1 w1 =>
        simp only [CR.join]
        by_cases hx : x = .normal
        · subst hx
          rw [crGo_norm]
          obtain ⟨z2, e2, hz2⟩ := ihb hb cx t1 ds1 H1 (Nat.lor r r1) (Nat.lor w w1) K
          rw [e2]
          refine ⟨z2, rfl, hz2.imp id fun h => h.trans ?_⟩
          simp only [CR.andThen]
          exact join_join _ _ _ _ _
        · rw [crGo_not hx]
          refine ⟨_, rfl, .inr ?_⟩
          cases x <;> first | exact absurd rfl hx | rfl
  | cond c a b iha ihb =>
    intro hd cx t ds H r w K
    obtain ⟨ha, hb⟩ := drAll_seq (a := a) (b := b) hd
    show ∃ z, Bc (okO tb cx.nt c) (condV (evO c t) (codeK a) (codeK b) tb rec cx t ds H r w K) (K .fail) = K z ∧ _
    simp only [evCC]
    cases okO tb cx.nt c with
    | false => exact ⟨.fail, rfl, .inl rfl⟩
    | true =>
      rw [Bc_t, Bc_t, evO_eq]
      cases evalO t c with
      | bool x =>
        cases x with
        | true => exact iha ha cx t ds H r w K
        | false => exact ihb hb cx t ds H r w K
      | _ => exact ⟨.fail, rfl, .inl rfl⟩
  | block id b ih =>
    intro hd cx t ds H r w K
    show ∃ z, codeK b tb rec cx t ds H r w (fun x => outK x id K) = K z ∧ _
    obtain ⟨z, e, hz⟩ := ih hd cx t ds H r w (fun x => outK x id K)
    rw [e, outK_eq]
    simp only [evCC]
    refine ⟨_, rfl, ?_⟩
    rcases hz with rfl | rfl
    · exact .inl rfl
    · exact .inr (outBlock_join _ _ _ _)
  | loop b ih =>
    intro hd cx t ds H r w K
    simp only [evCC]
    show ∃ z, c_loop b (codeK b) tb rec cx t ds H r w K = K z ∧ _
    exact loop_ok (tb := tb) (cx := cx) (b := b) hrec hd (fun t ds H r w K => ih hd cx t ds H r w K) t ds H r w K
  | rangeFunc f ps a b _ _ =>
    intro hd cx t ds H r w K
    show ∃ z, c_range f ps a b tb rec cx t ds H r w K = K z ∧ _
    unfold c_range
    simp only [evCC, evRange]
    cases cx.rnd with
    | some l => exact ⟨.fail, rfl, .inl rfl⟩
    | none =>
      simp only
      cases okO tb cx.nt f && ps.toList.all (fun p => Nat.blt p cx.nt) with
      | false => exact ⟨.fail, rfl, .inl rfl⟩
      | true =>
        rw [Bc_t, Bc_t]
        split
        · rename_i k1 db H1 r1 w1 h1
          simp only [h1]
          split
          · rename_i k2 l H2 r2 w2 h2
            simp only [h2]
            split
            · rename_i g args h3
              simp only [h3]
              cases hasBody tb g with
              | false => exact ⟨.fail, rfl, .inl rfl⟩
              | true =>
                rw [Bc_t, Bc_t]
                obtain ⟨y, e, hy⟩ := hrec (.call g args) H2 0 0 (fun x => K (CR.join r w (afterRange l t ({ target := .collected db, args := #[] } :: ds) x))) trivial
                rw [e]
                refine ⟨_, rfl, ?_⟩
                rcases hy with hy | hy
                · rcases isF_inv hy with ⟨n, rfl⟩ | rfl <;> exact .inl rfl
                · right
                  rw [hy]
                  cases rec' (.call g args) H2 with
                  | c x => rfl
                  | k x =>
                    cases x with
                    | ret v H' r' w' => simp only [joinT, zero_lor']
                    | panic v H' r' w' => simp only [joinT, zero_lor']
                    | _ => rfl
            · exact ⟨.fail, rfl, .inl rfl⟩
          · exact ⟨.fail, rfl, .inl rfl⟩
        · exact ⟨.fail, rfl, .inl rfl⟩
end
end Go.Ev.F
end
noncomputable section
namespace Go.Ev.F
variable [SyQ]
def DrOk (tb : Tb) : Prop := ∀ f fn c, tb.fn f = some fn → fn.body = some c → drAll c = true
def Kd : TR → Prop
  | .k (.ret _ _ _ _) => True
  | .k (.panic _ _ _ _) => True
  | _ => False
def Shp : Task → TR → Prop
  | .loop _ _ _ _, _ => True
  | .dcall _ _ _, _ => True
  | _, y => Kd y
def RecS (rec : RK) (rec' : Rec) : Prop := ∀ tk H r w K, TaskDr tk → ∃ y, rec tk H r w K = K y ∧ (isF y ∨ (y = joinT r w (rec' tk H) ∧ Shp tk y))
theorem RecS.f {rec : RK} {rec' : Rec} (h : RecS rec rec') : RecF rec rec' := fun tk H r w K hd => let ⟨y, e, hy⟩ := h tk H r w K hd; ⟨y, e, hy.imp id (·.1)⟩
theorem joinT_join (r w r1 w1 : Nat) (x : TR) : joinT (Nat.lor r r1) (Nat.lor w w1) x = joinT r w (joinT r1 w1 x) := by
  cases x with
  | c x => simp only [joinT, join_join]
  | k x => cases x <;> simp only [joinT, lor_assoc']
theorem joinT_kr {r w r1 w1 : Nat} {x : TR} (h : Kd (joinT r w x)) : joinT r1 w1 x = KR.join r1 w1 x := by
  cases x with
  | c x => exact h.elim
  | k x =>
    cases x with
    | ret v H r' w' => simp only [joinT, KR.join, Fz_eq]
    | panic v H r' w' => rfl
    | fail n => exact h.elim
    | drop m H r' w' => exact h.elim
    | dpan v H r' w' => exact h.elim
theorem lor_ac1 (a r r1 r2 : Nat) : Nat.lor a (Nat.lor (Nat.lor r r1) r2) = Nat.lor r (Nat.lor (Nat.lor a r1) r2) := by
  show a ||| (r ||| r1 ||| r2) = r ||| (a ||| r1 ||| r2)
  ac_rfl
theorem lor_ac2 (a w w1 w2 : Nat) : Nat.lor a (Nat.lor (Nat.lor (Nat.lor w w1) w2) a) = Nat.lor w (Nat.lor (Nat.lor w1 a) (Nat.lor w2 a)) := by
  show a ||| (w ||| w1 ||| w2 ||| a) = w ||| (w1 ||| a ||| (w2 ||| a))
  ac_rfl
theorem endRound_ok (l r w r1 w1 : Nat) (x : CR) : isF (endRound l (bit l) (bit l) (CR.join (Nat.lor r r1) (Nat.lor w w1) x)) ∨ (endRound l (bit l) (bit l) (CR.join (Nat.lor r r1) (Nat.lor w w1) x) = joinT r w (endRound l (Nat.lor (bit l) r1) (Nat.lor w1 (bit l)) x) ∧ Kd (endRound l (bit l) (bit l) (CR.join (Nat.lor r r1) (Nat.lor w w1) x))) := by
  cases x with
  | fail => exact .inl trivial
  | mk x t ds H r2 w2 =>
    simp only [CR.join, endRound]
    split
    · cases x with
      | panic v => exact .inl trivial
      | _ => exact .inr ⟨by simp only [joinT]; rw [lor_ac1, lor_ac2], trivial⟩
    · exact .inl trivial
section
variable {tb : Tb} {sp : Sp} {rec : RK} {rec' : Rec} (hrec : RecS rec rec') (hdr : DrOk tb)
include hrec
theorem unw_ok (nt : Nat) (res : List ResultVar) (m : FrameMode) (t : T Value) (ds : List Deferred) (H : Hp) (r w r1 w1 : Nat) (K : TR → TR) :
    ∃ y, rec (.unwind nt res t ds m) H (Nat.lor r r1) (Nat.lor w w1) K = K y ∧ (isF y ∨ (y = joinT r w (KR.join r1 w1 (rec' (.unwind nt res t ds m) H)) ∧ Kd y)) := by
  obtain ⟨y, e, hy⟩ := hrec (.unwind nt res t ds m) H (Nat.lor r r1) (Nat.lor w w1) K trivial
  refine ⟨y, e, hy.imp id fun ⟨h1, h2⟩ => ⟨?_, h2⟩⟩
  have h2 : Kd y := h2
  rw [h1] at h2 ⊢
  rw [joinT_join, joinT_kr h2]
theorem body_ok (fn : Func) (x : CR) (r w : Nat) (K : TR → TR) : ∃ y, bodyK (CR.join r w x) fn tb rec K = K y ∧ (isF y ∨ (y = joinT r w (afterBody rec' fn x) ∧ Kd y)) := by
  cases x with
  | fail => exact ⟨_, rfl, .inl trivial⟩
  | mk x t ds H r1 w1 =>
    cases x with
    | normal => exact unw_ok hrec fn.ntmps fn.results.toList .returning t ds H r w r1 w1 K
    | ret => exact unw_ok hrec fn.ntmps fn.results.toList .returning t ds H r w r1 w1 K
    | exit id => exact ⟨.k (.fail 2), rfl, .inl trivial⟩
    | goto l => exact ⟨.k (.fail 2), rfl, .inl trivial⟩
    | panic v => exact unw_ok hrec fn.ntmps fn.results.toList (.panicking [{ v, recovered := false }]) t ds H r w r1 w1 K
include hdr
theorem call_ok (f : FuncId) (args : List Value) (H : Hp) (r w : Nat) (K : TR → TR) : ∃ y, callF (tb.fn f) tb rec args H r w K = K y ∧ (isF y ∨ (y = joinT r w (evCall tb rec' f args H) ∧ Kd y)) := by
  unfold evCall
  cases hf : tb.fn f with
  | none => exact ⟨.k (.fail 3), rfl, .inl trivial⟩
  | some fn =>
    show ∃ y, callB fn.body fn tb rec args H r w K = K y ∧ _
    simp only
    cases hb : fn.body with
    | none => exact ⟨.k (.fail 4), rfl, .inl trivial⟩
    | some c =>
      show ∃ y, callC c fn tb rec args H r w K = K y ∧ _
      unfold callC
      simp only
      cases Nat.ble args.length fn.ntmps with
      | false => exact ⟨.k (.fail 14), rfl, .inl trivial⟩
      | true =>
        rw [Bc_t, Bc_t]
        obtain ⟨z, e, hz⟩ := codeK_ok (tb := tb) hrec.f c (hdr f fn c hf hb) ⟨dep fn.ntmps, fn.ntmps, none, false⟩ (enterT fn args) [] H r w (fun x => bodyK x fn tb rec K)
        rw [e]
        rcases hz with rfl | rfl
        · exact ⟨_, rfl, .inl trivial⟩
        · exact body_ok hrec fn _ r w K
omit hdr
theorem unwind_ok (nt : Nat) (res : List ResultVar) (t : T Value) (ds : List Deferred) (m : FrameMode) (H : Hp) (r w : Nat) (K : TR → TR) :
    ∃ y, unwindK nt res t ds m tb rec H r w K = K y ∧ (isF y ∨ (y = joinT r w (evUnwind tb rec' nt res t ds m H) ∧ Kd y)) := by
  unfold unwindK evUnwind
  cases ds with
  | nil =>
    simp only
    unfold unwEnd
    split
    · split
      · rename_i l r' h
        refine ⟨.k (.ret (resV l) H (Nat.lor r r') w), by unfold unwRet; rw [Fz_eq], .inr ⟨?_, trivial⟩⟩
        simp only [joinT, lor_zero', h]
      · exact ⟨_, rfl, .inl trivial⟩
    · rename_i v
      refine ⟨_, rfl, .inr ⟨?_, trivial⟩⟩
      simp only [joinT, lor_zero']
    · exact ⟨_, rfl, .inl trivial⟩
  | cons d ds =>
    simp only
    generalize hd : d.target = tg
    split
    · rename_i b
      simp only
      generalize H.blk b = bk
      split
      · have := unw_ok hrec nt res m t ds (H.put b .no) r w 0 (bit b) K
        rw [lor_zero'] at this
        exact this
      · exact ⟨_, rfl, .inl trivial⟩
    · rename_i f cap
      simp only
      obtain ⟨y, e, hy⟩ := hrec (.dcall f (d.args.toList ++ cap.toList) m) H r w (aftDefK nt res t ds rec K) trivial
      rw [e]
      clear e
      unfold afterDefer
      rcases hy with hy | ⟨hy, _⟩
      · rcases isF_inv hy with ⟨n, rfl⟩ | rfl
        · exact ⟨_, rfl, .inl trivial⟩
        · exact ⟨_, rfl, .inl trivial⟩
      · subst hy
        cases rec' (.dcall f (d.args.toList ++ cap.toList) m) H with
        | c x => exact ⟨.k (.fail 5), rfl, .inl trivial⟩
        | k x =>
          cases x with
          | ret v H' r' w' => exact ⟨.k (.fail 5), rfl, .inl trivial⟩
          | panic v H' r' w' => exact ⟨.k (.fail 5), rfl, .inl trivial⟩
          | fail n => exact ⟨.k (.fail 5), rfl, .inl trivial⟩
          | dpan v H' r' w' => exact unw_ok hrec nt res (.panicking [{ v, recovered := false }]) t ds H' r w r' w' K
          | drop m' H' r' w' =>
            simp only [joinT, aftDefK]
            cases hs : settleM m' with
            | run => exact ⟨_, rfl, .inl trivial⟩
            | returning => exact unw_ok hrec nt res .returning t ds H' r w r' w' K
            | panicking l => exact unw_ok hrec nt res (.panicking l) t ds H' r w r' w' K
    · exact ⟨_, rfl, .inl trivial⟩
theorem round_ok (l : Nat) (args : List Value) (H : Hp) (r w : Nat) (K : TR → TR) : ∃ y, t_round l args tb sp rec H r w K = K y ∧ (isF y ∨ (y = joinT r w (evRound tb rec' l args H) ∧ Kd y)) := by
  unfold t_round
  split
  · rename_i nt lt ps a b db hbk
    split
    · exact ⟨_, rfl, .inl trivial⟩
    · rename_i t hset
      cases hd : drAll a && drAll b with
      | false => exact ⟨.k (.fail 24), rfl, .inl trivial⟩
      | true =>
        rw [Bc_t]
        rw [Bool.and_eq_true] at hd
        obtain ⟨z, e, hz⟩ := codeK_ok (tb := tb) hrec.f a hd.1 ⟨dep nt, nt, some l, false⟩ t [] H r w (rnd2 l nt b tb rec K)
        rw [e]
        clear e
        rcases hz with rfl | rfl
        · exact ⟨_, rfl, .inl trivial⟩
        · cases hev : evCC tb rec' ⟨dep nt, nt, some l, false⟩ a t [] H with
          | fail => exact ⟨.k (.fail 12), rfl, .inl trivial⟩
          | mk x t1 ds1 H1 r1 w1 =>
            cases x with
            | normal =>
              cases ds1 with
              | cons d ds => exact ⟨.k (.fail 12), rfl, .inl trivial⟩
              | nil =>
                simp only [CR.join, rnd2]
                split
                · rename_i nt2 lt2 ps2 a2 b2 db2 hb2
                  obtain ⟨z, e, hz⟩ := codeK_ok (tb := tb) hrec.f b hd.2 ⟨dep nt, nt, some l, false⟩ t1 [] (H1.put l (.loop false none nt2 lt2 ps2 a2 b2 db2)) (Nat.lor r r1) (Nat.lor w w1) (fun x => K (endRound l (bit l) (bit l) x))
                  rw [e]
                  rcases hz with rfl | rfl
                  · exact ⟨_, rfl, .inl trivial⟩
                  · have hev2 : evRound tb rec' l args H = endRound l (Nat.lor (bit l) r1) (Nat.lor w1 (bit l)) (evCC tb rec' ⟨dep nt, nt, some l, false⟩ b t1 [] (H1.put l (.loop false none nt2 lt2 ps2 a2 b2 db2))) := by
                      unfold evRound; simp only [hbk, hset, hev, hb2]
                    rw [hev2]
                    exact ⟨_, rfl, endRound_ok l r w r1 w1 _⟩
                · exact ⟨_, rfl, .inl trivial⟩
            | _ => exact ⟨.k (.fail 12), rfl, .inl trivial⟩
  · exact ⟨_, rfl, .inl trivial⟩
include hdr
theorem stepK_ok : RecS (stepK tb sp rec) (evTask tb sp rec') := by
  intro tk H r w K hd
  cases tk with
  | call f args =>
    show ∃ y, spK (sp f args H) f tb rec args H r w K = K y ∧ _
    simp only [evTask]
    cases hs : sp f args H with
    | some q =>
      obtain ⟨v, H', r', w'⟩ := q
      refine ⟨.k (spKR v H' (Nat.lor r r') (Nat.lor w w')), ?_, .inr ?_⟩
      · show Fz _ (Fz _ _) = _
        rw [Fz_eq, Fz_eq]
      · show TR.k (spKR v H' (Nat.lor r r') (Nat.lor w w')) = joinT r w (.k (spKR v H' r' w')) ∧ _
        unfold spKR
        cases unPan v <;> exact ⟨rfl, trivial⟩
    | none => exact call_ok hrec hdr f args H r w K
  | dcall f args um =>
    refine ⟨_, rfl, ?_⟩
    simp only [evTask]
    cases evDCall tb f args um H with
    | c x => exact .inl trivial
    | k x =>
      cases x with
      | drop m H' r' w' => exact .inr ⟨rfl, trivial⟩
      | dpan v H' r' w' => exact .inr ⟨rfl, trivial⟩
      | _ => exact .inl trivial
  | round l args => exact round_ok (sp := sp) hrec l args H r w K
  | loop b cx t ds =>
    show ∃ y, c_loop b (codeK b) tb rec cx t ds H r w (fun x => K (.c x)) = K y ∧ _
    obtain ⟨z, e, hz⟩ := loop_ok (tb := tb) (cx := cx) (b := b) hrec.f hd (fun t ds H r w K => codeK_ok hrec.f b hd cx t ds H r w K) t ds H r w (fun x => K (.c x))
    refine ⟨.c z, e, ?_⟩
    rcases hz with rfl | rfl
    · exact .inl trivial
    · exact .inr ⟨rfl, trivial⟩
  | unwind nt res t ds m => exact unwind_ok hrec nt res t ds m H r w K
end
theorem evK_ok {tb : Tb} (hdr : DrOk tb) (sp : Sp) : ∀ n, RecS (evK tb sp n) (ev tb sp n)
  | 0 => fun tk H r w K _ => ⟨.k (.fail 0), rfl, .inl trivial⟩
  | n + 1 => stepK_ok (evK_ok hdr sp n) hdr
theorem evK_ret {tb : Tb} (hdr : DrOk tb) {sp : Sp} {n : Nat} {f : FuncId} {args : List Value} {H : Hp} {v : Value} {H' : Hp} {r w : Nat} (h : evK tb sp n (.call f args) H 0 0 (fun x => x) = .k (.ret v H' r w)) :
    ev tb sp n (.call f args) H = .k (.ret v H' r w) := by
  obtain ⟨y, e, hy⟩ := evK_ok hdr sp n (.call f args) H 0 0 (fun x => x) trivial
  have e : evK tb sp n (.call f args) H 0 0 (fun x => x) = y := e
  rw [h] at e
  subst e
  rcases hy with hy | ⟨hy, _⟩
  · exact hy.elim
  · cases hr : ev tb sp n (.call f args) H with
    | c x => rw [hr] at hy; cases hy
    | k x =>
      rw [hr] at hy
      cases x with
      | ret v1 H1 r1 w1 => simp only [joinT, zero_lor'] at hy; exact hy.symm
      | _ => cases hy
theorem evK_panic {tb : Tb} (hdr : DrOk tb) {sp : Sp} {n : Nat} {f : FuncId} {args : List Value} {H : Hp} {v : Value} {H' : Hp} {r w : Nat} (h : evK tb sp n (.call f args) H 0 0 (fun x => x) = .k (.panic v H' r w)) :
    ev tb sp n (.call f args) H = .k (.panic v H' r w) := by
  obtain ⟨y, e, hy⟩ := evK_ok hdr sp n (.call f args) H 0 0 (fun x => x) trivial
  have e : evK tb sp n (.call f args) H 0 0 (fun x => x) = y := e
  rw [h] at e
  subst e
  rcases hy with hy | ⟨hy, _⟩
  · exact hy.elim
  · cases hr : ev tb sp n (.call f args) H with
    | c x => rw [hr] at hy; cases hy
    | k x =>
      rw [hr] at hy
      cases x with
      | panic v1 H1 r1 w1 => simp only [joinT, zero_lor'] at hy; exact hy.symm
      | _ => cases hy
end Go.Ev.F
end
noncomputable section
namespace Go.Ev
def notB (v : Value) : Bool := match v with | .bool _ => false | _ => true
def all2 (f : Value → Value → Bool) : List Value → List Value → Bool
  | [], [] => true
  | x :: xs, y :: ys => f x y && all2 f xs ys
  | _, _ => false
def covV (tab : Nat → Option Value) (pm : Nat → Nat → Bool) : Nat → Value → Value → Bool
  | 0, _, _ => false
  | d + 1, c, v => match c with
    | .bool a => (match v with | .bool b => (a && b) || (!a && !b) | _ => false)
    | .int k x => (match v with | .int j y => eqK k j && eqI x y | .chan (some j) => (match tab j with | some (.int i y) => eqK k i && eqI x y | _ => false) | _ => false)
    | .string s => (match v with | .string s' => eqBs s.data.toList s'.data.toList | _ => false)
    | .pointer a => (match a, v with
      | none, .pointer none => true
      | some ⟨b, o, none⟩, .pointer (some ⟨b', o', none⟩) => pm b b' && Nat.beq o o'
      | _, _ => false)
    | .slice a l k => (match a, v with
      | none, .slice none l' k' => Nat.beq l l' && Nat.beq k k'
      | some ⟨b, o, none⟩, .slice (some ⟨b', o', none⟩) l' k' => pm b b' && Nat.beq o o' && Nat.beq l l' && (Nat.beq k k' || (Nat.beq (k % 2) 1 && Nat.beq (k' % 2) 1 && Nat.ble k k'))
      | _, _ => false)
    | .map a => (match a, v with
      | none, .map none => true
      | some b, .map (some b') => pm b b'
      | _, _ => false)
    | .chan none => notB v
    | .chan (some k) => (match v with
      | .chan (some j) => Nat.beq k j || Nat.beq k 0
      | .int i x => Nat.beq k 0 || (match tab k with | some (.int j y) => eqK j i && eqI y x | _ => false)
      | v => Nat.beq k 0 && oneC v && notB v)
    | .func (.func f) as cs => (match v with | .func (.func f') as' cs' => Nat.beq f f' && all2 (covV tab pm d) as.toList as'.toList && all2 (covV tab pm d) cs.toList cs'.toList | _ => false)
    | .nilFunc => (match v with | .nilFunc => true | _ => false)
    | .iface t x => (match v with | .iface t' y => Nat.beq t t' && covV tab pm d x y | _ => false)
    | .nilIface => (match v with | .nilIface => true | _ => false)
    | .agg a => (match v with | .agg b => a.toList.all oneC && all2 (covV tab pm d) a.toList b.toList | _ => false)
    | .tuple a => (match v with | .tuple b => all2 (covV tab pm d) a.toList b.toList | _ => false)
    | _ => false
def pm0 (n0 b b' : Nat) : Bool := Nat.beq b b' && Nat.blt b n0
def covLf (f : Value → Value → Bool) (c v : Value) : Bool := f c v && (oneC c || !oneC v)
def covO (f : Value → Value → Bool) : (d : Nat) → Oc Value d → Oc Value d → Bool
  | 0, x, y => f x y
  | d + 1, x, y => match (x : N8 (Oc Value d)), (y : N8 (Oc Value d)) with
    | ⟨a, b, c, e, g, h, i, j⟩, ⟨a', b', c', e', g', h', i', j'⟩ => covO f d a a' && (covO f d b b' && (covO f d c c' && (covO f d e e' && (covO f d g g' && (covO f d h h' && (covO f d i i' && covO f d j j'))))))
def covT (f : Value → Value → Bool) (s t : T Value) : Bool := match s, t with
  | .t0 x, .t0 y => f x y
  | .t1 x, .t1 y => covO f 1 x y
  | .t2 x, .t2 y => covO f 2 x y
  | .t3 x, .t3 y => covO f 3 x y
  | .t4 x, .t4 y => covO f 4 x y
  | .t5 x, .t5 y => covO f 5 x y
  | .t6 x, .t6 y => covO f 6 x y
  | _, _ => false
def covI (f : Value → Value → Bool) (s t : T Value) : Nat → Bool
  | 0 => true
  | n + 1 => f (s.get n) (t.get n) && covI f s t n
def covB (f : Value → Value → Bool) (x y : Blk) : Bool := match x with
  | .no => true
  | .cells t n ty op lo hi => (match y with
    | .cells t2 n2 ty2 op2 lo2 hi2 => Nat.beq ty ty2 && (Nat.beq op op2 && (Nat.beq lo lo2 && (Nat.beq hi hi2 && ((Nat.beq n n2 && (Nat.beq n 0 || covT (covLf f) t t2)) || (Nat.blt 0 op && (Nat.ble n n2 && covI (covLf f) t t2 n))))))
    | _ => false)
  | _ => false
def setsT : List (Nat × Blk) → T Blk → T Blk
  | [], t => t
  | (i, B) :: l, t => setsT l (T.set 5 t i B)
def lkB : List (Nat × Blk) → Nat → Option Blk
  | [], _ => none
  | (i, B) :: l, b => match lkB l b with
    | some x => some x
    | none => if b = i then some B else none
structure Clm where
  f : FuncId
  args : List Value
  pre : List (Nat × Blk)
  n0 : Nat
  v : Value
  post : List (Nat × Blk)
  n1 : Nat
  r : Nat
  w : Nat
def Clm.fits (ng : Nat) (c : Clm) : Bool := Nat.ble ng c.n0 && (Nat.ble c.n0 c.n1 && (Nat.ble c.n1 32768 && (Nat.blt c.r (Nat.pow 2 c.n0) && (Nat.blt c.w (Nat.pow 2 c.n0) && (c.pre.all (fun x => Nat.blt x.1 c.n0) &&
  (c.post.all (fun x => Nat.blt x.1 c.n1 && (Nat.ble c.n0 x.1 || Nat.testBit c.w x.1)) && (c.pre.all (fun x => !Nat.testBit c.w x.1 || c.post.any (fun y => Nat.beq y.1 x.1)) &&
    (List.range (c.n1 - c.n0)).all (fun i => c.post.any (fun y => Nat.beq y.1 (c.n0 + i))))))))))
def spC (tab : Nat → Option Value) (c : Clm) (f : Nat) (args : List Value) (H : Hp) : Option (Value × Hp × Nat × Nat) := match H with
  | .mk t nx => Bc (Nat.beq f c.f && (all2 (covV tab (pm0 c.n0) 12) c.args args && ((Nat.beq nx c.n0 || (Nat.beq c.n1 c.n0 && Nat.ble c.n0 nx)) && c.pre.all (fun x => covB (covV tab (pm0 c.n0) 12) x.2 (t.get x.1)))))
    (some (c.v, .mk (setsT c.post t) (Bc (Nat.beq c.n1 c.n0) nx c.n1), c.r, c.w)) none
  | _ => none
def Clm.h0 (c : Clm) : Hp := .mk (setsT c.pre (.e .no)) c.n0
def Clm.h1 (c : Clm) : Hp := .mk (setsT c.post (setsT c.pre (.e .no))) c.n1
def srcOf (n0 : Nat) (src : List Nat) (b : Nat) : Nat := Bc (Nat.blt b n0) b (src.getD (b - n0) 0)
def pmS (n0 n1 : Nat) (src : List Nat) (b b' : Nat) : Bool := Nat.blt b n1 && Nat.beq (srcOf n0 src b) b' && (Nat.blt b n0 || true)
def aliveMask : List (Nat × Blk) → Nat
  | [] => 0
  | (i, B) :: l => match B with | .no => aliveMask l | _ => Nat.lor (bit i) (aliveMask l)
def nodupB : List Nat → Bool
  | [] => true
  | x :: l => !(l.any fun y => Nat.beq x y) && nodupB l
def isCells (B : Blk) : Bool := match B with | .cells .. => true | _ => false
def endB (tab : Nat → Option Value) (c : Clm) (src : List Nat) (v' : Value) (H' : Hp) (r' w' : Nat) : Bool :=
  Nat.beq (Nat.lor (Nat.land r' (2 ^ c.n0 - 1)) c.r) c.r && (Nat.beq (Nat.lor (Nat.land w' (2 ^ c.n0 - 1)) c.w) c.w && (Nat.beq (Nat.lor c.w (aliveMask c.pre)) (aliveMask c.pre) && (c.pre.all (fun x => isCells x.2) &&
  (covV tab (pmS c.n0 c.n1 src) 12 c.v v' && (c.post.all (fun x => covB (covV tab (pmS c.n0 c.n1 src) 12) x.2 (H'.blk (srcOf c.n0 src x.1))) && (Nat.ble H'.nx 32768 && (c.pre.all (fun x => covB (covV tab (pm0 c.n0) 12) x.2 x.2) && (all2 (covV tab (pm0 c.n0) 12) c.args c.args && (src.all (fun s => Nat.blt s 32768) && (Nat.beq src.length (c.n1 - c.n0) && (nodupB src &&
  src.all (fun s => Nat.ble c.n0 s || (Nat.testBit c.w s && (c.post.all (fun y => !Nat.beq y.1 s || (match y.2 with | .no => true | _ => false))))))))))))))))
end Go.Ev
end
noncomputable section
namespace Go.Ev
variable [SyQ]
def spNoEsc (args : List Value) (H : Hp) : Option (Value × Hp × Nat × Nat) := match args with
  | [x] => some (x, H, 0, 0)
  | _ => none
def spMake (u8 : TypeId) (args : List Value) (H : Hp) : Option (Value × Hp × Nat × Nat) := match args with
  | [.int .i64 (.ofNat n)] => Bc (Nat.ble n 1099511627776) (match alloc1 (.cells (.e U) 0 u8 2 0 0) H (fun i => .slice (some ⟨i, 0, none⟩) n 1) 0 0 with
    | .val v H' r w => some (v, H', r, w)
    | _ => none) none
  | _ => none
theorem arr_one {args : Array Value} {x : Value} (h : args.toList = [x]) : args = #[x] := by
  obtain ⟨l⟩ := args
  simp at h; subst h; rfl
theorem spNoEsc_ok {P : Program} {ng : Nat} {f : FuncId} (hf : ∀ (x : Value) (W : World), (callFunc f #[x]).run P W = .ok (.value x) W) {args : List Value} {H : Hp} {v : Value} {H' : Hp} {r w : Nat} (hw : H.wf) (h : spNoEsc args H = some (v, H', r, w)) :
    TaskOk P ng (.call f args) H (.k (.ret v H' r w)) := by
  unfold spNoEsc at h
  split at h
  · rename_i x
    simp only [Option.some.injEq, Prod.mk.injEq] at h
    obtain ⟨rfl, rfl, rfl, rfl⟩ := h
    refine ⟨Can.refl hw, fun β W hg p => ?_⟩
    intro args' hl
    obtain ⟨x', l, e, hx, hl'⟩ := hl.cons_inv
    have := hl'.nil_inv; subst this
    rw [arr_one e]
    exact .inr ⟨x', W, hf x' W, β, x', rfl, hx, Post.refl p.dom⟩
  · cases h
theorem spMake_ok {P : Program} {ng : Nat} {f : FuncId} {fn : Func} {ps : Array TypeId} {t u8 : TypeId} (ht : P.underlying t = some (.slice u8)) (hf : P.funcs[f]? = some fn) (hname : (fn.name == "runtime.NumGoroutine") = false) (hb : fn.body.isNone = true)
    (hn : Extern.findNext fn = none) (he : Extern.find fn = some (Extern.BytealgMakeNoZero.makeNoZero ps #[t])) {args : List Value} {H : Hp} {v : Value} {H' : Hp} {r w : Nat} (h : spMake u8 args H = some (v, H', r, w)) :
    TaskOk P ng (.call f args) H (.k (.ret v H' r w)) := by
  unfold spMake at h
  split at h
  · rename_i n
    cases hle : Nat.ble n 1099511627776 with
    | false => rw [hle, Bc_f] at h; cases h
    | true =>
      rw [hle, Bc_t, alloc1_eq] at h
      have hle' := (ble_iff _ _).1 hle
      by_cases hr : H.room = true
      case neg => rw [if_neg hr] at h; cases h
      rw [if_pos hr] at h
      simp only [Option.some.injEq, Prod.mk.injEq] at h
      obtain ⟨rfl, rfl, rfl, rfl⟩ := h
      refine ⟨can_push hr, fun β W hg p => ?_⟩
      intro args' hl
      obtain ⟨x', l, e, hx, hl'⟩ := hl.cons_inv
      have := hl'.nil_inv; subst this
      rw [arr_one e]
      cases hx
      obtain ⟨cs, hrun, hge, _⟩ := Lib.run_makeNoZero (P := P) W ps t u8 ht n (by omega)
      have hcall := run_callFunc_extern hf hname hb hn he #[.int .i64 n] W
      rw [hrun] at hcall
      simp only [Result.andThen_ok] at hcall
      have f0 : β H.nx = none := p.fresh H.nx (Nat.le_refl _) (by rw [nx_push]; omega)
      let m : Bm := ⟨W.heap.size, 0, cs.size, 1⟩
      have q := post_push (β := β) (H := H) (W := W) (.cells (.e U) 0 u8 2 0 0) (.cells cs u8) m hr rfl f0
        ⟨cs, (0, 0), rfl, rfl, by show 0 + 0 ≤ cs.size; omega, (fun h => by cases h), (fun k h => by show 1 = k; omega), (fun i hi => by omega), .inl ⟨Nat.le_refl _, .inl rfl⟩⟩ p.dom
      have hv : VRel (β.put H.nx m) (.slice (some ⟨H.nx, 0, none⟩) n 1) (.slice (some ⟨W.heap.size, 0, none⟩) n cs.size) :=
        .sl H.nx 0 n 1 cs.size m (Mp.put_same _ _ _) ⟨fun h => absurd h (by decide), fun _ => ⟨by omega, by show 0 + 0 + cs.size * 1 = cs.size; omega⟩⟩
      refine .inr ⟨_, _, hcall, β.put H.nx m, _, rfl, hv, ?_⟩
      exact q.congr rfl ⟨rfl, rfl, rfl⟩
  · cases h
def Hnone (ng : Nat) : Hp := .mk (.e .no) ng
def Mng (ng : Nat) : Mp := fun g => Bc (Nat.blt g ng) (some ⟨g, 0, 0, 0⟩) none
def retTrue (ng : Nat) (x : TR) : Bool := match x with
  | .k (.ret v _ _ w) => (match v with | .bool b => b | _ => false) && Nat.beq (Nat.land w (Nat.sub (Nat.pow 2 ng) 1)) 0
  | _ => false
theorem retTrue_inv {ng : Nat} {x : TR} (h : retTrue ng x = true) : ∃ H' r w, x = .k (.ret (.bool true) H' r w) ∧ ∀ b, b < ng → w.testBit b = false := by
  unfold retTrue at h
  split at h
  · rename_i v H' r w
    rw [Bool.and_eq_true] at h
    obtain ⟨h1, h2⟩ := h
    split at h1
    · rename_i b
      subst h1
      refine ⟨H', r, w, rfl, fun b hb => ?_⟩
      have h3 : Nat.land w (2 ^ ng - 1) = 0 := (beq_iff _ _).1 h2
      cases hw : w.testBit b with
      | false => rfl
      | true =>
        have h4 : (w &&& (2 ^ ng - 1)).testBit b = (0 : Nat).testBit b := by
          show (Nat.land w (2 ^ ng - 1)).testBit b = _
          rw [h3]
        rw [Nat.testBit_and, Nat.testBit_two_pow_sub_one, hw] at h4
        simp [hb] at h4
    · cases h1
  · cases h
theorem blk_none (ng b : Nat) : (Hnone ng).blk b = .no := by
  unfold Hnone
  rw [blk_mk]
  split <;> rfl
open Go.RowKit in
theorem closed_calls {P : Program} {tb : Tb} (ok : TbOk P tb) (hlp : LpOk P tb) {sp : Nat → List Value → Hp → Option (Value × Hp × Nat × Nat)} (hsp : SpOk P tb.ng sp) {n : Nat} {f : FuncId} (hng : tb.ng ≤ 32768) (hq : SyQ.Q (Mng tb.ng)) (hb : hasBody tb f = true)
    (h : retTrue tb.ng (ev tb sp n (.call f []) (Hnone tb.ng)) = true) (W : World) (hW : tb.ng ≤ W.heap.size) : Calls P f #[] W fun e W' => e = .returned (.bool true) ∧ Below W.heap.size W W' := by
  obtain ⟨H', r, w, hev, hw⟩ := retTrue_inv h
  have hg : GRel tb.ng (Mng tb.ng) := ⟨fun g hlt => ⟨⟨g, 0, 0, 0⟩, by unfold Mng; rw [(blt_iff _ _).2 hlt]; rfl, rfl, rfl⟩, hq⟩
  have hM : ∀ b m, Mng tb.ng b = some m → b < tb.ng ∧ m.rb = b := by
    intro b m e
    unfold Mng at e
    cases hb : Nat.blt b tb.ng with
    | false => rw [hb, Bc_f] at e; cases e
    | true => rw [hb, Bc_t] at e; cases e; exact ⟨(blt_iff _ _).1 hb, rfl⟩
  have hdead : ∀ b, ¬ alive (Hnone tb.ng) b := fun b ha => ha.2 (blk_none _ _)
  have p : Pre (Mng tb.ng) (Hnone tb.ng) H' r w W := by
    refine ⟨fun b _ ha => absurd ha (hdead b), fun b c mb mc _ _ ha => absurd ha (hdead b), fun b hb _ => ?_, fun b m e => ?_⟩
    · have hb' : tb.ng ≤ b := hb
      unfold Mng
      have : Nat.blt b tb.ng = false := by
        cases hh : Nat.blt b tb.ng with
        | false => rfl
        | true => have := (blt_iff _ _).1 hh; omega
      rw [this]; rfl
    · obtain ⟨h1, h2⟩ := hM b m e; omega
  refine (ev_calls ok hlp hsp (args' := #[]) (H := Hnone tb.ng) hng hev hb hg (LRel.nil _) p).mono fun e W' hR => ?_
  obtain ⟨β', v', rfl, hv, q⟩ := hR
  cases hv
  refine ⟨rfl, q.env.1, q.env.2.1, q.env.2.2, q.size, fun k hk => ?_⟩
  cases ho : W.heap[k]? with
  | none => have := Array.getElem?_eq_none_iff.1 ho; omega
  | some o =>
    exact q.frame k o ho fun b m hb hwb => by
      have hb' : b < tb.ng := hb
      rw [hw b hb'] at hwb; cases hwb
end Go.Ev
end
noncomputable section
namespace Go.Ev
theorem lt_bit {w n b : Nat} (h : w < 2 ^ n) (hb : w.testBit b = true) : b < n := by
  rcases Nat.lt_or_ge b n with h1 | h1
  · exact h1
  · have := Nat.testBit_lt_two_pow (Nat.lt_of_lt_of_le h (Nat.pow_le_pow_right (by decide) h1))
    rw [hb] at this; cases this
variable [SyQ]
noncomputable def Mp.cut (β : Mp) (n : Nat) : Mp := fun b => open Classical in if b < n ∨ SY ≤ b then β b else none
theorem Mp.cut_lt {β : Mp} {n b : Nat} (h : b < n) : β.cut n b = β b := by unfold Mp.cut; rw [if_pos (.inl h)]
theorem Mp.cut_sy {β : Mp} {n b : Nat} (h : SY ≤ b) : β.cut n b = β b := by unfold Mp.cut; rw [if_pos (.inr h)]
theorem Mp.cut_no {β : Mp} {n b : Nat} (h : n ≤ b) (h' : b < SY) : β.cut n b = none := by unfold Mp.cut; rw [if_neg (by omega)]
theorem Mp.cut_le (β : Mp) (n : Nat) : Mp.le (β.cut n) β := fun b m h => by
  unfold Mp.cut at h
  split at h
  · exact h
  · cases h
theorem GRel.cut {ng n : Nat} {β : Mp} (hn : ng ≤ n) (h : GRel ng β) : GRel ng (β.cut n) :=
  ⟨fun g hg => by rw [Mp.cut_lt (Nat.lt_of_lt_of_le hg hn)]; exact h.1 g hg, SyQ.loc (fun k hk => Mp.cut_sy hk) h.2⟩
def TabOk (tab : Nat → Option Value) : Prop := ∀ (β : Mp) (k : Nat) (v : Value), SyQ.Q β → tab k = some v → ∃ m, β (SY + k) = some m ∧ symR m v ∧ ∀ v', symR m v' → v' = v
theorem TabOk.none : TabOk fun _ => none := fun β k v h h' => by cases h'
theorem all2_ok {f : Value → Value → Bool} {β β' : Mp} (h : ∀ c v v', f c v = true → VRel β v v' → VRel β' c v') : ∀ {cs vs vs' : List Value}, all2 f cs vs = true → LRel β vs vs' → LRel β' cs vs'
  | [], [], vs', _, hl => by rw [hl.nil_inv]; exact LRel.nil β'
  | [], _ :: _, _, ha, _ => by cases ha
  | _ :: _, [], _, ha, _ => by cases ha
  | c :: cs, v :: vs, vs', ha, hl => by
    simp only [all2, Bool.and_eq_true] at ha
    obtain ⟨v', l', rfl, hv, hl'⟩ := hl.cons_inv
    exact LRel.cons (h c v v' ha.1 hv) (all2_ok h ha.2 hl')
theorem one_sym {β : Mp} {v v' : Value} (h : VRel β v v') (h1 : oneC v = true) (h2 : notB v = true) : (∀ b, v' ≠ .bool b) ∧ oneC v' = true ∧ v'.cells = #[v'] := by
  cases h <;> first
    | (cases h2; done)
    | (rename_i hs; exact symR_one hs)
    | exact ⟨(fun b h => by cases h), rfl, rfl⟩
    | (cases h1; done)
theorem not_bool {β : Mp} {v v' : Value} (h : VRel β v v') (h2 : notB v = true) : ∀ b, v' ≠ .bool b := by
  intro b hb
  subst hb
  cases h with
  | bool => cases h2
  | dead _ h => exact h b rfl
  | sym k m _ e hs => exact (symR_one hs).1 b rfl
structure MapOk (pm : Nat → Nat → Bool) (β β' : Mp) : Prop where
  blk : ∀ b b' m, pm b b' = true → β b' = some m → β' b = some m
  sy : ∀ k m, β (SY + k) = some m → β' (SY + k) = some m
theorem mapOk_cut (β : Mp) (n0 : Nat) : MapOk (pm0 n0) β (β.cut n0) := ⟨fun b b' m h e => by
  unfold pm0 at h
  rw [Bool.and_eq_true, beq_iff, blt_iff] at h
  obtain ⟨rfl, h⟩ := h
  rw [Mp.cut_lt h]; exact e, fun k m e => by rw [Mp.cut_sy (by omega)]; exact e⟩
theorem covV_ok {tab : Nat → Option Value} (ht : TabOk tab) {pm : Nat → Nat → Bool} {β β' : Mp} (hm : MapOk pm β β') (hq : SyQ.Q β) : ∀ (d : Nat) (c v v' : Value), covV tab pm d c v = true → VRel β v v' → VRel β' c v'
  | 0, _, _, _, h, _ => by cases h
  | d + 1, c, v, v', h, hv => by
    have ih := covV_ok ht hm hq d
    unfold covV at h
    split at h
    · rename_i a
      split at h
      · rename_i b
        cases a <;> cases b <;> first | (cases hv; exact .bool _) | (simp at h)
      · cases h
    · rename_i k x
      split at h
      · rename_i j y
        simp only [Bool.and_eq_true, eqI_eq, beq_iff_eq] at h
        have := eqK_eq h.1; have := h.2
        subst_vars; cases hv; exact .int _ _
      · rename_i j
        split at h
        · rename_i i y e
          simp only [Bool.and_eq_true, eqI_eq, beq_iff_eq] at h
          have := eqK_eq h.1; have := h.2
          subst_vars
          cases hv with | sym _ m _ em hs =>
          obtain ⟨m', em', _, hu⟩ := ht β j _ hq e
          rw [em] at em'; cases em'
          rw [hu _ hs]; exact .int _ _
        · cases h
      · cases h
    · rename_i s
      split at h
      · rename_i s'
        rw [eqBs_eq, beq_iff_eq] at h
        cases hv
        have : s = s' := by cases s; cases s'; congr 1; exact Array.toList_inj.1 h
        subst this; exact .string _
      · cases h
    · split at h
      · cases hv; exact .ptr0
      · rename_i b o b' o'
        simp only [Bool.and_eq_true, beq_iff] at h
        obtain ⟨h1, h2⟩ := h
        subst h2
        cases hv with | ptr _ _ m e => exact .ptr _ _ m (hm.blk _ _ _ h1 e)
      · cases h
    · rename_i l k
      split at h
      · rename_i l' k'
        simp only [Bool.and_eq_true, beq_iff] at h
        obtain ⟨h1, h2⟩ := h
        subst h1 h2
        cases hv; exact .sl0 _ _
      · rename_i b o b' o' l' k'
        simp only [Bool.and_eq_true, Bool.or_eq_true, beq_iff, blt_iff, ble_iff] at h
        obtain ⟨⟨⟨h1, h2⟩, h4⟩, h5⟩ := h
        subst h2 h4
        cases hv with | sl _ _ _ _ c' m e hc =>
        refine .sl _ _ _ _ c' m (hm.blk _ _ _ h1 e) ?_
        rcases h5 with h5 | ⟨⟨h5, h6⟩, h7⟩
        · subst h5; exact hc
        · refine ⟨fun h => by omega, fun _ => ?_⟩
          have := hc.2 h6
          exact ⟨Nat.le_trans (Nat.div_le_div_right h7) this.1, this.2⟩
      · cases h
    · split at h
      · cases hv; exact .map0
      · rename_i b b'
        cases hv with | map _ m e => exact .map _ m (hm.blk _ _ _ h e)
      · cases h
    · exact .dead _ (not_bool hv h)
    · rename_i k
      have un : k = 0 → oneC v = true → notB v = true → VRel β' (.chan (some k)) v' := fun e h1 h2 => by
        subst e
        obtain ⟨m, em, h4⟩ := SyQ.unk hq
        exact .sym 0 m v' (hm.sy 0 m em) (.inr (.inr (.inr (.inr (.inl ⟨h4, one_sym hv h1 h2⟩)))))
      split at h
      · rename_i j
        rw [Bool.or_eq_true, beq_iff, beq_iff] at h
        rcases h with h | h
        · subst h
          cases hv with | sym _ m _ e hs => exact .sym k m v' (hm.sy _ _ e) hs
        · exact un h rfl rfl
      · rename_i i x
        rw [Bool.or_eq_true, beq_iff] at h
        rcases h with h | h
        · exact un h rfl rfl
        · split at h
          · rename_i j y e
            simp only [Bool.and_eq_true, eqI_eq, beq_iff_eq] at h
            have := eqK_eq h.1; have := h.2
            subst_vars
            cases hv
            obtain ⟨m, em, hs, _⟩ := ht β k _ hq e
            exact .sym k m _ (hm.sy _ _ em) hs
          · cases h
      · simp only [Bool.and_eq_true, beq_iff] at h
        exact un h.1.1 h.1.2 h.2
    · rename_i f as cs
      split at h
      · rename_i f' as' cs'
        simp only [Bool.and_eq_true, beq_iff] at h
        obtain ⟨⟨h1, h2⟩, h3⟩ := h
        subst h1
        cases hv with | func _ xs xs' ys ys' e1 e2 e3 e4 =>
        have l1 := all2_ok ih h2 (show LRel β xs xs' from ⟨e1, e2⟩)
        have l2 := all2_ok ih h3 (show LRel β ys ys' from ⟨e3, e4⟩)
        exact .func _ as.toList xs' cs.toList ys' l1.1 l1.2 l2.1 l2.2
      · cases h
    · split at h
      · cases hv; exact .nilFunc
      · cases h
    · rename_i t x
      split at h
      · rename_i t' y
        simp only [Bool.and_eq_true, beq_iff] at h
        obtain ⟨h1, h2⟩ := h
        subst h1
        cases hv with | iface _ _ y' hy => exact .iface _ _ _ (ih _ _ _ h2 hy)
      · cases h
    · split at h
      · cases hv; exact .nilIface
      · cases h
    · rename_i a
      split at h
      · rename_i b
        simp only [Bool.and_eq_true] at h
        cases hv with | agg xs xs' e0 e1 e2 =>
        have l1 := all2_ok ih h.2 (show LRel β xs xs' from ⟨e1, e2⟩)
        exact .agg a.toList xs' h.1 l1.1 l1.2
      · cases h
    · rename_i a
      split at h
      · rename_i b
        cases hv with | tuple xs xs' e1 e2 =>
        have l1 := all2_ok ih h (show LRel β xs xs' from ⟨e1, e2⟩)
        exact .tuple a.toList xs' l1.1 l1.2
      · cases h
    · cases h
theorem covO_get {f : Value → Value → Bool} : ∀ (d : Nat) (x y : Oc Value d), covO f d x y = true → ∀ i, f (getO Value d x i) (getO Value d y i) = true
  | 0, x, y, h, i => h
  | d + 1, x, y, h, i => by
    rw [getO_succ, getO_succ]
    obtain ⟨a, b, c, e, g, h1, i1, j⟩ := (x : N8 (Oc Value d))
    obtain ⟨a', b', c', e', g', h', i', j'⟩ := (y : N8 (Oc Value d))
    simp only [covO, Bool.and_eq_true] at h
    obtain ⟨p0, p1, p2, p3, p4, p5, p6, p7⟩ := h
    cases dg i with
    | d0 => exact covO_get d _ _ p0 _
    | d1 => exact covO_get d _ _ p1 _
    | d2 => exact covO_get d _ _ p2 _
    | d3 => exact covO_get d _ _ p3 _
    | d4 => exact covO_get d _ _ p4 _
    | d5 => exact covO_get d _ _ p5 _
    | d6 => exact covO_get d _ _ p6 _
    | d7 => exact covO_get d _ _ p7 _
theorem covT_get {f : Value → Value → Bool} {s t : T Value} (h : covT f s t = true) (i : Nat) : f (s.get i) (t.get i) = true := by
  unfold covT at h
  split at h
  · exact h
  · exact covO_get 1 _ _ h i
  · exact covO_get 2 _ _ h i
  · exact covO_get 3 _ _ h i
  · exact covO_get 4 _ _ h i
  · exact covO_get 5 _ _ h i
  · exact covO_get 6 _ _ h i
  · cases h
theorem covI_get {f : Value → Value → Bool} {s t : T Value} : ∀ {n : Nat}, covI f s t n = true → ∀ i, i < n → f (s.get i) (t.get i) = true
  | 0, _, i, hi => by omega
  | n + 1, h, i, hi => by
    simp only [covI, Bool.and_eq_true] at h
    by_cases e : i = n
    · subst e; exact h.1
    · exact covI_get h.2 i (by omega)
theorem covB_ok {tab : Nat → Option Value} (ht : TabOk tab) {pm : Nat → Nat → Bool} {β β' : Mp} (hm : MapOk pm β β') (hq : SyQ.Q β) {d : Nat} {W : World} {x y : Blk} {m : Bm} (h : covB (covV tab pm d) x y = true) (hb : BOk β W y m) : BOk β' W x m := by
  obtain ⟨o, ho, hr⟩ := hb
  refine ⟨o, ho, ?_⟩
  unfold covB at h
  split at h
  · trivial
  · rename_i t n ty op lo hi
    split at h
    · rename_i t2 n2 ty2 op2 lo2 hi2
      simp only [Bool.and_eq_true, Bool.or_eq_true, beq_iff, blt_iff, ble_iff] at h
      obtain ⟨h2, h3, h4, h5, h6⟩ := h
      subst h2 h3 h4 h5
      obtain ⟨cs, fr, g1, g2, g3, g4, g5, g6, g7⟩ := hr
      have hn : n ≤ n2 := by rcases h6 with h | h <;> omega
      refine ⟨cs, fr, g1, g2, by omega, fun h0 => ⟨(g4 h0).1, ?_⟩, g5, fun i hi => ?_, g7⟩
      · rcases h6 with h | h
        · have := (g4 h0).2; omega
        · omega
      obtain ⟨c1, v', c2, c3⟩ := g6 i (by omega)
      have : covLf (covV tab pm d) (t.get i) (t2.get i) = true := by
        rcases h6 with h | h
        · rcases h.2 with h' | h'
          · omega
          · exact covT_get h' i
        · exact covI_get h.2.2 i hi
      simp only [covLf, Bool.and_eq_true, Bool.or_eq_true, Bool.not_eq_true'] at this
      refine ⟨?_, v', c2, covV_ok ht hm hq d _ _ _ this.1 c3⟩
      rcases this.2 with h | h
      · exact h
      · rw [c1] at h; cases h
    · cases h
  · cases h
theorem covB_alive {f : Value → Value → Bool} {x y : Blk} (h : covB f x y = true) (hx : x ≠ .no) : y ≠ .no := by
  unfold covB at h
  split at h
  · exact absurd rfl hx
  · split at h
    · intro e; cases e
    · cases h
  · cases h
theorem setsT_get : ∀ (l : List (Nat × Blk)) (t : T Blk) (b : Nat), (∀ x ∈ l, x.1 < 32768) → b < 32768 → (setsT l t).get b = (match lkB l b with | some x => x | none => t.get b)
  | [], _, _, _, _ => rfl
  | (i, B) :: l, t, b, hl, hb => by
    simp only [setsT, lkB]
    rw [setsT_get l _ b (fun x hx => hl x (by simp [hx])) hb]
    have hi : i < 32768 := hl (i, B) (by simp)
    rw [T.get_set 5 t i b B (by omega) (by omega)]
    cases lkB l b with
    | some x => rfl
    | none =>
      simp only []
      by_cases e : b = i
      · rw [if_pos e, if_pos e]
      · rw [if_neg e, if_neg e]
theorem lkB_mem : ∀ {l : List (Nat × Blk)} {b : Nat} {B : Blk}, lkB l b = some B → (b, B) ∈ l
  | [], b, B, h => by simp [lkB] at h
  | (i, C) :: l, b, B, h => by
    simp only [lkB] at h
    split at h
    · rename_i x e
      cases h
      exact List.mem_cons_of_mem _ (lkB_mem e)
    · split at h
      · rename_i e; cases h; subst e; exact List.mem_cons_self
      · cases h
theorem lkB_some : ∀ {l : List (Nat × Blk)} {b : Nat}, (l.any fun x => Nat.beq x.1 b) = true → ∃ B, lkB l b = some B
  | [], b, h => by simp at h
  | (i, C) :: l, b, h => by
    simp only [lkB]
    cases e : lkB l b with
    | some x => exact ⟨x, rfl⟩
    | none =>
      simp only [List.any_cons, Bool.or_eq_true, beq_iff] at h
      rcases h with h | h
      · exact ⟨C, by rw [if_pos h.symm]⟩
      · obtain ⟨B, hB⟩ := lkB_some h
        rw [e] at hB; cases hB
theorem CallOk.mono {P : Program} {f : FuncId} {args : Array Value} {W : World} {R R' : Ending → World → Prop} (h : CallOk P f args W R) (hr : ∀ e W', R e W' → R' e W') : CallOk P f args W R' := by
  rcases h with ⟨h1, h2⟩ | ⟨v, W', h1, h2⟩
  · exact .inl ⟨h1, h2.mono hr⟩
  · exact .inr ⟨v, W', h1, hr _ _ h2⟩
def EndE (v : Value) (e : Ending) (v' : Value) : Prop := match unPan v with
  | none => e = .returned v'
  | some _ => ∃ x' old, v' = panV x' ∧ e = .panicked ({ v := x', recovered := false } :: old) ∧ NoGx old
def EP (β : Mp) (H H' : Hp) (w : Nat) (W : World) (v : Value) : Ending → World → Prop := fun e W' => ∃ β' v', EndE v e v' ∧ VRel β' v v' ∧ Post β β' H H' w W W'
theorem unPan_some {v x : Value} (h : unPan v = some x) : v = panV x := by
  unfold unPan at h
  split at h
  · cases h; rfl
  · cases h
theorem panV_rel {β : Mp} {x x' : Value} (h : VRel β x x') : VRel β (panV x) (panV x') := by
  have l0 : LRel β [x] [x'] := LRel.cons h (LRel.nil β)
  have h1 : VRel β (.tuple ⟨[x]⟩) (.tuple ⟨[x']⟩) := .tuple [x] [x'] l0.1 l0.2
  have l1 : LRel β [Value.tuple ⟨[x]⟩] [Value.tuple ⟨[x']⟩] := LRel.cons h1 (LRel.nil β)
  exact .tuple _ _ l1.1 l1.2
theorem panV_inv {β : Mp} {x x' : Value} (h : VRel β (panV x) (panV x')) : VRel β x x' := by
  have h : VRel β (.tuple ⟨[.tuple ⟨[x]⟩]⟩) (.tuple ⟨[.tuple ⟨[x']⟩]⟩) := h
  cases h with | tuple xs xs' e1 e2 =>
  obtain ⟨a, l, e, ha, hl⟩ := (show LRel β [Value.tuple ⟨[x]⟩] [Value.tuple ⟨[x']⟩] from ⟨e1, e2⟩).cons_inv
  cases e
  cases ha with | tuple xs xs' e1 e2 =>
  obtain ⟨a, l, e, ha, hl⟩ := (show LRel β [x] [x'] from ⟨e1, e2⟩).cons_inv
  cases e
  exact ha
theorem task_EP {P : Program} {ng : Nat} {f : FuncId} {args : List Value} {H H' : Hp} {v : Value} {r w : Nat} : TaskOk P ng (.call f args) H (.k (spKR v H' r w)) ↔ Can H H' w ∧ ∀ β W, GRel ng β → Pre β H H' r w W → ∀ args' : Array Value, LRel β args args'.toList → CallOk P f args' W (EP β H H' w W v) := by
  unfold spKR
  cases hu : unPan v with
  | none =>
    simp only []
    have e : ∀ β W, EP β H H' w W v = RetP β H H' w W v := fun β W => by
      funext e W'
      simp only [EP, RetP, EndE, hu]
    constructor
    · rintro ⟨h1, h2⟩; exact ⟨h1, fun β W hg p args' hl => by rw [e]; exact h2 β W hg p args' hl⟩
    · rintro ⟨h1, h2⟩; exact ⟨h1, fun β W hg p args' hl => by have := h2 β W hg p args' hl; rw [e] at this; exact this⟩
  | some x =>
    simp only []
    have hv := unPan_some hu
    have e : ∀ β W en W', EP β H H' w W v en W' ↔ PanP β H H' w W x en W' := fun β W en W' => by
      simp only [EP, PanP, EndE, hu]
      constructor
      · rintro ⟨β', v', ⟨x', old, rfl, rfl, hn⟩, hr, q⟩
        rw [hv] at hr
        exact ⟨β', x', old, rfl, hn, panV_inv hr, q⟩
      · rintro ⟨β', x', old, rfl, hn, hr, q⟩
        exact ⟨β', panV x', ⟨x', old, rfl, rfl, hn⟩, by rw [hv]; exact panV_rel hr, q⟩
    constructor
    · rintro ⟨h1, h2⟩; exact ⟨h1, fun β W hg p args' hl => (h2 β W hg p args' hl).mono fun en W' h => (e β W en W').2 h⟩
    · rintro ⟨h1, h2⟩; exact ⟨h1, fun β W hg p args' hl => (h2 β W hg p args' hl).mono fun en W' h => (e β W en W').1 h⟩
def ClOk (P : Program) (ng : Nat) (c : Clm) : Prop := TaskOk P ng (.call c.f c.args) c.h0 (.k (spKR c.v c.h1 c.r c.w))
end Go.Ev
end
noncomputable section
namespace Go.Ev
variable [SyQ]
theorem Bc_some {α : Type} {b : Bool} {x y : α} (h : Bc b (some x) none = some y) : b = true ∧ x = y := by
  cases b with
  | true => rw [Bc_t] at h; cases h; exact ⟨rfl, rfl⟩
  | false => rw [Bc_f] at h; cases h
theorem spC_inv {tab : Nat → Option Value} {c : Clm} {f : Nat} {args : List Value} {H : Hp} {q : Value × Hp × Nat × Nat} (h : spC tab c f args H = some q) :
    ∃ t nx, H = .mk t nx ∧ f = c.f ∧ all2 (covV tab (pm0 c.n0) 12) c.args args = true ∧ (nx = c.n0 ∨ (c.n1 = c.n0 ∧ c.n0 ≤ nx)) ∧ (∀ x ∈ c.pre, covB (covV tab (pm0 c.n0) 12) x.2 (t.get x.1) = true) ∧
      q = (c.v, .mk (setsT c.post t) (Bc (Nat.beq c.n1 c.n0) nx c.n1), c.r, c.w) := by
  unfold spC at h
  split at h
  · rename_i t nx
    obtain ⟨hb, hq⟩ := Bc_some h
    simp only [Bool.and_eq_true, Bool.or_eq_true, beq_iff, ble_iff, List.all_eq_true] at hb
    exact ⟨t, nx, rfl, hb.1, hb.2.1, hb.2.2.1, hb.2.2.2, hq.symm⟩
  · cases h
structure Fits (ng : Nat) (c : Clm) : Prop where
  ng : ng ≤ c.n0
  le : c.n0 ≤ c.n1
  n1 : c.n1 ≤ 32768
  r : c.r < 2 ^ c.n0
  w : c.w < 2 ^ c.n0
  pre : ∀ x ∈ c.pre, x.1 < c.n0
  post : ∀ x ∈ c.post, x.1 < c.n1 ∧ (c.n0 ≤ x.1 ∨ c.w.testBit x.1 = true)
  wp : ∀ x ∈ c.pre, c.w.testBit x.1 = true → ∃ B, lkB c.post x.1 = some B
  new : ∀ b, c.n0 ≤ b → b < c.n1 → ∃ B, lkB c.post b = some B
theorem Clm.fits_ok {ng : Nat} {c : Clm} (h : c.fits ng = true) : Fits ng c := by
  unfold Clm.fits at h
  simp only [Bool.and_eq_true, Bool.or_eq_true, Bool.not_eq_true', beq_iff, ble_iff, blt_iff, List.all_eq_true, List.mem_range] at h
  obtain ⟨h1, h2, h3, h4, h5, h6, h7, h8, h9⟩ := h
  refine ⟨h1, h2, h3, h4, h5, h6, h7, fun x hx hw => ?_, fun b hb hb' => ?_⟩
  · rcases h8 x hx with h | h
    · rw [hw] at h; cases h
    · exact lkB_some h
  · have := h9 (b - c.n0) (by omega)
    rw [show c.n0 + (b - c.n0) = b from by omega] at this
    exact lkB_some this
theorem sy_big : 32768 < SY := by unfold SY; decide
section
variable {P : Program} {ng : Nat} {tab : Nat → Option Value} {c : Clm}
theorem h0_blk (F : Fits ng c) {b : Nat} (ha : alive c.h0 b) : ∃ B, (b, B) ∈ c.pre ∧ c.h0.blk b = B ∧ B ≠ .no := by
  obtain ⟨hb, hn⟩ := ha
  have hb : b < c.n0 := hb
  have hn1 := F.n1
  have hle := F.le
  have e : c.h0.blk b = (setsT c.pre (.e .no)).get b := by unfold Clm.h0; rw [blk_mk, if_pos hb]
  rw [e, setsT_get _ _ _ (fun x hx => Nat.lt_of_lt_of_le (F.pre x hx) (by omega)) (by omega)] at hn
  rw [e, setsT_get _ _ _ (fun x hx => Nat.lt_of_lt_of_le (F.pre x hx) (by omega)) (by omega)]
  cases hl : lkB c.pre b with
  | some B => rw [hl] at hn; exact ⟨B, lkB_mem hl, rfl, hn⟩
  | none => rw [hl] at hn; exact absurd rfl hn
theorem h1_blk (F : Fits ng c) {b : Nat} {B : Blk} (hb : b < c.n1) (hl : lkB c.post b = some B) : c.h1.blk b = B := by
  have hn1 := F.n1
  unfold Clm.h1
  rw [blk_mk, if_pos hb, setsT_get _ _ _ (fun x hx => Nat.lt_of_lt_of_le (F.post x hx).1 hn1) (by omega), hl]
theorem spC_ok (ht : TabOk tab) (F : Fits ng c) (hc : ClOk P ng c) {f : Nat} {args : List Value} {H H' : Hp} {v : Value} {r w : Nat} (hwf : H.wf) (h : spC tab c f args H = some (v, H', r, w)) : TaskOk P ng (.call f args) H (.k (spKR v H' r w)) := by
  obtain ⟨t, nx, rfl, rfl, hargs, hnx, hpre, hq⟩ := spC_inv h
  cases hq
  have hwf : nx ≤ 32768 := hwf
  have hn1 := F.n1
  have hle := F.le
  obtain ⟨can, hc⟩ := task_EP.1 hc
  have hsy := sy_big
  obtain ⟨nx', hnx'⟩ : ∃ nx', Bc (Nat.beq c.n1 c.n0) nx c.n1 = nx' := ⟨_, rfl⟩
  rw [hnx']
  have hnn : (nx = c.n0 ∧ nx' = c.n1) ∨ (c.n1 = c.n0 ∧ c.n0 ≤ nx ∧ nx' = nx) := by
    cases e : Nat.beq c.n1 c.n0 with
    | true =>
      rw [e, Bc_t] at hnx'
      have := (beq_iff _ _).1 e
      rcases hnx with h | h
      · exact .inl ⟨h, by omega⟩
      · exact .inr ⟨this, h.2, hnx'.symm⟩
    | false =>
      rw [e, Bc_f] at hnx'
      rcases hnx with h | h
      · exact .inl ⟨h, hnx'.symm⟩
      · have := (beq_iff c.n1 c.n0).2 h.1; rw [e] at this; cases this
  have hn0 : c.n0 ≤ nx := by rcases hnn with ⟨h, _⟩ | ⟨_, h, _⟩ <;> omega
  have hxx : nx ≤ nx' := by rcases hnn with ⟨h, h'⟩ | ⟨_, _, h⟩ <;> omega
  have hx' : nx' ≤ 32768 := by rcases hnn with ⟨h, h'⟩ | ⟨_, _, h⟩ <;> omega
  have hp : ∀ x ∈ c.post, x.1 < 32768 := fun x hx => Nat.lt_of_lt_of_le (F.post x hx).1 hn1
  have hlt1 : ∀ {b : Nat} {B : Blk}, lkB c.post b = some B → b < c.n1 := fun hl => (F.post _ (lkB_mem hl)).1
  have hlt' : ∀ {b : Nat} {B : Blk}, lkB c.post b = some B → b < nx' := fun hl => by
    have := hlt1 hl
    rcases hnn with ⟨h, h'⟩ | ⟨h, h', h''⟩ <;> omega
  have hblk1 : ∀ {b : Nat} {B : Blk}, lkB c.post b = some B → (Hp.mk (setsT c.post t) nx').blk b = B := fun {b B} hl => by
    rw [blk_mk, if_pos (hlt' hl), setsT_get _ _ _ hp (by have := hlt' hl; omega), hl]
  have hblk0 : ∀ {b : Nat}, b < nx' → lkB c.post b = none → (Hp.mk (setsT c.post t) nx').blk b = t.get b := fun {b} hb hl => by
    rw [blk_mk, if_pos hb, setsT_get _ _ _ hp (by omega), hl]
  have hbH : ∀ {b : Nat}, b < nx → (Hp.mk t nx).blk b = t.get b := fun {b} hb => by rw [blk_mk, if_pos hb]
  have hal : ∀ {b : Nat}, alive c.h0 b → b < c.n0 ∧ ∃ B, (b, B) ∈ c.pre ∧ c.h0.blk b = B ∧ alive (.mk t nx) b := fun {b} ha => by
    obtain ⟨B, hm, hB, hne⟩ := h0_blk F ha
    have hb := F.pre _ hm
    refine ⟨hb, B, hm, hB, Nat.lt_of_lt_of_le hb hn0, ?_⟩
    rw [hbH (Nat.lt_of_lt_of_le hb hn0)]
    exact covB_alive (hpre _ hm) hne
  have hwl : ∀ {b : Nat}, c.w.testBit b = true → b < c.n0 ∧ alive c.h0 b ∧ ∃ B, lkB c.post b = some B := fun {b} hw => by
    have hb : b < c.n0 := lt_bit F.w hw
    have ha := can.wal b hb hw
    obtain ⟨B, hm, _⟩ := h0_blk F ha
    exact ⟨hb, ha, F.wp _ hm hw⟩
  have hsame : ∀ {b : Nat}, (nx ≤ b ∨ c.w.testBit b = true) → alive (.mk (setsT c.post t) nx') b → (c.n0 ≤ b ∨ c.w.testBit b = true) ∧ alive c.h1 b ∧ c.h1.blk b = (Hp.mk (setsT c.post t) nx').blk b := fun {b} hb ha => by
    have hl : ∃ B, lkB c.post b = some B := by
      rcases hb with hb | hb
      · have hb' : b < nx' := ha.1
        rcases hnn with ⟨h1, h2⟩ | ⟨h1, h2, h3⟩
        · exact F.new b (by omega) (by omega)
        · omega
      · exact (hwl hb).2.2
    obtain ⟨B, hl⟩ := hl
    have e : c.h1.blk b = (Hp.mk (setsT c.post t) nx').blk b := by rw [h1_blk F (hlt1 hl) hl, hblk1 hl]
    exact ⟨hb.imp (fun h => by omega) id, ⟨hlt1 hl, by rw [e]; exact ha.2⟩, e⟩
  refine task_EP.2 ⟨⟨hx', hxx, fun b hb hw => ?_, fun b hb hw => ?_⟩, fun β W hg p args' hl => ?_⟩
  · have hb : b < nx := hb
    have hln : lkB c.post b = none := by
      cases e : lkB c.post b with
      | none => rfl
      | some B =>
        rcases (F.post _ (lkB_mem e)).2 with h | h
        · have := hlt1 e
          rcases hnn with ⟨h1, h2⟩ | ⟨h1, h2, h3⟩ <;> (simp only at h; omega)
        · rw [hw] at h; cases h
    rw [hblk0 (by omega) hln, hbH hb]
  · obtain ⟨h1, h2, _⟩ := hwl hw
    exact (hal h2).2.elim fun B h => h.2.2
  · have hq := hg.2
    have hge := GRel.cut F.ng hg
    have pc : Pre (β.cut c.n0) c.h0 c.h1 c.r c.w W := by
      refine ⟨fun b hb ha => ?_, fun b d mb md hb hd ab ad eb ed => ?_, fun b h1 h2 => ?_, fun b m e => p.dom b m (Mp.cut_le _ _ b m e)⟩
      · obtain ⟨hlt, B, hm, hB, haH⟩ := hal ha
        obtain ⟨m, e, hr⟩ := p.rel b hb haH
        refine ⟨m, by rw [Mp.cut_lt hlt]; exact e, ?_⟩
        rw [hB]
        rw [hbH (Nat.lt_of_lt_of_le hlt hn0)] at hr
        exact covB_ok ht (mapOk_cut β c.n0) hq (hpre _ hm) hr
      · obtain ⟨hlb, _, _, _, haB⟩ := hal ab
        obtain ⟨hld, _, _, _, haD⟩ := hal ad
        rw [Mp.cut_lt hlb] at eb
        rw [Mp.cut_lt hld] at ed
        exact p.inj b d mb md hb hd haB haD eb ed
      · have h2 : b < c.n1 := h2
        exact Mp.cut_no h1 (by omega)
    have la : LRel (β.cut c.n0) c.args args'.toList := all2_ok (fun x y z hxy hyz => covV_ok ht (mapOk_cut β c.n0) hq 12 x y z hxy hyz) hargs hl
    refine (hc (β.cut c.n0) W hge pc args' la).mono fun e W' hR => ?_
    obtain ⟨βc, v', he, hv, q⟩ := hR
    obtain ⟨β', hβ'⟩ : ∃ β' : Mp, β' = fun b => if nx ≤ b ∧ b < nx' then βc b else β b := ⟨_, rfl⟩
    have bN : ∀ {b}, nx ≤ b → b < nx' → β' b = βc b := fun h1 h2 => by rw [hβ']; simp only []; rw [if_pos ⟨h1, h2⟩]
    have bO : ∀ {b}, ¬ (nx ≤ b ∧ b < nx') → β' b = β b := fun h1 => by rw [hβ']; simp only []; rw [if_neg h1]
    have hcle : Mp.le βc β' := fun b m hm => by
      cases e : β.cut c.n0 b with
      | some m2 =>
        have := q.le _ _ e; rw [hm] at this; cases this
        have e2 := Mp.cut_le _ _ _ _ e
        rw [bO fun h => by have := p.fresh b h.1 h.2; rw [this] at e2; cases e2]; exact e2
      | none =>
        have := q.only b m hm e
        have h1 : c.n0 ≤ b := this.1
        have h2 : b < c.n1 := this.2
        rcases hnn with ⟨g1, g2⟩ | ⟨g1, g2, g3⟩
        · rw [bN (by omega) (by omega)]; exact hm
        · omega
    have new : ∀ {b m}, nx ≤ b → b < nx' → β' b = some m → βc b = some m ∧ c.n0 ≤ b := fun h1 h2 h3 => ⟨by rw [← bN h1 h2]; exact h3, by omega⟩
    have both : ∀ {b m}, (nx ≤ b ∨ c.w.testBit b = true) → alive (.mk (setsT c.post t) nx') b → β' b = some m → βc b = some m := fun {b m} hb ha e => by
      by_cases h : nx ≤ b ∧ b < nx'
      · rw [← bN h.1 h.2]; exact e
      · rw [bO h] at e
        rcases hb with hb | hb
        · exact absurd ⟨hb, ha.1⟩ h
        · have := (hwl hb).1
          exact q.le _ _ (by rw [Mp.cut_lt this]; exact e)
    refine ⟨β', v', he, hv.mono hcle, ?_⟩
    refine ⟨fun b m e => ?_, fun b m e e0 => ?_, fun b hb ha => ?_, fun rb o ho hno => ?_, q.size, fun b m e => ?_, fun b m hb e0 e => ?_, fun b d mb md hb hd ab ad eb ed hrb => ?_, q.env⟩
    · rw [bO fun h => by have := p.fresh b h.1 h.2; rw [this] at e; cases e]; exact e
    · by_cases h : nx ≤ b ∧ b < nx'
      · exact h
      · rw [bO h, e0] at e; cases e
    · obtain ⟨h1, h2, h3⟩ := hsame hb ha
      obtain ⟨m, e, o, ho, hr⟩ := q.rel b h1 h2
      rw [h3] at hr
      exact ⟨m, hcle _ _ e, o, ho, hr.mono hcle⟩
    · refine q.frame rb o ho fun b m hb hw e => ?_
      exact hno b m (by have hb : b < c.n0 := hb; exact Nat.lt_of_lt_of_le hb hn0) hw (Mp.cut_le _ _ _ _ e)
    · by_cases h : nx ≤ b ∧ b < nx'
      · rw [bN h.1 h.2] at e; exact q.dom b m e
      · rw [bO h] at e; exact Nat.lt_of_lt_of_le (p.dom b m e) q.size
    · by_cases h : nx ≤ b ∧ b < nx'
      · obtain ⟨e1, hn⟩ := new h.1 h.2 e
        have hn1' : b < c.n1 := by rcases hnn with ⟨g1, g2⟩ | ⟨g1, g2, g3⟩ <;> omega
        rcases q.new b m hn (Mp.cut_no hn (by omega)) e1 with h | ⟨d, md, hd, hdw, ed, erb, hdead⟩
        · exact .inl h
        · refine .inr ⟨d, md, Nat.lt_of_lt_of_le hd hn0, hdw, Mp.cut_le _ _ _ _ ed, erb, fun ha => hdead (hsame (.inr hdw) ha).2.1⟩
      · rw [bO h, e0] at e; cases e
    · obtain ⟨h1, h2, _⟩ := hsame hb ab
      obtain ⟨g1, g2, _⟩ := hsame hd ad
      exact q.inj b d mb md h1 g1 h2 g2 (both hb ab eb) (both hd ad ed) hrb
end
end Go.Ev
end
noncomputable section
namespace Go.Ev
variable [SyQ]
def PCov (pm : Nat → Nat → Bool) (x y : Blk) : Prop := (x ≠ .no → y ≠ .no) ∧ ∀ (β β' : Mp) (W : World) (m : Bm), MapOk pm β β' → SyQ.Q β → BOk β W y m → BOk β' W x m
theorem PCov.of_cov {tab : Nat → Option Value} (ht : TabOk tab) {pm : Nat → Nat → Bool} {d : Nat} {x y : Blk} (h : covB (covV tab pm d) x y = true) : PCov pm x y := ⟨covB_alive h, fun β β' W m hm hq hb => covB_ok ht hm hq h hb⟩
theorem PCov.cell {pm : Nat → Nat → Bool} {l1 l2 : List Value} {ty op i : Nat} {y : Blk} {t2 : T Value} {n2 ty2 op2 lo2 hi2 : Nat} {v v' : Value} (h : PCov pm (blkL l1 ty op) y) (hl : l2.length = l1.length) (hi : i < l1.length) (h1 : ∀ j, j ≠ i → l2[j]? = l1[j]?) (h2 : l2[i]? = some v) (hv : oneC v = true)
    (hy : y = .cells t2 n2 ty2 op2 lo2 hi2) (hi2' : i < n2) (hg : t2.get i = v') (hvv : ∀ β β' w, MapOk pm β β' → SyQ.Q β → VRel β v' w → VRel β' v w) : PCov pm (blkL l2 ty op) y := by
  obtain ⟨ta, ea, ga⟩ := blkL_eq l1 ty op
  obtain ⟨tb, eb, gb⟩ := blkL_eq l2 ty op
  refine ⟨fun _ => h.1 (by rw [ea]; intro e; cases e), fun β β' W m hm hq hb => ?_⟩
  obtain ⟨o, ho, hr⟩ := h.2 β β' W m hm hq hb
  obtain ⟨o2, ho2, hr2⟩ := hb
  rw [ho] at ho2; cases ho2
  refine ⟨o, ho, ?_⟩
  rw [ea] at hr
  rw [eb]
  subst hy
  obtain ⟨cs, fr, a1, a2, a3, a4, a5, a6, a7⟩ := hr
  obtain ⟨cs2, fr2, b1, b2, b3, b4, b5, b6, b7⟩ := hr2
  rw [a1] at b1; cases b1
  refine ⟨cs, fr, a1, a2, by omega, fun h0 => by rw [hl]; exact a4 h0, a5, fun j hj => ?_, a7⟩
  by_cases e : j = i
  · subst e
    rw [gb _ _ h2]
    obtain ⟨c1, w, c2, c3⟩ := b6 _ hi2'
    rw [hg] at c3
    exact ⟨hv, w, c2, hvv _ _ _ hm hq c3⟩
  · have hj1 : j < l1.length := by omega
    have hx : l2[j]? = some l1[j] := by rw [h1 j e, List.getElem?_eq_getElem hj1]
    rw [gb _ _ hx]
    have := a6 j hj1
    rw [ga j l1[j] (List.getElem?_eq_getElem hj1)] at this
    exact this
structure EndOk (tab : Nat → Option Value) (c : Clm) (src : List Nat) (v' : Value) (H' : Hp) (r' w' : Nat) : Prop where
  r : ∀ b, b < c.n0 → r'.testBit b = true → c.r.testBit b = true
  w : ∀ b, b < c.n0 → w'.testBit b = true → c.w.testBit b = true
  al : ∀ b, c.w.testBit b = true → ∃ B, (b, B) ∈ c.pre
  pre : ∀ x ∈ c.pre, x.2 ≠ .no
  v : covV tab (pmS c.n0 c.n1 src) 12 c.v v' = true
  post : ∀ x ∈ c.post, PCov (pmS c.n0 c.n1 src) x.2 (H'.blk (srcOf c.n0 src x.1))
  nx : H'.nx ≤ 32768
  self : ∀ x ∈ c.pre, PCov (pm0 c.n0) x.2 x.2
  args : all2 (covV tab (pm0 c.n0) 12) c.args c.args = true
  small : ∀ s ∈ src, s < 32768
  len : src.length = c.n1 - c.n0
  nd : src.Nodup
  mv : ∀ s ∈ src, c.n0 ≤ s ∨ (c.w.testBit s = true ∧ ∀ B, (s, B) ∈ c.post → B = .no)
theorem nodupB_ok : ∀ {l : List Nat}, nodupB l = true → l.Nodup
  | [], _ => List.nodup_nil
  | x :: l, h => by
    simp only [nodupB, Bool.and_eq_true, Bool.not_eq_true', List.any_eq_false, beq_iff] at h
    exact List.nodup_cons.2 ⟨fun hx => h.1 x hx rfl, nodupB_ok h.2⟩
theorem aliveMask_mem : ∀ {l : List (Nat × Blk)} {b : Nat}, (aliveMask l).testBit b = true → ∃ B, (b, B) ∈ l
  | [], b, h => by simp [aliveMask] at h
  | (i, B) :: l, b, h => by
    have key : (Nat.lor (bit i) (aliveMask l)).testBit b = true → ∃ B', (b, B') ∈ (i, B) :: l := fun h => by
      rw [lor_bit, Bool.or_eq_true, bit_iff] at h
      rcases h with h | h
      · subst h; exact ⟨B, List.mem_cons_self⟩
      · obtain ⟨B', hB⟩ := aliveMask_mem h; exact ⟨B', List.mem_cons_of_mem _ hB⟩
    cases B with
    | no => obtain ⟨B', hB⟩ := aliveMask_mem (l := l) h; exact ⟨B', List.mem_cons_of_mem _ hB⟩
    | cells => exact key h
    | obj => exact key h
    | loop => exact key h
theorem lor_sub {a b : Nat} (h : Nat.lor a b = b) {i : Nat} (hi : a.testBit i = true) : b.testBit i = true := by
  rw [← h, lor_bit, hi]; rfl
theorem land_mask {w n b : Nat} (hb : b < n) (hw : w.testBit b = true) : (Nat.land w (2 ^ n - 1)).testBit b = true := by
  show (w &&& (2 ^ n - 1)).testBit b = true
  rw [Nat.testBit_and, Nat.testBit_two_pow_sub_one, hw]; simp [hb]
theorem endB_ok {tab : Nat → Option Value} (ht : TabOk tab) {c : Clm} {src : List Nat} {v' : Value} {H' : Hp} {r' w' : Nat} (h : endB tab c src v' H' r' w' = true) : EndOk tab c src v' H' r' w' := by
  unfold endB at h
  simp only [Bool.and_eq_true, beq_iff, ble_iff, blt_iff, List.all_eq_true] at h
  obtain ⟨h1, h2, h3, h4, h5, h6, k1, k2, k3, k4, h7, h8, h9⟩ := h
  refine ⟨fun b hb hr => lor_sub h1 (land_mask hb hr), fun b hb hw => lor_sub h2 (land_mask hb hw), fun b hb => aliveMask_mem (lor_sub h3 hb), fun x hx e => ?_, h5, fun x hx => PCov.of_cov ht (h6 x hx), k1, fun x hx => PCov.of_cov ht (k2 x hx), k3, k4, h7, nodupB_ok h8, fun s hs => ?_⟩
  · have := h4 x hx
    rw [e] at this; cases this
  · have := h9 s hs
    simp only [Bool.or_eq_true, ble_iff, Bool.and_eq_true, List.all_eq_true, Bool.not_eq_true'] at this
    rcases this with h | ⟨h, h'⟩
    · exact .inl h
    · refine .inr ⟨h, fun B hB => ?_⟩
      rcases h' _ hB with e | e
      · have : Nat.beq s s = true := (beq_iff _ _).2 rfl
        simp only at e; rw [this] at e; cases e
      · cases B with
        | no => rfl
        | cells => cases e
        | obj => cases e
        | loop => cases e
theorem src_old {n0 : Nat} {src : List Nat} {b : Nat} (h : b < n0) : srcOf n0 src b = b := by unfold srcOf; rw [(blt_iff _ _).2 h]; rfl
theorem src_new {n0 : Nat} {src : List Nat} {b : Nat} (h : n0 ≤ b) : srcOf n0 src b = src.getD (b - n0) 0 := by
  unfold srcOf
  cases e : Nat.blt b n0 with
  | true => have := (blt_iff _ _).1 e; omega
  | false => rfl
theorem getD_at {l : List Nat} {i : Nat} (h : i < l.length) : l.getD i 0 = l[i] := by simp [List.getD, h]
theorem nodup_inj {l : List Nat} (h : l.Nodup) {i j : Nat} (hi : i < l.length) (hj : j < l.length) (e : l[i] = l[j]) : i = j := by
  have hp := List.pairwise_iff_getElem.1 h
  rcases Nat.lt_trichotomy i j with h1 | h1 | h1
  · exact absurd e (hp i j hi hj h1)
  · exact h1
  · exact absurd e.symm (hp j i hj hi h1)
theorem lkB_last {l : List (Nat × Blk)} {b : Nat} {B : Blk} (h : lkB l b = some B) : (b, B) ∈ l := lkB_mem h
section
variable {P : Program} {ng : Nat} {tab : Nat → Option Value} {c : Clm} {src : List Nat} {v' : Value} {H' : Hp} {r' w' : Nat}
theorem EndOk.more (E : EndOk tab c src v' H' r' w') {c' : Clm} (h0 : c'.f = c.f ∧ c'.args = c.args ∧ c'.pre = c.pre ∧ c'.n0 = c.n0 ∧ c'.v = c.v ∧ c'.n1 = c.n1 ∧ c'.r = c.r ∧ c'.w = c.w) (hn : ∀ s ∈ src, c.n0 ≤ s)
    (hp : ∀ x ∈ c'.post, PCov (pmS c.n0 c.n1 src) x.2 (H'.blk (srcOf c.n0 src x.1))) : EndOk tab c' src v' H' r' w' := by
  obtain ⟨f, args, pre, n0, v, post, n1, r, w⟩ := c
  obtain ⟨f', args', pre', n0', v2, post', n1', r2, w2⟩ := c'
  simp only at h0 hn hp
  obtain ⟨rfl, rfl, rfl, rfl, rfl, rfl, rfl, rfl⟩ := h0
  exact ⟨E.r, E.w, E.al, E.pre, E.v, hp, E.nx, E.self, E.args, E.small, E.len, E.nd, fun s hs => .inl (hn s hs)⟩
theorem ClOk.of_run (ht : TabOk tab) (F : Fits ng c) (E : EndOk tab c src v' H' r' w') (hp : (unPan c.v).isSome = (unPan v').isSome) (hrun : TaskOk P ng (.call c.f c.args) c.h0 (.k (spKR v' H' r' w'))) : ClOk P ng c := by
  obtain ⟨can, hc⟩ := task_EP.1 hrun
  have hn1 := F.n1
  have hle := F.le
  have hsy := sy_big
  have hn0H : c.n0 ≤ H'.nx := can.mono
  have hpre0 : ∀ {b : Nat}, c.w.testBit b = true → b < c.n0 ∧ alive c.h0 b := fun {b} hw => by
    obtain ⟨B, hm⟩ := E.al b hw
    have hb := F.pre _ hm
    have hb : b < c.n0 := hb
    refine ⟨hb, hb, ?_⟩
    have e : c.h0.blk b = (setsT c.pre (.e .no)).get b := by unfold Clm.h0; rw [blk_mk, if_pos hb]
    rw [e, setsT_get _ _ _ (fun x hx => Nat.lt_of_lt_of_le (F.pre x hx) (by omega)) (by omega)]
    have : ∃ B, lkB c.pre b = some B := lkB_some (List.any_eq_true.2 ⟨_, hm, (beq_iff _ _).2 rfl⟩)
    obtain ⟨B', hl⟩ := this
    rw [hl]
    exact E.pre _ (lkB_mem hl)
  have hwl : ∀ {b : Nat}, c.w.testBit b = true → ∃ B, lkB c.post b = some B := fun {b} hw => by
    obtain ⟨B, hm⟩ := E.al b hw
    exact F.wp _ hm hw
  have hold : ∀ {b : Nat}, b < c.n0 → lkB c.post b = none → c.h1.blk b = c.h0.blk b := fun {b} hb hl => by
    unfold Clm.h0 Clm.h1
    rw [blk_mk, blk_mk, if_pos hb, if_pos (by omega), setsT_get _ _ _ (fun x hx => Nat.lt_of_lt_of_le (F.post x hx).1 hn1) (by omega), hl]
  have hcan : Can c.h0 c.h1 c.w := by
    refine ⟨hn1, hle, fun b hb hw => ?_, fun b hb hw => (hpre0 hw).2⟩
    have hb : b < c.n0 := hb
    refine hold hb ?_
    cases e : lkB c.post b with
    | none => rfl
    | some B =>
      rcases (F.post _ (lkB_mem e)).2 with h | h
      · simp only at h; omega
      · rw [hw] at h; cases h
  have hsrc : ∀ {b : Nat}, (c.n0 ≤ b ∨ c.w.testBit b = true) → alive c.h1 b → ∃ B, (b, B) ∈ c.post ∧ c.h1.blk b = B ∧ PCov (pmS c.n0 c.n1 src) B (H'.blk (srcOf c.n0 src b)) ∧ H'.blk (srcOf c.n0 src b) ≠ .no := fun {b} hb ha => by
    have hb1 : b < c.n1 := ha.1
    have hl : ∃ B, lkB c.post b = some B := by
      rcases hb with hb | hb
      · exact F.new b hb hb1
      · exact hwl hb
    obtain ⟨B, hl⟩ := hl
    have e := h1_blk F hb1 hl
    have hm := lkB_mem hl
    have hcv := E.post _ hm
    exact ⟨B, hm, e, hcv, hcv.1 (by rw [← e]; exact ha.2)⟩
  refine task_EP.2 ⟨hcan, fun β W hg p args' hl => ?_⟩
  have hq := hg.2
  have hge := GRel.cut F.ng hg
  have e0 : ∀ {b m}, β.cut c.n0 b = some m → β b = some m := fun h => Mp.cut_le _ _ _ _ h
  have e1 : ∀ {b m}, b < c.n0 → β b = some m → β.cut c.n0 b = some m := fun hb h => by rw [Mp.cut_lt hb]; exact h
  have mcut : ∀ {b m}, (b < c.n0 ∨ SY ≤ b) → β b = some m → β.cut c.n0 b = some m := fun hb h => by
    rcases hb with hb | hb
    · rw [Mp.cut_lt hb]; exact h
    · rw [Mp.cut_sy hb]; exact h
  have hidp : MapOk (pm0 c.n0) β (β.cut c.n0) := mapOk_cut β c.n0
  have hin : ∀ {b}, inS r' w' b → b < c.n0 → inS c.r c.w b := fun hb hlt => hb.imp (E.r _ hlt) (E.w _ hlt)
  have hself : ∀ {b m}, alive c.h0 b → BOk β W (c.h0.blk b) m → BOk (β.cut c.n0) W (c.h0.blk b) m := fun {b m} ha hr => by
    obtain ⟨B, hm, hB, _⟩ := h0_blk F ha
    rw [hB] at hr ⊢
    exact (E.self _ hm).2 _ _ _ _ hidp hq hr
  have pc : Pre (β.cut c.n0) c.h0 H' r' w' W := by
    refine ⟨fun b hb ha => ?_, fun b d mb md hb hd ab ad eb ed => ?_, fun b h1 h2 => Mp.cut_no h1 (by have := E.nx; omega), fun b m e => p.dom b m (e0 e)⟩
    · obtain ⟨m, e, hr⟩ := p.rel b (hin hb ha.1) ha
      exact ⟨m, e1 ha.1 e, hself ha hr⟩
    · exact p.inj b d mb md (E.w b ab.1 hb) (hin hd ad.1) ab ad (e0 eb) (e0 ed)
  have la : LRel (β.cut c.n0) c.args args'.toList := all2_ok (fun x y z hxy hyz => covV_ok ht hidp hq 12 x y z hxy hyz) E.args hl
  refine (hc (β.cut c.n0) W hge pc args' la).mono fun e W' hR => ?_
  obtain ⟨βc, v'', he, hv, q⟩ := hR
  have hnx := E.nx
  have cO : ∀ {b m}, b < c.n0 → βc b = some m → β b = some m := fun {b m} hb e => by
    cases e2 : β.cut c.n0 b with
    | some m2 => have := q.le _ _ e2; rw [e] at this; cases this; exact e0 e2
    | none =>
      have h3 : c.n0 ≤ b := (q.only b m e e2).1
      omega
  obtain ⟨β', hβ'⟩ : ∃ β' : Mp, β' = fun b => if c.n0 ≤ b ∧ b < c.n1 then βc (srcOf c.n0 src b) else β b := ⟨_, rfl⟩
  have bN : ∀ {b}, c.n0 ≤ b → b < c.n1 → β' b = βc (srcOf c.n0 src b) := fun h1 h2 => by rw [hβ']; simp only []; rw [if_pos ⟨h1, h2⟩]
  have bO : ∀ {b}, ¬ (c.n0 ≤ b ∧ b < c.n1) → β' b = β b := fun h1 => by rw [hβ']; simp only []; rw [if_neg h1]
  have hsm : ∀ {b}, c.n0 ≤ b → b < c.n1 → srcOf c.n0 src b ∈ src := fun {b} h1 h2 => by
    have hl := E.len
    have hlt : b - c.n0 < src.length := by omega
    rw [src_new h1, getD_at hlt]
    exact List.getElem_mem _
  have hM : MapOk (pmS c.n0 c.n1 src) βc β' := by
    refine ⟨fun b b' m h e => ?_, fun k m e => ?_⟩
    · unfold pmS at h
      simp only [Bool.and_eq_true, blt_iff, beq_iff] at h
      obtain ⟨⟨h1, h2⟩, _⟩ := h
      subst h2
      by_cases hb : c.n0 ≤ b
      · rw [bN hb h1]; exact e
      · rw [bO fun h => hb h.1]
        rw [src_old (by omega)] at e
        exact cO (by omega) e
    · rw [bO fun h => by omega]
      cases e2 : β.cut c.n0 (SY + k) with
      | some m2 => have := q.le _ _ e2; rw [e] at this; cases this; exact e0 e2
      | none => have := (q.only _ m e e2).2; omega
  have hqc : SyQ.Q βc := SyQ.mono q.le hge.2
  have known : ∀ {b}, (c.n0 ≤ b ∨ c.w.testBit b = true) → alive c.h1 b → ∃ m, βc (srcOf c.n0 src b) = some m ∧ BOk βc W' (H'.blk (srcOf c.n0 src b)) m ∧ β' b = some m ∧ alive H' (srcOf c.n0 src b) ∧ (srcOf c.n0 src b < c.n0 → c.w.testBit (srcOf c.n0 src b) = true) := fun {b} hb ha => by
    obtain ⟨B, hm, hB, hcv, hne⟩ := hsrc hb ha
    have haH : alive H' (srcOf c.n0 src b) := (alive_iff _ _).2 hne
    have hws : srcOf c.n0 src b < c.n0 → c.w.testBit (srcOf c.n0 src b) = true := fun hlt => by
      by_cases h : c.n0 ≤ b
      · rcases E.mv _ (hsm h ha.1) with h' | h'
        · omega
        · exact h'.1
      · rw [src_old (by omega)]; exact hb.resolve_left h
    have hm' : ∃ m, βc (srcOf c.n0 src b) = some m ∧ BOk βc W' (H'.blk (srcOf c.n0 src b)) m := by
      by_cases hA : c.n0 ≤ srcOf c.n0 src b ∨ w'.testBit (srcOf c.n0 src b) = true
      · exact q.rel _ hA haH
      · have hlt : srcOf c.n0 src b < c.n0 := Nat.lt_of_not_le fun h => hA (.inl h)
        have hw' : w'.testBit (srcOf c.n0 src b) = false := by cases e : w'.testBit (srcOf c.n0 src b) with | false => rfl | true => exact absurd (.inr e) hA
        have hw := hws hlt
        have ha0 := (hpre0 hw).2
        obtain ⟨m, em, hr⟩ := p.rel _ (.inr hw) ha0
        obtain ⟨o, ho, hro⟩ := hself ha0 hr
        refine ⟨m, q.le _ _ (e1 hlt em), o, q.frame m.rb o ho fun d md hd hdw ed he => ?_, ?_⟩
        · have hd : d < c.n0 := hd
          have := p.inj _ _ m md hw (.inr (E.w _ hd hdw)) ha0 (can.wal d hd hdw) em (e0 ed) he.symm
          rw [← this, hw'] at hdw; cases hdw
        · rw [can.keep _ hlt hw']; exact hro.mono q.le
    obtain ⟨m, em, hr⟩ := hm'
    refine ⟨m, em, hr, ?_, haH, hws⟩
    by_cases h : c.n0 ≤ b
    · rw [bN h ha.1]; exact em
    · rw [bO fun h' => h h'.1]
      rw [src_old (by omega)] at em
      exact cO (by omega) em
  have he : EndE c.v e v'' := by
    unfold EndE at he ⊢
    cases h1 : unPan c.v <;> cases h2 : unPan v' <;> rw [h1, h2] at hp <;> first | (cases hp; done) | (rw [h2] at he; exact he)
  refine ⟨β', v'', he, covV_ok ht hM hqc 12 _ _ _ E.v hv, ?_⟩
  refine ⟨fun b m e => ?_, fun b m e eb => ?_, fun b hb ha => ?_, fun rb o ho hno => ?_, q.size, fun b m e => ?_, fun b m hb eb e => ?_, fun b d mb md hb hd ab ad eb ed hrb => ?_, q.env⟩
  · rw [bO fun h => by have := p.fresh b h.1 h.2; rw [this] at e; cases e]; exact e
  · by_cases h : c.n0 ≤ b ∧ b < c.n1
    · exact h
    · rw [bO h, eb] at e; cases e
  · obtain ⟨B, hm, hB, hcv, hne⟩ := hsrc hb ha
    obtain ⟨m, em, hr, eb, _⟩ := known hb ha
    rw [hB]
    exact ⟨m, eb, hcv.2 _ _ _ _ hM hqc hr⟩
  · exact q.frame rb o ho fun b m hb hw e => hno b m hb (E.w b hb hw) (e0 e)
  · by_cases h : c.n0 ≤ b ∧ b < c.n1
    · rw [bN h.1 h.2] at e; exact q.dom _ m e
    · rw [bO h] at e; exact Nat.lt_of_lt_of_le (p.dom b m e) q.size
  · by_cases h : c.n0 ≤ b ∧ b < c.n1
    · rw [bN h.1 h.2] at e
      have hs := hsm h.1 h.2
      by_cases hlt : srcOf c.n0 src b < c.n0
      · rcases E.mv _ hs with h' | ⟨h', h''⟩
        · omega
        · refine .inr ⟨_, m, hlt, h', cO hlt e, rfl, fun ha => ?_⟩
          obtain ⟨B, hl⟩ := hwl h'
          have := h'' B (lkB_mem hl)
          have e2 := h1_blk F ha.1 hl
          exact ha.2 (by rw [e2, this])
      · have hge' : c.n0 ≤ srcOf c.n0 src b := by omega
        have hsb := E.small _ hs
        rcases q.new _ m hge' (Mp.cut_no hge' (by omega)) e with h' | ⟨d, md, hd, hdw, ed, erb, hdead⟩
        · exact .inl h'
        · have hd : d < c.n0 := hd
          refine .inr ⟨d, md, hd, E.w d hd hdw, e0 ed, erb, fun ha => hdead ?_⟩
          obtain ⟨B, _, _, _, hne⟩ := hsrc (.inr (E.w d hd hdw)) ha
          rw [src_old hd] at hne
          exact (alive_iff _ _).2 hne
    · rw [bO h, eb] at e; cases e
  · obtain ⟨m1, es, _, eb', as, ws⟩ := known hb ab
    obtain ⟨m2, et, _, ed', at', wt⟩ := known hd ad
    rw [eb] at eb'; cases eb'
    rw [ed] at ed'; cases ed'
    have cross : ∀ {x y : Nat} {mx my : Bm}, βc x = some mx → βc y = some my → mx.rb = my.rb → alive H' x → alive H' y → (x < c.n0 → c.w.testBit x = true) → (y < c.n0 → c.w.testBit y = true) → ¬ (c.n0 ≤ x ∨ w'.testBit x = true) → x = y := fun {x y mx my} ex ey hxy ax ay wx wy hA => by
      have hlt : x < c.n0 := Nat.lt_of_not_le fun h => hA (.inl h)
      have ex0 := cO hlt ex
      have hx0 := (hpre0 (wx hlt)).2
      by_cases hy : y < c.n0
      · exact p.inj x y mx my (wx hlt) (.inr (wy hy)) hx0 (hpre0 (wy hy)).2 ex0 (cO hy ey) hxy
      · have hyn : y < H'.nx := ay.1
        rcases q.new y my (by show c.n0 ≤ y; omega) (Mp.cut_no (by omega) (by omega)) ey with h' | ⟨d, md, hd', hdw, ed2, erb, _⟩
        · have := p.dom x mx ex0; omega
        · have hd' : d < c.n0 := hd'
          have := p.inj d x md mx (E.w d hd' hdw) (.inr (wx hlt)) (can.wal d hd' hdw) hx0 (e0 ed2) ex0 (by omega)
          subst this
          exact absurd (.inr hdw) hA
    have hst : srcOf c.n0 src b = srcOf c.n0 src d := by
      by_cases hA : c.n0 ≤ srcOf c.n0 src b ∨ w'.testBit (srcOf c.n0 src b) = true
      · by_cases hA2 : c.n0 ≤ srcOf c.n0 src d ∨ w'.testBit (srcOf c.n0 src d) = true
        · exact q.inj _ _ mb md hA hA2 as at' es et hrb
        · exact (cross et es hrb.symm at' as wt ws hA2).symm
      · exact cross es et hrb as at' ws wt hA
    have moved : ∀ {x y : Nat}, x < c.n0 → c.n0 ≤ y → y < c.n1 → alive c.h1 x → (c.n0 ≤ x ∨ c.w.testBit x = true) → srcOf c.n0 src y = x → False := fun {x y} hx hy hy1 ax hxw e => by
      have hs := hsm hy hy1
      rw [e] at hs
      rcases E.mv _ hs with h' | ⟨_, h''⟩
      · omega
      · obtain ⟨B, hm, hB, _, _⟩ := hsrc hxw ax
        exact ax.2 (by rw [hB]; exact h'' B hm)
    by_cases h1 : c.n0 ≤ b
    · by_cases h2 : c.n0 ≤ d
      · rw [src_new h1, src_new h2] at hst
        have hl := E.len
        have l1 : b - c.n0 < src.length := by have : b < c.n1 := ab.1; omega
        have l2 : d - c.n0 < src.length := by have : d < c.n1 := ad.1; omega
        rw [getD_at l1, getD_at l2] at hst
        have := nodup_inj E.nd l1 l2 hst
        omega
      · rw [src_old (show d < c.n0 by omega)] at hst
        exact (moved (by omega) h1 ab.1 ad hd hst).elim
    · by_cases h2 : c.n0 ≤ d
      · rw [src_old (show b < c.n0 by omega)] at hst
        exact (moved (by omega) h2 ad.1 ab hb hst.symm).elim
      · rw [src_old (by omega), src_old (by omega)] at hst; exact hst
end
end Go.Ev
end
noncomputable section
namespace Go.Ev
theorem flat_list {β : Mp} {f : Value → Bool} (h : ∀ v v', f v = true → VRel β v v' → v' = v) : ∀ {l l' : List Value}, l.all f = true → LRel β l l' → l' = l
  | [], l', _, hl => hl.nil_inv
  | v :: l, l', ha, hl => by
    simp only [List.all_cons, Bool.and_eq_true] at ha
    obtain ⟨v', l2, rfl, hv, hl'⟩ := hl.cons_inv
    rw [h v v' ha.1 hv, flat_list h ha.2 hl']
theorem flat_eq {β : Mp} : ∀ (d : Nat) (v v' : Value), flatV d v = true → VRel β v v' → v' = v
  | 0, v, v', h, _ => by simp [flatV] at h
  | d + 1, v, v', h, hv => by
    have ih := flat_eq (β := β) d
    cases hv with
    | bool b => rfl
    | int k n => rfl
    | float k n => rfl
    | complex k a b => rfl
    | string s => rfl
    | ptr0 => rfl
    | ptr b o m e => simp [flatV] at h
    | sl0 l c => rfl
    | sl => simp [flatV] at h
    | slX => simp [flatV] at h
    | map0 => rfl
    | map => simp [flatV] at h
    | func f xs xs' ys ys' e1 e2 e3 e4 =>
      simp only [flatV, Bool.and_eq_true, List.isEmpty_iff] at h
      obtain ⟨rfl, rfl⟩ := h
      have : xs' = [] := by cases xs' with | nil => rfl | cons => simp at e1
      have h2 : ys' = [] := by cases ys' with | nil => rfl | cons => simp at e3
      rw [this, h2]
    | yield l m e => simp [flatV] at h
    | nilFunc => rfl
    | iface t x y hy => rw [ih x y (by simpa [flatV] using h) hy]
    | nilIface => rfl
    | agg xs xs' e0 e1 e2 =>
      have h' : xs.all (fun v => flatV d v && oneC v) = true := by simpa [flatV] using h
      rw [flat_list (f := fun v => flatV d v && oneC v) (fun v v' hf hv => ih v v' (by simp only [Bool.and_eq_true] at hf; exact hf.1) hv) h' (show LRel β xs xs' from ⟨e1, e2⟩)]
    | dead => simp [flatV] at h
    | sym => simp [flatV] at h
    | tuple xs xs' e1 e2 =>
      have h' : xs.all (flatV d) = true := by simpa [flatV] using h
      rw [flat_list (f := flatV d) (fun v v' hf hv => ih v v' hf hv) h' (show LRel β xs xs' from ⟨e1, e2⟩)]
variable [SyQ]
theorem memo_task {P : Program} {ng : Nat} {tab : Nat → Option Value} {c : Clm} (ht : TabOk tab) (F : Fits ng c) (hn : c.n1 = c.n0) (hw : c.w = 0) (hc : ClOk P ng c) {H : Hp} (hwf : H.wf) {args : List Value}
    (ha : all2 (covV tab (pm0 c.n0) 12) c.args args = true) (hb : ∀ x ∈ c.pre, covB (covV tab (pm0 c.n0) 12) x.2 (H.blk x.1) = true) : TaskOk P ng (.call c.f args) H (.k (spKR c.v H c.r 0)) := by
  obtain ⟨can, hc⟩ := task_EP.1 hc
  rw [hw] at hc
  refine task_EP.2 ⟨Can.refl hwf, fun β W hg p args' hl => ?_⟩
  have hq := hg.2
  have hge := GRel.cut F.ng hg
  have pc : Pre (β.cut c.n0) c.h0 c.h1 c.r 0 W := by
    refine ⟨fun b hb' hal => ?_, fun b d mb md hb' => ?_, fun b h1 h2 => ?_, fun b m e => p.dom b m (Mp.cut_le _ _ b m e)⟩
    · obtain ⟨B, hm, hB, hne⟩ := h0_blk F hal
      have hlt : b < c.n0 := F.pre _ hm
      have haH : alive H b := (alive_iff _ _).2 (covB_alive (hb _ hm) hne)
      obtain ⟨m, e, hr⟩ := p.rel b hb' haH
      refine ⟨m, by rw [Mp.cut_lt hlt]; exact e, ?_⟩
      rw [hB]
      exact covB_ok ht (mapOk_cut β c.n0) hq (hb _ hm) hr
    · simp at hb'
    · have h1 : c.n0 ≤ b := h1
      have h2 : b < c.n1 := h2
      omega
  have la : LRel (β.cut c.n0) c.args args'.toList := all2_ok (fun x y z hxy hyz => covV_ok ht (mapOk_cut β c.n0) hq 12 x y z hxy hyz) ha hl
  refine (hc (β.cut c.n0) W hge pc args' la).mono fun e W' hR => ?_
  obtain ⟨βc, v', he, hv, q⟩ := hR
  have hle : Mp.le βc β := fun b m e => by
    cases e2 : β.cut c.n0 b with
    | some m2 => have := q.le _ _ e2; rw [e] at this; cases this; exact Mp.cut_le _ _ _ _ e2
    | none =>
      have := q.only b m e e2
      have h1 : c.n0 ≤ b := this.1
      have h2 : b < c.n1 := this.2
      omega
  refine ⟨β, v', he, hv.mono hle, ?_⟩
  refine ⟨Mp.le.refl _, fun b m e e0 => (by rw [e0] at e; cases e), fun b hb' hal => ?_, fun rb o ho hno => q.frame rb o ho fun b m _ h => (by simp at h), q.size, fun b m e => Nat.lt_of_lt_of_le (p.dom b m e) q.size, fun b m _ e0 e => (by rw [e0] at e; cases e), fun b d mb md hb' _ hal => ?_, q.env⟩
  · rcases hb' with h | h
    · have := hal.1; omega
    · simp at h
  · rcases hb' with h | h
    · have := hal.1; omega
    · simp at h
theorem TaskOk.conseq {P : Program} {ng : Nat} {f : FuncId} {H : Hp} {r : Nat} {args : List Value} {v : Value} (hwf : H.wf)
    (h : ∀ β W args', GRel ng β → Pre β H H r 0 W → LRel β args args' → ∃ (a : List Value) (v1 : Value), (∀ args'', args''.toList = args' → CallOk P f args'' W (RetP β H H 0 W v1)) ∧ ∀ β' v', Mp.le β β' → VRel β' v1 v' → VRel β' v v') :
    TaskOk P ng (.call f args) H (.k (.ret v H r 0)) := by
  refine ⟨Can.refl hwf, fun β W hg p args' hl => ?_⟩
  obtain ⟨a, v1, h1, h2⟩ := h β W args'.toList hg p hl
  refine (h1 args' rfl).mono fun e W' hR => ?_
  obtain ⟨β', v', he, hv, q⟩ := hR
  exact ⟨β', v', he, h2 β' v' q.le hv, q⟩
end Go.Ev
end
noncomputable section
namespace Go.Ev.SM
def s0 : Value := .string ⟨#[]⟩
def tyV (k p : Int) : Value := .agg ⟨[.int .i64 k, .int .i64 p, .int .i64 0, .bool false, s0]⟩
def T15 : Value := tyV 2 15
def T16 : Value := tyV 2 16
def vl (v : Value) : Value := .agg ⟨[v, s0]⟩
def nV (n : Int) : Value := .int .i64 n
def sy (k : Nat) : Value := .chan (some k)
def isTy (p : Int) (v : Value) : Bool := match v with
  | .agg ⟨[.int .i64 k, .int .i64 q, .int .i64 z, .bool b, .string s]⟩ => eqI k 2 && (eqI q p && (eqI z 0 && (!b && s.data.toList.isEmpty)))
  | _ => false
def isI (n : Int) (v : Value) : Bool := match v with | .int .i64 m => eqI m n | _ => false
def symOf (v : Value) : Option Nat := match v with
  | .agg ⟨[.chan (some k), .string s]⟩ => Bc s.data.toList.isEmpty (some k) none
  | _ => none
def isVl (n : Int) (v : Value) : Bool := match v with
  | .agg ⟨[.int .i64 m, .string s]⟩ => eqI m n && s.data.toList.isEmpty
  | _ => false
def numOf (v : Value) : Option Nat := match v with
  | .agg ⟨[.int .i64 (.ofNat m), .string s]⟩ => Bc (s.data.toList.isEmpty && Nat.blt m 61) (some m) none
  | _ => none
abbrev Ans := Option (Value × Hp × Nat × Nat)
def ans (v : Value) (H : Hp) : Ans := some (v, H, 0, 0)
def spDo (lim : Nat) (args : List Value) (H : Hp) : Ans := match args with
  | [op, a, ta, b, tb] => (match symOf a with
    | some k => Bc (isTy 15 ta && isTy 15 tb)
      (Bc (isI 7 op) (Bc (isVl 1 b && (Nat.ble 100 k && Nat.blt k (100 + lim))) (ans (.tuple ⟨[vl (sy (Nat.succ k)), nV 0, nV 0]⟩) H) none)
        (Bc (isI 6 op) (match symOf b with
          | some l => Bc (Nat.ble 100 k && (Nat.blt k (100 + lim) && Nat.beq l (k + 201))) (ans (.tuple ⟨[vl (sy (k + 200)), nV 0, nV 0]⟩) H) none
          | none => none) none)) none
    | none => none)
  | _ => none
def pwB : Blk := blkL ((List.range 20).map fun i => .int .u64 (.ofNat (Nat.pow 10 i))) 214 0
def hasPw (H : Hp) : Bool := covB (covV (fun _ => none) (pm0 15) 12) pwB (H.blk 2)
def spTo (args : List Value) (H : Hp) : Ans := match args with
  | [a, ta, tb] => (match symOf a with
    | some k => Bc (isTy 16 ta && (isTy 15 tb && (Nat.ble 100 k && Nat.blt k 162 || Nat.ble 300 k && Nat.blt k 362))) (Bc (hasPw H) (some (.tuple ⟨[vl (sy k), nV 0, nV 0]⟩, H, 4, 0)) none) none
    | none => none)
  | _ => none
def spCmp (lim : Nat) (base : Bool) (args : List Value) (H : Hp) : Ans := match args with
  | [a, ta, b, tb] => (match symOf a with
    | some k => Bc (isTy 15 ta && (isTy 15 tb && (isVl 0 b && Nat.ble 100 k)))
      (Bc (Nat.blt k (100 + lim)) (ans (.tuple ⟨[nV 1, nV 0]⟩) H) (Bc (base && Nat.beq k (100 + lim)) (ans (.tuple ⟨[nV 0, nV 0]⟩) H) none)) none
    | none => none)
  | _ => none
def isV (k : Nat) : Bool := Nat.ble 100 k && Nat.blt k 162
def spChk (args : List Value) (H : Hp) : Ans := match args with
  | [ta, a] => (match symOf a with
    | some k => Bc (isTy 15 ta && isV k) (ans (nV 0) H) none
    | none => (match numOf a with | some _ => Bc (isTy 15 ta) (ans (nV 0) H) none | none => none))
  | _ => none
def spFits (args : List Value) (H : Hp) : Ans := match args with
  | [a, ta] => (match symOf a with
    | some k => Bc (isTy 15 ta && isV k) (ans (nV 0) H) none
    | none => (match numOf a with | some _ => Bc (isTy 15 ta) (ans (nV 0) H) none | none => none))
  | _ => none
def spEnc (args : List Value) (H : Hp) : Ans := match args with
  | [ta, a] => (match symOf a with
    | some k => Bc (isTy 15 ta && isV k) (ans (.tuple ⟨[sy (k + 400), nV 0]⟩) H) none
    | none => (match numOf a with | some m => Bc (isTy 15 ta) (ans (.tuple ⟨[.string (bits16 m), nV 0]⟩) H) none | none => none))
  | _ => none
def spDec (args : List Value) (H : Hp) : Ans := match args with
  | [ta, .chan (some k)] => Bc (isTy 15 ta && (Nat.ble 500 k && Nat.blt k 562)) (ans (.tuple ⟨[vl (sy (Nat.sub k 400)), nV 0]⟩) H) none
  | _ => none
def isByteV (v : Value) : Bool := match v with
  | .int .u8 (.ofNat x) => Nat.blt x 256
  | .chan (some k) => Nat.ble 200 k && Nat.blt k 262
  | _ => false
def allO (f : Value → Bool) : (d : Nat) → Oc Value d → Bool
  | 0, x => f x
  | d + 1, x => match (x : N8 (Oc Value d)) with
    | ⟨a, b, c, e, g, h, i, j⟩ => allO f d a && (allO f d b && (allO f d c && (allO f d e && (allO f d g && (allO f d h && (allO f d i && allO f d j))))))
def allT (f : Value → Bool) (t : T Value) : Bool := match t with
  | .t0 x => f x
  | .t6 x => allO f 6 x
  | _ => false
def memOk (B : Blk) : Option (T Value) := match B with
  | .cells t sz ty op lo hi => Bc (Nat.beq sz 65536 && (Nat.beq ty 199 && (Nat.beq op 0 && (Nat.beq lo 0 && (Nat.beq hi 0 && allT isByteV t))))) (some t) none
  | _ => none
def byteOk (hi lo : Value) : Option Nat := match hi, lo with
  | .int .u8 h, .chan (some k) => Bc (eqI h 0 && (Nat.ble 200 k && Nat.blt k 262)) (some k) none
  | _, _ => none
def nxOk (H : Hp) : Bool := Nat.ble H.nx 32768 && Nat.ble 15 H.nx
def spGet (args : List Value) (H : Hp) : Ans := match args with
  | [.pointer (some ⟨b, 0, none⟩), .int .i64 (.ofNat at_), .int .i64 n] => (match memOk (H.blk b) with
    | some t => Bc (eqI n 16 && (Nat.beq (Nat.mod at_ 8) 0 && (Nat.blt (Nat.div at_ 8) 65535 && nxOk H)))
      (match byteOk (t.get (Nat.div at_ 8)) (t.get (Nat.succ (Nat.div at_ 8))) with
        | some k => some (sy (k + 300), H, bit b, 0)
        | none => none) none
    | none => none)
  | _ => none
def num16 (s : ByteArray) : Nat := s.data.toList.foldl (fun n d => Nat.add (Nat.mul 2 n) (Nat.sub d.toNat 48)) 0
def setB (t : T Value) (b at_ : Nat) (v : Value) (H : Hp) : Ans :=
  Bc (Nat.beq (Nat.mod at_ 8) 0 && (Nat.blt (Nat.div at_ 8) 65535 && nxOk H))
      (some (.tuple #[], H.put b (.cells (T.set 6 (T.set 6 t (Nat.div at_ 8) (.int .u8 0)) (Nat.succ (Nat.div at_ 8)) v) 65536 199 0 0 0), 0, bit b)) none
def spSet (args : List Value) (H : Hp) : Ans := match args with
  | [.pointer (some ⟨b, 0, none⟩), .int .i64 (.ofNat at_), s] => (match memOk (H.blk b) with
    | some t => (match s with
      | .chan (some k) => Bc (Nat.ble 500 k && Nat.blt k 562) (setB t b at_ (sy (Nat.sub k 300)) H) none
      | .string s => Bc (Nat.blt (num16 s) 61 && eqBs s.data.toList (bits16 (num16 s)).data.toList) (setB t b at_ (.int .u8 (.ofNat (num16 s))) H) none
      | _ => none)
    | none => none)
  | _ => none
def spNE (args : List Value) (H : Hp) : Ans := match args with
  | [x] => some (x, H, 0, 0)
  | _ => none
def spMk (args : List Value) (H : Hp) : Ans := match args with
  | [.int .i64 (.ofNat n)] => Bc (Nat.ble n 1099511627776) (match alloc1 (.cells (.e U) 0 5 2 0 0) H (fun i => .slice (some ⟨i, 0, none⟩) n 1) 0 0 with
    | .val v H' r w => some (v, H', r, w)
    | _ => none) none
  | _ => none
def spM (f : Nat) (args : List Value) (H : Hp) : Ans := Bc (Nat.beq f 367) (spNE args H) (Bc (Nat.beq f 446) (spMk args H) none)
def spMem (args : List Value) (H : Hp) : Ans := match args with
  | [] => (match alloc1 (.cells (.e (.int .u8 0)) 65536 199 0 0 0) H ptrTo 0 0 with | .val v H' r w => some (v, H', r, w) | _ => none)
  | _ => none
def memo1 (v : Value) (args : List Value) (H : Hp) : Ans := match args with
  | [t] => Bc (isTy 15 t) (ans v H) none
  | _ => none
def spTy (f : Nat) (args : List Value) (H : Hp) : Ans :=
  Bc (Nat.beq f 234) (memo1 (nV 0) args H) (Bc (Nat.beq f 166) (memo1 (nV 0) args H) (Bc (Nat.beq f 165) (memo1 (nV 16) args H) (Bc (Nat.beq f 229) (memo1 (.bool true) args H) (Bc (Nat.beq f 164) (memo1 (nV 16) args H) (Bc (Nat.beq f 123) (memo1 (.bool true) args H) none)))))
def mkTy : Nat := 2 ^ 234 + 2 ^ 166 + 2 ^ 165 + 2 ^ 229 + 2 ^ 164 + 2 ^ 123
def mkM : Nat := 2 ^ 367 + 2 ^ 446
def mkSy : Nat := 2 ^ 148 + 2 ^ 144 + 2 ^ 150 + 2 ^ 163 + 2 ^ 199 + 2 ^ 135 + 2 ^ 307 + 2 ^ 308 + 2 ^ 137
def spSy (lim : Nat) (base : Bool) (f : Nat) (args : List Value) (H : Hp) : Ans :=
  Bc (Nat.beq f 148) (spDo lim args H) (Bc (Nat.beq f 144) (spTo args H) (Bc (Nat.beq f 150) (spCmp lim base args H) (Bc (Nat.beq f 163) (spChk args H) (Bc (Nat.beq f 199) (spFits args H) (Bc (Nat.beq f 135) (spEnc args H) (Bc (Nat.beq f 307) (spDec args H) (Bc (Nat.beq f 308) (spGet args H) (Bc (Nat.beq f 137) (spSet args H) none))))))))
def npS (x : Ans) : Ans := match x with
  | some (v, q) => (match unPan v with | none => some (v, q) | some _ => none)
  | none => none
def spX (lim : Nat) (base : Bool) (g : Nat) (nest : List Value → Hp → Ans) (f : Nat) (args : List Value) (H : Hp) : Ans :=
  Bc (Nat.testBit mkTy f) (npS (spTy f args H)) (Bc (Nat.testBit mkSy f) (npS (spSy lim base f args H)) (Bc (Nat.beq f g) (nest args H) (Bc (Nat.testBit mkM f) (npS (spM f args H)) (Bc (Nat.beq f 54) (npS (spMem args H)) none))))
end Go.Ev.SM
end
