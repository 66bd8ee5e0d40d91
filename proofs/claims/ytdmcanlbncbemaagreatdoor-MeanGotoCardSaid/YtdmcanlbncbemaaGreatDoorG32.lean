/-
  A part of the proof that pliantlaw16.MeanGoto returns true and leaves its arguments alone. Conditions: those of the card in the last text.
-/
import Derived.Below
import Derived.Deep.DeepHandedRow
import Derived.Deep.DeepLaidRun
import Derived.Deep.DeepWitnessRowRef
import Derived.Deep.Slices
import Derived.KernelRfl
import Derived.LaidHandle
import Derived.LaidLaws
import Derived.Lib.LaidTab
import Derived.OpenShut
import Derived.ProofKit
import Derived.Test.YtdmcanlbncbemaaGreatDoorRows
import Derived.WalkKit
import Derived.Test.YtdmcanlbncbemaaGreatDoorG10
import Derived.Test.YtdmcanlbncbemaaGreatDoorG15
import Derived.Test.YtdmcanlbncbemaaGreatDoorG20
import Derived.Test.YtdmcanlbncbemaaGreatDoorG26
import Derived.Test.YtdmcanlbncbemaaGreatDoorG27
import Derived.Test.YtdmcanlbncbemaaGreatDoorG28
import Derived.Test.YtdmcanlbncbemaaGreatDoorG29
import Derived.Test.YtdmcanlbncbemaaGreatDoorG30
import Derived.Test.YtdmcanlbncbemaaGreatDoorG31
set_option linter.unusedSimpArgs false
set_option linter.unusedVariables false
set_option linter.unusedSectionVars false
noncomputable section
namespace Go.Proofs.MN
open Go Go.Ev Go.Proofs Go.Ev.SM
theorem spSnap_np {args : List Value} {H H' : Hp} {v : Value} {r w : Nat} (h : spSnap args H = some (v, H', r, w)) : unPan v = none := by
  unfold spSnap at h
  split at h
  case h_2 => cases h
  split at h
  case h_2 => cases h
  have h2 := bc_some h
  obtain ⟨_, h⟩ := h2
  split at h
  case h_2 => cases h
  split at h
  case h_2 => cases h
  have h2 := bc_some h
  obtain ⟨_, h⟩ := h2
  cases h; rfl
theorem sane_ok (P : Nat → Prop) : @ClOk (SyN P) Tryz.prog NG clSane ∧ Fits NG clSane := by
  letI := SyN P
  have hr : clB (spX 0 false 33 spSnap) tab0 clSane [] = true := by have := bool_of sane_run; unfold saneB at this; exact this
  exact clB_ok (sp := spX 0 false 33 spSnap) (spX_ok (P := P) (lim := 0) (base := false) (g := 33) (nest := spSnap) (fun n hn => ⟨Nat.zero_le _, fun h => by cases h⟩) (by omega) fun args H v H' r w hw h => TaskOk.kr (spSnap_ok hw h) (spSnap_np h)) tab0_ok hr
theorem chk_ok (th : Bool) {n : Nat} (h1 : 1 ≤ n) : @ClOk (SyN (· = n)) Tryz.prog NG (clChk th) ∧ Fits NG (clChk th) := by
  letI := SyN (· = n)
  have hr : chkB th = true := by
    cases th with
    | false => exact bool_of chkF_run
    | true => exact bool_of chkT_run
  exact clB_ok (spGt_ok (P := (· = n)) (lim := 0) (base := false) (fun m hm => ⟨by have : m = n := hm; omega, fun h => by cases h⟩) (by omega) no_nest1) tab0_ok hr
theorem iu {m : Bm} {x : Nat} (h : m.esz = 0) (hx : m.sh = x) : symR m (nV (Int.ofNat x)) ∧ ∀ v', symR m v' → v' = nV (Int.ofNat x) := by
  refine ⟨.inl ⟨h, by rw [hx]; rfl⟩, fun v' hv => ?_⟩
  rcases hv with ⟨_, h2⟩ | ⟨h2, _⟩ | ⟨h2, _⟩ | ⟨h2, _⟩ | ⟨h2, _⟩ | ⟨h2, _⟩
  · rw [h2, hx]; rfl
  all_goals (rw [h] at h2; cases h2)
theorem gTabL_ok (n : Nat) : @TabOk (SyN (· = n)) (gTabL n) := by
  intro β k v hq h
  obtain ⟨m, rfl, hn, tb⟩ := hq
  unfold gTabL at h
  have ek := tb k
  cases e1 : Nat.beq k 200 with
  | true =>
    rw [e1, Bc_t] at h
    cases h
    rw [(beq_iff _ _).1 e1] at ek ⊢
    rw [bm_B (by omega) (by omega)] at ek
    exact ⟨_, ek, bu rfl rfl⟩
  | false =>
    rw [e1, Bc_f] at h
    obtain ⟨hk, hv⟩ := bc_some h
    cases hv
    rw [(beq_iff _ _).1 hk] at ek ⊢
    rw [bm_V (by omega) (by omega)] at ek
    exact ⟨_, ek, iu rfl rfl⟩
theorem spEnt_ok (th : Bool) {n : Nat} (h1 : 1 ≤ n) (hn : n ≤ 50) {args : List Value} {H H' : Hp} {v : Value} {r w : Nat} (hw : H.wf) (h : spEnt th n args H = some (v, H', r, w)) : @TaskOk (SyN (· = n)) Tryz.prog NG (.call 153 args) H (.k (spKR v H' r w)) := by
  letI := SyN (· = n)
  unfold spEnt at h
  split at h
  · rename_i x hx
    rw [h] at hx
    have s := ent_run th h1 hn
    exact spC_ok (gTabL_ok n) s.2 s.1 hw hx
  · have s := ent_wat th h1 hn
    exact spC_ok (gTabL_ok n) s.2 s.1 hw h
theorem or2_ok {x y : Ans} {q : Value × Hp × Nat × Nat} {C : Prop} (h1 : x = some q → C) (h2 : y = some q → C) (h : or2 x y = some q) : C := by
  unfold or2 at h
  split at h
  · exact h1 h
  · exact h2 h
theorem bc2 {b : Bool} {x : Nat} (h : Nat.beq (Bc b x 0) 1 = true) : b = true ∧ Nat.beq x 1 = true := by
  cases b with
  | false => cases h
  | true => exact ⟨rfl, h⟩
theorem sim_ok {c : Clm} (n : Nat) (h : simB c = true) : @ClOk (SyN (· = n)) Tryz.prog NG c ∧ Fits NG c := by
  letI := SyN (· = n)
  exact clB_ok (spX_ok (P := (· = n)) (lim := 0) (base := false) (g := 1000000) (fun m hm => ⟨Nat.zero_le _, fun h => by cases h⟩) (by omega) no_nest1) tab0_ok h
theorem two_ok (n : Nat) : (@ClOk (SyN (· = n)) Tryz.prog NG clTwo1 ∧ Fits NG clTwo1) ∧ @ClOk (SyN (· = n)) Tryz.prog NG clTwo2 ∧ Fits NG clTwo2 := by
  obtain ⟨a, h⟩ := bc2 two_runs
  obtain ⟨b, _⟩ := bc2 h
  exact ⟨sim_ok n a, sim_ok n b⟩
theorem tab_ok (th : Bool) (n : Nat) : (@ClOk (SyN (· = n)) Tryz.prog NG (clTab (gR th)) ∧ Fits NG (clTab (gR th))) ∧ @ClOk (SyN (· = n)) Tryz.prog NG (clTab (gWt th)) ∧ Fits NG (clTab (gWt th)) := by
  obtain ⟨a, h⟩ := bc2 tab_runs
  obtain ⟨b, h⟩ := bc2 h
  obtain ⟨c, h⟩ := bc2 h
  obtain ⟨d, _⟩ := bc2 h
  cases th with
  | false => exact ⟨sim_ok n a, sim_ok n c⟩
  | true => exact ⟨sim_ok n b, sim_ok n d⟩
theorem put_ok (th : Bool) (n : Nat) : @ClOk (SyN (· = n)) Tryz.prog NG (clPut (gR th)) ∧ Fits NG (clPut (gR th)) := by
  obtain ⟨a, h⟩ := bc2 put_runs
  obtain ⟨b, _⟩ := bc2 h
  cases th with
  | false => exact sim_ok n a
  | true => exact sim_ok n b
theorem new_ok1 {g : GV} {a n : Nat} (h1 : 1 ≤ n) (h : newB g a = true) : @ClOk (SyN (· = n)) Tryz.prog NG (clNew g a) ∧ Fits NG (clNew g a) := by
  letI := SyN (· = n)
  refine clB_ok (spX_ok (P := (· = n)) (lim := 0) (base := false) (g := 44) (nest := spChk g.th) (fun m hm => ⟨Nat.zero_le _, fun h => by cases h⟩) (by omega) fun args H v H' r w hw hh => ?_) tab0_ok h
  have s := chk_ok g.th h1
  exact spC_ok tab0_ok s.2 s.1 hw hh
theorem newG_ok (th : Bool) {n : Nat} (h1 : 1 ≤ n) : (@ClOk (SyN (· = n)) Tryz.prog NG (clNew (gR th) (if th then 160 else 155)) ∧ Fits NG (clNew (gR th) (if th then 160 else 155))) ∧ @ClOk (SyN (· = n)) Tryz.prog NG (clNew (gWt th) (if th then 340 else 335)) ∧ Fits NG (clNew (gWt th) (if th then 340 else 335)) := by
  obtain ⟨a, h⟩ := bc2 new_runs
  obtain ⟨b, h⟩ := bc2 h
  obtain ⟨c, h⟩ := bc2 h
  obtain ⟨d, _⟩ := bc2 h
  cases th with
  | false => exact ⟨new_ok1 h1 a, new_ok1 h1 c⟩
  | true => exact ⟨new_ok1 h1 b, new_ok1 h1 d⟩
theorem spLawG_ok (th : Bool) {n : Nat} (h1 : 1 ≤ n) (hn : n ≤ 50) : @SpOk (SyN (· = n)) Tryz.prog NG (spLawG th n) := by
  letI := SyN (· = n)
  intro f args H v H' r w hw h
  unfold spLawG at h
  cases e1 : Nat.testBit mkTy f with
  | true => rw [e1, Bc_t] at h; exact np_task h fun h => spTy_ok hw h
  | false =>
  rw [e1, Bc_f] at h
  cases e2 : Nat.testBit mkSy f with
  | true => rw [e2, Bc_t] at h; exact np_task h fun h => spSy_ok (P := (· = n)) (fun m _ => ⟨Nat.zero_le _, fun h => by cases h⟩) (by omega) hw h
  | false =>
  rw [e2, Bc_f] at h
  cases e3 : Nat.beq f 153 with
  | true => rw [e3, Bc_t] at h; rw [(beq_iff _ _).1 e3]; exact spEnt_ok th h1 hn hw h
  | false =>
  rw [e3, Bc_f] at h
  cases e4 : Nat.testBit mkM f with
  | true => rw [e4, Bc_t] at h; exact np_task h fun h => spM_ok hw h
  | false =>
  rw [e4, Bc_f] at h
  cases e5 : Nat.beq f 54 with
  | true => rw [e5, Bc_t] at h; rw [(beq_iff _ _).1 e5]; exact np_task h fun h => spMem_ok tb1_ok lp_ok hw h
  | false =>
  rw [e5, Bc_f] at h
  cases e6 : Nat.beq f 7 with
  | true =>
    rw [e6, Bc_t] at h; rw [(beq_iff _ _).1 e6]
    have s := sane_ok (· = n)
    exact spC_ok tab0_ok s.2 s.1 hw h
  | false =>
  rw [e6, Bc_f] at h
  cases e7 : Nat.beq f 44 with
  | true =>
    rw [e7, Bc_t] at h; rw [(beq_iff _ _).1 e7]
    have s := chk_ok th h1
    exact spC_ok (gTabL_ok n) s.2 s.1 hw h
  | false =>
  rw [e7, Bc_f] at h
  cases e8 : Nat.beq f 33 with
  | true => rw [e8, Bc_t] at h; rw [(beq_iff _ _).1 e8]; exact np_task h fun h => spSnap2_ok hw h
  | false =>
  rw [e8, Bc_f] at h
  cases e9 : Nat.beq f 11 with
  | true =>
    rw [e9, Bc_t] at h; rw [(beq_iff _ _).1 e9]
    have s := two_ok n
    exact or2_ok (fun h => spC_ok tab0_ok s.1.2 s.1.1 hw h) (fun h => spC_ok tab0_ok s.2.2 s.2.1 hw h) h
  | false =>
  rw [e9, Bc_f] at h
  cases e10 : Nat.beq f 47 with
  | true =>
    rw [e10, Bc_t] at h; rw [(beq_iff _ _).1 e10]
    have s := newG_ok th h1
    exact or2_ok (fun h => spC_ok (gTabL_ok n) s.1.2 s.1.1 hw h) (fun h => spC_ok (gTabL_ok n) s.2.2 s.2.1 hw h) h
  | false =>
  rw [e10, Bc_f] at h
  cases e11 : Nat.beq f 48 with
  | true =>
    rw [e11, Bc_t] at h; rw [(beq_iff _ _).1 e11]
    have s := tab_ok th n
    exact or2_ok (fun h => spC_ok tab0_ok s.1.2 s.1.1 hw h) (fun h => spC_ok tab0_ok s.2.2 s.2.1 hw h) h
  | false =>
  rw [e11, Bc_f] at h
  obtain ⟨e12, h⟩ := bc_some h
  rw [(beq_iff _ _).1 e12]
  have s := put_ok th n
  exact spC_ok tab0_ok s.2 s.1 hw h
theorem lawG_run (th : Bool) {n : Nat} (h1 : 1 ≤ n) (hn : n ≤ 50) : lawG th n = true := by
  have split2 : ∀ {a b c d e f : List Nat}, (a ++ (b ++ (c ++ (d ++ (e ++ f))))) = (List.range 50).map (· + 1) → n ∈ a ∨ n ∈ b ∨ n ∈ c ∨ n ∈ d ∨ n ∈ e ∨ n ∈ f := fun {a b c d e f} h => by
    have : n ∈ (List.range 50).map (· + 1) := List.mem_map.2 ⟨n - 1, List.mem_range.2 (by omega), by omega⟩
    rw [← h] at this
    simpa only [List.mem_append] using this
  have key : n ∈ ([1, 2, 3, 4, 5, 6, 7, 8, 9] : List Nat) ∨ n ∈ ([10, 11, 12, 13, 14, 15, 16, 17] : List Nat) ∨ n ∈ ([18, 19, 20, 21, 22, 23, 24, 25, 26] : List Nat) ∨ n ∈ ([27, 28, 29, 30, 31, 32, 33, 34] : List Nat) ∨ n ∈ ([35, 36, 37, 38, 39, 40, 41, 42, 43] : List Nat) ∨ n ∈ ([44, 45, 46, 47, 48, 49, 50] : List Nat) := split2 (by decide)
  cases th with
  | false =>
    rcases key with h | h | h | h | h | h
    · exact allB_mem (bool_of lawF_0_0) n h
    · exact allB_mem (bool_of lawF_0_1) n h
    · exact allB_mem (bool_of lawF_1_0) n h
    · exact allB_mem (bool_of lawF_1_1) n h
    · exact allB_mem (bool_of lawF_2_0) n h
    · exact allB_mem (bool_of lawF_2_1) n h
  | true =>
    rcases key with h | h | h | h | h | h
    · exact allB_mem (bool_of lawT_0_0) n h
    · exact allB_mem (bool_of lawT_0_1) n h
    · exact allB_mem (bool_of lawT_1_0) n h
    · exact allB_mem (bool_of lawT_1_1) n h
    · exact allB_mem (bool_of lawT_2_0) n h
    · exact allB_mem (bool_of lawT_2_1) n h
theorem lawG_ok (th : Bool) {n : Nat} (h1 : 1 ≤ n) (hn : n ≤ 50) : @ClOk (SyN (· = n)) Tryz.prog NG (clLawG th n) ∧ Fits NG (clLawG th n) := by
  letI := SyN (· = n)
  exact clB_ok (spLawG_ok th h1 hn) tab0_ok (lawG_run th h1 hn)
end Go.Proofs.MN
end
noncomputable section
namespace Go.Proofs.MN
open Go Go.Ev Go.Proofs Go.Ev.SM
open Go.RowKit (Below)
def totW (W : World) (b : Nat) : Nat := match W.heap[b]? with | some (.cells cs _ _) => cs.size | _ => 0
structure GlW (W : World) : Prop where
  size : NG ≤ W.heap.size
  cells : ∀ x ∈ globL, ∀ β, BOk β W x.2 ⟨x.1, 0, totW W x.1, 0⟩
def mpN (W : World) (n : Nat) : Mp := fun b => if b < NG then some ⟨b, 0, totW W b, 0⟩ else if SY ≤ b then some (bmOf n (b - SY)) else none
theorem ng_sy : NG < SY := by unfold SY NG; decide
theorem mpN_g {W : World} {n b : Nat} (h : b < NG) : mpN W n b = some ⟨b, 0, totW W b, 0⟩ := by unfold mpN; rw [if_pos h]
theorem mpN_s {W : World} {n : Nat} : Tbl n (mpN W n) := fun k => by
  have := ng_sy
  unfold mpN; rw [if_neg (by omega), if_pos (by omega), Nat.add_sub_cancel_left]
theorem bmOf_rb (n k : Nat) : (bmOf n k).rb = 0 := by
  unfold bmOf
  repeat' split
  all_goals rfl
section
variable [SyQ]
theorem pre_g {c : Clm} (hp : c.pre = globL) (F : Fits NG c) (hw : c.w = 0) (h1 : c.h1.nx = c.h0.nx) {W : World} (g : GlW W) (n : Nat) : Pre (mpN W n) c.h0 c.h1 c.r c.w W := by
  have hs := g.size
  refine ⟨fun b _ ha => ?_, fun b d _ _ hb => ?_, fun b h2 h3 => by omega, fun b m e => ?_⟩
  · obtain ⟨B, hB, e, _⟩ := h0_blk F ha
    rw [hp] at hB
    have hlt : b < NG := by
      simp only [globL, List.mem_cons, Prod.mk.injEq, List.mem_nil_iff, or_false] at hB
      rcases hB with ⟨rfl, _⟩ | ⟨rfl, _⟩ | ⟨rfl, _⟩ <;> decide
    exact ⟨_, mpN_g hlt, by rw [e]; exact g.cells _ hB _⟩
  · rw [hw] at hb; simp at hb
  · unfold mpN at e
    split at e
    · have e := Option.some.inj e
      rw [← e]; show b < _; omega
    split at e
    · have e := Option.some.inj e
      rw [← e, bmOf_rb]; have : 0 < NG := by decide
      omega
    · cases e
theorem below_of {β β' : Mp} {H H' : Hp} {W W' : World} (q : Post β β' H H' 0 W W') : Below W.heap.size W W' := by
  refine ⟨q.env.1, q.env.2.1, q.env.2.2, q.size, fun k hk => ?_⟩
  cases ho : W.heap[k]? with
  | none => have := Array.getElem?_eq_none_iff.1 ho; omega
  | some o => exact q.frame k o ho fun b m hb hwb => by simp at hwb
theorem calls_of {P : Program} {f : FuncId} {args : Array Value} {W : World} {R : Ending → World → Prop} (hb : (callFunc f args).run P W = .ok (.enter f args) W) (h : CallOk P f args W R) : Calls P f args W R := by
  rcases h with ⟨_, hc⟩ | ⟨v', W', hc, _⟩
  · exact callsIn_wide.1 hc
  · rw [hb] at hc; cases hc
end
theorem grel_g {W : World} {n : Nat} {P : Nat → Prop} (hn : P n) (h : n ≤ 60) : @GRel (SyN P) NG (mpN W n) := ⟨fun g hg => ⟨_, mpN_g hg, rfl, rfl⟩, n, hn, h, mpN_s⟩
end Go.Proofs.MN
end
noncomputable section
namespace Go.Proofs.MN
open Go Go.Ev Go.Proofs Go.Ar Go.Ev.SM
open Go.RowKit (Below)
def spOut (f : Nat) (args : List Value) (H : Hp) : Ans := Bc (Nat.beq f 7) (spC tab0 clSane 7 args H) none
def eOut : Env := ⟨NG, fun _ => True, fun _ => False⟩
theorem sane_sp : spOut 7 [] clSane.h0 = some (.bool true, clSane.h0, 76, 0) := by kernel_rfl
theorem lawG_in {W : World} (g : GlW W) (th : Bool) {n : Nat} (h1 : 1 ≤ n) (h : n ≤ 50) : Calls Tryz.prog 4 #[nN n, .bool th] W fun e W' => e = .returned (.bool true) ∧ Below W.heap.size W W' := by
  obtain ⟨hc, F⟩ := lawG_ok th h1 h
  letI := SyN (· = n)
  have hc := (task_EP (v := .bool true)).1 hc
  have ent4 : (callFunc 4 #[nN n, .bool th]).run Tryz.prog W = .ok (.enter 4 #[nN n, .bool th]) W := hasBody_inv tb1_ok (by kernel_rfl) _ W
  refine (calls_of ent4 (hc.2 (mpN W n) W (grel_g rfl (by omega)) (pre_g rfl F rfl rfl g n) #[nN n, .bool th] (LRel.cons (.int _ _) (LRel.cons (.bool _) (LRel.nil _))))).mono fun e W' hR => ?_
  obtain ⟨β', v', he, hv, q⟩ := hR
  have he : e = .returned v' := he
  cases hv
  exact ⟨he, below_of q⟩
section
variable [SyQ]
theorem fn4 : Tb1.fn 4 = some Tryz.f4 := by kernel_rfl
attribute [local go_sem] Bc_f Bc_t GT Ro_some Rv_eq WOG WOX Yj Yk Yl Ym Yn Yo Yp Yq Yr and_self and_true binV_add binV_geq binV_gtr binV_leq binV_lss binV_sub callV_func dec_F dec_T evalL evalM evalO_const evalO_func evalO_tmp exEq_int exFa_ptr exLen_str exPick_f exPick_t exUn_not if_false if_true no_bits ok_zero putT_none run true_and wantsV_U wantsV_ff wantsV_ft wantsV_tf wantsV_tt wants_none' wants_some
set_option maxRecDepth 10000 in
set_option maxHeartbeats 4000000 in
theorem out_ok {n : Int} {th : Bool} (h : n < 1 ∨ 50 < n) : EC Tb1 spOut eOut 4 [.int .i64 n, .bool th] clSane.h0 fun v H' => v = .bool true ∧ H' = clSane.h0 := by
  refine EC.i2 fn4 gaw_some gaw_comp rfl (by show 2 ≤ 138; decide) fun t0 g0 g1 => ?_
  show WK Tb1 spOut eOut ⟨3, 138, none, false⟩ gaw_k t0 [] _ _
  unfold gaw_k
  generalize hH : clSane.h0 = H
  have hsp : spOut 7 [] H = some (.bool true, H, 76, 0) := by rw [← hH]; exact sane_sp
  have hnx : H.nx = NG := by rw [← hH]; rfl
  have ok7 : eOut.ok 76 0 H := ⟨fun b _ _ => trivial, fun b _ h => by simp at h, fun b h => by
    rcases h with h | h
    · rcases Nat.lt_or_ge b 7 with h' | h'
      · rw [hnx]; show b < 15; omega
      · rw [Nat.testBit_lt_two_pow (Nat.lt_of_lt_of_le (show 76 < 2 ^ 7 by decide) (Nat.pow_le_pow_right (by decide) h'))] at h; cases h
    · simp at h⟩
  refine WK.seq ?_
  refine WK.reg_g ?_
  refine WOG.all (fun t' H' => H = H' ∧ GT t' [(0, .int .i64 n), (4, .bool false)]) ?_ ?_
  · simp +decide only [gaw_r0, g0, Xo 3, go_sem]
  rintro t1_ _ ⟨rfl, g0_1, g2_1, -⟩
  refine WK.seq ?_
  refine WK.seq ?_
  refine WK.reg_g ?_
  refine WOG.hide fun K0 hK0 => ?_
  simp +decide only [gaw_r1, g0_1, Xo 3, go_sem]
  refine EC.of_sp hsp rfl ok7 (Nat.le_refl _) ?_
  rw [WOGk]
  refine WOG.all (fun t' H' => H = H' ∧ GT t' [(0, .int .i64 n), (4, .bool false), (19, .bool false)]) ?_ ?_
  · simp +decide only [gaw_r1, g0_1, g2_1, Xo 3, go_sem]
  rintro t2_ _ ⟨rfl, g0_2, g2_2, g13_2, -⟩
  refine hK0 _ _ ?_
  refine WK.cond (v := false) (by rw [evalO_tmp, g13_2]; rfl) ?_
  refine WK.skip ?_
  refine WK.seq ?_
  refine WK.seq ?_
  refine WK.reg_g ?_
  refine WOG.all (fun t' H' => H = H' ∧ GT t' [(0, .int .i64 n), (4, .bool false), (25, .bool true)]) ?_ ?_
  · by_cases hn : n < 1
    · have d1_ : decide (n < (1 : Int)) = true := decide_eq_true hn
      simp +decide only [gaw_r3, g0_2, g2_2, d1_, Xo 3, go_sem]
    · have d1_ : decide (n < (1 : Int)) = false := decide_eq_false hn
      have d2_ : decide ((50 : Int) < n) = true := decide_eq_true (by omega)
      simp +decide only [gaw_r3, g0_2, g2_2, d1_, d2_, Xo 3, go_sem]
  rintro t3_ _ ⟨rfl, g0_3, g2_3, g19_3, -⟩
  refine WK.cond (v := true) (by rw [evalO_tmp, g19_3]; rfl) ?_
  refine WK.seq ?_
  refine WK.reg_g ?_
  refine WOG.all (fun t' H' => H = H' ∧ t'.get 4 = .bool true) ?_ ?_
  · simp +decide only [gaw_r4, g0_3, g2_3, Xo 3, go_sem]
  rintro t4_ _ ⟨rfl, g2_4⟩
  refine WK.ret ⟨.inr rfl, rfl, [.bool true], 0, ?_, .zero _ _, rfl, rfl⟩
  show resL Tb1 138 t4_ _ [.tmp 4] = _
  simp only [resL, g2_4]; rfl
end
theorem lawG_out {W : World} (g : GlW W) {n : Int} (th : Bool) (h : n < 1 ∨ 50 < n) : Calls Tryz.prog 4 #[.int .i64 n, .bool th] W fun e W' => e = .returned (.bool true) ∧ Below W.heap.size W W' := by
  letI := SyN fun _ => True
  have s := sane_ok fun _ => True
  have hsp : SpOk Tryz.prog NG spOut := fun f args H v H' r w hw hh => by
    unfold spOut at hh
    obtain ⟨h1, hh⟩ := bc_some hh
    rw [(beq_iff _ _).1 h1]
    exact spC_ok tab0_ok s.2 s.1 hw hh
  obtain ⟨N, v, H', r, w, hev, hok, hn, rfl, rfl⟩ := out_ok (th := th) h
  have hnx : clSane.h0.nx = NG := rfl
  have hs := g.size
  have hpre : Pre (mpN W 0) clSane.h0 clSane.h0 r w W := by
    refine ⟨fun b _ ha => ?_, fun b d _ _ hb _ hab => (hok.wr b hab.1 hb).elim, fun b h2 h3 => by omega, fun b m e => ?_⟩
    · obtain ⟨B, hB, e, _⟩ := h0_blk s.2 ha
      have hlt : b < NG := ha.1
      exact ⟨_, mpN_g hlt, by rw [e]; exact g.cells _ hB _⟩
    · unfold mpN at e
      split at e
      · have e := Option.some.inj e
        rw [← e]; show b < _; omega
      split at e
      · have e := Option.some.inj e
        rw [← e, bmOf_rb]; have : 0 < NG := by decide
        omega
      · cases e
  have hw : clSane.h0.wf := Nat.le_trans s.2.le s.2.n1
  refine (ev_calls tb1_ok lp_ok hsp (args' := #[.int .i64 n, .bool th]) hw hev (by kernel_rfl) (grel_g (n := 0) trivial (by omega)) (LRel.cons (.int _ _) (LRel.cons (.bool _) (LRel.nil _))) hpre).mono fun e W' hR => ?_
  obtain ⟨β', v', rfl, hv, q⟩ := hR
  cases hv
  refine ⟨rfl, q.env.1, q.env.2.1, q.env.2.2, q.size, fun k hk => ?_⟩
  cases ho : W.heap[k]? with
  | none => have := Array.getElem?_eq_none_iff.1 ho; omega
  | some o => exact q.frame k o ho fun b m hb hwb => (hok.wr b hb hwb).elim
theorem lawG_calls {W : World} (g : GlW W) (n : Int) (th : Bool) : Calls Tryz.prog 4 #[.int .i64 n, .bool th] W fun e W' => e = .returned (.bool true) ∧ Below W.heap.size W W' := by
  by_cases h : n < 1 ∨ 50 < n
  · exact lawG_out g th h
  · have h0 : n = ((n.toNat : Nat) : Int) := by omega
    rw [h0]
    exact lawG_in g th (n := n.toNat) (by omega) (by omega)
end Go.Proofs.MN
end
noncomputable section
namespace Go.Proofs.YtdmcanlbncbemaaGreatDoor.meanGoto
open Go.ChangeShapes Go.WideShapes Go.RowKit Go.Lib
open Go.Ev (Blk blkL blkL_eq VRel BOk oneC)
open Go.Proofs.MN (GlW globL totW NG)
theorem pieces {m : Nat} : ∀ (L : List (List Value)) (cs : List Value), cs.length = L.length * m → (∀ i l, L[i]? = some l → (cs.drop (i * m)).take m = l) → cs = L.flatten
  | [], cs, h, _ => by simpa using h
  | l :: L, cs, h, hp => by
    have h0 := hp 0 l rfl
    rw [Nat.zero_mul, List.drop_zero] at h0
    have ih := pieces (m := m) L (cs.drop m) (by rw [List.length_drop, h, List.length_cons, Nat.succ_mul]; omega) (fun i l' hl => by
      have := hp (i + 1) l' (by simpa using hl)
      rw [List.drop_drop, ← this]
      congr 2
      rw [Nat.succ_mul]; omega)
    rw [List.flatten_cons, ← ih, ← h0, List.take_append_drop]
def rowD {H : Type} (k : IntKind) (zs : List Int) : DataW H := .agg (zs.map fun z => .lit (.int k z))
def rowV (k : IntKind) (zs : List Int) : List Value := zs.map fun z => .int k z
section
variable {H : Type} {enc : TypeId × Value → H} {P : Program} {w : World} {base : Nat} {sp : Nat → Bool} {held : Bool}
theorem cells_of_struct {t e : TypeId} {fs : Array Field} {k : IntKind} (ht : P.underlying t = some (.struct fs)) (he : P.underlying e = some (.int k)) (hce : P.cellsOf e = 1) (hct : P.cellsOf t = fs.size)
    (hfs : ∀ (i : Nat) (f : Field), fs[i]? = some f → f.type = e ∧ f.offset = i) {fuel : Nat} {cs : List Value} {zs : List Int} {p : List MemPlace}
    (h : DataW.trod enc P w base sp held fuel t cs = some (rowD k zs, p)) : cs = rowV k zs := by
  obtain ⟨xs, n, rfl, hx, hl, hxl, hp⟩ := DataW.trod_struct ht h
  have hxs : xs.map (·.1) = zs.map fun z => (DataW.lit (.int k z) : DataW H) := by
    have := congrArg Prod.fst hx
    simpa [rowD] using this.symm
  have hzl : zs.length = fs.size := by
    have := congrArg List.length hxs
    simp at this; omega
  apply List.ext_getElem?
  intro i
  by_cases hi : i < fs.size
  · obtain ⟨h1, h2⟩ := hfs i fs[i] (by simp [hi])
    have hq := hp i fs[i] (by simp [hi])
    rw [h1, h2, hce, List.getElem?_eq_getElem (by omega)] at hq
    obtain ⟨z, hc, hz, _⟩ := DataW.trod_int he hq
    have e1 : cs[i]? = some (.int k z) := by
      have := congrArg (·[0]?) hc
      simpa [List.getElem?_take, List.getElem?_drop] using this
    have e2 : (xs.map (·.1))[i]? = some (DataW.lit (.int k z) : DataW H) := by
      rw [List.getElem?_map, List.getElem?_eq_getElem (by omega), hz]; rfl
    rw [hxs] at e2
    simp only [List.getElem?_map, Option.map_eq_some_iff, DataW.lit.injEq, Lit.int.injEq, true_and] at e2
    obtain ⟨z', hz', rfl⟩ := e2
    simp [rowV, e1, hz']
  · rw [List.getElem?_eq_none (by omega), List.getElem?_eq_none (by simp [rowV]; omega)]
theorem cells_of_rows {t e : TypeId} {n m : Nat} {k : IntKind} (ht : P.underlying t = some (.array n e)) (hce : P.cellsOf e = m) (hct : P.cellsOf t = n * m)
    (hr : ∀ (fuel : Nat) (cs : List Value) (zs : List Int) (p : List MemPlace), DataW.trod enc P w base sp held fuel e cs = some (rowD k zs, p) → cs = rowV k zs)
    {fuel : Nat} {cs : List Value} {zss : List (List Int)} {p : List MemPlace} (h : DataW.trod enc P w base sp held fuel t cs = some (.agg (zss.map (rowD k)), p)) : cs = (zss.map (rowV k)).flatten := by
  obtain ⟨xs, q, rfl, hx, hl, hxl, hp⟩ := DataW.trod_array ht h
  have hxs : xs.map (·.1) = zss.map (rowD k) := by
    have := congrArg Prod.fst hx
    simpa using this.symm
  have hzl : zss.length = n := by
    have := congrArg List.length hxs
    simp at this; omega
  refine pieces (m := m) _ _ (by rw [hl, hct, List.length_map, hzl]) fun i l hi => ?_
  rw [List.getElem?_map, Option.map_eq_some_iff] at hi
  obtain ⟨zs, hzs, rfl⟩ := hi
  have hin : i < n := by
    rcases Nat.lt_or_ge i n with h' | h'
    · exact h'
    · rw [List.getElem?_eq_none (by omega)] at hzs; cases hzs
  have hq := hp i hin
  rw [hce, List.getElem?_eq_getElem (by omega)] at hq
  have e2 : (xs[i]).1 = rowD k zs := by
    have : (xs.map (·.1))[i]? = some (xs[i]).1 := by rw [List.getElem?_map, List.getElem?_eq_getElem (by omega)]; rfl
    rw [hxs, List.getElem?_map, hzs] at this
    exact (Option.some.inj this).symm
  exact hr _ _ zs (xs[i]).2 (by rw [hq, ← e2])
end
theorem laidMet_drop {P : Program} {x : String × DataW Unit} {l : List (String × DataW Unit)} {w : World} (h : laidMet P (x :: l) w) : laidMet P l w := by
  obtain ⟨n, d⟩ := x
  obtain ⟨ps, ⟨g, t, cs, fuel, p, q, h1, h2, h3, h4, h5, rfl⟩, hn, hc⟩ := h
  refine ⟨q, h5, (List.nodup_append.1 hn).2.1, fun b off hm => hc b off (List.mem_append.2 (.inr hm))⟩
theorem laid_mem {P : Program} {w : World} {n : String} {d : DataW Unit} : ∀ {l : List (String × DataW Unit)}, laidMet P l w → (n, d) ∈ l →
    ∃ (enc : TypeId × Value → Unit) (base : Nat) (sp : Nat → Bool) (held : Bool) (g : Nat) (t : TypeId) (cs : Array Value) (fuel : Nat) (p : List MemPlace), P.globalNamed n = some g ∧ (P.globals[g]?).map (·.type) = some t ∧ w.var? P n = some cs ∧ DataW.trod enc P w base sp held fuel t cs.toList = some (d, p)
  | [], _, hm => by cases hm
  | (n', d') :: l, h, hm => by
    rcases List.mem_cons.1 hm with e | hm
    · cases e
      obtain ⟨ps, ⟨g, t, cs, fuel, p, q, h1, h2, h3, h4, h5, rfl⟩, hn, hc⟩ := h
      exact ⟨_, _, _, _, g, t, cs, fuel, p, h1, h2, h3, h4⟩
    · exact laid_mem (laidMet_drop h) hm
theorem glob_ok {W : World} {g : Nat} {ty : TypeId} {L : List Value} {name : String} {cs c : Array Value} (hg : Tryz.prog.globalNamed name = some g) (hv : W.var? Tryz.prog name = some cs) (hcs : cs.toList = L)
    (hfl : ∀ v ∈ L, ∃ k z, v = .int k z) (hb : W.heap[g]? = some (.cells c ty (0, 0))) (hsz : c.size = L.length) (β : Go.Ev.Mp) : BOk β W (blkL L ty 0) ⟨g, 0, totW W g, 0⟩ := by
  obtain ⟨t, h1, h2⟩ := blkL_eq L ty 0
  rw [h1]
  have ht : totW W g = c.size := by unfold totW; rw [hb]
  refine ⟨_, hb, c, (0, 0), rfl, ht.symm, by show 0 + L.length ≤ totW W g; omega, fun _ => ⟨rfl, by show totW W g = _; omega⟩, (fun k h => by cases h), fun i hi => ?_, .inl ⟨Nat.le_refl _, .inl rfl⟩⟩
  have hL : L[i]? = some L[i] := List.getElem?_eq_getElem hi
  have hc := World.var?_cell hg hv i
  have e1 : c[i]? = some L[i] := by
    have : W.cell? ⟨g, i, none⟩ = c[i]? := by simp [World.cell?, hb]
    rw [← this, hc, ← hL, ← hcs, Array.getElem?_toList]
  obtain ⟨k, z, hz⟩ := hfl L[i] (List.getElem_mem hi)
  rw [h2 i _ hL]
  refine ⟨by rw [hz]; rfl, L[i], by show c[0 + i]? = _; rw [Nat.zero_add]; exact e1, by rw [hz]; exact .int _ _⟩
def pows : List Int := [1, 10, 100, 1000, 10000, 100000, 1000000, 10000000, 100000000, 1000000000, 10000000000, 100000000000, 1000000000000, 10000000000000, 100000000000000, 1000000000000000, 10000000000000000, 100000000000000000, 1000000000000000000, 10000000000000000000]
def shs : List (List Int) := [[0, 0, 0, 0, 0], [0, 0, 0, 0, 0], [1, 1, 1, 1, 0], [0, 0, 0, 0, 1], [0, 0, 1, 1, 1], [0, 0, 0, 0, 3], [0, 0, 0, 8, 1], [0, 0, 0, 1, 0], [0, 0, 0, 0, 7], [0, 0, 0, 0, 6], [0, 0, 0, 0, 6], [1, 2, 0, 0, 1], [0, 1, 1, 1, 0], [0, 0, 0, 0, 1], [0, 0, 0, 0, 1], [0, 0, 0, 16, 26], [1, 16, 0, 0, 10], [1, 1, 0, 1, 2], [1, 1, 1, 1, 2], [1, 1, 1, 1, 2], [0, 0, 1, 1, 2], [2, 2, 0, 0, 0], [0, 0, 0, 0, 0]]
def ops : List (List Int) := [[0, 0], [0, 0], [0, 1], [0, 1], [1, 0], [1, 0], [2, 0], [2, 0], [2, 0], [2, 0], [2, 0], [1, 0], [2, 0], [2, 0], [2, 0], [2, 0], [2, 0], [1, 0], [2, 0], [3, 0], [2, 0], [1, 0], [2, 0], [3, 0], [2, 0], [-1, 0], [0, 0], [0, 0], [0, 0], [0, 0], [1, 1], [1, 1]]
theorem e_pow : (Rows.laid_internal_strconv_uint64pow10 : DataW Unit) = tabData .u64 pows := rfl
theorem e_sh : (Rows.laid_pliant_core_shapes : DataW Unit) = .agg (shs.map (rowD .i8)) := rfl
theorem e_op : (Rows.laid_pliant_core_operands : DataW Unit) = .agg (ops.map (rowD .i8)) := rfl
theorem b_pow : Go.Ev.SM.pwB = blkL (rowV .u64 pows) 214 0 := by kernel_rfl
theorem b_sh : Go.Ev.SM.shB = blkL (shs.map (rowV .i8)).flatten 272 0 := by kernel_rfl
theorem b_op : Go.Ev.SM.opB = blkL (ops.map (rowV .i8)).flatten 345 0 := by kernel_rfl
theorem g_pow : Tryz.prog.globalNamed "internal/strconv.uint64pow10" = some 2 := by kernel_rfl
theorem g_sh : Tryz.prog.globalNamed "pliant/core.shapes" = some 3 := by kernel_rfl
theorem g_op : Tryz.prog.globalNamed "pliant/core.operands" = some 6 := by kernel_rfl
theorem t_pow : (Tryz.prog.globals[2]?).map (·.type) = some 214 := by kernel_rfl
theorem t_sh : (Tryz.prog.globals[3]?).map (·.type) = some 272 := by kernel_rfl
theorem t_op : (Tryz.prog.globals[6]?).map (·.type) = some 345 := by kernel_rfl
theorem u214 : Tryz.prog.underlying 214 = some (.array 20 66) := by kernel_rfl
theorem u66 : Tryz.prog.underlying 66 = some (.int .u64) := by kernel_rfl
theorem u272 : Tryz.prog.underlying 272 = some (.array 23 271) := by kernel_rfl
theorem u345 : Tryz.prog.underlying 345 = some (.array 32 344) := by kernel_rfl
theorem u344 : Tryz.prog.underlying 344 = some (.array 2 269) := by kernel_rfl
theorem u269 : Tryz.prog.underlying 269 = some (.int .i8) := by kernel_rfl
theorem c66 : Tryz.prog.cellsOf 66 = 1 := by kernel_rfl
theorem c214 : Tryz.prog.cellsOf 214 = 20 := by kernel_rfl
theorem c269 : Tryz.prog.cellsOf 269 = 1 := by kernel_rfl
theorem c271 : Tryz.prog.cellsOf 271 = 5 := by kernel_rfl
theorem c272 : Tryz.prog.cellsOf 272 = 115 := by kernel_rfl
theorem c344 : Tryz.prog.cellsOf 344 = 2 := by kernel_rfl
theorem c345 : Tryz.prog.cellsOf 345 = 64 := by kernel_rfl
def shapeOk (d : Option TypeDesc) : Bool := match d with
  | some (.struct fs) => Nat.beq fs.size 5 && (List.range 5).all fun i => match fs[i]? with | some f => Nat.beq f.type 269 && Nat.beq f.offset i | none => false
  | _ => false
theorem sh_ok : shapeOk (Tryz.prog.underlying 271) = true := by kernel_rfl
theorem u271 : ∃ fs : Array Field, Tryz.prog.underlying 271 = some (.struct fs) ∧ fs.size = 5 ∧ ∀ (i : Nat) (f : Field), fs[i]? = some f → f.type = 269 ∧ f.offset = i := by
  have h := sh_ok
  revert h
  generalize Tryz.prog.underlying 271 = d
  intro h
  unfold shapeOk at h
  split at h
  · rename_i fs
    simp only [Bool.and_eq_true, List.all_eq_true, List.mem_range] at h
    have hs : fs.size = 5 := Nat.eq_of_beq_eq_true h.1
    refine ⟨fs, rfl, hs, fun i f hf => ?_⟩
    have hi : i < 5 := by
      rcases Nat.lt_or_ge i 5 with h' | h'
      · exact h'
      · rw [Array.getElem?_eq_none (by omega)] at hf; cases hf
    have := h.2 i hi
    rw [hf] at this
    simp only [Bool.and_eq_true] at this
    exact ⟨Nat.eq_of_beq_eq_true this.1, Nat.eq_of_beq_eq_true this.2⟩
  · cases h
theorem ints_mem {k : IntKind} {zss : List (List Int)} : ∀ v ∈ (zss.map (rowV k)).flatten, ∃ k z, v = Value.int k z := fun v hv => by
  obtain ⟨l, hl, hv⟩ := List.mem_flatten.1 hv
  obtain ⟨zs, _, rfl⟩ := List.mem_map.1 hl
  obtain ⟨z, _, rfl⟩ := List.mem_map.1 hv
  exact ⟨k, z, rfl⟩
theorem row_at {W : World} (hS : W.ShapedOpen Tryz.prog) {g n : Nat} {ty : TypeId} (hg : g < 15) (h0 : (((begin Tryz.prog (fun _ _ => 0) default).world.heap[g]?).bind Obj.row?).map (fun x => (x.1.size, x.2)) = some (n, ty)) :
    ∃ c, W.heap[g]? = some (.cells c ty (0, 0)) ∧ c.size = n := by
  obtain ⟨⟨zero, t⟩, h1, h2⟩ := Option.map_eq_some_iff.1 h0
  simp only [Prod.mk.injEq] at h2
  obtain ⟨h2, rfl⟩ := h2
  obtain ⟨cs, h3, h4, _⟩ := hS.1 g zero t (by rw [show Tryz.prog.globals.size = 15 from by kernel_rfl]; exact hg) h1
  exact ⟨cs, h3, by rw [h4]; exact h2⟩
theorem r_pow : (((begin Tryz.prog (fun _ _ => 0) default).world.heap[2]?).bind Obj.row?).map (fun x => (x.1.size, x.2)) = some (20, 214) := by kernel_rfl
theorem r_sh : (((begin Tryz.prog (fun _ _ => 0) default).world.heap[3]?).bind Obj.row?).map (fun x => (x.1.size, x.2)) = some (115, 272) := by kernel_rfl
theorem r_op : (((begin Tryz.prog (fun _ _ => 0) default).world.heap[6]?).bind Obj.row?).map (fun x => (x.1.size, x.2)) = some (64, 345) := by kernel_rfl
theorem r_last : (((begin Tryz.prog (fun _ _ => 0) default).world.heap[14]?).bind Obj.row?).isSome = true := by kernel_rfl
theorem globs {W : World} (hS : W.ShapedOpen Tryz.prog) {l : List (String × DataW Unit)} (hL : laidMet Tryz.prog l W) (h1 : ("internal/strconv.uint64pow10", Rows.laid_internal_strconv_uint64pow10) ∈ l) (h2 : ("pliant/core.shapes", Rows.laid_pliant_core_shapes) ∈ l) (h3 : ("pliant/core.operands", Rows.laid_pliant_core_operands) ∈ l) : GlW W := by
  refine ⟨?_, fun x hx β => ?_⟩
  · obtain ⟨⟨zero, t⟩, h1⟩ := Option.isSome_iff_exists.1 r_last
    obtain ⟨cs, h2, _⟩ := hS.1 14 zero t (by rw [show Tryz.prog.globals.size = 15 from by kernel_rfl]; decide) h1
    rcases Nat.lt_or_ge 14 W.heap.size with h' | h'
    · show 15 ≤ _; omega
    · rw [Array.getElem?_eq_none h'] at h2; cases h2
  · simp only [globL, List.mem_cons, List.mem_nil_iff, or_false] at hx
    rcases hx with rfl | rfl | rfl
    · obtain ⟨enc, base, sp, held, g, t, cs, fuel, p, e1, e2, e3, e4⟩ := laid_mem hL h1
      obtain rfl := Option.some.inj (g_pow.symm.trans e1)
      obtain rfl := Option.some.inj (t_pow.symm.trans e2)
      obtain ⟨c, hc, hn⟩ := row_at hS (by decide) r_pow
      rw [e_pow] at e4
      have := cells_of_tab u214 u66 c66 c214 e4
      show BOk β W Go.Ev.SM.pwB ⟨2, 0, totW W 2, 0⟩
      rw [b_pow]
      exact glob_ok g_pow e3 this (fun v hv => by obtain ⟨z, _, rfl⟩ := List.mem_map.1 hv; exact ⟨_, z, rfl⟩) hc (by rw [hn]; rfl) β
    · obtain ⟨enc, base, sp, held, g, t, cs, fuel, p, e1, e2, e3, e4⟩ := laid_mem hL h2
      obtain rfl := Option.some.inj (g_sh.symm.trans e1)
      obtain rfl := Option.some.inj (t_sh.symm.trans e2)
      obtain ⟨c, hc, hn⟩ := row_at hS (by decide) r_sh
      rw [e_sh] at e4
      obtain ⟨fs, f1, f2, f3⟩ := u271
      have := cells_of_rows (m := 5) u272 c271 c272 (fun fuel cs zs p h => cells_of_struct f1 u269 c269 (by rw [c271, f2]) f3 h) e4
      show BOk β W Go.Ev.SM.shB ⟨3, 0, totW W 3, 0⟩
      rw [b_sh]
      exact glob_ok g_sh e3 this ints_mem hc (by rw [hn]; rfl) β
    · obtain ⟨enc, base, sp, held, g, t, cs, fuel, p, e1, e2, e3, e4⟩ := laid_mem hL h3
      obtain rfl := Option.some.inj (g_op.symm.trans e1)
      obtain rfl := Option.some.inj (t_op.symm.trans e2)
      obtain ⟨c, hc, hn⟩ := row_at hS (by decide) r_op
      rw [e_op] at e4
      have := cells_of_rows (m := 2) u345 c344 c345 (fun fuel cs zs p h => cells_of_tab u344 u269 c269 c344 h) e4
      show BOk β W Go.Ev.SM.opB ⟨6, 0, totW W 6, 0⟩
      rw [b_op]
      exact glob_ok g_op e3 this ints_mem hc (by rw [hn]; rfl) β
end Go.Proofs.YtdmcanlbncbemaaGreatDoor.meanGoto
end
noncomputable section
namespace Go.Proofs.YtdmcanlbncbemaaGreatDoor.meanGoto
open Go.ChangeShapes Go.WideShapes Go.ChangeAt Go.RowKit Go.Deep
open Go.Proofs.MN (lawG_calls NG)
theorem own : ownKnob Tryz.prog.godebug = none := by kernel_rfl
theorem params4 : Tryz.f4.params = #[3, 4] := by kernel_rfl
theorem u3 : Tryz.prog.underlying 3 = some (.int .i64) := by kernel_rfl
theorem u4 : Tryz.prog.underlying 4 = some .bool := by kernel_rfl
theorem f_laid : laidOutB Tryz.prog = true := by kernel_rfl
theorem read3 : Tryz.prog.readableRec 3 = true := by kernel_rfl
theorem read4 : Tryz.prog.readableRec 4 = true := by kernel_rfl
theorem laid_one (W : World) (hL : laidMetH Tryz.prog Rows.meanGotoRow.laid W) : laidMet Tryz.prog (Rows.meanGotoRow.laid.filter fun x => x.2.handleName?.isNone) W := by
  unfold laidMetH at hL
  split at hL
  · rename_i h
    exfalso
    have : (Rows.meanGotoRow.laid.filter fun x => x.2.handleName?.isSome).length = 1 := by kernel_rfl
    rw [h] at this; cases this
  · exact hL.1
set_option maxRecDepth 100000 in
theorem contract (H : Type) (enc : TypeId × Value → H) (W : World) (base : Nat) (args : Array Value) (ds gs : List (DataW H)) (before : List MemPlace)
    (hval : ∀ (j : Nat) t v, Tryz.f4.params[j]? = some t → args[j]? = some v → Value.okWide Tryz.prog W .any base t v)
    (hW : DataW.Whole enc Tryz.prog Tryz.f4.params.toList Rows.meanGotoSpec.vars false W args.toList ds gs before) (hL : laidMetH Tryz.prog Rows.meanGotoRow.laid W) (hS : W.ShapedOpen Tryz.prog) :
    Calls Tryz.prog 4 args W fun e W' => ∃ v, e = .returned v ∧ Rows.meanGotoSpec.post enc Tryz.prog Tryz.f4 false true false false W args v W' := by
  have hG := globs hS (laid_one W hL) (by simp [Rows.meanGotoRow, List.mem_filter]; rfl) (by simp [Rows.meanGotoRow, List.mem_filter]; rfl) (by simp [Rows.meanGotoRow, List.mem_filter]; rfl)
  have hW' := hW
  obtain ⟨p, q, hA0, hV, rfl, hfz, hnd⟩ := hW
  have hA : DataW.TrodAll enc Tryz.prog W 0 (fun _ => true) true Tryz.f4.params.toList args.toList ds p := hA0
  rw [params4] at hA hval
  obtain ⟨v0, vs0, d0, ds0, p0, q0, hargs, rfl, rfl, h0, r0⟩ := trodAll_cons hA
  obtain ⟨v1, vs1, d1, ds1, p1, q1, rfl, rfl, rfl, h1, r1⟩ := trodAll_cons r0
  obtain ⟨rfl, rfl, rfl⟩ := trodAll_nil r1
  obtain rfl : args = #[v0, v1] := by cases args; simp_all
  obtain ⟨rfl, rfl⟩ := trodVars_none hV
  obtain ⟨z, rfl⟩ := okWide_int u3 (hval 0 3 v0 rfl rfl)
  obtain ⟨th, rfl⟩ := okWide_bool u4 (hval 1 4 v1 rfl rfl)
  have k0 := h0
  have k1 := h1
  have lt0 : ∀ x ∈ p0, x.block < W.heap.size := by obtain ⟨m, hm⟩ := k0; exact DataW.trod_lt m _ _ _ hm
  have lt1 : ∀ x ∈ p1, x.block < W.heap.size := by obtain ⟨m, hm⟩ := k1; exact DataW.trod_lt m _ _ _ hm
  refine (lawG_calls hG z th).mono fun e W' ⟨he, bel⟩ => ?_
  subst he
  exact ⟨_, rfl, _, _, _, [], _, [], hW', trodAll_mk1 (shut_bool u4 _), trodAll_cons_mk (Below.trod f_laid read3 (of_decide_eq_true (by kernel_rfl)) k0 bel lt0) (trodAll_cons_mk (Below.trod f_laid read4 (of_decide_eq_true (by kernel_rfl)) k1 bel lt1) trodAll_mk0), rfl, bel.frame _, fun h => by cases h⟩
end Go.Proofs.YtdmcanlbncbemaaGreatDoor.meanGoto
end
noncomputable section
namespace Go.Proofs.YtdmcanlbncbemaaGreatDoor.meanGoto
open Go.ChangeShapes Go.WideShapes Go.ChangeAt Go.RowKit Go.Deep
def flat : Nat → DataW Unit → List Value
  | 0, _ => []
  | n + 1, .agg ps => ps.flatMap (flat n)
  | _ + 1, .lit (.int k z) => [.int k z]
  | _ + 1, _ => []
def setRow (b : Nat) (cs : Array Value) (h : Array Obj) : Array Obj := h.modify b fun
  | .cells _ t frozen => .cells cs t frozen
  | o => o
def laidRows (n : Nat) (h : Array Obj) : Array Obj :=
  let h := setRow 2 ⟨flat 4 Rows.laid_internal_strconv_uint64pow10⟩ h
  let h := setRow 3 ⟨flat 4 Rows.laid_pliant_core_shapes⟩ h
  let h := setRow 4 ⟨flat 4 Rows.laid_math_bits_deBruijn32tab⟩ h
  let h := setRow 5 ⟨flat 4 Rows.laid_math_bits_deBruijn64tab⟩ h
  let h := setRow 6 ⟨flat 4 Rows.laid_pliant_core_operands⟩ h
  let h := setRow 8 ⟨flat 4 Rows.laid_pliant_picture_punched⟩ h
  let h := setRow 10 #[.iface 624 (.pointer (some ⟨n, 0, none⟩))] h
  let h := setRow 11 #[.iface 624 (.pointer (some ⟨n + 1, 0, none⟩))] h
  let h := setRow 12 ⟨flat 4 Rows.laid_unicode_utf8_first⟩ h
  let h := setRow 13 ⟨flat 4 Rows.laid_unicode_utf8_acceptRanges⟩ h
  h
noncomputable def laidWorld (os : Os) : World :=
  let w0 := World.holding Tryz.prog os ⟨#[.cells #[.string ⟨#[105, 110, 118, 97, 108, 105, 100, 32, 115, 121, 110, 116, 97, 120]⟩] 626, .cells #[.string ⟨#[118, 97, 108, 117, 101, 32, 111, 117, 116, 32, 111, 102, 32, 114, 97, 110, 103, 101]⟩] 626], #[], []⟩
  { w0 with heap := setRow 7 #[.iface 418 (.agg #[typeHandle Tryz.prog 290])] (laidRows (World.settled Tryz.prog os).heap.size w0.heap) }
noncomputable abbrev witW (os : Os) : World := ((laidWorld os).forCall (fun _ _ => 0) ⟨#[], #[.int .i64 0, .bool false], []⟩)
theorem laid_vals (os : Os) : (DataW.laidRun Tryz.prog (witW os).memory 8 ((Rows.meanGotoRow.laid.filter fun x => x.2.handleName?.isNone).map (·.1))).map (·.1) = some (Rows.meanGotoRow.laid.filter fun x => x.2.handleName?.isNone) := by kernel_rfl
theorem laid_once (os : Os) : (DataW.laidRun Tryz.prog (witW os).memory 8 ((Rows.meanGotoRow.laid.filter fun x => x.2.handleName?.isNone).map (·.1))).map (fun x => nodupB (x.2.map MemPlace.codeOf)) = some true := by kernel_rfl
theorem laid_rows (os : Os) : (DataW.laidRun Tryz.prog (witW os).memory 8 ((Rows.meanGotoRow.laid.filter fun x => x.2.handleName?.isNone).map (·.1))).map (fun x => laidRowsB Tryz.prog (witW os).memory x.2) = some true := by kernel_rfl
theorem laid_run (os : Os) : laidMet Tryz.prog (Rows.meanGotoRow.laid.filter fun x => x.2.handleName?.isNone) (witW os).memory := laidMet_of_run3 8 (laid_vals os) (laid_once os) (laid_rows os)
theorem laid_met (os : Os) : laidMetH Tryz.prog Rows.meanGotoRow.laid (witW os).memory := laidMetH_of_parts (laid_run os) (by kernel_rfl)
theorem reads (os : Os) {H : Type} (enc : TypeId × Value → H) : ∃ places, DataW.whole enc Tryz.prog (witW os).memory Tryz.f4.params.toList Rows.meanGotoSpec.vars false #[Value.int .i64 0, Value.bool false].toList 8 = some ([.lit (.int .i64 0), .lit (.bool false)], [], places) := ⟨[], by kernel_rfl⟩
set_option maxRecDepth 100000 in
theorem lifted (os : Os) (started : os.Started) (H : Type) (enc : TypeId × Value → H) (F : Stop.Interp) :
    ReturnsInHanded {} Tryz.checked os 4 .any ((OpenSpec.ofChange Rows.meanGotoSpec).preRow enc Tryz.prog Tryz.f4 Rows.meanGotoRow.domain false Rows.meanGotoRow.laid) (((OpenSpec.ofChange Rows.meanGotoSpec).at F).post enc Tryz.prog Tryz.f4 false true false false) := by
  obtain ⟨places, hx⟩ := reads os enc
  refine returnsInHanded_of_row (C := Tryz.checked) (s := OpenSpec.ofChange Rows.meanGotoSpec) own started (by kernel_rfl) Tryz.func4
    (witness_row_atRef (enc := enc) (C := Tryz.checked) false (laidWorld os) #[.int .i64 0, .bool false] rfl (by kernel_rfl) (by kernel_rfl) (by kernel_rfl)
      (OpenSpec.preRow_of_cond 8 hx (by kernel_rfl) (fun k hk => by cases hk) (by kernel_rfl) (laid_met os))) ?_
  intro W base args ds gs before hval hW _ hcond _ hL hS _
  exact contract H enc W base args ds gs before hval hW hL hS
end Go.Proofs.YtdmcanlbncbemaaGreatDoor.meanGoto
end
