/-
 A part of the proof that pliantlaw15.RtsAreas returns true and leaves its arguments alone. Conditions: those of the card in the last text.
-/
import Derived.KernelRfl
import Derived.Lib.SliceRun
import Derived.Lib.SlicesDelete
import Derived.Shelf.Spec.SlicesInsertGrow
import Derived.Sort.Grow
import Derived.Sort.Row
import Derived.Test.YtgdejggelcpokaaGreatDoorCheckedLc
import Derived.Test.YtgdejggelcpokaaGreatDoorG09
import Derived.Test.YtgdejggelcpokaaGreatDoorG10
import Derived.Test.YtgdejggelcpokaaGreatDoorG11
import Derived.Test.YtgdejggelcpokaaGreatDoorG12
set_option linter.unusedSimpArgs false
set_option linter.unusedVariables false
set_option linter.unusedSectionVars false
noncomputable section
namespace Go.Proofs.RS
open Go Go.Ev Go.Proofs Go.Ds
theorem exEq_str (neg:Bool) (a b:Str) (H:Hp):exEq neg (.one .s) (vS a) (vS b) H=.val (.bool (Bc neg (!eqBs a b) (eqBs a b))) H 0 0:=rfl
end Go.Proofs.RS
end
noncomputable section
namespace Go.Proofs.RS
open Go Go.Ev Go.Proofs
noncomputable def zero_body:Code:=(Tryz.f153.body).getD .skip
def zero_r0:List CO:=[
 ⟨(some 2),none,.mv (.const (.bool false))⟩]
def zero_r1:List CO:=[
 ⟨(some 5),none,.mv (.tmp 0)⟩,
 ⟨(some 6),none,.len 1 (.tmp 5)⟩,
 ⟨(some 7),none,.mv (.const (.int .i64 (0)))⟩]
def zero_r2:List CO:=[
 ⟨(some 8),none,.bin .lss (.tmp 7) (.tmp 6)⟩]
def zero_r3:List CO:=[
 ⟨(some 9),none,.iaS 1 (.tmp 5) (.tmp 7)⟩,
 ⟨(some 10),none,.ld1 (.tmp 9)⟩,
 ⟨(some 4),none,.mv (.tmp 10)⟩]
def zero_r4:List CO:=[
 ⟨(some 11),none,.mv (.tmp 4)⟩,
 ⟨(some 12),none,.eq true (.one .i) (.tmp 11) (.const (.int .u8 (0)))⟩]
def zero_r5:List CO:=[
 ⟨(some 2),none,.mv (.const (.bool false))⟩]
def zero_r6:List CO:=[
 ⟨(some 13),none,.bin .add (.tmp 7) (.const (.int .i64 (1)))⟩,
 ⟨(some 7),none,.mv (.tmp 13)⟩]
noncomputable def zero_l7:KC :=
 (.seq (.reg zero_r2)
 (.seq (.cond (.tmp 8) .skip
  (.exit 0))
 (.seq (.block 1 (.seq (.reg zero_r3)
  (.seq (.reg zero_r4)
  (.cond (.tmp 12) (.seq (.reg zero_r5)
   .ret)
   .skip))))
 (.reg zero_r6))))
def zero_r8:List CO:=[
 ⟨(some 2),none,.mv (.const (.bool true))⟩]
noncomputable def zero_k:KC :=
 (.seq (.reg zero_r0)
 (.seq (.seq (.reg zero_r1)
 (.block 0 (.loop zero_body.sr.sl.sr.bl.lp zero_l7)))
 (.seq (.reg zero_r8)
 .ret)))
theorem zero_comp:kcomp Tb0 Tryz.f153.ntmps zero_body=zero_k:=by kernel_rfl
theorem zero_some:Tryz.f153.body=some zero_body:=rfl
end Go.Proofs.RS
end
noncomputable section
namespace Go.Ev
def spOr (a b:Option (Value×Hp×Nat×Nat)):Option (Value×Hp×Nat×Nat):=match a with | some x=>some x | none=>b
theorem spOr_inv {a b:Option (Value×Hp×Nat×Nat)} {x:Value×Hp×Nat×Nat} (h:spOr a b=some x):a=some x∨b=some x:=by
 cases a with
 | some y=>exact .inl h
 | none=>exact .inr h
section
variable {tb:Tb} {sp:Nat→List Value→Hp→Option (Value×Hp×Nat×Nat)} {e:Env}
theorem EC.of_sp {f:FuncId} {args:List Value} {H H':Hp} {v:Value} {r w:Nat} {K:Value→Hp→Prop} (h:sp f args H=some (v,H',r,w)) (hok:e.ok r w H') (hn:H.nx≤H'.nx) (hk:K v H'):EC tb sp e f args H K:=by
 refine ⟨1,v,H',r,w,?_,hok,hn,hk⟩
 show evTask tb sp (ev tb sp 0) (.call f args) H=_
 simp only [evTask,h]
end
end Go.Ev
end
noncomputable section
namespace Go.Proofs.RS
open Go Go.Proofs Go.Shelf Go.RowKit Go.Lib
structure InsL (P:Program):Prop where
 mixed:P.follows .mixedOrders=true
 f139:P.funcs[118]?=some Tryz.f118
 f140:P.funcs[120]?=some Tryz.f120
 f227:P.funcs[160]?=some Tryz.f160
 t0:P.underlying 0=some (TypeDesc.tuple #[])
 a0:∀ w,(isAgg 0).run P w=.ok false w
 z0:∀ w,(Go.sizeOf 0).run P w=.ok 1 w
 v0:∀ w,(zeroValue 0).run P w=.ok (Value.tuple #[]) w
 t3:P.underlying 3=some (TypeDesc.int IntKind.i64)
 a3:∀ w,(isAgg 3).run P w=.ok false w
 z3:∀ w,(Go.sizeOf 3).run P w=.ok 1 w
 v3:∀ w,(zeroValue 3).run P w=.ok (Value.int IntKind.i64 0) w
 t4:P.underlying 4=some (TypeDesc.bool)
 a4:∀ w,(isAgg 4).run P w=.ok false w
 z4:∀ w,(Go.sizeOf 4).run P w=.ok 1 w
 v4:∀ w,(zeroValue 4).run P w=.ok (Value.bool false) w
 t51:P.underlying 63=some (TypeDesc.slice 77)
 a51:∀ w,(isAgg 63).run P w=.ok false w
 z51:∀ w,(Go.sizeOf 63).run P w=.ok 1 w
 v51:∀ w,(zeroValue 63).run P w=.ok (Value.slice none 0 0) w
 t52:P.underlying 64=some (TypeDesc.slice 77)
 a52:∀ w,(isAgg 64).run P w=.ok false w
 z52:∀ w,(Go.sizeOf 64).run P w=.ok 1 w
 v52:∀ w,(zeroValue 64).run P w=.ok (Value.slice none 0 0) w
 z50:∀ w,(Go.sizeOf 77).run P w=.ok 2 w
 i50:P.info? 77=some Tryz.t77
variable {P:Program}
theorem run_copy_w (k:Nat) (w:World) (dT sT ty elem:TypeId) (b o dLen dCap:Nat) (a:Addr) (sLen sCap:Nat) (cs:List Value)
 (hu:P.underlying dT=some (.slice elem)) (hs:(P.info? elem).map (·.size)=some k) (hn:cs.length=Nat.min sLen dLen*k)
 (hsrc:∀ j v,cs[j]?=some v→w.cell? (a.add j)=some v) (hc:∀ j,j<cs.length→(w.cell? ⟨b,o+j,none⟩).isSome=true) (hf:∀ j,j<cs.length→w.frozen? ⟨b,o+j,none⟩=false) (h1:∀ v∈cs,v.oneCell'=true) :
 (Builtin.copy_ #[dT,sT] ty #[.slice (some ⟨b,o,none⟩) dLen dCap,.slice (some a) sLen sCap]).run P w=.ok (goInt (Nat.min sLen dLen)) (w.setCells b o cs):=by
 have hl:=run_loadCells_list (P:=P) w a cs hsrc
 have hst:=run_storeCells_cells (P:=P) b o cs 0 w (by simpa using hc) (by simpa using hf) h1
 cases hq:P.info? elem with
 | none=>simp [hq] at hs
 | some i =>
  have hi:i.size=k:=by simpa [hq] using hs
  simp [Builtin.copy_,run_underlying hu,Builtin.lenOf,Builtin.firstCells,sizeOf,typeInfo,hq,hi,← hn,hl,hst]
theorem f139_ntmps:Tryz.f118.ntmps=95:=rfl
theorem f140_ntmps:Tryz.f120.ntmps=33:=rfl
end Go.Proofs.RS
end
noncomputable section
namespace Go.Proofs.RS
open Go Go.Proofs Go.Shelf Go.RowKit Go.Lib
variable {P:Program}
set_option maxHeartbeats 4000000 in
set_option maxRecDepth 100000 in
theorem ins_shift (L:InsL P) (b off n c i vb voff vc:Nat) (cs vs:List Value) (w:World) (hi:i<n) (hroom:n+1≤c) (hc63:n+1≤9223372036854775807) (hvb:vb≠b)
 (hcl:cs.length=n*2) (hvl:vs.length=2)
 (hcs:∀ j v,cs[j]?=some v→w.cell? ⟨b,off+j,none⟩=some v) (hsp:∀ j,j<(n+1)*2→(w.cell? ⟨b,off+j,none⟩).isSome=true) (hfz:∀ j,j<(n+1)*2→w.frozen? ⟨b,off+j,none⟩=false)
 (hvs:∀ j v,vs[j]?=some v→w.cell? ⟨vb,voff+j,none⟩=some v) (h1c:∀ v∈cs,v.oneCell'=true) (h1v:∀ v∈vs,v.oneCell'=true)
 (tA tB:TypeId) (kA kB:Nat) (hsa:w.shape? vb=some (tA,kA)) (hsb:w.shape? b=some (tB,kB)) (hkB:kB≠0) (hfa:w.frozen? ⟨vb,voff,none⟩=false) (hfe:w.frozen? ⟨vb,kA,none⟩=false) :
 Calls P 118 #[.slice (some ⟨b,off,none⟩) n c,.int .i64 i,.slice (some ⟨vb,voff,none⟩) 1 vc] w fun e w' =>
  e=.returned (.slice (some ⟨b,off,none⟩) (n+1) c)∧w'=(w.drew.setCells b (off+(i+1)*2) (cs.drop (i*2))).setCells b (off+i*2) vs:=by
 have t0:=L.t0;have a0:=L.a0;have z0:=L.z0;have v0:=L.v0;have t3:=L.t3;have a3:=L.a3;have z3:=L.z3;have v3:=L.v3;have t4:=L.t4;have a4:=L.a4;have z4:=L.z4;have v4:=L.v4;have t51:=L.t51;have a51:=L.a51;have z51:=L.z51;have v51:=L.v51;have t52:=L.t52;have a52:=L.a52;have z52:=L.z52;have v52:=L.v52;have z50:=L.z50
 have u0:=run_underlying L.t0;have u3:=run_underlying L.t3;have u4:=run_underlying L.t4;have u51:=run_underlying L.t51;have u52:=run_underlying L.t52
 have hz2:¬ ((i:Int)=(n:Int)):=by omega
 have hsz:(P.info? 77).map (·.size)=some 2:=by rw [L.i50];rfl
 have hov:∀ lb cb,(callFunc 160 #[.slice (some ⟨vb,voff,none⟩) 1 vc,.slice (some ⟨b,off+(i+1)*2,none⟩) lb cb]).run P w=.ok (.value (.bool false)) w:=fun lb cb=>by
  rw [run_callFunc_extern L.f227 (by kernel_rfl) (by kernel_rfl) (by kernel_rfl) (e:=Extern.SlicesOverlaps.overlaps #[63,63] #[4]) (by kernel_rfl),
   Lib.run_overlaps_apart w 63 4 77 L.t51 2 L.z50 ⟨vb,voff,none⟩ ⟨b,off+(i+1)*2,none⟩ 1 vc lb cb hvb tA tB kA kB hsa hsb hkB hfa hfe]
  rfl
 have hdl:(cs.drop (i*2)).length=(n-i)*2:=by rw [List.length_drop,hcl];omega
 have mixed:=L.mixed
 have hw1:IntKind.i64.wrap ((i:Int)+1)=(i:Int)+1:=by rw [IntKind.wrap_i64];omega
 have hw2:IntKind.i64.wrap ((n:Int)+1)=(n:Int)+1:=by rw [IntKind.wrap_i64];omega
 have hb1:(0:Int)≤(i:Int)+1:=by omega
 have hin:i≤n:=by omega
 have htn:((i:Int)+1).toNat=i+1:=by omega
 have htn2:((n:Int)+1).toNat=n+1:=by omega
 have hb2:¬ (c=i+1):=by omega
 have hb3:(i:Int)≤(n:Int)+1:=by omega
 have hb4:¬ (c=i):=by omega
 have hb5:¬ ((c:Int)<(n:Int)+1):=by omega
 have hb6:(n:Int)+1≤(c:Int):=by omega
 have hcp1:∀ ty dc sc,(Builtin.copy_ #[64,64] ty #[.slice (some ⟨b,off+(i+1)*2,none⟩) (n-i) dc,.slice (some ⟨b,off+i*2,none⟩) (n+1-i) sc]).run P w.drew=.ok (goInt ((n-i:Nat):Int)) (w.drew.setCells b (off+(i+1)*2) (cs.drop (i*2))):=fun ty dc sc=>by
  have hm:Nat.min (n+1-i) (n-i)=n-i:=by simp only [Nat.min_def];split <;> omega
  have:=run_copy_w (P:=P) 2 w.drew 64 64 ty 77 b (off+(i+1)*2) (n-i) dc ⟨b,off+i*2,none⟩ (n+1-i) sc (cs.drop (i*2)) L.t52 hsz (by rw [hdl,hm])
   (fun j v hj=>by rw [Addr.add_lit,Nat.add_assoc];exact hcs (i*2+j) v (by rwa [List.getElem?_drop] at hj))
   (fun j hj=>by rw [Nat.add_assoc];exact hsp _ (by omega)) (fun j hj=>by rw [Nat.add_assoc];exact hfz _ (by omega)) (fun v hv=>h1c v (List.mem_of_mem_drop hv))
  rw [hm] at this
  exact this
 obtain ⟨W1,hW1⟩:∃ W1,W1=w.drew.setCells b (off+(i+1)*2) (cs.drop (i*2)):=⟨_,rfl⟩
 have hsp1:∀ k,k<(n+1)*2→(W1.cell? ⟨b,off+k,none⟩).isSome=true:=fun k hk=>by
  rw [hW1]
  exact isSome_setCells b _ _ _ (fun j hj=>by rw [Nat.add_assoc];exact hsp _ (by omega)) _ (hsp k hk)
 have hcp2:∀ (W:World),(∀ x,W.cell? x=W1.cell? x)→(∀ x,W.frozen? x=W1.frozen? x)→∀ ty dc,(Builtin.copy_ #[64,63] ty #[.slice (some ⟨b,off+i*2,none⟩) (n+1-i) dc,.slice (some ⟨vb,voff,none⟩) 1 vc]).run P W=.ok (goInt ((1:Nat):Int)) (W.setCells b (off+i*2) vs):=fun W hWc hWf ty dc=>by
  have hm:Nat.min 1 (n+1-i)=1:=by simp only [Nat.min_def];split <;> omega
  have:=run_copy_w (P:=P) 2 W 64 63 ty 77 b (off+i*2) (n+1-i) dc ⟨vb,voff,none⟩ 1 vc vs L.t52 hsz (by rw [hvl,hm])
   (fun j v hj=>by
    rw [Addr.add_lit,hWc,hW1,World.cell?_setCells_out b _ _ _ _ (fun h _=>absurd h hvb)]
    exact hvs j v hj)
   (fun j hj=>by rw [hWc,Nat.add_assoc];exact hsp1 _ (by omega)) (fun j hj=>by rw [hWf,hW1,World.frozen?_setCells,Nat.add_assoc];exact hfz _ (by omega)) h1v
  rw [hm] at this
  exact this
 rw [← hW1] at hcp1
 go_enter L.f139,f139_ntmps
 go_wp2_with (simp only [hov])
 go_region_law_o (refine step_copy_runI rfl _ _ 64 64 rfl _ _ (by simp [Act.eval,Act.put]) (by simp [Act.eval,Act.put]) (hcp1 _ _ _) ?_)
 go_wp2_with (at_builtin;refine wpList_copy_runI _ rfl _ _ 64 63 rfl _ _ rfl rfl (hcp2 _ (fun _=>rfl) (fun _=>rfl) _ _) ?_)
 go_ret
 first | exact ⟨rfl,rfl⟩ | exact ⟨rfl,by rw [hW1]⟩
end Go.Proofs.RS
end
noncomputable section
namespace Go.Proofs.RS
open Go Go.Proofs Go.Shelf Go.RowKit Go.Lib
variable {P:Program}
set_option maxHeartbeats 4000000 in
set_option maxRecDepth 100000 in
theorem ins_end_room (L:InsL P) (b off n c vb voff vc:Nat) (vs:List Value) (w:World) (hroom:n+1≤c)
 (hvl:vs.length=2) (hsp:∀ j,j<2→(w.cell? ⟨b,off+n*2+j,none⟩).isSome=true) (hfz:∀ j,j<2→w.frozen? ⟨b,off+n*2+j,none⟩=false)
 (hvs:∀ j v,vs[j]?=some v→w.cell? ⟨vb,voff+j,none⟩=some v) (h1v:∀ v∈vs,v.oneCell'=true) :
 Calls P 118 #[.slice (some ⟨b,off,none⟩) n c,.int .i64 n,.slice (some ⟨vb,voff,none⟩) 1 vc] w fun e w' =>
  e=.returned (.slice (some ⟨b,off,none⟩) (n+1) c)∧w'=w.setCells b (off+n*2) vs:=by
 have t0:=L.t0;have a0:=L.a0;have z0:=L.z0;have v0:=L.v0;have t3:=L.t3;have a3:=L.a3;have z3:=L.z3;have v3:=L.v3;have t4:=L.t4;have a4:=L.a4;have z4:=L.z4;have v4:=L.v4;have t51:=L.t51;have a51:=L.a51;have z51:=L.z51;have v51:=L.v51;have t52:=L.t52;have a52:=L.a52;have z52:=L.z52;have v52:=L.v52;have z50:=L.z50
 have u0:=run_underlying L.t0;have u3:=run_underlying L.t3;have u4:=run_underlying L.t4;have u51:=run_underlying L.t51;have u52:=run_underlying L.t52
 have mixed:=L.mixed
 have hsrc:Src P 2 63 (.slice (some ⟨vb,voff,none⟩) 1 vc) 1 vs w:=Src.ofSlice w L.t51 ⟨vb,voff,none⟩ 1 vc vs (by omega) (fun j u hj=>by rw [Addr.add_lit];exact hvs j u hj) h1v
 have hrun:∀ ty,(Builtin.append_ #[64,63] ty #[.slice (some ⟨b,off,none⟩) n c,.slice (some ⟨vb,voff,none⟩) 1 vc]).run P w=.ok (.slice (some ⟨b,off,none⟩) (n+1) c) (w.setCells b (off+n*2) vs):=fun ty =>
  run_append_room_src w 64 63 ty 77 Tryz.t77 L.t52 L.i50 b off n c _ 1 vs hsrc hroom (by rw [hvl];exact hsp) (by rw [hvl];exact hfz)
 go_enter L.f139,f139_ntmps
 go_wp2_with (at_builtin;refine Lib.wpList_append_run _ rfl _ _ _ _ rfl _ _ rfl rfl _ _ (hrun _) ?_)
 go_ret
 exact ⟨rfl,rfl⟩
set_option maxHeartbeats 4000000 in
set_option maxRecDepth 100000 in
theorem ins_end_grow (L:InsL P) (b off n c vb voff vc:Nat) (cs vs:List Value) (w:World) (hnc:n≤c) (hroom:c<n+1) (hbig:(n+1)*32≤140737488355328)
 (hcl:cs.length=n*2) (hvl:vs.length=2) (hcs:∀ j v,cs[j]?=some v→w.cell? ⟨b,off+j,none⟩=some v)
 (hvs:∀ j v,vs[j]?=some v→w.cell? ⟨vb,voff+j,none⟩=some v) (h1v:∀ v∈vs,v.oneCell'=true) :
 Calls P 118 #[.slice (some ⟨b,off,none⟩) n c,.int .i64 n,.slice (some ⟨vb,voff,none⟩) 1 vc] w fun e w' =>
  e=.returned (.slice (some ⟨w.heap.size,0,none⟩) (n+1) (grownCap w (n+1) c 77)) ∧
  w'=w.drew.alloc (.cells ((cs++vs).toArray++Builtin.zeroCells (Value.agg #[Value.string ⟨#[]⟩,Value.string ⟨#[]⟩]).cells (grownCap w (n+1) c 77-(n+1))) 77):=by
 have t0:=L.t0;have a0:=L.a0;have z0:=L.z0;have v0:=L.v0;have t3:=L.t3;have a3:=L.a3;have z3:=L.z3;have v3:=L.v3;have t4:=L.t4;have a4:=L.a4;have z4:=L.z4;have v4:=L.v4;have t51:=L.t51;have a51:=L.a51;have z51:=L.z51;have v51:=L.v51;have t52:=L.t52;have a52:=L.a52;have z52:=L.z52;have v52:=L.v52;have z50:=L.z50
 have u0:=run_underlying L.t0;have u3:=run_underlying L.t3;have u4:=run_underlying L.t4;have u51:=run_underlying L.t51;have u52:=run_underlying L.t52
 have mixed:=L.mixed
 have hsrc:Src P 2 63 (.slice (some ⟨vb,voff,none⟩) 1 vc) 1 vs w:=Src.ofSlice w L.t51 ⟨vb,voff,none⟩ 1 vc vs (by omega) (fun j u hj=>by rw [Addr.add_lit];exact hvs j u hj) h1v
 have hold:(Builtin.firstCells 2 n (.slice (some ⟨b,off,none⟩) n c)).run P w.drew=.ok cs.toArray w.drew :=
  run_firstCells_some w.drew 2 n ⟨b,off,none⟩ n c cs hcl (fun j v hj=>by rw [Addr.add_lit];exact hcs j v hj)
 have hrun:∀ ty,(Builtin.append_ #[64,63] ty #[.slice (some ⟨b,off,none⟩) n c,.slice (some ⟨vb,voff,none⟩) 1 vc]).run P w=_:=fun ty =>
  run_append_grow_src w 64 63 ty 77 Tryz.t77 _ L.t52 L.i50 rfl (some ⟨b,off,none⟩) n c cs hold _ 1 vs hsrc hroom (by omega) (growslice_fits hroom hbig)
 go_enter L.f139,f139_ntmps
 go_wp2_with (at_builtin;refine Lib.wpList_append_run _ rfl _ _ _ _ rfl _ _ rfl rfl _ _ (hrun _) ?_)
 all_goals (go_ret;exact ⟨rfl,rfl⟩)
set_option maxHeartbeats 4000000 in
set_option maxRecDepth 100000 in
theorem ins_nil (L:InsL P) (vb voff vc:Nat) (vs:List Value) (w:World)
 (hvl:vs.length=2)
 (hvs:∀ j v,vs[j]?=some v→w.cell? ⟨vb,voff+j,none⟩=some v) (h1v:∀ v∈vs,v.oneCell'=true) :
 Calls P 118 #[.slice none 0 0,.int .i64 0,.slice (some ⟨vb,voff,none⟩) 1 vc] w fun e w' =>
  e=.returned (.slice (some ⟨w.heap.size,0,none⟩) 1 (grownCap w 1 0 77)) ∧
  w'=w.drew.alloc (.cells (vs.toArray++Builtin.zeroCells (Value.agg #[Value.string ⟨#[]⟩,Value.string ⟨#[]⟩]).cells (grownCap w 1 0 77-1)) 77):=by
 have t0:=L.t0;have a0:=L.a0;have z0:=L.z0;have v0:=L.v0;have t3:=L.t3;have a3:=L.a3;have z3:=L.z3;have v3:=L.v3;have t4:=L.t4;have a4:=L.a4;have z4:=L.z4;have v4:=L.v4;have t51:=L.t51;have a51:=L.a51;have z51:=L.z51;have v51:=L.v51;have t52:=L.t52;have a52:=L.a52;have z52:=L.z52;have v52:=L.v52;have z50:=L.z50
 have u0:=run_underlying L.t0;have u3:=run_underlying L.t3;have u4:=run_underlying L.t4;have u51:=run_underlying L.t51;have u52:=run_underlying L.t52
 have mixed:=L.mixed
 have hsrc:Src P 2 63 (.slice (some ⟨vb,voff,none⟩) 1 vc) 1 vs w:=Src.ofSlice w L.t51 ⟨vb,voff,none⟩ 1 vc vs (by omega) (fun j u hj=>by rw [Addr.add_lit];exact hvs j u hj) h1v
 have hold:(Builtin.firstCells 2 0 (.slice none 0 0)).run P w.drew=.ok ([]:List Value).toArray w.drew :=
  run_firstCells_none w.drew 2 0 0 0
 have hrun:∀ ty,(Builtin.append_ #[64,63] ty #[.slice none 0 0,.slice (some ⟨vb,voff,none⟩) 1 vc]).run P w=_:=fun ty =>
  run_append_grow_src w 64 63 ty 77 Tryz.t77 _ L.t52 L.i50 rfl none 0 0 [] hold _ 1 vs hsrc (by omega) (by omega) (growslice_fits (by omega) (by show (0+1)*32≤_;omega))
 go_enter L.f139,f139_ntmps
 go_wp2_with (at_builtin;refine Lib.wpList_append_run _ rfl _ _ _ _ rfl _ _ rfl rfl _ _ (hrun _) ?_)
 all_goals (go_ret;exact ⟨rfl,rfl⟩)
end Go.Proofs.RS
end
noncomputable section
namespace Go.Proofs.RS
open Go Go.Proofs Go.Shelf Go.RowKit Go.Lib
variable {P:Program}
abbrev zRec:Array Value:=(Value.agg #[Value.string ⟨#[]⟩,Value.string ⟨#[]⟩]).cells
theorem zeroRec_size (k:Nat):(Builtin.zeroCells zRec k).size=k*2:=by
 have h:(Builtin.zeroCells zRec k).toList.length=k*2:=by
  simp [Builtin.zeroCells,zRec,Value.cells,Nat.mul_comm]
 simpa using h
set_option maxHeartbeats 8000000 in
set_option maxRecDepth 100000 in
theorem ins_grow (L:InsL P) (b off n c i vb voff vc:Nat) (cs vs:List Value) (w:World) (hi:i<n) (hnc:n≤c) (hroom:c<n+1) (hbig:(n+1)*32≤140737488355328)
 (hcl:cs.length=n*2) (hvl:vs.length=2)
 (hcs:∀ j v,cs[j]?=some v→w.cell? ⟨b,off+j,none⟩=some v)
 (hvs:∀ j v,vs[j]?=some v→w.cell? ⟨vb,voff+j,none⟩=some v) (h1c:∀ v∈cs,v.oneCell'=true) (h1v:∀ v∈vs,v.oneCell'=true) :
 Calls P 118 #[.slice (some ⟨b,off,none⟩) n c,.int .i64 i,.slice (some ⟨vb,voff,none⟩) 1 vc] w fun e w' =>
  e=.returned (.slice (some ⟨w.heap.size,0,none⟩) (n+1) (grownCap w (n+1) c 77)) ∧
  w'=(((w.alloc (.cells ((cs.take (i*2)).toArray++Builtin.zeroCells zRec (n+1-i)++Builtin.zeroCells zRec (grownCap w (n+1) c 77-(n+1))) 77)).drew.setCells w.heap.size (i*2) vs).drew).setCells w.heap.size ((i+1)*2) (cs.drop (i*2)):=by
 have t0:=L.t0;have a0:=L.a0;have z0:=L.z0;have v0:=L.v0;have t3:=L.t3;have a3:=L.a3;have z3:=L.z3;have v3:=L.v3;have t4:=L.t4;have a4:=L.a4;have z4:=L.z4;have v4:=L.v4;have t51:=L.t51;have a51:=L.a51;have z51:=L.z51;have v51:=L.v51;have t52:=L.t52;have a52:=L.a52;have z52:=L.z52;have v52:=L.v52;have z50:=L.z50
 have u0:=run_underlying L.t0;have u3:=run_underlying L.t3;have u4:=run_underlying L.t4;have u51:=run_underlying L.t51;have u52:=run_underlying L.t52
 have mixed:=L.mixed
 have hz2:¬ ((i:Int)=(n:Int)):=by omega
 have hz3:(c:Int)<(n:Int)+1:=by omega
 have hsz:(P.info? 77).map (·.size)=some 2:=by rw [L.i50];rfl
 have hbw:b<w.heap.size:=block_lt_of_cell (hcs 0 _ (List.getElem?_eq_getElem (by omega)))
 have hvw:vb<w.heap.size:=block_lt_of_cell (hvs 0 _ (List.getElem?_eq_getElem (by omega)))
 have hkk:(n:Int)+1-(i:Int)=((n+1-i:Nat):Int):=by omega
 have hik:i+(n+1-i)=n+1:=by omega
 have hold:(Builtin.firstCells 2 i (.slice (some ⟨b,off,none⟩) i c)).run P w.drew=.ok (cs.take (i*2)).toArray w.drew:=by
  exact run_firstCells_some w.drew 2 i ⟨b,off,none⟩ i c (cs.take (i*2)) (by rw [List.length_take];omega) (fun j v hj=>by
   rw [Addr.add_lit]
   rw [List.getElem?_take] at hj
   split at hj
   ·exact hcs j v hj
   ·cases hj)
 have hrz:∀ ty,(Builtin.append_ #[64,3] ty #[.slice (some ⟨b,off,none⟩) i c,.int .i64 ((n:Int)+1-(i:Int))]).run P w =
  .ok (.slice (some ⟨w.heap.size,0,none⟩) (n+1) (grownCap w (n+1) c 77)) (w.drew.alloc (.cells ((cs.take (i*2)).toArray++Builtin.zeroCells zRec (n+1-i)++Builtin.zeroCells zRec (grownCap w (n+1) c 77-(n+1))) 77)):=fun ty=>by
  have h:=Lib.run_append_grow_zeros w 64 3 ty 77 Tryz.t77 _ .i64 .i64 L.t52 L.t3 L.i50 rfl (some ⟨b,off,none⟩) i c (cs.take (i*2)) hold (n+1-i) (by omega) (by show 0<2;omega) (by omega) (by omega) (by show _*32≤_;omega) (by rw [hik];exact growslice_fits hroom hbig)
  rw [hik] at h
  rw [hkk]
  exact h
 obtain ⟨G,hG⟩:∃ G,G=grownCap w (n+1) c 77:=⟨_,rfl⟩
 obtain ⟨ROW,hROW⟩:∃ ROW:Array Value,ROW=(cs.take (i*2)).toArray++Builtin.zeroCells zRec (n+1-i)++Builtin.zeroCells zRec (G-(n+1)):=⟨_,rfl⟩
 rw [← hG] at hrz ⊢
 rw [← hROW] at hrz ⊢
 have hRl:(n+1)*2≤ROW.size:=by
  rw [hROW,Array.size_append,Array.size_append,zeroRec_size,zeroRec_size,List.size_toArray,List.length_take]
  omega
 obtain ⟨W1,hW1⟩:∃ W1,W1=w.drew.alloc (.cells ROW 77):=⟨_,rfl⟩
 rw [← hW1] at hrz
 have hN:∀ j,j<(n+1)*2→(W1.cell? ⟨w.heap.size,j,none⟩).isSome=true:=fun j hj=>by
  rw [hW1,World.cell?_alloc_at (w:=w.drew) ROW _ w.heap.size j rfl,Array.getElem?_eq_getElem (by omega)];rfl
 have hNf:∀ j,W1.frozen? ⟨w.heap.size,j,none⟩=false:=fun j=>by rw [hW1];exact World.frozen?_alloc_at (w:=w.drew) ROW _ w.heap.size j rfl
 have hOb:∀ j v,w.cell? ⟨b,j,none⟩=some v→W1.cell? ⟨b,j,none⟩=some v:=fun j v h=>by rw [hW1,World.cell?_alloc_past (w:=w.drew) _ b j hbw];exact h
 have hOv:∀ j v,w.cell? ⟨vb,j,none⟩=some v→W1.cell? ⟨vb,j,none⟩=some v:=fun j v h=>by rw [hW1,World.cell?_alloc_past (w:=w.drew) _ vb j hvw];exact h
 have hcpA:∀ (W:World),(∀ x,W.cell? x=W1.cell? x)→(∀ x,W.frozen? x=W1.frozen? x)→∀ ty dc,(Builtin.copy_ #[64,63] ty #[.slice (some ⟨w.heap.size,i*2,none⟩) (n+1-i) dc,.slice (some ⟨vb,voff,none⟩) 1 vc]).run P W=.ok (goInt ((1:Nat):Int)) (W.setCells w.heap.size (i*2) vs):=fun W hWc hWf ty dc=>by
  have hm:Nat.min 1 (n+1-i)=1:=by simp only [Nat.min_def];split <;> omega
  have:=run_copy_w (P:=P) 2 W 64 63 ty 77 w.heap.size (i*2) (n+1-i) dc ⟨vb,voff,none⟩ 1 vc vs L.t52 hsz (by rw [hvl,hm])
   (fun j v hj=>by rw [Addr.add_lit,hWc];exact hOv _ v (hvs j v hj))
   (fun j hj=>by rw [hWc];exact hN _ (by omega)) (fun j hj=>by rw [hWf];exact hNf _) h1v
  rw [hm] at this
  exact this
 have hGn:n+1≤G:=by rw [hG];exact grownCap_ge w _ _ _
 have hG63:G≤9223372036854775807:=by
  have:=grownCap_le_maxLen w (n+1) c 77 (by unfold maxLen;omega)
  rw [← hG] at this
  unfold maxLen at this
  omega
 have hGi:¬ (G=i):=by omega
 have hGim:¬ (G=i+1):=by omega
 have hci:¬ (c=i):=by omega
 have hbN:b≠w.heap.size:=by omega
 have hdl:(cs.drop (i*2)).length=(n-i)*2:=by rw [List.length_drop,hcl];omega
 have hcpB:∀ (W:World),(∀ x,W.cell? x=(W1.setCells w.heap.size (i*2) vs).cell? x)→(∀ x,W.frozen? x=(W1.setCells w.heap.size (i*2) vs).frozen? x)→∀ ty dc sc,(Builtin.copy_ #[64,64] ty #[.slice (some ⟨w.heap.size,(i+1)*2,none⟩) (n-i) dc,.slice (some ⟨b,off+i*2,none⟩) (n-i) sc]).run P W=.ok (goInt ((n-i:Nat):Int)) (W.setCells w.heap.size ((i+1)*2) (cs.drop (i*2))):=fun W hWc hWf ty dc sc=>by
  have hm:Nat.min (n-i) (n-i)=n-i:=Nat.min_self _
  have:=run_copy_w (P:=P) 2 W 64 64 ty 77 w.heap.size ((i+1)*2) (n-i) dc ⟨b,off+i*2,none⟩ (n-i) sc (cs.drop (i*2)) L.t52 hsz (by rw [hdl,hm])
   (fun j v hj=>by
    rw [Addr.add_lit,hWc,World.cell?_setCells_out _ _ _ _ _ (fun h _=>absurd h hbN),Nat.add_assoc]
    exact hOb _ v (hcs (i*2+j) v (by rwa [List.getElem?_drop] at hj)))
   (fun j hj=>by rw [hWc];exact isSome_setCells _ _ _ _ (fun t ht=>hN _ (by omega)) _ (hN _ (by omega)))
   (fun j hj=>by rw [hWf,World.frozen?_setCells];exact hNf _) (fun v hv=>h1c v (List.mem_of_mem_drop hv))
  rw [hm] at this
  exact this
 subst hW1
 have hE1:∀ x,((w.alloc (.cells ROW 77)).drew).cell? x=(w.drew.alloc (.cells ROW 77)).cell? x:=fun x=>rfl
 have hE2:∀ x,((w.alloc (.cells ROW 77)).drew).frozen? x=(w.drew.alloc (.cells ROW 77)).frozen? x:=fun x=>rfl
 have hF1:∀ x,(((w.alloc (.cells ROW 77)).drew.setCells w.heap.size (i*2) vs).drew).cell? x=((w.drew.alloc (.cells ROW 77)).setCells w.heap.size (i*2) vs).cell? x:=fun x=>rfl
 have hF2:∀ x,(((w.alloc (.cells ROW 77)).drew.setCells w.heap.size (i*2) vs).drew).frozen? x=((w.drew.alloc (.cells ROW 77)).setCells w.heap.size (i*2) vs).frozen? x:=fun x=>rfl
 have hw1:IntKind.i64.wrap ((i:Int)+1)=(i:Int)+1:=by rw [IntKind.wrap_i64];omega
 have hw2:IntKind.i64.wrap ((n:Int)+1)=(n:Int)+1:=by rw [IntKind.wrap_i64];omega
 have hw3:IntKind.i64.wrap ((n:Int)+1-(i:Int))=(n:Int)+1-(i:Int):=by rw [IntKind.wrap_i64];omega
 have hb1:(0:Int)≤(i:Int)+1:=by omega
 have hin:i≤n:=by omega
 have htn:((i:Int)+1).toNat=i+1:=by omega
 have hb3:(i:Int)≤(n:Int):=by omega
 have hb5:(i:Int)≤(n:Int)+1:=by omega
 clear hkk hik hold hROW hG hRl
 go_enter L.f139,f139_ntmps
 go_wp2_with (first
  | (at_builtin;refine Lib.wpList_append_run _ rfl _ _ _ _ rfl _ _ rfl rfl _ _ (hrz _) ?_)
  | (at_builtin;refine wpList_copy_runI _ rfl _ _ 64 63 rfl _ _ rfl rfl (hcpA _ hE1 hE2 _ _) ?_)
  | (at_builtin;refine wpList_copy_runI _ rfl _ _ 64 64 rfl _ _ rfl rfl (hcpB _ (fun _=>rfl) (fun _=>rfl) _ _ _) ?_))
 go_region_law_o (refine step_copy_runI rfl _ _ 64 64 rfl (.slice (some ⟨w.heap.size,(i+1)*2,none⟩) (n-i) (G-(i+1))) (.slice (some ⟨b,off+i*2,none⟩) (n-i) (c-i)) (by simp [Act.eval,Act.put]) (by simp [Act.eval,Act.put]) (hcpB _ hF1 hF2 3 (G-(i+1)) (c-i)) ?_)
 go_wp2
 go_ret
 exact ⟨rfl,rfl⟩
end Go.Proofs.RS
end
noncomputable section
namespace Go.Proofs.RS
open Go Go.Proofs Go.Shelf Go.RowKit Go.Lib
variable {P:Program}
theorem run_clear_w (w:World) (t e ty:TypeId) (z:Value) (ht:P.underlying t=some (.slice e)) (hv:∀ w,(zeroValue e).run P w=.ok z w) (b o n c:Nat) (hn:0<n) (cs:List Value) (hz:(Builtin.zeroCells z.cells n).toList=cs) (h1:∀ v∈cs,v.oneCell'=true)
 (hc:∀ j,j<cs.length→(w.cell? ⟨b,o+j,none⟩).isSome=true) (hf:∀ j,j<cs.length→w.frozen? ⟨b,o+j,none⟩=false) :
 (Builtin.clear_ #[t] ty #[.slice (some ⟨b,o,none⟩) n c]).run P w=.ok (.tuple #[]) (w.setCells b o cs):=by
 have hst:=run_storeCells_cells (P:=P) b o cs 0 w (by simpa using hc) (by simpa using hf) h1
 have hzc:Builtin.zeroCells z.cells n=cs.toArray:=by rw [← hz]
 simp only [Nat.add_zero] at hst
 obtain ⟨m,rfl⟩:∃ m,n=m+1:=⟨n-1,by omega⟩
 simp [Builtin.clear_,run_underlying ht,hv,hzc,hst]
theorem zRec_one:(Builtin.zeroCells zRec 1).toList=[Value.string ⟨#[]⟩,Value.string ⟨#[]⟩]:=by
 simp [Builtin.zeroCells,zRec,Value.cells]
 rfl
set_option maxHeartbeats 4000000 in
set_option maxRecDepth 1000000 in
theorem del_at (L:InsL P) (v50:∀ w,(zeroValue 77).run P w=.ok (Value.agg #[Value.string ⟨#[]⟩,Value.string ⟨#[]⟩]) w) (b off N c i:Nat) (cs:List Value) (w:World) (hi:i≤N) (hnc:N+1≤c)
 (hcl:cs.length=(N+1)*2) (hcs:∀ j v,cs[j]?=some v→w.cell? ⟨b,off+j,none⟩=some v) (hfz:∀ j,j<(N+1)*2→w.frozen? ⟨b,off+j,none⟩=false) (h1c:∀ v∈cs,v.oneCell'=true) :
 Calls P 120 #[.slice (some ⟨b,off,none⟩) (N+1) c,.int .i64 i,.int .i64 ((i:Int)+1)] w fun e w' =>
  e=.returned (.slice (some ⟨b,off,none⟩) N c)∧w'=(w.drew.setCells b (off+i*2) (cs.drop ((i+1)*2))).setCells b (off+N*2) [Value.string ⟨#[]⟩,Value.string ⟨#[]⟩]:=by
 have t0:=L.t0;have a0:=L.a0;have z0:=L.z0;have v0:=L.v0;have t3:=L.t3;have a3:=L.a3;have z3:=L.z3;have v3:=L.v3;have t4:=L.t4;have a4:=L.a4;have z4:=L.z4;have v4:=L.v4;have t52:=L.t52;have a52:=L.a52;have z52:=L.z52;have v52:=L.v52;have z50:=L.z50
 have u0:=run_underlying L.t0;have u3:=run_underlying L.t3;have u4:=run_underlying L.t4;have u52:=run_underlying L.t52
 have mixed:=L.mixed
 have i50:=L.i50
 have hz1:Tryz.t77.size=2:=rfl
 obtain ⟨news,hnews⟩:∃ news,news=cs.drop ((i+1)*2):=⟨_,rfl⟩
 have hlen:news.length=(N-i)*2:=by rw [hnews,List.length_drop,hcl];omega
 have hsome:∀ j,j<(N+1)*2→(w.cell? ⟨b,off+j,none⟩).isSome=true:=fun j hj=>by
  rw [hcs j _ (List.getElem?_eq_getElem (by omega))];rfl
 obtain ⟨A,hA,hsrc⟩:∃ A:Addr,(if c=i+1 then some (⟨b,off,none⟩:Addr) else some ⟨b,off+(i+1)*2,none⟩)=some A∧Hid (∀ t u,news[t]?=some u→w.drew.cell? (A.add t)=some u):=by
  by_cases h:c=i+1
  ·refine ⟨⟨b,off,none⟩,by simp [h],fun t u hu=>?_⟩
   have h0:news.length=0:=by rw [hlen];omega
   rw [List.length_eq_zero_iff.1 h0] at hu
   simp at hu
  ·refine ⟨⟨b,off+(i+1)*2,none⟩,by simp [h],fun t u hu=>?_⟩
   rw [Addr.add_lit,show off+(i+1)*2+t=off+((i+1)*2+t) by omega]
   rw [hnews,List.getElem?_drop] at hu
   exact hcs _ _ hu
 have s1:Hid (news.length=(N-i)*2):=hlen
 have s2:Hid (∀ u∈news,u.oneCell'=true):=fun u hu=>h1c u (by rw [hnews] at hu;exact List.mem_of_mem_drop hu)
 have s3:Hid (∀ t,t<news.length→(w.drew.cell? ⟨b,off+i*2+t,none⟩).isSome=true∧w.drew.frozen? ⟨b,off+i*2+t,none⟩=false):=by
  intro t ht
  rw [hlen] at ht
  rw [Nat.add_assoc]
  exact ⟨hsome _ (by omega),hfz _ (by omega)⟩
 obtain ⟨W1,hW1⟩:∃ W1,W1=w.drew.setCells b (off+i*2) news:=⟨_,rfl⟩
 have hcl:∀ ty cc,(Builtin.clear_ #[64] ty #[.slice (some ⟨b,off+N*2,none⟩) 1 cc]).run P W1=.ok (.tuple #[]) (W1.setCells b (off+N*2) [Value.string ⟨#[]⟩,Value.string ⟨#[]⟩]):=fun ty cc=>by
  refine run_clear_w W1 64 77 ty _ t52 v50 b _ 1 cc (by omega) _ zRec_one (fun v hv=>?_) (fun j hj=>?_) (fun j hj=>?_)
  ·simp at hv;subst hv;rfl
  ·rw [hW1]
   have hj':j<2:=hj
   rw [Nat.add_assoc]
   exact isSome_setCells b _ _ _ (fun t ht=>by rw [Nat.add_assoc];exact hsome _ (by omega)) _ (hsome _ (by omega))
  ·rw [hW1,World.frozen?_setCells]
   have hj':j<2:=hj
   rw [Nat.add_assoc]
   exact hfz _ (by omega)
 have hW:Hid (W1=w.drew.setCells b (off+i*2) news):=hW1
 have X0:W1=w.drew.setCells b (off+i*2) (cs.drop ((i+1)*2)):=by rw [hW1,hnews]
 have X:Hid (W1=w.drew.setCells b (off+i*2) (cs.drop ((i+1)*2))):=X0
 have hic:i≤c:=by omega
 have hjc:i+1≤c:=by omega
 have hiN:i≤N+1:=by omega
 have hne:¬ ((i:Int)=(i:Int)+1):=by omega
 have hw1:((i:Int)+1).toNat=i+1:=by omega
 have hb1:(0:Int)≤(i:Int)+1:=by omega
 have hb2:(i:Int)+1≤(N:Int)+1:=by omega
 have hb3:(i:Int)≤(i:Int)+1:=by omega
 have hb4:(i:Int)≤(N:Int)+1:=by omega
 have hb5:(i:Int)+1≤(c:Int):=by omega
 clear X0 hW1 hsome hnews hlen
 go_enter L.f140,f140_ntmps
 go_wp2_with fail
 go_region_law_o (refine step_append_room rfl (.tmp 22) (.tmp 25) 64 rfl 77 Tryz.t77 2 t52 i50 hz1 b off i c (by simp [Act.eval,Act.put]) A (N-i) (c-(i+1)) news (by simp [Act.eval,Act.put]) s1.out hsrc.out s2.out (by omega) s3.out ?_;rw [← hW.out])
 go_wp2
 go_ret
 refine ⟨rfl,?_⟩
 rw [X.out]
end Go.Proofs.RS
end
noncomputable section
namespace Go.Ev
open Go.Proofs Go.Proofs.RS
theorem setCells_eq {rb:Nat} {ty:TypeId} {fr:Nat×Nat}:∀ (vs:List Value) (o:Nat) (cs:Array Value) {W:World},W.heap[rb]?=some (.cells cs ty fr)→W.setCells rb o vs=World.setB W rb (.cells (putRow cs o vs) ty fr):=by
 intro vs
 induction vs with
 | nil=>intro o cs W h;rw [World.setCells,putRow,setB_self h]
 | cons v r ih =>
  intro o cs W h
  rw [World.setCells,setCell_eq h,ih (o+1) _ (setB_same h),setB_setB]
  rfl
theorem post_anew {β:Mp} {H:Hp} {W:World} {r b sz:Nat} {t2:T Value} {cells row rest:List Value} {ty:TypeId} (hw:H.wf) (ha:alive H b) (hn:H.room=true) (hb:blkL cells ty (sz+1)=.cells t2 cells.length ty (sz+1) 0 0)
 (hg:∀ (i:Nat) (v:Value),cells[i]?=some v→t2.get i=v) (hall:cells.all oneC=true) (hl:LRel β cells row) {n:Nat} (htot:n*sz=row.length+rest.length)
 (p:Pre β H ((H.put b .no).push (blkL cells ty (sz+1))) r (bit b) W) :
 Post β (β.put H.nx ⟨W.heap.size,0,n*sz,sz⟩) H ((H.put b .no).push (blkL cells ty (sz+1))) (bit b) W (World.pushB W (.cells ⟨row++rest⟩ ty)):=by
 have hf:β H.nx=none:=p.fresh _ (Nat.le_refl _) (by rw [nx_push,nx_put];omega)
 have c1:=can_put hw .no ha
 have hn1:(H.put b .no).room=true:=by rw [room_put];exact hn
 have c2:Can (H.put b .no) ((H.put b .no).push (blkL cells ty (sz+1))) 0:=can_push hn1
 have hle:Mp.le β (β.put H.nx ⟨W.heap.size,0,n*sz,sz⟩):=Mp.le_put _ hf
 have q1:=post_forget (W:=W) hw ha p.dom
 have hor:ORel (β.put H.nx ⟨W.heap.size,0,n*sz,sz⟩) ⟨W.heap.size,0,n*sz,sz⟩ (blkL cells ty (sz+1)) (.cells ⟨row++rest⟩ ty):=by
  rw [hb]
  exact orel_app hg hall (hl.mono hle) htot
 have q2:Post β (β.put H.nx ⟨W.heap.size,0,n*sz,sz⟩) (H.put b .no) ((H.put b .no).push (blkL cells ty (sz+1))) 0 W (World.pushB W (.cells ⟨row++rest⟩ ty)):=by
  have:=post_push (β:=β) (H:=H.put b .no) (W:=W) (blkL cells ty (sz+1)) (.cells ⟨row++rest⟩ ty) ⟨W.heap.size,0,n*sz,sz⟩ hn1 rfl (by rw [nx_put];exact hf) (by rw [nx_put];exact hor) p.dom
  rw [nx_put] at this
  exact this
 have p':Pre β H ((H.put b .no).push (blkL cells ty (sz+1))) (Nat.lor r 0) (Nat.lor (bit b) 0) W:=by
  rw [show Nat.lor r 0=r from Nat.or_zero _,show Nat.lor (bit b) 0=bit b from Nat.or_zero _];exact p
 have hp:=Post.comp c1 c2 p' q1 q2
 rwa [show Nat.lor (bit b) 0=bit b from Nat.or_zero _] at hp
theorem post_inplace {β:Mp} {H:Hp} {W:World} {r b sz:Nat} {m:Bm} {t2:T Value} {cells row:List Value} {ty:TypeId} {cs cs2:Array Value} {fr:Nat×Nat} (hw:H.wf) (ha:alive H b) (hn:H.room=true) (hb:blkL cells ty (sz+1)=.cells t2 cells.length ty (sz+1) 0 0)
 (hg:∀ (i:Nat) (v:Value),cells[i]?=some v→t2.get i=v) (hall:cells.all oneC=true) (hl:LRel β cells row) (e:β b=some m) (ho:W.heap[m.rb]?=some (.cells cs ty fr)) (hs:cs.size=m.tot) (hs2:cs2.size=cs.size) (hsz:m.esz=sz) (hfit:m.sh+row.length≤m.tot)
 (hfr:FrOk m 0 0 fr) (hrow:∀ j,j<row.length→cs2[m.sh+j]?=row[j]?)
 (p:Pre β H ((H.put b .no).push (blkL cells ty (sz+1))) r (bit b) W) :
 Post β (β.put H.nx m) H ((H.put b .no).push (blkL cells ty (sz+1))) (bit b) W (World.setB W m.rb (.cells cs2 ty fr)):=by
 have hf:β H.nx=none:=p.fresh _ (Nat.le_refl _) (by rw [nx_push,nx_put];omega)
 have hle:Mp.le β (β.put H.nx m):=Mp.le_put _ hf
 refine post_fork hw ha e ho hn hf rfl ?_ p.dom
 rw [hb]
 refine ⟨cs2,fr,rfl,by rw [hs2,hs],by rw [hl.1];exact hfit,(fun h=>by cases h),(fun k h=>by cases h;exact hsz),fun j hj=>?_,hfr⟩
 have hv:cells[j]?=some cells[j]:=by simp [hj]
 rw [hg j _ hv]
 obtain ⟨v',ev,hr⟩:=hl.get hv
 exact ⟨List.all_eq_true.1 hall _ (List.getElem_mem hj),v',by rw [hrow j (by rw [← hl.1];exact hj)];exact ev,hr.mono hle⟩
def insL (i:Nat) (L V:List Value):List Value:=L.take (i*2)++(V++L.drop (i*2))
def delL (i:Nat) (L:List Value):List Value:=L.take (i*2)++L.drop ((i+1)*2)
def spIns (args:List Value) (H:Hp):Option (Value×Hp×Nat×Nat):=match args with
 | [.slice (some ⟨b,0,none⟩) n c,.int .i64 (.ofNat i),.slice (some ⟨b2,0,none⟩) 1 _]=>(match H.blk b,H.blk b2 with
  | .cells t k ty op lo hi,.cells t2 k2 _ op2 lo2 hi2 =>
   Bc (Nat.beq k (n*2) && Nat.beq ty 77 && Nat.ble i n && Nat.ble n 1000000 && ((Nat.beq op 3 && Nat.beq c (2*n+1)) || (Nat.beq op 0 && Nat.beq c (2*n))) && Nat.beq lo 0 && Nat.beq hi 0 && (!Nat.beq b b2) && Nat.beq k2 2 && Nat.beq op2 0 && Nat.beq lo2 0 && Nat.beq hi2 0 && H.room)
    (some (.slice (some ⟨H.nx,0,none⟩) (n+1) (2*(n+1)+1),(H.put b .no).push (blkL (insL i (rdL t (n*2) 0) (rdL t2 2 0)) 77 3),bit b2,bit b)) none
  | _,_=>none)
 | _=>none
def spDel (args:List Value) (H:Hp):Option (Value×Hp×Nat×Nat):=match args with
 | [.slice (some ⟨b,0,none⟩) n c,.int .i64 (.ofNat i),.int .i64 (.ofNat j)]=>(match H.blk b with
  | .cells t k ty op lo hi =>
   Bc (Nat.beq k (n*2) && Nat.beq ty 77 && Nat.blt i n && Nat.ble n 1000000 && Nat.beq op 3 && Nat.beq c (2*n+1) && Nat.beq lo 0 && Nat.beq hi 0 && Nat.beq j (i+1) && H.room)
    (some (.slice (some ⟨H.nx,0,none⟩) (n-1) (2*(n-1)+1),(H.put b .no).push (blkL (delL i (rdL t (n*2) 0)) 77 3),0,bit b)) none
  | _=>none)
 | _=>none
theorem one_kit {v:Value} (h:oneC v=true):v.oneCell'=true:=by cases v <;> first | rfl | cases h
theorem zeroRec_list (q:Nat):∃ l,(Builtin.zeroCells zRec q).toList=l∧l.length=q*2:=⟨_,rfl,by have:=zeroRec_size q;simpa using this⟩
theorem arr_three {args:Array Value} {x y z:Value} (h:args.toList=[x,y,z]):args = #[x,y,z]:=by
 obtain ⟨l⟩:=args
 simp at h;subst h;rfl
theorem fr_none {m:Bm} {fr:Nat×Nat} (h:FrOk m 0 0 fr):fr.1=fr.2:=by
 rcases h with ⟨_,h | h⟩ | ⟨h,_⟩ | ⟨_,h⟩ <;> omega
theorem frozen_none {W:World} {rb:Nat} {cs:Array Value} {ty:TypeId} {fr:Nat×Nat} (h:W.heap[rb]?=some (.cells cs ty fr)) (hf:fr.1=fr.2) (o:Nat):W.frozen? ⟨rb,o,none⟩=false:=by
 unfold World.frozen?
 obtain ⟨a,b⟩:=fr
 simp only [h]
 simp only at hf
 subst hf
 simp only [Bool.and_eq_false_imp,decide_eq_true_eq,decide_eq_false_iff_not]
 omega
theorem cell_some {W:World} {rb:Nat} {cs:Array Value} {ty:TypeId} {fr:Nat×Nat} (h:W.heap[rb]?=some (.cells cs ty fr)) (o:Nat):W.cell? ⟨rb,o,none⟩=cs[o]?:=by
 unfold World.cell?
 simp only [h];rfl
theorem shape_some {W:World} {rb:Nat} {cs:Array Value} {ty:TypeId} {fr:Nat×Nat} (h:W.heap[rb]?=some (.cells cs ty fr)):W.shape? rb=some (ty,cs.size):=by
 unfold World.shape?
 simp only [h]
theorem insL_get {i j:Nat} {L V:List Value} (hi:i*2≤L.length) (hV:V.length=2):(insL i L V)[j]?=if j<i*2 then L[j]? else if j<i*2+2 then V[j-i*2]? else L[j-2]?:=by
 unfold insL
 have hl:(L.take (i*2)).length=i*2:=by rw [List.length_take];omega
 by_cases h1:j<i*2
 ·rw [if_pos h1,List.getElem?_append_left (by omega),List.getElem?_take_of_lt h1]
 ·rw [if_neg h1,List.getElem?_append_right (by omega),hl]
  by_cases h2:j<i*2+2
  ·rw [if_pos h2,List.getElem?_append_left (by omega)]
  ·rw [if_neg h2,List.getElem?_append_right (by omega),List.getElem?_drop,hV]
   congr 1
   omega
theorem push_set {W:World} {o o2:Obj}:(W.heap.push o).setIfInBounds W.heap.size o2=W.heap.push o2:=by
 apply Array.ext_getElem?
 intro k
 rw [Array.getElem?_setIfInBounds,Array.getElem?_push,Array.getElem?_push]
 by_cases hk:W.heap.size=k
 ·subst hk;simp
 ·rw [if_neg hk,if_neg (fun e=>hk e.symm),if_neg (fun e=>hk e.symm)]
theorem setCells_env (b:Nat):∀ (vs:List Value) (o:Nat) (w:World),(w.setCells b o vs).os=w.os∧(w.setCells b o vs).tape=w.tape∧(w.setCells b o vs).output=w.output:=by
 intro vs
 induction vs with
 | nil=>intro o w;exact ⟨rfl,rfl,rfl⟩
 | cons v r ih=>intro o w;rw [World.setCells];exact ih _ _
set_option maxHeartbeats 2000000 in
theorem spIns_ok {P:Program} {ng:Nat} (L:InsL P) (hent:∀ (args:Array Value) (W:World),(callFunc 118 args).run P W=.ok (.enter 118 args) W) {args:List Value} {H:Hp} {v:Value} {H':Hp} {r w:Nat} (hw:H.wf) (h:spIns args H=some (v,H',r,w)) :
 TaskOk P ng (.call 118 args) H (.k (.ret v H' r w)):=by
 unfold spIns at h
 split at h
 case h_2=>cases h
 rename_i b n c i b2 c2
 split at h
 case h_2=>cases h
 rename_i t k ty op lo hi t2 k2 ty2 op2 lo2 hi2 hb hb2
 generalize hcond:(Nat.beq k (n*2) && Nat.beq ty 77 && Nat.ble i n && Nat.ble n 1000000 && ((Nat.beq op 3 && Nat.beq c (2*n+1)) || (Nat.beq op 0 && Nat.beq c (2*n))) && Nat.beq lo 0 && Nat.beq hi 0 && (!Nat.beq b b2) && Nat.beq k2 2 && Nat.beq op2 0 && Nat.beq lo2 0 && Nat.beq hi2 0 && H.room)=q at h
 cases q with
 | false=>rw [Bc_f] at h;cases h
 | true =>
 rw [Bc_t] at h
 simp only [Option.some.injEq,Prod.mk.injEq] at h
 obtain ⟨rfl,rfl,rfl,rfl⟩:=h
 simp only [Bool.and_eq_true,Bool.or_eq_true,beq_iff,ble_iff,Bool.not_eq_true'] at hcond
 obtain ⟨⟨⟨⟨⟨⟨⟨⟨⟨⟨⟨⟨rfl,rfl⟩,hin⟩,hn6⟩,hform⟩,rfl⟩,rfl⟩,hne⟩,rfl⟩,rfl⟩,rfl⟩,rfl⟩,hn⟩:=hcond
 have hbb:b≠b2:=fun e=>by rw [(beq_iff b b2).2 e] at hne;cases hne
 have ha:alive H b:=(alive_iff H b).2 (by rw [hb];simp)
 have ha2:alive H b2:=(alive_iff H b2).2 (by rw [hb2];simp)
 refine ⟨can_fork hw ha hn,fun β W hgr p=>?_⟩
 intro args' hl
 obtain ⟨x1,l1,e1,hx1,hl⟩:=hl.cons_inv
 obtain ⟨x2,l2,rfl,hx2,hl⟩:=hl.cons_inv
 obtain ⟨x3,l3,rfl,hx3,hl⟩:=hl.cons_inv
 have:=hl.nil_inv;subst this
 have ea:=arr_three e1;subst ea
 cases hx2
 cases hx1 with | sl _ _ _ _ c' m em hcap =>
 cases hx3 with | sl _ _ _ _ cv m2 em2 hcap2 =>
 obtain ⟨m',cs,fr,em',hm,h2,h3,h4,h4',h5,h6⟩:=cells_of p (.inr ((bit_iff b b).2 rfl)) hb
 rw [em] at em';cases em'
 obtain ⟨m2',cs2,fr2,em2',hm2,g2,g3,g4,g4',g5,g6⟩:=cells_of p (.inl ((bit_iff b2 b2).2 rfl)) hb2
 rw [em2] at em2';cases em2'
 have hrb:m2.rb≠m.rb:=fun e=>hbb (p.inj b b2 m m2 ((bit_iff b b).2 rfl) (.inl ((bit_iff b2 b2).2 rfl)) ha ha2 em em2 e.symm)
 have hfr:=fr_none h6
 have hfr2:=fr_none g6
 obtain ⟨gs,gt⟩:m2.sh=0∧m2.tot=2:=g4 rfl
 have hLL:LRel β (rdL t (n*2) 0) (rowOf cs (0+m.sh) (n*2)):=lrel_row (by omega) (by omega) h5
 have hVV:LRel β (rdL t2 2 0) (rowOf cs2 (0+m2.sh) 2):=lrel_row (by omega) (by omega) g5
 have hL1:(rdL t (n*2) 0).all oneC=true:=one_row (n:=n*2) (by omega) fun j hj=>(h5 j hj).1
 have hV1:(rdL t2 2 0).all oneC=true:=one_row (n:=2) (by omega) fun j hj=>(g5 j hj).1
 have hlL:(rowOf cs (0+m.sh) (n*2)).length=n*2:=rowOf_len (by omega)
 have hlV:(rowOf cs2 (0+m2.sh) 2).length=2:=rowOf_len (by omega)
 have hcs:∀ j v,(rowOf cs (0+m.sh) (n*2))[j]?=some v→W.cell? ⟨m.rb,0+m.sh+j,none⟩=some v:=fun j v hj=>by
  have hj2:j<n*2:=by
   rcases Nat.lt_or_ge j (n*2) with h' | h'
   ·exact h'
   ·rw [List.getElem?_eq_none (by omega)] at hj;cases hj
  rw [rowOf_get hj2] at hj
  rw [cell_some hm];exact hj
 have hvs:∀ j v,(rowOf cs2 (0+m2.sh) 2)[j]?=some v→W.cell? ⟨m2.rb,0+m2.sh+j,none⟩=some v:=fun j v hj=>by
  have hj2:j<2:=by
   rcases Nat.lt_or_ge j 2 with h' | h'
   ·exact h'
   ·rw [List.getElem?_eq_none (by omega)] at hj;cases hj
  rw [rowOf_get hj2] at hj
  rw [cell_some hm2];exact hj
 have h1c:∀ v∈rowOf cs (0+m.sh) (n*2),v.oneCell'=true:=fun v hv=>one_kit (all_one hLL hL1 v hv)
 have h1v:∀ v∈rowOf cs2 (0+m2.sh) 2,v.oneCell'=true:=fun v hv=>one_kit (all_one hVV hV1 v hv)
 have hrel:LRel β (insL i (rdL t (n*2) 0) (rdL t2 2 0)) (insL i (rowOf cs (0+m.sh) (n*2)) (rowOf cs2 (0+m2.sh) 2)):=(hLL.take _).append (hVV.append (hLL.drop _))
 have hall:(insL i (rdL t (n*2) 0) (rdL t2 2 0)).all oneC=true:=by
  unfold insL
  rw [List.all_append,List.all_append,hV1,Bool.true_and,Bool.and_eq_true]
  exact ⟨List.all_eq_true.2 fun x hx=>List.all_eq_true.1 hL1 x (List.mem_of_mem_take hx),List.all_eq_true.2 fun x hx=>List.all_eq_true.1 hL1 x (List.mem_of_mem_drop hx)⟩
 have hlen:(insL i (rowOf cs (0+m.sh) (n*2)) (rowOf cs2 (0+m2.sh) 2)).length=(n+1)*2:=by
  unfold insL
  rw [List.length_append,List.length_append,List.length_take,List.length_drop,hlL,hlV];omega
 generalize hLv:rowOf cs (0+m.sh) (n*2)=Lr at *
 generalize hVv:rowOf cs2 (0+m2.sh) 2=Vr at *
 obtain ⟨tn,hbn,hgn⟩:=blkL_eq (insL i (rdL t (n*2) 0) (rdL t2 2 0)) 77 3
 have hnc:n≤c':=by
  rcases hform with ⟨rfl,rfl⟩ | ⟨rfl,rfl⟩
  ·have:=(hcap.2 (by omega)).1;omega
  ·have:=hcap.1 (by omega);omega
 refine .inl ⟨hent _ _,callsIn_wide.2 ?_⟩
 have inplace:n+1≤c'→m.esz=2∧0+m.sh+c'*2=m.tot:=fun hc=>by
  rcases hform with ⟨rfl,rfl⟩ | ⟨rfl,rfl⟩
  ·have e2:=h4' 2 rfl
   have:=(hcap.2 (by omega)).2
   rw [e2] at this
   exact ⟨e2,this⟩
  ·have:=hcap.1 (by omega);omega
 have valR:∀ q,VRel (β.put H.nx ⟨W.heap.size,0,(n+1+q)*2,2⟩) (.slice (some ⟨H.nx,0,none⟩) (n+1) (2*(n+1)+1)) (.slice (some ⟨W.heap.size,0,none⟩) (n+1) (n+1+q)):=fun q =>
  .sl H.nx 0 (n+1) (2*(n+1)+1) (n+1+q) ⟨W.heap.size,0,(n+1+q)*2,2⟩ (Mp.put_same _ _ _) ⟨fun h=>by omega,fun _=>⟨by omega,by simp⟩⟩
 have valI:n+1≤c'→VRel (β.put H.nx m) (.slice (some ⟨H.nx,0,none⟩) (n+1) (2*(n+1)+1)) (.slice (some ⟨m.rb,0+m.sh,none⟩) (n+1) c'):=fun hc =>
  .sl H.nx 0 (n+1) (2*(n+1)+1) c' m (Mp.put_same _ _ _) ⟨fun h=>by omega,fun _=>⟨by omega,by have:=inplace hc;rw [this.1];exact this.2⟩⟩
 by_cases hroom:n+1≤c'
 ·obtain ⟨hesz,hfit⟩:=inplace hroom
  have hsp:∀ j,j<(n+1)*2→(W.cell? ⟨m.rb,0+m.sh+j,none⟩).isSome=true:=fun j hj=>by
   rw [cell_some hm,Array.getElem?_eq_getElem (by omega)];rfl
  have hfz:∀ j,W.frozen? ⟨m.rb,0+m.sh+j,none⟩=false:=fun j=>frozen_none hm hfr _
  have fin:∀ cs3:Array Value,cs3.size=cs.size→(∀ j,j<(n+1)*2→cs3[m.sh+j]?=(insL i Lr Vr)[j]?)→Post β (β.put H.nx m) H ((H.put b .no).push (blkL (insL i (rdL t (n*2) 0) (rdL t2 2 0)) 77 3)) (bit b) W (World.setB W m.rb (.cells cs3 77 fr)):=fun cs3 k1 k2 =>
   post_inplace hw ha hn hbn hgn hall hrel em hm h2 k1 hesz (by rw [hlen];omega) h6 (fun j hj=>k2 j (by rw [← hlen];exact hj)) p
  by_cases hlast:i=n
  ·subst hlast
   refine (ins_end_room L m.rb (0+m.sh) i c' m2.rb (0+m2.sh) cv Vr W hroom hlV (fun j hj=>by rw [Nat.add_assoc];exact hsp _ (by omega)) (fun j hj=>by rw [Nat.add_assoc];exact hfz _) hvs h1v).mono fun e W' hR=>?_
   obtain ⟨rfl,rfl⟩:=hR
   refine ⟨_,_,rfl,valI hroom,?_⟩
   rw [setCells_eq _ _ _ hm]
   refine fin _ (putRow_size _ _ _) fun j hj=>?_
   rw [putRow_get _ _ _ _ (by omega),insL_get (by omega) hlV]
   by_cases h1:j<i*2
   ·rw [if_neg (by omega),if_pos h1,← hLv,rowOf_get h1,Nat.zero_add]
   ·rw [if_pos (by omega),if_neg h1,if_pos (by omega)]
    congr 1;omega
  ·have hilt:i<n:=by omega
   refine (ins_shift L m.rb (0+m.sh) n c' i m2.rb (0+m2.sh) cv Lr Vr W hilt hroom (by omega) hrb hlL hlV hcs hsp (fun j _=>hfz j) hvs h1c h1v ty2 77 cs2.size cs.size (shape_some hm2) (shape_some hm) (by omega) (frozen_none hm2 hfr2 _) (frozen_none hm2 hfr2 _)).mono fun e W' hR=>?_
   obtain ⟨rfl,rfl⟩:=hR
   refine ⟨_,_,rfl,valI hroom,?_⟩
   have hm':W.drew.heap[m.rb]?=some (.cells cs 77 fr):=hm
   rw [setCells_eq _ _ _ hm',setCells_eq _ _ _ (setB_same hm'),setB_setB]
   refine (fin (putRow (putRow cs (0+m.sh+(i+1)*2) (Lr.drop (i*2))) (0+m.sh+i*2) Vr) (by rw [putRow_size,putRow_size]) fun j hj=>?_).congr rfl ⟨rfl,rfl,rfl⟩
   have hld:(Lr.drop (i*2)).length=n*2-i*2:=by rw [List.length_drop,hlL]
   rw [putRow_get _ _ _ _ (by rw [putRow_size];omega),insL_get (by omega) hlV,hlV]
   by_cases h1:j<i*2
   ·rw [if_neg (by omega),if_pos h1,putRow_get _ _ _ _ (by omega),if_neg (by omega),← hLv,rowOf_get (by omega),Nat.zero_add]
   ·rw [if_neg h1]
    by_cases h3:j<i*2+2
    ·rw [if_pos (by omega),if_pos h3]
     congr 1;omega
    ·rw [if_neg (by omega),if_neg h3,putRow_get _ _ _ _ (by omega),if_pos (by omega),List.getElem?_drop]
     congr 1;omega
 ·have hg:c'<n+1:=by omega
  obtain ⟨q,hq⟩:∃ q,grownCap W (n+1) c' 77=n+1+q:=⟨grownCap W (n+1) c' 77-(n+1),by have:=grownCap_ge W (n+1) c' 77;omega⟩
  obtain ⟨Z,hZ,hZl⟩:=zeroRec_list q
  have fin:Post β (β.put H.nx ⟨W.heap.size,0,(n+1+q)*2,2⟩) H ((H.put b .no).push (blkL (insL i (rdL t (n*2) 0) (rdL t2 2 0)) 77 3)) (bit b) W (World.pushB W (.cells ⟨insL i Lr Vr++Z⟩ 77)) :=
   post_anew hw ha hn hbn hgn hall hrel (by rw [hlen,hZl];omega) p
  by_cases hlast:i=n
  ·subst hlast
   refine (ins_end_grow L m.rb (0+m.sh) i c' m2.rb (0+m2.sh) cv Lr Vr W hnc hg (by omega) hlL hlV hcs hvs h1v).mono fun e W' hR=>?_
   obtain ⟨rfl,rfl⟩:=hR
   rw [hq]
   refine ⟨_,_,rfl,valR q,fin.congr ?_ ⟨rfl,rfl,rfl⟩⟩
   show W.heap.push _=W.heap.push _
   congr 2
   apply Array.ext'
   rw [show i+1+q-(i+1)=q from by omega]
   rw [Array.toList_append,hZ]
   show (Lr++Vr)++Z=insL i Lr Vr++Z
   unfold insL
   rw [List.take_of_length_le (by omega),List.drop_eq_nil_of_le (by omega),List.append_nil]
  ·have hilt:i<n:=by omega
   refine (ins_grow L m.rb (0+m.sh) n c' i m2.rb (0+m2.sh) cv Lr Vr W hilt hnc hg (by omega) hlL hlV hcs hvs h1c h1v).mono fun e W' hR=>?_
   obtain ⟨rfl,rfl⟩:=hR
   rw [hq]
   refine ⟨_,_,rfl,valR q,fin.congr ?_ ?_⟩
   rotate_left
   ·obtain ⟨k1,k2,k3⟩:=setCells_env W.heap.size (Lr.drop (i*2)) ((i+1)*2) (((W.alloc (.cells ((Lr.take (i*2)).toArray++Builtin.zeroCells zRec (n+1-i)++Builtin.zeroCells zRec (n+1+q-(n+1))) 77)).drew.setCells W.heap.size (i*2) Vr).drew)
    obtain ⟨j1,j2,j3⟩:=setCells_env W.heap.size Vr (i*2) ((W.alloc (.cells ((Lr.take (i*2)).toArray++Builtin.zeroCells zRec (n+1-i)++Builtin.zeroCells zRec (n+1+q-(n+1))) 77)).drew)
    exact ⟨k1.trans j1,k2.trans j2,k3.trans j3⟩
   rw [show n+1+q-(n+1)=q from by omega]
   generalize hROW:(Lr.take (i*2)).toArray++Builtin.zeroCells zRec (n+1-i)++Builtin.zeroCells zRec q=ROW
   have hk1:((W.alloc (.cells ROW 77)).drew).heap[W.heap.size]?=some (.cells ROW 77):=by
    show (W.heap.push _)[W.heap.size]?=_
    simp
   rw [setCells_eq _ _ _ hk1]
   have hk2:((World.setB (W.alloc (.cells ROW 77)).drew W.heap.size (.cells (putRow ROW (i*2) Vr) 77 (0,0))).drew).heap[W.heap.size]?=some (.cells (putRow ROW (i*2) Vr) 77 (0,0)):=setB_same hk1
   rw [setCells_eq _ _ _ hk2]
   show ((W.heap.push (.cells ROW 77)).setIfInBounds W.heap.size _).setIfInBounds W.heap.size _=W.heap.push _
   rw [push_set,push_set]
   congr 2
   have hsz:ROW.size=(n+1+q)*2:=by
    rw [← hROW,Array.size_append,Array.size_append,zeroRec_size,zeroRec_size,List.size_toArray,List.length_take,hlL];omega
   have hld:(Lr.drop (i*2)).length=n*2-i*2:=by rw [List.length_drop,hlL]
   apply Array.ext_getElem?
   intro j
   rw [putRow_get _ _ _ _ (by rw [putRow_size];omega),putRow_get _ _ _ _ (by omega),(show (⟨insL i Lr Vr++Z⟩:Array Value)[j]?=(insL i Lr Vr++Z)[j]? from List.getElem?_toArray)]
   by_cases hj:j<(n+1)*2
   ·rw [List.getElem?_append_left (by rw [hlen];exact hj),insL_get (by omega) hlV]
    by_cases h1:j<i*2
    ·rw [if_neg (by omega),if_neg (by omega),if_pos h1,← hROW,Array.getElem?_append_left (by rw [Array.size_append,List.size_toArray,List.length_take];omega),Array.getElem?_append_left (by rw [List.size_toArray,List.length_take];omega),List.getElem?_toArray,List.getElem?_take_of_lt h1]
    ·rw [if_neg h1]
     by_cases h3:j<i*2+2
     ·rw [if_neg (by omega),if_pos (by omega),if_pos h3]
     ·rw [if_pos (by omega),if_neg h3,List.getElem?_drop]
      congr 1;omega
   ·rw [List.getElem?_append_right (by rw [hlen];omega),if_neg (by omega),if_neg (by omega),← hROW,Array.getElem?_append_right (by rw [Array.size_append,zeroRec_size,List.size_toArray,List.length_take];omega),hlen,← hZ,Array.getElem?_toList]
    congr 1
    rw [Array.size_append,zeroRec_size,List.size_toArray,List.length_take,hlL];omega
end Go.Ev
end
