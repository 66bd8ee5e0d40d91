/-
  A part of the proof that pliantlaw16.MeanConditions returns true and leaves its arguments alone. Conditions: those of the card in the last text.
-/
import Derived.LaidEql
import Derived.RowKitTokens
import Derived.Stop.Asserts
import Derived.Test.YtdmcanlbncbemaaGreatDoorProg
import Derived.WalkKit
set_option linter.unusedSimpArgs false
set_option linter.unusedVariables false
set_option linter.unusedSectionVars false
noncomputable section
namespace Go.Proofs.CN
open Go.RowKit Go.Extern.Stop Go.Stop Go.Extern
theorem Tryz.valueOf27 (t : Addr) (w : World) : (ReflectliteValue.unpack (.iface 299 (.pointer (some t)))).run Tryz.prog w
    = .ok (.agg #[.pointer (some ⟨15, 299, none⟩), .pointer (some ⟨w.heap.size, 0, none⟩), .int .u64 150]) (w.alloc (.cells #[.pointer (some t)] 299)) := by kernel_rfl
theorem Tryz.type27 (a : Addr) (w : World) : (ReflectliteValue.methodAny (ReflectliteValue.valueError "reflectlite.Value.Type" 0) (fun t _ _ _ => ReflectliteType.toType t) #[.agg #[.pointer (some ⟨15, 299, none⟩), .pointer (some a), .int .u64 150]]).run Tryz.prog w
    = .ok (.iface 418 (.agg #[.pointer (some ⟨15, 299, none⟩)])) w := by kernel_rfl
theorem Tryz.methodKind (h : Value) (w : World) : (Go.method 754 418 (.agg #[h]) "Kind").run Tryz.prog w = .ok (580, h) w := by kernel_rfl
theorem Tryz.kind27 (w : World) : ((ReflectliteType.abiMethod fun t => (fun a : Nat => Value.int IntKind.u8 (a : Int)) <$> Rtype.kind t) #[.pointer (some ⟨15, 299, none⟩)]).run Tryz.prog w = .ok (.int .u8 22) w := by kernel_rfl
theorem Tryz.kind25 (w : World) : ((ReflectliteType.abiMethod fun t => (fun a : Nat => Value.int IntKind.u8 (a : Int)) <$> Rtype.kind t) #[.pointer (some ⟨15, 297, none⟩)]).run Tryz.prog w = .ok (.int .u8 25) w := by kernel_rfl
theorem rlm (z : Sem Value) (f : TypeId → Addr → Nat → Nat → Sem Value) (v : Value) :
    ReflectliteValue.method z f #[v] = (do match ← ReflectliteValue.parts v with | none => z | some (t, a, fl) => f t a fl (fl % 32)) := rfl
theorem Tryz.parts27 (a : Addr) (w : World) : (ReflectliteValue.parts (.agg #[.pointer (some ⟨15, 299, none⟩), .pointer (some a), .int .u64 150])).run Tryz.prog w = .ok (some (299, a, 150)) w := by kernel_rfl
theorem Tryz.isNil27 (a p : Addr) (W : World) (ha : W.cell? a = some (.pointer (some p))) :
    (ReflectliteValue.method (ReflectliteValue.valueError "reflectlite.Value.IsNil" 0) ReflectliteValue.isNil #[.agg #[.pointer (some ⟨15, 299, none⟩), .pointer (some a), .int .u64 150]]).run Tryz.prog W = .ok (.bool false) W := by
  rw [rlm]
  simp only [Sem.run_bind, Tryz.parts27, Result.andThen]
  simp [ReflectliteValue.isNil, loadVar, isAgg, underlying, Tryz.underlying299, ha, Result.andThen]
theorem Tryz.methodElem (h : Value) (w : World) : (Go.method 754 418 (.agg #[h]) "Elem").run Tryz.prog w = .ok (596, .agg #[h]) w := by kernel_rfl
theorem Tryz.methodImplements (h : Value) (w : World) : (Go.method 754 418 (.agg #[h]) "Implements").run Tryz.prog w = .ok (597, .agg #[h]) w := by kernel_rfl
theorem Tryz.methodAssignableTo (h : Value) (w : World) : (Go.method 754 418 (.agg #[h]) "AssignableTo").run Tryz.prog w = .ok (594, .agg #[h]) w := by kernel_rfl
theorem Tryz.elem27 (w : World) : (ReflectliteType.method ReflectliteType.elem #[.agg #[.pointer (some ⟨15, 299, none⟩)]]).run Tryz.prog w = .ok (.iface 418 (.agg #[.pointer (some ⟨15, 297, none⟩)])) w := by kernel_rfl
theorem Tryz.implements25 (w : World) : (ReflectliteType.relation "Implements" ReflectliteType.implements_ #[.agg #[.pointer (some ⟨15, 297, none⟩)], .iface 418 (.agg #[.pointer (some ⟨15, 290, none⟩)])]).run Tryz.prog w = .ok (.bool true) w := by kernel_rfl
theorem Tryz.typeOf25 (v : Value) (w : World) : (ReflectliteType.typeOf #[.iface 297 v]).run Tryz.prog w = .ok (.iface 418 (.agg #[.pointer (some ⟨15, 297, none⟩)])) w := by kernel_rfl
theorem Tryz.assignable25 (w : World) : (ReflectliteType.relation "AssignableTo" ReflectliteType.assignableTo #[.agg #[.pointer (some ⟨15, 297, none⟩)], .iface 418 (.agg #[.pointer (some ⟨15, 297, none⟩)])]).run Tryz.prog w = .ok (.bool true) w := by kernel_rfl
theorem Tryz.valueOf25 (e : ByteArray) (w : World) : (ReflectliteValue.unpack (.iface 297 (.agg #[.string e]))).run Tryz.prog w
    = .ok (.agg #[.pointer (some ⟨15, 297, none⟩), .pointer (some ⟨w.heap.size, 0, none⟩), .int .u64 153]) (w.alloc (.cells #[.string e] 297)) := by kernel_rfl
theorem Tryz.elemOf27 (w : World) : (Rtype.elem? 299).run Tryz.prog w = .ok (some 297) w := by kernel_rfl
theorem Tryz.mk25 (p : Addr) (w : World) : (ReflectliteValue.mk 297 p ReflectliteValue.flagAddr).run Tryz.prog w = .ok (.agg #[.pointer (some ⟨15, 297, none⟩), .pointer (some p), .int .u64 409]) w := by kernel_rfl
theorem Tryz.elemV27 (a p : Addr) (W : World) (ha : W.cell? a = some (.pointer (some p))) :
    (ReflectliteValue.method (ReflectliteValue.valueError "reflectlite.Value.Elem" 0) ReflectliteValue.elem #[.agg #[.pointer (some ⟨15, 299, none⟩), .pointer (some a), .int .u64 150]]).run Tryz.prog W
      = .ok (.agg #[.pointer (some ⟨15, 297, none⟩), .pointer (some p), .int .u64 409]) W := by
  rw [rlm]
  simp only [Sem.run_bind, Tryz.parts27, Result.andThen]
  simp [ReflectliteValue.elem, loadVar, isAgg, underlying, Tryz.underlying299, ha, Result.andThen, Tryz.elemOf27, Tryz.mk25]
theorem rls (v x : Value) : ReflectliteValue.set #[v, x] = (do
    let (some (dst, a, fl), some (src, b, _)) := (← ReflectliteValue.parts v, ← ReflectliteValue.parts x)
      | unsupported (.noEntry "extern/(internal/reflectlite.Value).Set.zeroValue")
    if fl / ReflectliteValue.flagAddr % 2 == 0 then unsupported (.noEntry "extern/(internal/reflectlite.Value).Set.unaddressable")
    let val ← loadVar src b
    if ← Rtype.directlyAssignable dst src then storeVar dst a val
    else if ← Rtype.implements dst src then
      if (← Rtype.kind src) == 20 then
        match val with
        | .nilIface => unsupported (.noEntry "extern/reflectlite: a nil value of one interface type handed on as a value of another")
        | _ => storeVar dst a val
      else storeVar dst a (.iface src val)
    else panicString ("reflectlite.Set: value of type " ++ (← Rtype.spelt src) ++ " is not assignable to type " ++ (← Rtype.spelt dst))
    pure (.tuple #[])) := rfl
theorem Tryz.parts25a (a : Addr) (w : World) : (ReflectliteValue.parts (.agg #[.pointer (some ⟨15, 297, none⟩), .pointer (some a), .int .u64 409])).run Tryz.prog w = .ok (some (297, a, 409)) w := by kernel_rfl
theorem Tryz.parts25 (a : Addr) (w : World) : (ReflectliteValue.parts (.agg #[.pointer (some ⟨15, 297, none⟩), .pointer (some a), .int .u64 153])).run Tryz.prog w = .ok (some (297, a, 153)) w := by kernel_rfl
theorem Tryz.direct25 (w : World) : (Rtype.directlyAssignable 297 297).run Tryz.prog w = .ok true w := by kernel_rfl
theorem Tryz.size25 (w : World) : (sizeOf 297).run Tryz.prog w = .ok 1 w := by kernel_rfl
theorem Tryz.agg297 (w : World) : (isAgg 297).run Tryz.prog w = .ok true w := by kernel_rfl
theorem Tryz.load297 (b : Addr) (e : ByteArray) (W : World) (hb : W.cell? b = some (.string e)) : (loadVar 297 b).run Tryz.prog W = .ok (.agg #[.string e]) W := by
  have h3 : (loadCells b 1).run Tryz.prog W = .ok #[.string e] W := run_loadCells_list (P := Tryz.prog) (w := W) b [.string e] (fun j v hj => by
    cases j with
    | zero => cases hj; exact hb
    | succ j => cases hj)
  unfold loadVar
  simp only [Sem.run_bind, Tryz.agg297, Result.andThen, if_true, Tryz.size25, h3]
  rfl
theorem Tryz.set25 (ta b : Addr) (e : ByteArray) (old : Value) (W : World) (hb : W.cell? b = some (.string e)) (ht : W.cell? ta = some old) (hf : W.frozen? ta = false) :
    (ReflectliteValue.set #[.agg #[.pointer (some ⟨15, 297, none⟩), .pointer (some ta), .int .u64 409], .agg #[.pointer (some ⟨15, 297, none⟩), .pointer (some b), .int .u64 153]]).run Tryz.prog W
      = .ok (.tuple #[]) (W.setCell ta (.string e)) := by
  rw [rls]
  have hl := Tryz.load297 b e W hb
  have hs : (storeVar 297 ta (.agg #[.string e])).run Tryz.prog W = .ok () (W.setCell ta (.string e)) := by
    unfold storeVar
    simp only [Sem.run_bind, Tryz.size25, Result.andThen]
    simp [Value.cells, storeCells, Addr.add]
    rw [run_store Tryz.prog W ta _ _ (by rfl)]
    simp [ht, hf]
  simp only [Sem.run_bind, Tryz.parts25a, Tryz.parts25, Result.andThen]
  simp [ReflectliteValue.flagAddr, hl, Result.andThen, Tryz.direct25, hs]
set_option maxHeartbeats 4000000 in
set_option maxRecDepth 100000 in
theorem as_hit (e : ByteArray) (t : Addr) (old : Value) (w : World) (hg : w.cell? ⟨7, 0, none⟩ = some (.iface 418 (.agg #[.pointer (some ⟨15, 290, none⟩)]))) (ht0 : w.cell? t = some old) (hf0 : w.frozen? t = false) :
    Calls Tryz.prog 193 #[.iface 297 (.agg #[.string e]), .iface 299 (.pointer (some t))] w fun ev w' => ev = .returned (.bool true) ∧ w' = ((((w.alloc (.cells #[.pointer (some t)] 299)).alloc (.cells #[.pointer (some ⟨15, 299, none⟩), .pointer (some ⟨w.heap.size, 0, none⟩), .int .u64 150] 367)).alloc (.cells #[.pointer (some ⟨15, 299, none⟩), .pointer (some ⟨w.heap.size, 0, none⟩), .int .u64 150] 367)).alloc (.cells #[.string e] 297)).setCell t (.string e) := by
  have h6 := @run_callFunc_extern Tryz.prog 255 _ (fun args => ReflectliteValue.unpack (args.getD 0 (.tuple #[]))) Tryz.func255 (by kernel_rfl) (by kernel_rfl) (by kernel_rfl) (by kernel_rfl)
  have h7 := @run_callFunc_extern Tryz.prog 256 _ (ReflectliteValue.methodAny (ReflectliteValue.valueError "reflectlite.Value.Type" 0) (fun t _ _ _ => ReflectliteType.toType t)) Tryz.func256 (by kernel_rfl) (by kernel_rfl) (by kernel_rfl) (by kernel_rfl)
  have h8 := @run_callFunc_extern Tryz.prog 257 _ (ReflectliteValue.method (ReflectliteValue.valueError "reflectlite.Value.IsNil" 0) ReflectliteValue.isNil) Tryz.func257 (by kernel_rfl) (by kernel_rfl) (by kernel_rfl) (by kernel_rfl)
  have h27 := @run_callFunc_extern Tryz.prog 580 _ (ReflectliteType.abiMethod fun t => do pure (.int .u8 (← Rtype.kind t))) Tryz.func580 (by kernel_rfl) (by kernel_rfl) (by kernel_rfl) (by kernel_rfl)
  have h37 := @run_callFunc_extern Tryz.prog 596 _ (ReflectliteType.method ReflectliteType.elem) Tryz.func596 (by kernel_rfl) (by kernel_rfl) (by kernel_rfl) (by kernel_rfl)
  have h38 := @run_callFunc_extern Tryz.prog 597 _ (ReflectliteType.relation "Implements" ReflectliteType.implements_) Tryz.func597 (by kernel_rfl) (by kernel_rfl) (by kernel_rfl) (by kernel_rfl)
  have h10 := @run_callFunc_extern Tryz.prog 318 _ ReflectliteType.typeOf Tryz.func318 (by kernel_rfl) (by kernel_rfl) (by kernel_rfl) (by kernel_rfl)
  have h35 := @run_callFunc_extern Tryz.prog 594 _ (ReflectliteType.relation "AssignableTo" ReflectliteType.assignableTo) Tryz.func594 (by kernel_rfl) (by kernel_rfl) (by kernel_rfl) (by kernel_rfl)
  have h11 := @run_callFunc_extern Tryz.prog 319 _ (ReflectliteValue.method (ReflectliteValue.valueError "reflectlite.Value.Elem" 0) ReflectliteValue.elem) Tryz.func319 (by kernel_rfl) (by kernel_rfl) (by kernel_rfl) (by kernel_rfl)
  have h12 := @run_callFunc_extern Tryz.prog 320 _ ReflectliteValue.set Tryz.func320 (by kernel_rfl) (by kernel_rfl) (by kernel_rfl) (by kernel_rfl)
  have tO := Tryz.typeOf25
  have mA := Tryz.methodAssignableTo
  have a25 := Tryz.assignable25
  have v25 := Tryz.valueOf25
  have f6 := Tryz.valueOf27
  have f7 := Tryz.type27
  have mK := Tryz.methodKind
  have mE := Tryz.methodElem
  have mI := Tryz.methodImplements
  have k27 := Tryz.kind27
  have k25 := Tryz.kind25
  have e27 := Tryz.elem27
  have i25 := Tryz.implements25
  have n8 := Tryz.isNil27 ⟨w.heap.size, 0, none⟩ t ((w.alloc (.cells #[.pointer (some t)] 299)).alloc (.cells #[.pointer (some ⟨15, 299, none⟩), .pointer (some ⟨w.heap.size, 0, none⟩), .int .u64 150] 367)) (by simp)
  have hlt : 7 < w.heap.size := by
    rcases Nat.lt_or_ge 7 w.heap.size with h | h
    · exact h
    · simp [World.cell?, Array.getElem?_eq_none h] at hg
  have hg2 : ((w.alloc (.cells #[.pointer (some t)] 299)).alloc (.cells #[.pointer (some ⟨15, 299, none⟩), .pointer (some ⟨w.heap.size, 0, none⟩), .int .u64 150] 367)).cell? ⟨7, 0, none⟩ = some (.iface 418 (.agg #[.pointer (some ⟨15, 290, none⟩)])) := by
    rw [World.cell?_alloc_lt _ _ ⟨7, 0, none⟩ (by simp; omega), World.cell?_alloc_lt _ _ ⟨7, 0, none⟩ hlt]; exact hg
  have htl : t.block < w.heap.size := by
    rcases Nat.lt_or_ge t.block w.heap.size with h | h
    · exact h
    · simp [World.cell?, Array.getElem?_eq_none h] at ht0
  have el := Tryz.elemV27 ⟨w.heap.size, 0, none⟩ t (((w.alloc (.cells #[.pointer (some t)] 299)).alloc (.cells #[.pointer (some ⟨15, 299, none⟩), .pointer (some ⟨w.heap.size, 0, none⟩), .int .u64 150] 367)).alloc (.cells #[.pointer (some ⟨15, 299, none⟩), .pointer (some ⟨w.heap.size, 0, none⟩), .int .u64 150] 367)) (by rw [World.cell?_alloc_lt _ _ ⟨w.heap.size, 0, none⟩ (by simp; omega)]; simp)
  have st := Tryz.set25 t ⟨w.heap.size + 1 + 1 + 1, 0, none⟩ e old ((((w.alloc (.cells #[.pointer (some t)] 299)).alloc (.cells #[.pointer (some ⟨15, 299, none⟩), .pointer (some ⟨w.heap.size, 0, none⟩), .int .u64 150] 367)).alloc (.cells #[.pointer (some ⟨15, 299, none⟩), .pointer (some ⟨w.heap.size, 0, none⟩), .int .u64 150] 367)).alloc (.cells #[.string e] 297))
    (by rw [World.cell?_alloc_at _ _ _ _ (by simp)]; rfl)
    (by rw [World.cell?_alloc_lt _ _ t (by simp; omega), World.cell?_alloc_lt _ _ t (by simp; omega), World.cell?_alloc_lt _ _ t (by simp; omega), World.cell?_alloc_lt _ _ t htl]; exact ht0)
    (by rw [World.frozen?_alloc_old _ _ t (by simp; omega), World.frozen?_alloc_old _ _ t (by simp; omega), World.frozen?_alloc_old _ _ t (by simp; omega), World.frozen?_alloc_old _ _ t (Nat.ne_of_lt htl)]; exact hf0)
  go_enter Tryz.func193, Tryz.ntmps193
  go_wp2
  refine wp_loop_rounds 1 ?_
  rw [rounds_succ]
  go_wp2
  go_ret
  exact ⟨rfl, rfl⟩
end Go.Proofs.CN
end
