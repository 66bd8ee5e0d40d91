/-
 A part of the proof that pliantlaw15.RtsStacks returns true and leaves its arguments alone. Conditions: those of the card in the last text.
-/
import Derived.Below
import Derived.Deep.DeepHandedRow
import Derived.Deep.DeepWitnessRowRef
import Derived.Deep.Slices
import Derived.LaidHandle
import Derived.LaidLaws
import Derived.Lib.LaidTab
import Derived.OpenShut
import Derived.ProofKit
import Derived.Test.YtgdejggelcpokaaGreatDoorRows
import Derived.WalkKit
import Derived.Test.YtgdejggelcpokaaGreatDoorG41
set_option linter.unusedSimpArgs false
set_option linter.unusedVariables false
set_option linter.unusedSectionVars false
noncomputable section
namespace Go.Proofs.YtgdejggelcpokaaGreatDoor.rtsStacks
open Go.ChangeShapes Go.WideShapes Go.ChangeAt Go.RowKit Go.Deep
open Go.Ev (Bulky slW_of SlW vS vN)
open Go.Proofs.RS (stacks_calls NG PowA pow10 intI)
theorem own:ownKnob Tryz.prog.godebug=none:=by kernel_rfl
theorem f_laid:laidOutB Tryz.prog=true:=by kernel_rfl
theorem read22:Tryz.prog.readableRec 22=true:=by kernel_rfl
theorem gTab : Tryz.prog.globalNamed "internal/strconv.uint64pow10" = some 5 := by kernel_rfl
theorem gTabType:(Tryz.prog.globals[5]?).map (·.type)=some 391:=by kernel_rfl
theorem cells391:Tryz.prog.cellsOf 391=20:=by kernel_rfl
theorem cells242:Tryz.prog.cellsOf 242=1:=by kernel_rfl
theorem cells3:Tryz.prog.cellsOf 3=1:=by kernel_rfl
theorem plain_laid:(Rows.rtsStacksRow.laid.all fun x=>x.2.handleName?.isNone)=true:=by kernel_rfl
theorem laidMetH_of_plain {P:Program} {l:List (String×DataW Unit)} {w:World} (h:(l.all fun x=>x.2.handleName?.isNone)=true) (hl:laidMetH P l w):laidMet P l w:=by
 unfold laidMetH at hl
 have e:(l.filter fun x=>x.2.handleName?.isSome)=[]:=by
  rw [List.filter_eq_nil_iff]
  intro x hx
  have:=List.all_eq_true.1 h x hx
  cases hh:x.2.handleName? with
  | none=>simp
  | some a=>rw [hh] at this;cases this
 rw [e] at hl
 exact hl
theorem laidMet_drop {P:Program} {x:String×DataW Unit} {l:List (String×DataW Unit)} {w:World} (h:laidMet P (x::l) w):laidMet P l w:=by
 obtain ⟨n,d⟩:=x
 obtain ⟨ps,⟨g,t,cs,fuel,p,q,h1,h2,h3,h4,h5,rfl⟩,hn,hc⟩:=h
 refine ⟨q,h5,(List.nodup_append.1 hn).2.1,fun b off hm=>hc b off (List.mem_append.2 (.inr hm))⟩
def pows:List Int:=[1,10,100,1000,10000,100000,1000000,10000000,100000000,1000000000,10000000000,100000000000,1000000000000,10000000000000,100000000000000,1000000000000000,10000000000000000,100000000000000000,1000000000000000000,10000000000000000000]
theorem table {W : World} (h : laidMetH Tryz.prog Rows.rtsStacksRow.laid W) : Lib.TabIs Tryz.prog W "internal/strconv.uint64pow10" .u64 pows := by
 have h1:laidMet Tryz.prog Rows.rtsStacksRow.laid W:=laidMetH_of_plain plain_laid h
 have h2:=laidMet_drop (laidMet_drop h1)
 exact Lib.tabIs_of_head (zs:=pows) gTab gTabType Tryz.underlying391 Tryz.underlying242 cells242 cells391 h2
theorem pow_w {W:World} (hS:W.ShapedOpen Tryz.prog) (h:laidMetH Tryz.prog Rows.rtsStacksRow.laid W):PowA W:=by
 have h0:(((begin Tryz.prog (fun _ _=>0) default).world.heap[5]?).bind Obj.row?).map (fun x=>(x.1.size,x.2))=some (20,391):=by kernel_rfl
 obtain ⟨⟨zero,t⟩,h1,h2⟩:=Option.map_eq_some_iff.1 h0
 simp only [Prod.mk.injEq] at h2
 obtain ⟨h2,rfl⟩:=h2
 obtain ⟨cs,h3,h4,_⟩:=hS.1 5 zero 391 (by rw [show Tryz.prog.globals.size=11 from by kernel_rfl];decide) h1
 have ht:=table h
 have hc:∀ (i:Nat) v,pow10[i]?=some v→cs[i]?=some v:=by
  intro i v hv
  have hi:i<20:=by
   rcases Nat.lt_or_ge i 20 with h' | h'
   ·exact h'
   ·rw [List.getElem?_eq_none (by show pow10.length≤i;exact h')] at hv;cases hv
  have h6:=ht.cell gTab i (by show i<pows.length;exact hi)
  have h7:cs[i]?=some (.int .u64 (pows.getD i 0)):=by
   have:W.cell? ⟨5,i,none⟩=cs[i]?:=by simp [World.cell?,h3]
   rw [← this];exact h6
  have h8:pow10=pows.map fun z=>Value.int .u64 z:=by kernel_rfl
  have hi':i<pows.length:=hi
  have h9:pow10[i]?=some (.int .u64 (pows.getD i 0)):=by
   rw [h8,List.getElem?_map,List.getElem?_eq_getElem hi',List.getD_eq_getElem?_getD,List.getElem?_eq_getElem hi'];rfl
  rw [h7,← hv,h9]
 exact ⟨cs,(0,0),h3,by rw [h4];exact h2,hc⟩
theorem bulk_one {H:Type} (d:DataW H):1≤Rows.uptoBulk d:=by
 cases d with
 | lit l=>cases l <;> simp [Rows.uptoBulk]
 | nil=>simp [Rows.uptoBulk]
 | ptr d=>simp [Rows.uptoBulk]
 | slice elems spare=>simp [Rows.uptoBulk]
 | agg parts=>simp [Rows.uptoBulk]
 | iface t d=>simp [Rows.uptoBulk]
 | map entries=>simp [Rows.uptoBulk]
 | held h=>simp [Rows.uptoBulk]
theorem bulk_len {H:Type} (l:List (DataW H)):l.length≤Rows.uptoBulkAll l:=by
 induction l with
 | nil=>simp [Rows.uptoBulkAll]
 | cons x r ih=>have:=bulk_one x;simp only [Rows.uptoBulkAll,List.length_cons];omega
theorem bulk_mem {H:Type} (l:List (DataW H)) (d:DataW H) (h:d∈l):Rows.uptoBulk d≤Rows.uptoBulkAll l:=by
 induction l with
 | nil=>cases h
 | cons x r ih =>
  simp only [Rows.uptoBulkAll]
  rcases List.mem_cons.1 h with rfl | h
  ·omega
  ·have:=ih h;omega
theorem bulky (H:Type):Bulky H Rows.uptoBulk Rows.uptoBulkAll :=
 ⟨fun D S=>by simp only [Rows.uptoBulk];omega,fun D=>by simp only [Rows.uptoBulk];omega,fun D d h=>bulk_mem D d h,bulk_len⟩
theorem ints_of {H:Type} {enc:TypeId×Value→H} {W:World} {held:Bool} {fuel:Nat} {v:Value} {x:DataW H×List MemPlace} (h:DataW.trod enc Tryz.prog W 0 (fun _=>true) held fuel 22 [v]=some x):∃ l,SlW W 1 intI v l:=by
 obtain ⟨l,h1,_⟩:=slW_of (bulky H) (Q:=intI) (B:=fun _ _=>True) Tryz.underlying22 cells3 (by decide) (fun n cs y hy hl=>by
  obtain ⟨z,hz,_⟩:=DataW.trod_int Tryz.underlying3 hy
  exact ⟨z,hz,trivial⟩) h
 exact ⟨l,h1⟩
set_option maxRecDepth 100000 in
theorem contract (H:Type) (enc:TypeId×Value→H) (W:World) (base:Nat) (args:Array Value) (ds gs:List (DataW H)) (before:List MemPlace)
 (hval:∀ (j:Nat) t v,Tryz.f3.params[j]?=some t→args[j]?=some v→Value.okWide Tryz.prog W .any base t v)
 (hW:DataW.Whole enc Tryz.prog Tryz.f3.params.toList Rows.rtsStacksSpec.vars false W args.toList ds gs before) (hL:laidMetH Tryz.prog Rows.rtsStacksRow.laid W) (hS:W.ShapedOpen Tryz.prog) :
 Calls Tryz.prog 3 args W fun e W'=>∃ v,e=.returned v∧Rows.rtsStacksSpec.post enc Tryz.prog Tryz.f3 false true false false W args v W':=by
 have hNG:NG≤W.heap.size:=by
  have h0:(((begin Tryz.prog (fun _ _=>0) default).world.heap[10]?).bind Obj.row?).isSome=true:=by kernel_rfl
  obtain ⟨⟨zero,t⟩,h1⟩:=Option.isSome_iff_exists.1 h0
  obtain ⟨cs,h2,_⟩:=hS.1 10 zero t (by rw [show Tryz.prog.globals.size=11 from by kernel_rfl];decide) h1
  rcases Nat.lt_or_ge 10 W.heap.size with h' | h'
  ·show 11≤_;omega
  ·rw [Array.getElem?_eq_none h'] at h2;cases h2
 have hP:=pow_w hS hL
 have hW':=hW
 obtain ⟨p,q,hA0,hV,rfl,hfz,hnd⟩:=hW
 have hA:DataW.TrodAll enc Tryz.prog W 0 (fun _=>true) true Tryz.f3.params.toList args.toList ds p:=hA0
 rw [Tryz.params3] at hA hval
 obtain ⟨v0,vs0,d0,ds0,p0,q0,hargs,rfl,rfl,h0,r0⟩:=trodAll_cons hA
 obtain ⟨v1,vs1,d1,ds1,p1,q1,rfl,rfl,rfl,h1,r1⟩:=trodAll_cons r0
 obtain ⟨rfl,rfl,rfl⟩:=trodAll_nil r1
 obtain rfl:args = #[v0,v1]:=by cases args;simp_all
 obtain ⟨rfl,rfl⟩:=trodVars_none hV
 obtain ⟨a0,len0,cap0,rfl⟩:=okWide_slice Tryz.underlying22 (hval 0 22 v0 rfl rfl)
 obtain ⟨a1,len1,cap1,rfl⟩:=okWide_slice Tryz.underlying22 (hval 1 22 v1 rfl rfl)
 have k0:=h0
 have k1:=h1
 have lt0:∀ x∈p0,x.block<W.heap.size:=by obtain ⟨m,hm⟩:=k0;exact DataW.trod_lt m _ _ _ hm
 have lt1:∀ x∈p1,x.block<W.heap.size:=by obtain ⟨m,hm⟩:=k1;exact DataW.trod_lt m _ _ _ hm
 obtain ⟨f0,hf0⟩:=h0
 obtain ⟨f1,hf1⟩:=h1
 obtain ⟨js,e1⟩:=ints_of (v:=.slice a0 len0 cap0) hf0
 obtain ⟨ks,e2⟩:=ints_of (v:=.slice a1 len1 cap1) hf1
 refine (stacks_calls W hNG hP e1 e2).mono fun e W' ⟨he,bel⟩=>?_
 subst he
 exact ⟨_,rfl,_,_,_,[],_,[],hW',trodAll_mk1 (shut_bool Tryz.underlying4 _),trodAll_cons_mk (Below.trod f_laid read22 (of_decide_eq_true (by kernel_rfl)) k0 bel lt0) (trodAll_cons_mk (Below.trod f_laid read22 (of_decide_eq_true (by kernel_rfl)) k1 bel lt1) trodAll_mk0),rfl,bel.frame _,fun h=>by cases h⟩
end Go.Proofs.YtgdejggelcpokaaGreatDoor.rtsStacks
end
