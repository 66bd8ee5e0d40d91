/-
 A part of the reckoner for the statements of a Go program: what it answers,the model answers. Holds for every program whose tables are as given.
-/
import Derived.Laws.BytesString
import Derived.Test.YtgdejggelcpokaaGreatDoorG03
set_option linter.unusedSimpArgs false
set_option linter.unusedVariables false
set_option linter.unusedSectionVars false
noncomputable section
namespace Go.Ev
theorem Post.congr {β β':Mp} {H H':Hp} {w:Nat} {W W1 W2:World} (q:Post β β' H H' w W W1) (h:W2.heap=W1.heap) (he:W2.os=W1.os∧W2.tape=W1.tape∧W2.output=W1.output):Post β β' H H' w W W2:=by
 refine ⟨q.le,q.only,fun b hb ha=>?_,fun rb o h1 h2=>by rw [h];exact q.frame rb o h1 h2,by rw [h];exact q.size,fun b m e=>by rw [h];exact q.dom b m e,q.new,q.inj,
  ⟨he.1.trans q.env.1,he.2.1.trans q.env.2.1,he.2.2.trans q.env.2.2⟩⟩
 obtain ⟨m,e,o,ho,hr⟩:=q.rel b hb ha
 exact ⟨m,e,o,by rw [h];exact ho,hr⟩
section
variable {P:Program} {tb:Tb} (ok:TbOk P tb) {β:Mp} {H:Hp} {W:World} (hw:H.wf)
theorem allocO_ok {x:Blk} {f:Nat→Value} {r:Nat} {s:Sem Value}
 (h:Pre β H (H.push x) r 0 W→∃ v' o m W',s.run P W=.ok v' W'∧W'.heap=W.heap.push o∧(W'.os=W.os∧W'.tape=W.tape∧W'.output=W.output)∧m.rb=W.heap.size ∧
  (∀ β',Mp.le β β'→ORel β' m x o)∧(∀ β',Mp.le β β'→β' H.nx=some m→VRel β' (f H.nx) v')):OpV P β H W s (alloc1 x H f r 0):=by
 rw [alloc1_eq]
 split
 ·rename_i hn
  refine ⟨can_push hn,fun p=>?_⟩
  obtain ⟨v',o,m,W',hrun,hh,he,hm,ho,hv⟩:=h p
  have hf:β H.nx=none:=p.fresh _ (Nat.le_refl _) (by rw [nx_push];omega)
  have hle:=Mp.le_put (β:=β) m hf
  exact ⟨β.put H.nx m,W',v',hrun,hv _ hle (Mp.put_same _ _ _),(post_push x o m hn hm hf (ho _ hle) p.dom).congr hh he⟩
 ·trivial
theorem orel_row {β:Mp} {t:T Value} {n:Nat} {cs:List Value} {ty:TypeId} {k:Nat} (hn:n=cs.length) (hg:∀ (i:Nat) (v:Value),cs[i]?=some v→oneC v=true∧VRel β (t.get i) v∧oneC (t.get i)=true) :
 ORel β ⟨k,0,n,1⟩ (.cells t n ty 0 0 0) (.cells ⟨cs⟩ ty):=by
 subst hn
 refine ⟨⟨cs⟩,(0,0),rfl,by simp,by simp,fun _=>⟨rfl,rfl⟩,(fun k h=>by cases h),fun i hi=>?_,.inl ⟨Nat.le_refl _,.inl rfl⟩⟩
 have hv:cs[i]?=some cs[i]:=by simp [hi]
 obtain ⟨_,h2,h3⟩:=hg i _ hv
 exact ⟨h3,cs[i],by simp,h2⟩
theorem wrap_i64 {n:Nat} (h:n≤9223372036854775807):IntKind.i64.wrap (n:Int)=n:=by
 have:=wrapF_eq .i64 (Int.ofNat n)
 rw [show wrapF .i64 (Int.ofNat n)=Int.ofNat n from by
  show Bc (Nat.ble n 9223372036854775807) _ _=_
  rw [(ble_iff _ _).2 h,Bc_t]] at this
 exact this.symm
theorem rep_blk (z:List Value) (c:Nat) (ty:TypeId):∃ t,repB ty c z=.cells t (List.replicate c z).flatten.length ty 0 0 0 ∧
 ∀ (i:Nat) (v:Value),(List.replicate c z).flatten[i]?=some v→t.get i=v:=by
 unfold repB
 split
 ·rename_i v
  have:(List.replicate c [v]).flatten=List.replicate c v:=by
   induction c with
   | zero=>rfl
   | succ c ih=>simp [List.replicate_succ,ih]
  rw [this]
  refine ⟨.e v,by simp,fun i x h=>?_⟩
  rw [List.getElem?_replicate] at h
  split at h
  ·cases h;rfl
  ·cases h
 ·exact blkL_eq _ _ _
include ok
theorem allocU_ok {elem:TypeId} {n:Nat} {v:Value} (hu:tb.uni elem=some (n,v)):OpV P β H W (Instr.alloc elem true (.tuple #[])) (alloc1 (.cells (.e v) n elem 0 0 0) H ptrTo 0 0):=by
 obtain ⟨f1,f2,i,zv,hi,hzv,hrep⟩:=ok.uni _ _ _ hu
 have hf:flatL zv.cells.toList=true:=by
  rw [hrep]
  unfold flatL
  rw [List.all_eq_true]
  intro x hx
  rw [List.eq_of_mem_replicate hx,f1,f2];rfl
 obtain ⟨h1,hl⟩:=flatL_ok β hf
 have hlen:n=zv.cells.toList.length:=by rw [hrep,List.length_replicate]
 refine allocO_ok fun p=>⟨.pointer (some ⟨W.heap.size,0,none⟩),.cells zv.cells elem,⟨W.heap.size,0,n,1⟩,World.pushB W (.cells zv.cells elem),?_,rfl,⟨rfl,rfl,rfl⟩,rfl,
  fun β' hle=>orel_row hlen fun j x hx=>?_,fun β' hle e=>ptr_new e rfl rfl⟩
 ·simp [Instr.alloc,run_zeroValue hi hzv,newVar,newRow,pushB_alloc]
 ·have h3:zv.cells.toList[j]?=some x:=hx
  rw [hrep,List.getElem?_replicate] at h3
  split at h3
  ·cases h3
   have h4:(T.e v).get j=v:=rfl
   rw [h4]
   obtain ⟨g1,g2⟩:=flatL_ok β' hf
   have hj:zv.cells.toList[j]?=some v:=hx
   obtain ⟨v',e1,e2⟩:=g2.get hj
   rw [hj] at e1;cases e1
   exact ⟨f2,e2,f2⟩
  ·cases h3
include hw
theorem mkSl_ok {t elem:TypeId} {ti:TypeInfo} {z:List Value} {l l' c c':Value} (ht:P.underlying t=some (.slice elem)) (hz:zeroL tb elem=some z) (hi:tb.info elem=some ti) (hlen:z.length=ti.size)
 (hl:VRel β l l') (hc:VRel β c c'):OpV P β H W (Instr.makeSlice t l' c') (exMkSl elem ti.bytes z l c H):=by
 unfold exMkSl
 split
 ·rename_i ln cn e1 e2
  obtain ⟨k1,rfl⟩:=asI_inv e1
  obtain ⟨k2,rfl⟩:=asI_inv e2
  cases hl;cases hc
  split
  ·rename_i ln cn e3 e4
   have:=natI_inv e3;subst this
   have:=natI_inv e4;subst this
   cases e5:(Nat.ble ln cn && Nat.ble (cn*ti.bytes) 1099511627776 && Nat.ble cn 1099511627776) with
   | false=>rw [Bc_f];trivial
   | true =>
    rw [Bc_t]
    simp only [Bool.and_eq_true,ble_iff] at e5
    obtain ⟨i,zv,hi',hzv,hzc,hf⟩:=zeroL_inv ok hz
    have:=ok.info _ _ hi
    rw [hi'] at this;cases this
    subst hzc
    obtain ⟨t',hb,hg⟩:=rep_blk zv.cells.toList cn elem
    rw [hb]
    obtain ⟨h1,hl⟩:=rep_all (β:=β) hf cn
    have hsz:zv.cells.size=ti.size:=by
     have h4:zv.cells.toList.length=zv.cells.size:=Array.length_toList
     omega
    have harr:=rep_arr zv cn
    refine allocO_ok fun p=>⟨.slice (some ⟨W.heap.size,0,none⟩) ln cn,.cells ⟨(List.replicate cn zv.cells.toList).flatten⟩ elem,⟨W.heap.size,0,(List.replicate cn zv.cells.toList).flatten.length,1⟩,World.pushB W (.cells ⟨(List.replicate cn zv.cells.toList).flatten⟩ elem),?_,rfl,⟨rfl,rfl,rfl⟩,rfl,
     fun β' hle=>orel_row rfl fun j v hv=>?_,fun β' hle e=>sl_new e rfl rfl⟩
    ·have w1:IntKind.i64.wrap (ln:Int)=ln:=wrap_i64 (by omega)
     have w2:IntKind.i64.wrap (cn:Int)=cn:=wrap_i64 (by omega)
     have hmul:(ti.bytes:Int)*(cn:Int)=((cn*ti.bytes:Nat):Int):=by rw [Nat.mul_comm];exact (Int.natCast_mul _ _).symm
     have hnl:¬ ((ln:Int) > (cn:Int)):=by omega
     have hbig:¬ (281474976710656<cn*ti.bytes):=by omega
     have hn2:¬ ((ln:Int)<0):=by omega
     have hn3:¬ ((cn:Int)<0):=by omega
     have hcond:((decide ((cn:Int)<0) || decide ((ti.bytes:Int)*(cn:Int) > 2 ^ 48)) || decide ((ln:Int)<0) || decide ((ln:Int) > (cn:Int)))=false:=by
      rw [hmul]
      simp only [Bool.or_eq_false_iff,decide_eq_false_iff_not]
      refine ⟨⟨⟨hn3,?_⟩,hn2⟩,hnl⟩
      have:((2:Int) ^ 48)=281474976710656:=by decide
      rw [this];omega
     rw [hsz] at harr
     unfold Instr.makeSlice
     simp only [Sem.run_bind,run_underlying ht,Result.andThen_ok,asInt,asIntOf,Sem.run_pure,run_typeInfo hi',w1,w2,hcond]
     have hno:¬ (false=true):=Bool.false_ne_true
     rw [if_neg hno]
     have harr':Array.map (fun x=>zv.cells[x % zv.cells.size]!) (Array.range (cn*ti.size))=⟨(List.replicate cn zv.cells.toList).flatten⟩:=by
      apply Array.ext';rw [hsz];exact harr
     by_cases h0:cn*ti.size=0
     ·have hl0:(List.replicate cn zv.cells.toList).flatten=[]:=by
       rw [← List.length_eq_zero_iff,← harr];simp [h0]
      have hz0:∀ f:Nat→Value,Array.map f (Array.range 0) = #[]:=fun f=>by simp
      simp [run_sizeOf' hi',h0,newRow,pushB_alloc,hl0,hz0]
     ·simp [run_sizeOf' hi',h0,newRow,pushB_alloc,run_zeroValue hi' hzv,harr']
    ·have hj:j<(List.replicate cn zv.cells.toList).flatten.length:=by
      rcases Nat.lt_or_ge j (List.replicate cn zv.cells.toList).flatten.length with h | h
      ·exact h
      ·rw [List.getElem?_eq_none h] at hv;cases hv
     have hone:=List.all_eq_true.1 h1 v (List.mem_of_getElem? hv)
     rw [hg j v hv]
     exact ⟨hone,(hl.2 j v v hv hv).mono hle,hone⟩
  ·trivial
 ·trivial
end
section
variable {P:Program} {β:Mp} {H:Hp} {W:World}
theorem run_getObj_o {r:Nat} {o:Obj} (h:W.heap[r]?=some o) (ho:∀ cs ty fr,o≠.cells cs ty fr):(getObj r).run P W=.ok o W:=by
 cases o <;> first | exact absurd rfl (ho _ _ _) | simp [getObj,Sem.run,h]
theorem run_setObj_o {r:Nat} {o:Obj} (o':Obj) (h:W.heap[r]?=some o) (ho:∀ cs ty fr,o≠.cells cs ty fr):(setObj r o').run P W=.ok () (World.setB W r o'):=by
 cases o <;> first | exact absurd rfl (ho _ _ _) | simp [setObj,Sem.run,h,World.setB]
theorem obj_of {r w b:Nat} {x:Blk} {H':Hp} (p:Pre β H H' r w W) (hs:inS r w b) (hb:H.blk b=x) (hx:x≠.no):∃ m o,β b=some m∧W.heap[m.rb]?=some o∧ORel β m x o:=by
 obtain ⟨m,e,o,ho,hr⟩:=p.rel b hs ((alive_iff H b).2 (by rw [hb];exact hx))
 rw [hb] at hr
 exact ⟨m,o,e,ho,hr⟩
theorem mapOf_inv {r c:Nat} {es:Array MapEntry} (h:mapOf H r=some (es,c)):H.blk r=.obj (.map es c):=by
 unfold mapOf at h;split at h
 ·simp only [Option.some.injEq,Prod.mk.injEq] at h;obtain ⟨rfl,rfl⟩:=h;assumption
 ·cases h
theorem map_of {r w b c:Nat} {es:Array MapEntry} {H':Hp} (p:Pre β H H' r w W) (hs:inS r w b) (hb:mapOf H b=some (es,c)) :
 ∃ m es',β b=some m∧W.heap[m.rb]?=some (.map es' c)∧MRel β es.toList es'.toList∧m.sh=0:=by
 obtain ⟨m,o,e,ho,es',rfl,h1,h2⟩:=obj_of p hs (mapOf_inv hb) (by simp)
 exact ⟨m,es',e,ho,h1,h2⟩
theorem post_same {r b:Nat} (ha:alive H b) (p:Pre β H H r (bit b) W):Post β β H H (bit b) W W:=by
 have only:∀ c,(H.nx≤c∨(bit b).testBit c=true)→alive H c→c=b:=fun c hc hac=>(bit_iff b c).1 (hc.resolve_left (by have:=hac.1;omega))
 refine ⟨Mp.le.refl _,fun c m' h h'=>?_,fun c hc hac=>?_,fun rb o h _=>h,Nat.le_refl _,p.dom,fun c m' _ h h'=>?_,fun c d mc md hc hd' hac had _ _ _=>?_,⟨rfl,rfl,rfl⟩⟩
 ·rw [h'] at h;cases h
 ·have:=only c hc hac;subst this
  exact p.rel c (.inr ((bit_iff c c).2 rfl)) hac
 ·rw [h] at h';cases h'
 ·rw [only c hc hac,only d hd' had]
theorem can_same {b:Nat} (hw:H.wf) (ha:alive H b):Can H H (bit b):=⟨hw,Nat.le_refl _,fun _ _ _=>rfl,fun c hc h=>by rw [(bit_iff b c).1 h];exact ha⟩
theorem opv_same {r b:Nat} {s:Sem Value} {v:Value} (hw:H.wf) (ha:alive H b) (h:Pre β H H r (bit b) W→∃ v',s.run P W=.ok v' W∧VRel β v v'):OpV P β H W s (.val v H r (bit b)) :=
 ⟨can_same hw ha,fun p=>let ⟨v',a,b⟩:=h p;⟨β,W,v',a,b,post_same ha p⟩⟩
theorem opv_put {r b:Nat} {s:Sem Value} {v:Value} {x:Blk} (hw:H.wf) (ha:alive H b)
 (h:Pre β H (H.put b x) r (bit b) W→∃ m o o' v',β b=some m∧W.heap[m.rb]?=some o∧ORel β m x o'∧s.run P W=.ok v' (World.setB W m.rb o')∧VRel β v v'):OpV P β H W s (.val v (H.put b x) r (bit b)):=by
 refine ⟨can_put hw _ ha,fun p=>?_⟩
 obtain ⟨m,o,o',v',e,ho,hr,hrun,hv⟩:=h p
 exact ⟨β,_,v',hrun,hv,post_put x hw ha e ho hr p.dom⟩
theorem opu_put {r b:Nat} {s:Sem Unit} {x:Blk} (hw:H.wf) (ha:alive H b)
 (h:Pre β H (H.put b x) r (bit b) W→∃ m o o',β b=some m∧W.heap[m.rb]?=some o∧ORel β m x o'∧s.run P W=.ok () (World.setB W m.rb o')):OpU P β H W s (.val U (H.put b x) r (bit b)):=by
 refine ⟨can_put hw _ ha,rfl,fun p=>?_⟩
 obtain ⟨m,o,o',e,ho,hr,hrun⟩:=h p
 exact ⟨β,_,hrun,post_put x hw ha e ho hr p.dom⟩
theorem mrel_empty:MRel β [] []:=⟨rfl,fun i e e' h=>by simp at h⟩
theorem mkM_ok {t:TypeId} {r:Option Value} (h:r=none∨∃ k n a b,r=some (.int k n)∧P.underlying t=some (.map a b)):OpV P β H W (Instr.makeMap t r) (alloc1 (.obj (.map #[] 0)) H (fun i=>.map (some i)) 0 0):=by
 refine allocO_ok fun p=>⟨.map (some W.heap.size),.map #[] 0,⟨W.heap.size,0,0,0⟩,World.pushB W (.map #[] 0),?_,rfl,⟨rfl,rfl,rfl⟩,rfl,fun β' _=>⟨#[],rfl,mrel_empty,rfl⟩,fun β' _ e=>.map _ _ e⟩
 rcases h with rfl | ⟨k,n,a,b,rfl,ht⟩
 ·simp [Instr.makeMap,pushB_alloc]
 ·simp [Instr.makeMap,pushB_alloc,run_underlying ht,asInt,asIntOf]
theorem mkF_ok {f:FuncId} {as as' cs cs':List Value} (hw:H.wf) (h1:LRel β as as') (h2:LRel β cs cs'):OpV P β H W (Instr.makeFunc (.func f) ⟨as'⟩ ⟨cs'⟩) (R.v (.func (.func f) ⟨as⟩ ⟨cs⟩) H) :=
 opv_pure hw (v':=.func (.func f) ⟨as'⟩ ⟨cs'⟩) rfl (.func f _ _ _ _ h1.1 h1.2 h2.1 h2.2)
theorem rngS_ok {t:TypeId} {v v':Value} (ht:P.underlying t=some .string) (hv:VRel β v v'):OpV P β H W (Instr.range t v') (exRngS v H):=by
 unfold exRngS
 cases e:asS v with
 | none=>trivial
 | some s =>
  have:=asS_inv e;subst this;cases hv
  refine allocO_ok fun p=>⟨.pointer (some ⟨W.heap.size,0,none⟩),.stringIter s 0,⟨W.heap.size,0,0,0⟩,World.pushB W (.stringIter s 0),?_,rfl,⟨rfl,rfl,rfl⟩,rfl,fun β' _=>⟨rfl,rfl⟩,fun β' _ e=>ptr_new e rfl rfl⟩
  simp [Instr.range,run_underlying ht,pushB_alloc]
theorem rngM_ok {t a b:TypeId} {v v':Value} (ht:P.underlying t=some (.map a b)) (hv:VRel β v v'):OpV P β H W (Instr.range t v') (exRngM v H):=by
 unfold exRngM
 split
 ·trivial
 ·rename_i e
  have:=asM_inv e;subst this;cases hv
  refine allocO_ok fun p=>⟨.pointer (some ⟨W.heap.size,0,none⟩),.mapIter none 0 #[] 0,⟨W.heap.size,0,0,0⟩,World.pushB W (.mapIter none 0 #[] 0),?_,rfl,⟨rfl,rfl,rfl⟩,rfl,fun β' _=>⟨rfl,rfl⟩,fun β' _ e=>ptr_new e rfl rfl⟩
  simp [Instr.range,run_underlying ht,pushB_alloc]
 ·rename_i m e
  have:=asM_inv e;subst this
  cases hv with | map _ m0 e0 =>
  split
  ·trivial
  ·rename_i es c e1
   refine allocO_ok fun p=>?_
   obtain ⟨m1,es',e2,ho,hr,hs⟩:=map_of p (.inl ((bit_iff m m).2 rfl)) e1
   rw [e0] at e2;cases e2
   refine ⟨.pointer (some ⟨W.heap.size,0,none⟩),.mapIter (some m0.rb) c #[] c,⟨W.heap.size,0,0,0⟩,World.pushB W (.mapIter (some m0.rb) c #[] c),?_,rfl,⟨rfl,rfl,rfl⟩,rfl,fun β' hle=>⟨m0,hle _ _ e0,rfl,rfl⟩,fun β' _ e=>ptr_new e rfl rfl⟩
   have hg:=run_getObj_o (P:=P) ho (by simp)
   simp [Instr.range,run_underlying ht,pushB_alloc,hg]
end
theorem ba_beq' (a b:ByteArray):(a == b)=(a.data == b.data):=by
 cases a with | mk a=>cases b with | mk b=>rfl
theorem ba_beq (a b:ByteArray):(a == b)=(a.data.toList == b.data.toList):=by
 rw [ba_beq',Bool.eq_iff_iff,beq_iff_eq,beq_iff_eq]
 constructor
 ·intro h;rw [h]
 ·intro h;exact Array.ext' h
theorem ba_eq {a b:ByteArray} (h:(a == b)=true):a=b:=by
 rw [ba_beq',beq_iff_eq] at h
 cases a with | mk a=>cases b with | mk b=>congr
theorem ba_refl (a:ByteArray):(a == a)=true:=by rw [ba_beq',beq_iff_eq]
def KeyD (d:TypeDesc) (l:Leaf):Prop:=(∃ k,d=.int k∧l=.i)∨(d=.string∧l=.s)∨(d=.bool∧l=.b)
theorem keyPlan_inv {P:Program} {tb:Tb} (ok:TbOk P tb) {t:TypeId} {p:Eqp} (h:keyPlan tb t=some p):∃ d l,P.underlying t=some d∧p=.one l∧KeyD d l:=by
 unfold keyPlan at h
 split at h <;> cases h
 ·rename_i k e;exact ⟨_,_,ok.und _ _ e,rfl,.inl ⟨k,rfl,rfl⟩⟩
 ·rename_i e;exact ⟨_,_,ok.und _ _ e,rfl,.inr (.inl ⟨rfl,rfl⟩)⟩
 ·rename_i e;exact ⟨_,_,ok.und _ _ e,rfl,.inr (.inr ⟨rfl,rfl⟩)⟩
theorem same_ok {β:Mp} {d:TypeDesc} {l:Leaf} (hd:KeyD d l) {x x' y y':Value} {b:Bool} (hx:VRel β x x') (hy:VRel β y y') (h:eqLeaf l x y=some b):Instr.sameNow d x' y'=some b:=by
 rcases hd with ⟨k,rfl,rfl⟩ | ⟨rfl,rfl⟩ | ⟨rfl,rfl⟩
 ·cases hx <;> simp only [eqLeaf] at h <;> try (cases h;done)
  cases hy <;> simp only at h <;> try (cases h;done)
  rename_i j a k2 c
  cases e:eqK j k2 with
  | false=>rw [e,Bc_f] at h;cases h
  | true =>
   rw [e,Bc_t] at h;cases h
   have:=eqK_eq e;subst this
   simp [Instr.sameNow,eqI_eq]
 ·cases hx <;> simp only [eqLeaf] at h <;> try (cases h;done)
  cases hy <;> simp only at h <;> try (cases h;done)
  cases h
  simp [Instr.sameNow,ba_beq,eqBs_eq]
 ·cases hx <;> simp only [eqLeaf] at h <;> try (cases h;done)
  cases hy <;> simp only at h <;> try (cases h;done)
  rename_i a c
  cases h
  cases a <;> cases c <;> rfl
theorem bits_ok {d:TypeDesc} {l:Leaf} (hd:KeyD d l) {x y:Value} {n:Nat} (h:Instr.sameNow d x y=some true):Instr.sameBits n y x=true:=by
 rcases hd with ⟨k,rfl,rfl⟩ | ⟨rfl,rfl⟩ | ⟨rfl,rfl⟩
 ·cases x <;> simp only [Instr.sameNow] at h <;> try (cases h;done)
  cases y <;> simp only [Instr.sameNow] at h <;> try (cases h;done)
  rename_i j a k2 c
  split at h
  ·rename_i e;subst e
   simp only [Option.some.injEq,beq_iff_eq] at h;subst h
   cases n <;> simp [Instr.sameBits]
  ·cases h
 ·cases x <;> simp only [Instr.sameNow] at h <;> try (cases h;done)
  cases y <;> simp only [Instr.sameNow] at h <;> try (cases h;done)
  simp only [Option.some.injEq] at h
  have:=ba_eq h;subst this
  cases n <;> simp [Instr.sameBits,ba_refl]
 ·cases x <;> simp only [Instr.sameNow] at h <;> try (cases h;done)
  cases y <;> simp only [Instr.sameNow] at h <;> try (cases h;done)
  simp only [Option.some.injEq,beq_iff_eq] at h;subst h
  cases n <;> simp [Instr.sameBits]
theorem MRel.nil_inv {β:Mp} {ys:List MapEntry} (h:MRel β [] ys):ys=[]:=by
 have:=h.1;cases ys with
 | nil=>rfl
 | cons=>simp at this
theorem MRel.cons_inv {β:Mp} {e:MapEntry} {l ys:List MapEntry} (h:MRel β (e::l) ys):∃ e' l',ys=e'::l'∧ERel β e e'∧MRel β l l':=by
 cases ys with
 | nil=>have:=h.1;simp at this
 | cons v' l' =>
  refine ⟨v',l',rfl,h.2 0 e v' rfl rfl,?_,fun i a b ha hb=>h.2 (i+1) a b (by simpa using ha) (by simpa using hb)⟩
  have:=h.1;simpa using this
theorem MRel.cons {β:Mp} {v v':MapEntry} {l l':List MapEntry} (h:ERel β v v') (hl:MRel β l l'):MRel β (v::l) (v'::l'):=by
 refine ⟨by simp [hl.1],fun i a b ha hb=>?_⟩
 cases i with
 | zero=>simp at ha hb;subst ha hb;exact h
 | succ i=>simp at ha hb;exact hl.2 i a b ha hb
theorem findK_ok {β:Mp} {d:TypeDesc} {l:Leaf} (hd:KeyD d l) {k k':Value} (hk:VRel β k k'):∀ (es es':List MapEntry) (i:Nat) (r:Option (Nat×Value)),MRel β es es'→findK (.one l) k es i=some r →
 match r with
 | none=>Instr.findNow d k' es' i=some none
 | some (j,x)=>∃ x' e',Instr.findNow d k' es' i=some (some (j,x'))∧VRel β x x'∧i≤j∧es'[j-i]?=some e'∧Instr.sameNow d k' e'.key=some true:=by
 intro es
 induction es with
 | nil=>intro es' i r hm h;cases h;have:=hm.nil_inv;subst this;rfl
 | cons e es ih =>
  intro es' i r hm h
  obtain ⟨e',l',rfl,he,hm'⟩:=hm.cons_inv
  simp only [findK,eqV] at h
  cases hq:eqLeaf l k e.key with
  | none=>simp only [hq] at h;cases h
  | some b =>
   have hs:=same_ok hd hk he.1 hq
   cases b with
   | true =>
    simp only [hq] at h;cases h
    simp only [Instr.findNow,hs]
    exact ⟨e'.val,e',rfl,he.2.1,Nat.le_refl _,by simp,hs⟩
   | false =>
    simp only [hq] at h
    have:=ih l' (i+1) r hm' h
    simp only [Instr.findNow,hs]
    cases r with
    | none=>exact this
    | some jx =>
     obtain ⟨j,x⟩:=jx
     obtain ⟨x',e2,h1,h2,h3,h4,h5⟩:=this
     exact ⟨x',e2,h1,h2,by omega,by rw [show j-i=(j-(i+1))+1 from by omega];simpa using h4,h5⟩
section
variable {P:Program} {tb:Tb} (ok:TbOk P tb) {β:Mp} {H:Hp} {W:World} (hw:H.wf)
theorem run_checkKey {d:TypeDesc} {l:Leaf} {t:TypeId} (hd:KeyD d l) (ht:P.underlying t=some d) (b:Bool) (n:Nat) (v:Value):(Instr.checkKey b (n+1) t v).run P W=.ok () W:=by
 unfold Instr.checkKey
 simp only [Sem.run_bind,run_underlying ht,Result.andThen_ok]
 rcases hd with ⟨k,rfl,rfl⟩ | ⟨rfl,rfl⟩ | ⟨rfl,rfl⟩ <;> cases v <;> rfl
theorem run_findKey {d:TypeDesc} {t:TypeId} {k:Value} {es:List MapEntry} {r:Option (Nat×Value)} (ht:P.underlying t=some d) (h:Instr.findNow d k es 0=some r):(Instr.findKey t k es).run P W=.ok r W:=by
 unfold Instr.findKey
 simp only [Sem.run_bind,run_underlying ht,Result.andThen_ok,h,Sem.run_pure]
include ok hw
theorem lkp_ok {t key elem:TypeId} {z m m' k k':Value} {okb:Bool} {p:Eqp} (ht:P.underlying t=some (.map key elem)) (hz:zeroV tb elem=some z) (hp:keyPlan tb key=some p) (hm:VRel β m m') (hk:VRel β k k') :
 OpV P β H W (Instr.lookup t m' k' okb) (exLkp z okb p m k H):=by
 obtain ⟨i,hi,hzv,hf⟩:=zeroV_inv ok hz
 have hzz:=VRel.flat β 10 z hf
 obtain ⟨d,l,hd,rfl,hkd⟩:=keyPlan_inv ok hp
 have tup:∀ {a a':Value} (b:Bool),VRel β a a'→VRel β (Bc okb (.tuple #[a,.bool b]) a) (if okb=true then .tuple #[a',.bool b] else a'):=by
  intro a a' b h
  cases okb with
  | true =>
   have hl:LRel β [a,Value.bool b] [a',Value.bool b]:=LRel.cons h (LRel.cons (.bool b) (LRel.nil β))
   rw [Bc_t,if_pos rfl]
   exact .tuple _ _ hl.1 hl.2
  | false=>rw [Bc_f,if_neg (by simp)];exact h
 unfold exLkp
 split
 ·trivial
 ·rename_i e
  have:=asM_inv e;subst this;cases hm
  refine opv_pure hw (v':=if okb=true then .tuple #[z,.bool false] else z) ?_ (tup false hzz)
  have hck:=run_checkKey (P:=P) (W:=W) hkd hd true 9999 k'
  simp [Instr.lookup,run_underlying ht,hck,run_findKey hd (show Instr.findNow d k' [] 0=some none from rfl),run_zeroValue hi hzv]
 ·rename_i r e
  have:=asM_inv e;subst this
  cases hm with | map _ m0 e0 =>
  split
  ·trivial
  ·rename_i es c e1
   split
   ·rename_i j x e2
    refine opv_read hw fun pr=>?_
    obtain ⟨m1,es',e3,ho,hr,hs⟩:=map_of pr (.inl ((bit_iff r r).2 rfl)) e1
    rw [e0] at e3;cases e3
    have hg:=run_getObj_o (P:=P) ho (by simp)
    obtain ⟨x',e',h1,h2,_⟩:=findK_ok hkd hk _ _ _ _ hr e2
    refine ⟨if okb=true then .tuple #[x',.bool true] else x',?_,tup true h2⟩
    have hck:=run_checkKey (P:=P) (W:=W) hkd hd es'.isEmpty 9999 k'
    simp only [Instr.lookup,Sem.run_bind,run_underlying ht,Result.andThen_ok,hg,Sem.run_pure,hck,run_findKey hd h1]
   ·rename_i e2
    refine opv_read hw fun pr=>?_
    obtain ⟨m1,es',e3,ho,hr,hs⟩:=map_of pr (.inl ((bit_iff r r).2 rfl)) e1
    rw [e0] at e3;cases e3
    have hg:=run_getObj_o (P:=P) ho (by simp)
    have h1:=findK_ok hkd hk _ _ _ _ hr e2
    refine ⟨if okb=true then .tuple #[z,.bool false] else z,?_,tup false hzz⟩
    have hck:=run_checkKey (P:=P) (W:=W) hkd hd es'.isEmpty 9999 k'
    simp only [Instr.lookup,Sem.run_bind,run_underlying ht,Result.andThen_ok,hg,Sem.run_pure,hck,run_findKey hd h1,run_zeroValue hi hzv]
   ·trivial
omit ok hw in
theorem bang_modify {es:Array MapEntry} {j:Nat} {f:MapEntry→MapEntry}:(es.modify j f).toList=es.toList.modify j f:=by simp
omit ok hw in
theorem mrel_modify {β:Mp} {es es':List MapEntry} {j:Nat} {k k' x x':Value} (hm:MRel β es es') (hk:VRel β k k') (hx:VRel β x x') :
 MRel β (es.modify j fun e=>{ e with key:=k,val:=x }) (es'.modify j fun e=>{ e with key:=k',val:=x' }):=by
 refine ⟨by simp [hm.1],fun i e e' h1 h2=>?_⟩
 rw [List.getElem?_modify] at h1 h2
 cases g1:es[i]? with
 | none=>rw [g1] at h1;simp at h1
 | some e1 =>
  cases g2:es'[i]? with
  | none=>rw [g2] at h2;simp at h2
  | some e2 =>
   have hr:=hm.2 i e1 e2 g1 g2
   rw [g1] at h1;rw [g2] at h2
   simp only [Option.map_eq_map,Option.map_some,Option.some.injEq] at h1 h2
   by_cases hj:j=i
   ·simp only [hj,if_true] at h1 h2;subst h1 h2
    exact ⟨hk,hx,hr.2.2⟩
   ·simp only [hj,if_false,id] at h1 h2;subst h1 h2;exact hr
omit ok hw in
theorem MRel.append {β:Mp} {a a' b b':List MapEntry} (h:MRel β a a') (h':MRel β b b'):MRel β (a++b) (a'++b'):=by
 induction a generalizing a' with
 | nil=>have:=h.nil_inv;subst this;exact h'
 | cons x xs ih=>obtain ⟨y,ys,rfl,hv,hl⟩:=h.cons_inv;exact MRel.cons hv (ih hl)
omit ok hw in
theorem mrel_erase {β:Mp}:∀ {es es':List MapEntry} {j:Nat} (_:MRel β es es'),MRel β (es.eraseIdx j) (es'.eraseIdx j):=by
 intro es
 induction es with
 | nil=>intro es' j h;have:=h.nil_inv;subst this;simpa using h
 | cons e es ih =>
  intro es' j h
  obtain ⟨e',l',rfl,he,hm⟩:=h.cons_inv
  cases j with
  | zero=>exact hm
  | succ j=>exact MRel.cons he (ih hm)
theorem mup_ok {t key elem:TypeId} {m m' k k' x x':Value} {p:Eqp} (ht:P.underlying t=some (.map key elem)) (hp:keyPlan tb key=some p) (hm:VRel β m m') (hk:VRel β k k') (hx:VRel β x x') :
 OpU P β H W (Instr.mapUpdate t m' k' x') (exMup p m k x H):=by
 obtain ⟨d,l,hd,rfl,hkd⟩:=keyPlan_inv ok hp
 unfold exMup
 split
 ·rename_i r e
  have:=asM_inv e;subst this
  cases hm with | map _ m0 e0 =>
  split
  ·trivial
  ·rename_i es c e1
   have ha:alive H r:=(alive_iff H r).2 (by rw [mapOf_inv e1];simp)
   have hck:=fun (n:Nat)=>run_checkKey (P:=P) (W:=W) hkd hd false n k'
   split
   ·rename_i j x1 e2
    refine opu_put hw ha fun pr=>?_
    obtain ⟨m1,es',e3,ho,hr,hs⟩:=map_of pr (.inr ((bit_iff r r).2 rfl)) e1
    rw [e0] at e3;cases e3
    have hg:=run_getObj_o (P:=P) ho (by simp)
    have hso:=fun o'=>run_setObj_o (P:=P) o' ho (by simp)
    obtain ⟨x2,e',h1,h2,_,h3,h4⟩:=findK_ok hkd hk _ _ _ _ hr e2
    simp only [Nat.sub_zero] at h3
    have hb:=bits_ok (n:=10000) hkd h4
    refine ⟨m0,_,.map (es'.modify j fun e=>{ e with key:=k',val:=x' }) c,e0,ho,⟨_,rfl,?_,hs⟩,?_⟩
    ·rw [bang_modify]
     exact mrel_modify hr hk hx
    ·have h3':es'[j]?=some e':=by simpa using h3
     have hst:(Instr.keyThatStays e'.key k').run P W=.ok k' W:=by
      unfold Instr.keyThatStays;rw [hb];simp
     simp only [Instr.mapUpdate,Sem.run_bind,run_underlying ht,Result.andThen_ok,hg,hck 9999,run_findKey hd h1,h3',Option.map_some,Option.getD_some,hst,hso]
   ·rename_i e2
    refine opu_put hw ha fun pr=>?_
    obtain ⟨m1,es',e3,ho,hr,hs⟩:=map_of pr (.inr ((bit_iff r r).2 rfl)) e1
    rw [e0] at e3;cases e3
    have hg:=run_getObj_o (P:=P) ho (by simp)
    have hso:=fun o'=>run_setObj_o (P:=P) o' ho (by simp)
    have h1:=findK_ok hkd hk _ _ _ _ hr e2
    refine ⟨m0,_,.map (es'.push { key:=k',val:=x',born:=c }) (c+1),e0,ho,⟨_,rfl,?_,hs⟩,?_⟩
    ·rw [Array.toList_push]
     exact MRel.append hr (MRel.cons ⟨hk,hx,rfl⟩ mrel_empty)
    ·simp only [Instr.mapUpdate,Sem.run_bind,run_underlying ht,Result.andThen_ok,hg,hck 9999,run_findKey hd h1,hso]
   ·trivial
 ·trivial
theorem del_ok {at_:Array TypeId} {ty t key elem:TypeId} {m m' k k':Value} {p:Eqp} (h0:at_[0]?=some t) (ht:P.underlying t=some (.map key elem)) (hp:keyPlan tb key=some p) (hm:VRel β m m') (hk:VRel β k k') :
 OpV P β H W (Builtin.delete_ at_ ty #[m',k']) (exDel p m k H):=by
 obtain ⟨d,l,hd,rfl,hkd⟩:=keyPlan_inv ok hp
 have vr:VRel β (.tuple #[]) (.tuple #[]):=vrel_U β
 unfold exDel
 split
 ·trivial
 ·rename_i e
  have:=asM_inv e;subst this;cases hm
  refine opv_pure hw (v':=.tuple #[]) ?_ vr
  have hck:=run_checkKey (P:=P) (W:=W) hkd hd true 9999 k'
  simp [Builtin.delete_,h0,run_underlying ht,hck]
 ·rename_i r e
  have:=asM_inv e;subst this
  cases hm with | map _ m0 e0 =>
  split
  ·trivial
  ·rename_i es c e1
   have ha:alive H r:=(alive_iff H r).2 (by rw [mapOf_inv e1];simp)
   have hck:=fun (b:Bool)=>run_checkKey (P:=P) (W:=W) hkd hd b 9999 k'
   split
   ·rename_i j x1 e2
    refine opv_put hw ha fun pr=>?_
    obtain ⟨m1,es',e3,ho,hr,hs⟩:=map_of pr (.inr ((bit_iff r r).2 rfl)) e1
    rw [e0] at e3;cases e3
    have hg:=run_getObj_o (P:=P) ho (by simp)
    have hso:=fun o'=>run_setObj_o (P:=P) o' ho (by simp)
    obtain ⟨x2,e',h1,h2,_,h3,h4⟩:=findK_ok hkd hk _ _ _ _ hr e2
    refine ⟨m0,_,.map (es'.eraseIdxIfInBounds j) c,.tuple #[],e0,ho,⟨_,rfl,?_,hs⟩,?_,vr⟩
    ·have:(es'.eraseIdxIfInBounds j).toList=es'.toList.eraseIdx j:=by simp
     rw [this]
     exact mrel_erase hr
    ·simp [Builtin.delete_,h0,run_underlying ht,hg,hck,run_findKey hd h1,hso]
   ·rename_i e2
    refine opv_same hw ha fun pr=>?_
    obtain ⟨m1,es',e3,ho,hr,hs⟩:=map_of pr (.inr ((bit_iff r r).2 rfl)) e1
    rw [e0] at e3;cases e3
    have hg:=run_getObj_o (P:=P) ho (by simp)
    have hso:=fun o'=>run_setObj_o (P:=P) o' ho (by simp)
    have h1:=findK_ok hkd hk _ _ _ _ hr e2
    refine ⟨.tuple #[],?_,vr⟩
    simp [Builtin.delete_,h0,run_underlying ht,hg,hck,run_findKey hd h1,hso,setB_self ho]
   ·trivial
omit ok in
def LenD (k:Nat) (d:TypeDesc):Prop:=(k=0∧d=.string)∨(k=1∧∃ e,d=.slice e)∨(k=2∧∃ a b,d=.map a b)
omit ok in
theorem len_ok {at_:Array TypeId} {ty t:TypeId} {d:TypeDesc} {n:Nat} {v v':Value} (h0:at_[0]?=some t) (ht:P.underlying t=some d) (hd:LenD n d) (hv:VRel β v v') :
 OpV P β H W (Builtin.len_ at_ ty #[v']) (exLen n v H):=by
 unfold exLen
 split
 ·rename_i s
  cases hv
  cases e:Nat.beq n 0 with
  | false=>rw [Bc_f];trivial
  | true =>
   rw [Bc_t]
   have:=(beq_iff _ _).1 e;subst this
   have:d=.string:=by rcases hd with ⟨_,h⟩ | ⟨h,_⟩ | ⟨h,_⟩ <;> first | exact h | cases h
   subst this
   exact opv_pure hw (v':=.int .i64 (.ofNat s.size)) (by simp [Builtin.len_,h0,run_underlying ht,goInt]) (.int _ _)
 ·rename_i a l c
  cases e:Nat.beq n 1 with
  | false=>rw [Bc_f];trivial
  | true =>
   rw [Bc_t]
   have:=(beq_iff _ _).1 e;subst this
   have:∃ e,d=.slice e:=by rcases hd with ⟨h,_⟩ | ⟨_,h⟩ | ⟨h,_⟩ <;> first | exact h | cases h
   obtain ⟨el,rfl⟩:=this
   cases hv <;> first
    | exact opv_pure hw (v':=.int .i64 (.ofNat l)) (by simp [Builtin.len_,h0,run_underlying ht,goInt]) (.int _ _)
    | exact opv_pure hw (v':=.int .i64 (.ofNat 0)) (by simp [Builtin.len_,h0,run_underlying ht,goInt]) (.int _ _)
 ·cases hv
  cases e:Nat.beq n 2 with
  | false=>rw [Bc_f];trivial
  | true =>
   rw [Bc_t]
   have:=(beq_iff _ _).1 e;subst this
   have:∃ a b,d=.map a b:=by rcases hd with ⟨h,_⟩ | ⟨h,_⟩ | ⟨_,h⟩ <;> first | exact h | cases h
   obtain ⟨a,b,rfl⟩:=this
   exact opv_pure hw (v':=.int .i64 0) (by simp [Builtin.len_,h0,run_underlying ht,goInt]) (.int _ _)
 ·rename_i r
  cases hv with | map _ m0 e0 =>
  cases e:Nat.beq n 2 with
  | false=>rw [Bc_f];trivial
  | true =>
   rw [Bc_t]
   have:=(beq_iff _ _).1 e;subst this
   have:∃ a b,d=.map a b:=by rcases hd with ⟨h,_⟩ | ⟨h,_⟩ | ⟨_,h⟩ <;> first | exact h | cases h
   obtain ⟨a,b,rfl⟩:=this
   split
   ·rename_i es c e1
    refine opv_read hw fun pr=>?_
    obtain ⟨m1,es',e3,ho,hr,hs⟩:=map_of pr (.inl ((bit_iff r r).2 rfl)) e1
    rw [e0] at e3;cases e3
    have hg:=run_getObj_o (P:=P) ho (by simp)
    refine ⟨.int .i64 (es'.size:Int),by simp [Builtin.len_,h0,run_underlying ht,goInt,hg],?_⟩
    have:es.toList.length=es'.size:=by rw [hr.1];exact Array.length_toList
    rw [this]
    exact .int _ _
   ·trivial
 ·trivial
end
section
variable {P:Program} {β:Mp} {H:Hp} {W:World} (hw:H.wf)
include hw
theorem nxtS_ok {ty:TypeId} {v v':Value} (hv:VRel β v v'):OpV P β H W (Instr.next v' true ty) (exNxtS v H):=by
 unfold exNxtS
 split
 ·rename_i r e
  have:=asPtr_inv e;subst this
  cases hv with | ptr _ _ m0 e0 =>
  split
  ·rename_i s pos e1
   have ha:alive H r:=(alive_iff H r).2 (by rw [e1];simp)
   cases e2:Nat.blt pos s.data.toList.length with
   | true =>
    rw [Bc_t]
    have hlt:pos<s.size:=(blt_iff _ _).1 e2
    refine opv_put hw ha fun pr=>?_
    obtain ⟨m1,o,e3,ho,rfl,hs⟩:=obj_of pr (.inr ((bit_iff r r).2 rfl)) e1 (by simp)
    rw [e0] at e3;cases e3
    have hg:=run_getObj_o (P:=P) ho (by simp)
    have hso:=fun o'=>run_setObj_o (P:=P) o' ho (by simp)
    have hl:LRel β [.bool true,.int .i64 (pos:Int),.int .i32 ((Utf8.decode s pos).1:Int)] [.bool true,.int .i64 (pos:Int),.int .i32 ((Utf8.decode s pos).1:Int)] :=
     LRel.cons (.bool _) (LRel.cons (.int _ _) (LRel.cons (.int _ _) (LRel.nil β)))
    refine ⟨m0,_,.stringIter s (pos+(Utf8.decode s pos).2),.tuple #[.bool true,.int .i64 (pos:Int),.int .i32 ((Utf8.decode s pos).1:Int)],e0,ho,⟨rfl,hs⟩,?_,.tuple _ _ hl.1 hl.2⟩
    simp [Instr.next,hs,hg,hlt,hso,goInt]
   | false =>
    rw [Bc_f]
    have hlt:¬ pos<s.size:=by
     intro h;rw [(blt_iff pos s.data.toList.length).2 h] at e2;cases e2
    refine opv_same hw ha fun pr=>?_
    obtain ⟨m1,o,e3,ho,rfl,hs⟩:=obj_of pr (.inr ((bit_iff r r).2 rfl)) e1 (by simp)
    rw [e0] at e3;cases e3
    have hg:=run_getObj_o (P:=P) ho (by simp)
    have hl:LRel β [.bool false] [.bool false]:=LRel.cons (.bool _) (LRel.nil β)
    refine ⟨.tuple #[.bool false],?_,.tuple _ _ hl.1 hl.2⟩
    simp [Instr.next,hs,hg,hlt]
  ·trivial
 ·trivial
omit hw in
theorem mrel_filter {f:Nat→Bool}:∀ {es es':List MapEntry},MRel β es es'→MRel β (es.filter fun e=>f e.born) (es'.filter fun e=>f e.born):=by
 intro es
 induction es with
 | nil=>intro es' h;have:=h.nil_inv;subst this;exact mrel_empty
 | cons e es ih =>
  intro es' h
  obtain ⟨e',l',rfl,he,hm⟩:=h.cons_inv
  simp only [List.filter_cons,← he.2.2]
  cases f e.born with
  | true=>exact MRel.cons he (ih hm)
  | false=>exact ih hm
omit hw in
theorem mrel_any {f:Nat→Bool}:∀ {es es':List MapEntry},MRel β es es'→es.all (fun e=>f e.born)=es'.all (fun e=>f e.born):=by
 intro es
 induction es with
 | nil=>intro es' h;have:=h.nil_inv;subst this;rfl
 | cons e es ih =>
  intro es' h
  obtain ⟨e',l',rfl,he,hm⟩:=h.cons_inv
  simp only [List.all_cons,ih hm,he.2.2]
theorem nxtM_ok {ty:TypeId} {v v':Value} (hv:VRel β v v'):OpV P β H W (Instr.next v' false ty) (exNxtM v H):=by
 unfold exNxtM
 have over:VRel β (.tuple #[.bool false]) (.tuple #[.bool false]):=by
  have hl:LRel β [Value.bool false] [Value.bool false]:=LRel.cons (.bool _) (LRel.nil β)
  exact .tuple _ _ hl.1 hl.2
 split
 ·rename_i r e
  have:=asPtr_inv e;subst this
  cases hv with | ptr _ _ m0 e0 =>
  split
  ·rename_i a b c e1
   have ha:alive H r:=(alive_iff H r).2 (by rw [e1];simp)
   refine opv_same hw ha fun pr=>?_
   obtain ⟨m1,o,e3,ho,rfl,hs⟩:=obj_of pr (.inr ((bit_iff r r).2 rfl)) e1 (by simp)
   rw [e0] at e3;cases e3
   have hg:=run_getObj_o (P:=P) ho (by simp)
   refine ⟨.tuple #[.bool false],?_,over⟩
   simp [Instr.next,hs,hg]
  ·rename_i mm since seen last e1
   have ha:alive H r:=(alive_iff H r).2 (by rw [e1];simp)
   split
   ·trivial
   ·rename_i es c e2
    split
    ·trivial
    ·rename_i hc1
     simp only []
     split
     ·trivial
     ·rename_i hc2
      have facts:∀ {H':Hp} {r' w':Nat},Pre β H H' r' w' W→inS r' w' r→inS r' w' mm→∃ mr es',m0.sh=0∧(getObj m0.rb).run P W=.ok (.mapIter (some mr.rb) since seen last) W∧W.heap[m0.rb]?=some (.mapIter (some mr.rb) since seen last) ∧
       β mm=some mr∧(getObj mr.rb).run P W=.ok (.map es' c) W∧MRel β es.toList es'.toList:=by
       intro H' r' w' pr i1 i2
       obtain ⟨m1,o,e3,ho,mr,e4,rfl,hs⟩:=obj_of pr i1 e1 (by simp)
       rw [e0] at e3;cases e3
       obtain ⟨m2,es',e5,ho2,hr,_⟩:=map_of pr i2 e2
       rw [e4] at e5;cases e5
       exact ⟨mr,es',hs,run_getObj_o (P:=P) ho (by simp),ho,e4,run_getObj_o (P:=P) ho2 (by simp),hr⟩
      have guard:∀ {es':Array MapEntry},MRel β es.toList es'.toList→(!seen.isEmpty && !es'.isEmpty && es'.all (fun x=>decide (x.born ≥ last)))=false:=by
       intro es' hr
       have h1:es'.isEmpty=es.isEmpty:=by
        have:=hr.1
        rw [Bool.eq_iff_iff]
        simp only [Array.isEmpty_iff_size_eq_zero]
        simp at this;omega
       have h2:es'.all (fun x=>decide (x.born ≥ last))=es.all (fun x=>decide (x.born ≥ last)):=by
        rw [← Array.all_toList,← Array.all_toList]
        exact (mrel_any (f:=fun n=>decide (n ≥ last)) hr).symm
       rw [h1,h2]
       simpa using hc1
      have lft:∀ {es':Array MapEntry},MRel β es.toList es'.toList→MRel β (es.toList.filter fun e=>!seen.contains e.born) (es'.filter fun e=>!seen.contains e.born).toList:=by
       intro es' hr
       rw [Array.toList_filter]
       exact mrel_filter (f:=fun n=>!seen.contains n) hr
      split
      ·rename_i hl
       refine opv_same hw ha fun pr=>?_
       obtain ⟨mr,es',hs,g1,_,_,g2,hr⟩:=facts pr (.inr ((bit_iff r r).2 rfl)) (.inl ((bit_iff mm mm).2 rfl))
       have hl':=lft hr
       rw [hl] at hl'
       have h0:es'.filter (fun e=>!seen.contains e.born) = #[]:=Array.ext' (by simpa using hl'.nil_inv)
       refine ⟨.tuple #[.bool false],?_,over⟩
       have hgd:=guard hr
       simp only [Instr.next,Nat.zero_add,hs,Sem.run_bind,g1,Result.andThen_ok,g2,hgd,h0]
       simp [Question.forced]
      ·rename_i en hl
       refine opv_put hw ha fun pr=>?_
       obtain ⟨mr,es',hs,g1,ho,e4,g2,hr⟩:=facts pr (.inr ((bit_iff r r).2 rfl)) (.inl ((bit_iff mm mm).2 rfl))
       have hl':=lft hr
       rw [hl] at hl'
       obtain ⟨en',l',h1,he,h2⟩:=hl'.cons_inv
       have:=h2.nil_inv;subst this
       have h0:es'.filter (fun e=>!seen.contains e.born) = #[en']:=Array.ext' (by simpa using h1)
       rw [hl] at hc2
       have hold:¬ (en'.born ≥ since):=by
        rw [← he.2.2];simpa using hc2
       have hold':en'.born<since:=by omega
       have hso:=fun o'=>run_setObj_o (P:=P) o' ho (by simp)
       have hll:LRel β [.bool true,en.key,en.val] [.bool true,en'.key,en'.val]:=LRel.cons (.bool _) (LRel.cons he.1 (LRel.cons he.2.1 (LRel.nil β)))
       refine ⟨m0,_,.mapIter (some mr.rb) since (seen.push en'.born) c,.tuple #[.bool true,en'.key,en'.val],e0,ho,⟨mr,e4,by rw [he.2.2],hs⟩,?_,.tuple _ _ hll.1 hll.2⟩
       have hgd:=guard hr
       simp only [Instr.next,Nat.zero_add,hs,Sem.run_bind,g1,Result.andThen_ok,g2,hgd,h0]
       simp [Question.forced,hold',hold,hso]
      ·trivial
  ·trivial
 ·trivial
end
theorem strOf_inv:∀ {l:List Value} {s:List UInt8},strOf l=some s→∃ ns:List Int,l=ns.map (Value.int .u8)∧s=ns.map (fun n=>UInt8.ofNat n.toNat):=by
 intro l
 induction l with
 | nil=>intro s h;cases h;exact ⟨[],rfl,rfl⟩
 | cons v r ih =>
  intro s h
  unfold strOf at h
  cases ha:(v::r).all isU8 with
  | false=>rw [ha,Bc_f] at h;cases h
  | true =>
   rw [ha,Bc_t] at h
   simp only [List.all_cons,Bool.and_eq_true] at ha
   cases h
   have h2:strOf r=some (r.map u8Of):=by unfold strOf;rw [ha.2,Bc_t]
   obtain ⟨ns,h1,h3⟩:=ih h2
   have hv:=ha.1
   unfold isU8 at hv
   split at hv
   ·rename_i n
    exact ⟨n::ns,by rw [h1];rfl,by rw [List.map_cons,h3];rfl⟩
   ·cases hv
theorem lrel_ints {β:Mp}:∀ {ns:List Int} {l':List Value},LRel β (ns.map (Value.int .u8)) l'→l'=ns.map (Value.int .u8):=by
 intro ns
 induction ns with
 | nil=>intro l' h;exact h.nil_inv
 | cons n ns ih =>
  intro l' h
  obtain ⟨v',l2,rfl,hv,hl⟩:=h.cons_inv
  cases hv
  rw [ih hl];rfl
theorem fold_push:∀ (ns:List Int) (r:ByteArray),(ns.foldl (fun r n=>r.push (UInt8.ofNat n.toNat)) r)=⟨⟨r.data.toList++ns.map (fun n=>UInt8.ofNat n.toNat)⟩⟩:=by
 intro ns
 induction ns with
 | nil=>intro r;simp
 | cons n ns ih =>
  intro r
  simp only [List.foldl_cons,ih]
  congr 2
  simp [ByteArray.push]
theorem push_modify {α:Type} (a:Array α) (x:α) (f:α→α):(a.push x).modify a.size f=a.push (f x):=by
 apply Array.ext_getElem?
 intro i
 rw [Array.getElem?_modify,Array.getElem?_push,Array.getElem?_push]
 by_cases h:i=a.size
 ·subst h;simp
 ·have:¬ a.size=i:=fun h'=>h h'.symm
  simp [h,this]
section
variable {P:Program} {tb:Tb} (ok:TbOk P tb) {β:Mp} {H:Hp} {W:World} (hw:H.wf)
include hw
theorem cSS_ok {src dst:TypeId} {v v':Value} (hs:P.underlying src=some .string) (hd:P.underlying dst=some .string) (hv:VRel β v v'):OpV P β H W (convert src dst v') (exSS v H):=by
 unfold exSS
 cases e:asS v with
 | none=>trivial
 | some s =>
  have:=asS_inv e;subst this;cases hv
  exact opv_pure hw (v':=.string s) (by simp [convert,run_underlying hs,run_underlying hd]) (.string _)
theorem cToS_ok {src dst e:TypeId} {v v':Value} (hs:P.underlying src=some (.slice e)) (he:P.underlying e=some (.int .u8)) (hd:P.underlying dst=some .string) (hv:VRel β v v'):OpV P β H W (convert src dst v') (exToS v H):=by
 unfold exToS
 split
 ·cases hv
  exact opv_pure hw (v':=.string .empty) (by rw [run_convert_bytes_string W src dst e _ _ _ hs he hd];rfl) (.string _)
 ·rename_i b o n c
  cases hv with | sl _ _ _ _ c' m0 e0 hcap =>
  split
  ·rename_i l e1
   split
   ·rename_i s e2
    refine opv_read hw fun p=>?_
    obtain ⟨t',k,ty,op,lo,hi,hb,ho,rfl⟩:=rdN_inv e1
    obtain ⟨m,cs,fr,em,hm,h1,h2,h3,h3',h4,h5⟩:=cells_of p (.inl ((bit_iff b b).2 rfl)) hb
    rw [e0] at em;cases em
    have hl:=lrel_row (sh:=m0.sh) ho (by omega) h4
    obtain ⟨ns,e3,rfl⟩:=strOf_inv e2
    rw [e3] at hl
    have h6:=lrel_ints hl
    have h7:=run_row (P:=P) hm (show o+m0.sh+n≤cs.size by omega)
    rw [h6] at h7
    refine ⟨_,?_,.string _⟩
    rw [run_convert_bytes_string W src dst e _ _ _ hs he hd,run_bytesToString W _ _ _ ns h7,fold_push]
    rfl
   ·trivial
  ·trivial
 ·trivial
omit hw in
theorem bytes_list (s:ByteArray):(s.data.map fun b=>Value.int .u8 b.toNat).toList=bytesV s.data.toList:=by
 simp [bytesV]
omit hw in
theorem bytesV_ok (β:Mp) (l:List UInt8):(bytesV l).all oneC=true∧LRel β (bytesV l) (bytesV l):=by
 induction l with
 | nil=>exact ⟨rfl,LRel.nil β⟩
 | cons b l ih=>exact ⟨ih.1,LRel.cons (.int _ _) ih.2⟩
omit hw in
theorem cToB_ok {src dst e:TypeId} {v v':Value} (hs:P.underlying src=some .string) (hd:P.underlying dst=some (.slice e)) (he:P.underlying e=some (.int .u8)) (hv:VRel β v v'):OpV P β H W (convert src dst v') (exToB e v H):=by
 unfold exToB
 cases ea:asS v with
 | none=>trivial
 | some s =>
  have:=asS_inv ea;subst this;cases hv
  simp only []
  obtain ⟨t,hb,hg⟩:=blkL_eq (bytesV s.data.toList) e 2
  rw [hb]
  show OpV P β H W _ (alloc1 (.cells t _ e 2 1 0) H _ 0 0)
  refine allocO_ok fun p=>?_
  have hlen:(bytesV s.data.toList).length=s.size:=by unfold bytesV;rw [List.length_map];rfl
  obtain ⟨q,hcap⟩:∃ q,Question.cut (.appendCap s.size 0 e) (W.tape W.drawn (.appendCap s.size 0 e))=s.size+q:=⟨_,rfl⟩
  let row:Array Value:=(s.data.map fun b=>Value.int .u8 b.toNat)++Array.replicate q (.int .u8 0)
  have hrow:row.size=s.size+q:=by
   show ((s.data.map fun (b:UInt8)=>Value.int .u8 b.toNat)++Array.replicate q (Value.int .u8 0)).size=_
   rw [Array.size_append,Array.size_map,Array.size_replicate];rfl
  refine ⟨.slice (some ⟨W.heap.size,0,none⟩) s.size (s.size+q),.cells row e (row.size,row.size+1),⟨W.heap.size,0,s.size+q,1⟩,
   { W with heap:=W.heap.push (.cells row e (row.size,row.size+1)),drawn:=W.drawn+1 },?_,rfl,⟨rfl,rfl,rfl⟩,rfl,fun β' hle=>?_,fun β' hle e1=>?_⟩
  ·have hf:(Question.appendCap s.size 0 e).forced=false:=rfl
   simp only [convert,Sem.run_bind,run_underlying hs,run_underlying hd,run_underlying he,Result.andThen_ok,Conv.stringToBytes,run_choose,hf,Bool.false_eq_true,if_false,hcap,
    newRow,run_newObj,markStringish,run_shape,run_freeze,Sem.run_pure]
   have hq:s.size+q-s.size=q:=by omega
   simp only [hq]
   have hsh:World.shape? { W with heap:=W.heap.push (Obj.cells row e),drawn:=W.drawn+1 } W.heap.size=some (e,row.size):=by
    simp [World.shape?]
   show Result.andThen (Sem.run P (match World.shape? { W with heap:=W.heap.push (Obj.cells row e),drawn:=W.drawn+1 } W.heap.size with
    | some (_,n)=>freeze { block:=W.heap.size,off:=n } 1
    | _=>pure ()) { W with heap:=W.heap.push (Obj.cells row e),drawn:=W.drawn+1 }) _=_
   rw [hsh]
   simp only [run_freeze,Result.andThen_ok]
   congr 1
   unfold World.freeze
   simp [push_modify]
  ·have hlc:(bytesV s.data.toList).length≤s.size+q:=by omega
   refine ⟨row,_,rfl,hrow,by simp;omega,(fun h=>by cases h),(fun k h=>by cases h;rfl),fun i hi=>?_,.inr (.inl ⟨by omega,.inr (by simp [hrow])⟩)⟩
   have hv1:(bytesV s.data.toList)[i]?=some (bytesV s.data.toList)[i]:=by simp [hi]
   rw [hg i _ hv1]
   obtain ⟨b1,b2⟩:=bytesV_ok β' s.data.toList
   refine ⟨List.all_eq_true.1 b1 _ (List.getElem_mem hi),(bytesV s.data.toList)[i],?_,b2.2 i _ _ hv1 hv1⟩
   simp only [Nat.zero_add]
   rw [Array.getElem?_append_left (by rw [Array.size_map];show i<s.size;omega),← Array.getElem?_toList,bytes_list]
   exact hv1
  ·have hl2:(s.data.toList.length)=s.size:=rfl
   refine sl_mk ⟨⟨W.heap.size,0,s.size+q,1⟩,s.size+q,e1,?_,fun h=>(by cases h),fun _=>⟨by omega,by simp⟩⟩
   simp [hl2]
end
section
variable {P:Program} {tb:Tb} (ok:TbOk P tb) {β:Mp} {H:Hp} {W:World} (hw:H.wf)
theorem can_wr {H':Hp} {b o:Nat} {vs:List Value} (hw:H.wf) (h:wrN H b o vs=some H'):Can H H' (bit b)∧alive H b:=by
 obtain ⟨t,n,ty,op,lo,hi,hb,ho,hth,rfl⟩:=wrN_inv h
 have ha:alive H b:=(alive_iff H b).2 (by rw [hb];simp)
 exact ⟨can_put hw _ ha,ha⟩
theorem can_wrs {H':Hp} {b o:Nat} {vs:List Value} (hw:H.wf) (h:wrNs H b o vs=some H'):Can H H' (bit b)∧alive H b:=by
 obtain ⟨t,n,ty,op,lo,hi,hb,ho,hth,rfl⟩:=wrNs_inv h
 have ha:alive H b:=(alive_iff H b).2 (by rw [hb];simp)
 exact ⟨can_put hw _ ha,ha⟩
theorem lenV_ok {x x':Value} {n:Nat} (h:lenV x=some n) (hx:VRel β x x'):(Builtin.lenOf x').run P W=.ok n W:=by
 unfold lenV at h
 split at h
 ·cases h;cases hx <;> rfl
 ·cases h;cases hx;rfl
 ·cases h
theorem take_bytes (s:ByteArray) (n:Nat) (hn:n≤s.size):((s.extract 0 n).data.map fun b=>Value.int .u8 b.toNat)=⟨bytesV (s.data.toList.take n)⟩:=by
 apply Array.ext'
 simp [bytesV]
theorem firstCells_ok {H':Hp} {r' w':Nat} {sz n k r:Nat} {x x':Value} {cs:List Value} (h:cellsOfV H sz n x=some (cs,r)) (hk:lenV x=some k) (hn:n≤k) (hx:VRel β x x') (p:Pre β H H' r' w' W)
 (hr:∀ b,r.testBit b=true→inS r' w' b):∃ cs',(∀ w:World,w.heap=W.heap→(Builtin.firstCells sz n x').run P w=.ok ⟨cs'⟩ w)∧LRel β cs cs'∧cs.all oneC=true∧cs.length=n*sz:=by
 unfold cellsOfV at h
 split at h
 ·cases e:Nat.beq n 0 with
  | false=>rw [e,Bc_f] at h;cases h
  | true =>
   rw [e,Bc_t] at h;cases h;cases hx
   have:=(beq_iff _ _).1 e;subst this
   exact ⟨[],fun w _=>rfl,LRel.nil β,rfl,by simp⟩
 ·cases e:Nat.beq n 0 with
  | false=>rw [e,Bc_f] at h;cases h
  | true =>
   rw [e,Bc_t] at h;cases h;cases hx
   have:=(beq_iff _ _).1 e;subst this
   exact ⟨[],fun w _=>by simp [Builtin.firstCells,loadCells,loadCellsFrom],LRel.nil β,rfl,by simp⟩
 ·rename_i b o l c
  cases hx with | sl _ _ _ _ c' m0 e0 hcap =>
  split at h
  ·rename_i l1 e1
   cases h
   obtain ⟨t',q,ty,op,lo,hi,hb,ho,rfl⟩:=rdN_inv e1
   obtain ⟨m,cs,fr,em,hm,h1,h2,h3,h3',h4,h5⟩:=cells_of p (hr b ((bit_iff b b).2 rfl)) hb
   rw [e0] at em;cases em
   have hl:=lrel_row (sh:=m0.sh) ho (by omega) h4
   exact ⟨_,fun w hw'=>run_row (by rw [hw'];exact hm) (show o+m0.sh+n*sz≤cs.size by omega),hl,one_row ho fun j hj=>(h4 j hj).1,rdL_len _ _ _⟩
  ·cases h
 ·rename_i s
  cases e:Nat.beq sz 1 with
  | false=>rw [e,Bc_f] at h;cases h
  | true =>
   rw [e,Bc_t] at h
   have:=(beq_iff _ _).1 e;subst this
   cases h;cases hx
   cases hk
   obtain ⟨b1,b2⟩:=bytesV_ok β (s.data.toList.take n)
   refine ⟨_,fun w _=>by simp only [Builtin.firstCells,Sem.run_pure];rw [take_bytes s n hn],b2,b1,?_⟩
   have:s.data.toList.length=s.size:=rfl
   unfold bytesV;rw [List.length_map,List.length_take]
   omega
 ·cases h
include ok hw
theorem copy_ok {at_:Array TypeId} {ty t elem:TypeId} {i:TypeInfo} {d d' x x':Value} (h0:at_[0]?=some t) (ht:P.underlying t=some (.slice elem)) (hi:P.info? elem=some i) (hd:VRel β d d') (hx:VRel β x x') :
 OpV P β H W (Builtin.copy_ at_ ty #[d',x']) (exCopy i.size d x H):=by
 unfold exCopy
 split
 ·rename_i xl a dl cap op e1 e2
  have hs:=sl_of e2 hd
  have hlen:=lenV_ok (P:=P) (W:=W) e1 hx
  split
  ·trivial
  ·rename_i cs r e3
   have hn:Nat.min xl dl≤xl:=Nat.min_le_left _ _
   cases a with
   | none =>
    obtain ⟨_,rfl⟩:=hs
    refine opv_read hw fun p=>?_
    obtain ⟨cs',h1,h2,_,_⟩:=firstCells_ok (P:=P) e3 e1 hn hx p (fun b hb=>.inl hb)
    have h1:=h1 W rfl
    refine ⟨.int .i64 ((Nat.min xl dl:Nat):Int),?_,.int _ _⟩
    simp only [Builtin.copy_]
    simp [h0,run_underlying ht,hlen,run_sizeOf' hi,h1,goInt]
   | some y =>
    obtain ⟨b,o⟩:=y
    obtain ⟨m,c',e0,rfl,_⟩:=hs
    simp only []
    cases e4:wrNs H b o cs with
    | none=>trivial
    | some H' =>
     simp only []
     refine ⟨(can_wrs hw e4).1,fun p=>?_⟩
     obtain ⟨cs',h1,h2,h3,_⟩:=firstCells_ok (P:=P) e3 e1 hn hx p (fun b hb=>.inl hb)
     obtain ⟨_,hwr⟩:=write_oks (Hx:=H') (W:=W) (P:=P) (r:=r) (w:=bit b) hw e4 e0 h2 h3
     obtain ⟨o',hrun,hpost⟩:=hwr p (.inr ((bit_iff b b).2 rfl))
     have h1:=h1 W rfl
     refine ⟨β,_,.int .i64 ((Nat.min xl dl:Nat):Int),?_,.int _ _,hpost⟩
     simp only [Builtin.copy_]
     simp [h0,run_underlying ht,hlen,run_sizeOf' hi,h1,goInt,hrun]
 ·trivial
omit ok hw in
theorem zeroCells_eq (zv:Value) (n:Nat):(Builtin.zeroCells zv.cells n).toList=(List.replicate n zv.cells.toList).flatten:=rep_arr zv n
theorem clear_ok {at_:Array TypeId} {ty t elem:TypeId} {z:List Value} {x x':Value} (h0:at_[0]?=some t) (ht:P.underlying t=some (.slice elem)) (hz:zeroL tb elem=some z) (hx:VRel β x x') :
 OpV P β H W (Builtin.clear_ at_ ty #[x']) (exClear z x H):=by
 obtain ⟨i,zv,hi,hzv,rfl,hf⟩:=zeroL_inv ok hz
 have vr:∀ β:Mp,VRel β (.tuple #[]) (.tuple #[]):=fun β=>vrel_U β
 unfold exClear
 split
 ·rename_i l c op e1
  obtain ⟨_,rfl⟩:=sl_of e1 hx
  exact opv_pure hw (v':=.tuple #[]) (by simp [Builtin.clear_,h0,run_underlying ht]) (vr β)
 ·rename_i b o n c op e1
  obtain ⟨m,c',e0,rfl,_⟩:=sl_of e1 hx
  split
  ·rename_i H' e4
   refine ⟨(can_wr hw e4).1,fun p=>?_⟩
   obtain ⟨h1,hl⟩:=rep_all (β:=β) hf n
   obtain ⟨_,hwr⟩:=write_ok (Hx:=H') (W:=W) (P:=P) (r:=0) (w:=bit b) hw e4 e0 hl h1
   obtain ⟨o',hrun,hpost⟩:=hwr p (.inr ((bit_iff b b).2 rfl))
   by_cases hn:n=0
   ·subst hn
    simp only [List.replicate_zero,List.flatten_nil,storeCells,Sem.run_pure] at hrun
    injection hrun with _ hW
    refine ⟨β,_,.tuple #[],?_,vr β,hpost⟩
    rw [← hW]
    simp [Builtin.clear_,h0,run_underlying ht]
   ·refine ⟨β,_,.tuple #[],?_,vr β,hpost⟩
    obtain ⟨q,rfl⟩:∃ q,n=q+1:=⟨n-1,by omega⟩
    simp [Builtin.clear_,h0,run_underlying ht,run_zeroValue hi hzv,zeroCells_eq,hrun]
  ·trivial
 ·trivial
end
end Go.Ev
end
