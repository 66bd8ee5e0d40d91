/-
 A part of the reckoner for the statements of a Go program: what it answers,the model answers. Holds for every program whose tables are as given.
-/
import Derived.Lib.Builder
import Derived.Lib.UnsafeStr
import GoSem.Dispatch
import Derived.Test.YtgdejggelcpokaaGreatDoorG04
set_option linter.unusedSimpArgs false
set_option linter.unusedVariables false
set_option linter.unusedSectionVars false
noncomputable section
namespace Go.Ev
theorem growBy_le (N:Nat):∀ (r c:Nat),Builtin.growBy N r c≤max c (2*N+768):=by
 intro r
 induction r with
 | zero=>intro c;exact Nat.le_max_left _ _
 | succ r ih =>
  intro c
  unfold Builtin.growBy
  split
  ·exact Nat.le_max_left _ _
  ·have:=ih (c+(c+768) / 4)
   have h:c+(c+768) / 4≤2*N+768:=by omega
   omega
theorem nextCap_le {need c:Nat} (h:c<need):Builtin.nextslicecap need c≤2*need+768:=by
 unfold Builtin.nextslicecap
 split
 ·omega
 ·split
  ·omega
  ·have:=growBy_le need 4 c
   omega
section
variable {P:Program} {W:World}
theorem not_int {d:TypeDesc} (h:∀ k,d≠.int k):(match d with | .int _=>true | _=>false)=false:=by
 cases d <;> first | rfl | exact absurd rfl (h _)
variable {at_:Array TypeId} {ty t xt elem:TypeId} {dx:TypeDesc} {i:TypeInfo} {x':Value} {n:Nat} {new:List Value}
 (h0:at_[0]?=some t) (h1:at_[1]?=some xt) (ht:P.underlying t=some (.slice elem)) (hx:P.underlying xt=some dx) (hdx:∀ k,dx≠.int k) (hi:P.info? elem=some i)
 (hlen:(Builtin.lenOf x').run P W=.ok n W) (hnew:∀ w:World,w.heap=W.heap→(Builtin.firstCells i.size n x').run P w=.ok ⟨new⟩ w)
include h0 h1 ht hx hdx hi hlen hnew
theorem run_append_in {a:Addr} {len cap:Nat} {W':World} (hc:len+n≤cap) (hst:(storeCells (a.add (len*i.size)) new).run P W=.ok () W') :
 (Builtin.append_ at_ ty #[.slice (some a) len cap,x']).run P W=.ok (.slice (some a) (len+n) cap) W':=by
 have hz:=not_int hdx
 unfold Builtin.append_
 have hnew':=hnew W rfl
 simp [h0,h1,run_underlying ht,run_underlying hx,run_sizeOf' hi,hz,hlen,hc,hnew',hst]
theorem run_append_nil {len cap:Nat} (hc:len+n≤cap):(Builtin.append_ at_ ty #[.slice none len cap,x']).run P W=.ok (.slice none (len+n) cap) W:=by
 have hz:=not_int hdx
 unfold Builtin.append_
 have hnew':=hnew W rfl
 simp [h0,h1,run_underlying ht,run_underlying hx,run_sizeOf' hi,hz,hlen,hc,hnew']
theorem run_append_new {a:Option Addr} {len cap:Nat} {old:List Value} {zv:Value} (hc:cap<len+n) (hb:okBytes (len+n) i.bytes=true) (hzv:i.zero=some zv)
 (hold:∀ w:World,w.heap=W.heap→(Builtin.firstCells i.size len (.slice a len cap)).run P w=.ok ⟨old⟩ w) :
 ∃ q row,row.toList=old++(new++(Builtin.zeroCells zv.cells q).toList)∧(Builtin.append_ at_ ty #[.slice a len cap,x']).run P W=.ok (.slice (some ⟨W.heap.size,0,none⟩) (len+n) (len+n+q))
  { W with heap:=W.heap.push (.cells row elem),drawn:=W.drawn+1 }:=by
 have hz:=not_int hdx
 obtain ⟨q,hq⟩:∃ q,Question.cut (.appendCap (len+n) cap elem) (W.tape W.drawn (.appendCap (len+n) cap elem))=len+n+q:=⟨_,rfl⟩
 refine ⟨q,(⟨old⟩:Array Value)++((⟨new⟩:Array Value)++Builtin.zeroCells zv.cells q),by simp,?_⟩
 simp only [okBytes,Bool.and_eq_true,ble_iff] at hb
 have hnc:¬ (len+n≤cap):=by omega
 have hbig:¬ (IntKind.i64.max<((len+n:Nat):Int)):=by
  have:IntKind.i64.max=9223372036854775807:=by decide
  rw [this];omega
 have hnx:¬ (2 ^ 48<Builtin.nextslicecap (len+n) cap*i.bytes):=by
  have h1:=Nat.mul_le_mul_right i.bytes (nextCap_le hc)
  have:(2:Nat) ^ 48=281474976710656:=by decide
  rw [this];omega
 have hf:(Question.appendCap (len+n) cap elem).forced=false:=rfl
 have hsub:len+n+q-(len+n)=q:=by omega
 have hold':=hold W.drew rfl
 have hnew':=hnew W.drew rfl
 have hbig':¬ (9223372036854775807<(len:Int)+(n:Int)):=by
  have:IntKind.i64.max=9223372036854775807:=by decide
  omega
 unfold Builtin.append_
 simp [h0,h1,run_underlying ht,run_underlying hx,run_sizeOf' hi,hz,hlen,hnc,run_typeInfo hi,hbig',hnx,hf,hq,hold',hnew',run_zeroValue hi hzv,newRow]
 rfl
end
section
variable {P:Program} {tb:Tb} (ok:TbOk P tb) {β:Mp} {H:Hp} {W:World} (hw:H.wf)
theorem post_fork {b:Nat} {m m':Bm} {x:Blk} {o o':Obj} (hw:H.wf) (ha:alive H b) (e:β b=some m) (ho:W.heap[m.rb]?=some o) (hn:H.room=true) (hf:β H.nx=none) (hm:m'.rb=m.rb)
 (hr:ORel (β.put H.nx m') m' x o') (hd:∀ b m,β b=some m→m.rb<W.heap.size):Post β (β.put H.nx m') H ((H.put b .no).push x) (bit b) W (World.setB W m.rb o'):=by
 have hn':(H.put b .no).room=true:=by rw [room_put];exact hn
 have nx2:((H.put b .no).push x).nx=H.nx+1:=by rw [nx_push,nx_put]
 have blk2:∀ c,((H.put b .no).push x).blk c=if c=H.nx then x else if c=b then .no else H.blk c:=by
  intro c;rw [blk_push x hn',nx_put,blk_put _ hw ha.1]
 have hbn:b≠H.nx:=Nat.ne_of_lt ha.1
 have dead:¬ alive ((H.put b .no).push x) b:=by
  intro h;exact h.2 (by rw [blk2,if_neg hbn,if_pos rfl])
 have only:∀ c,(H.nx≤c∨(bit b).testBit c=true)→alive ((H.put b .no).push x) c→c=H.nx:=by
  intro c hc hac
  rcases hc with h | h
  ·have:=hac.1;rw [nx2] at this;omega
  ·have:=(bit_iff b c).1 h;subst this;exact absurd hac dead
 refine ⟨Mp.le_put m' hf,fun c m1 h h'=>?_,fun c hc hac=>?_,fun rb o1 h hno=>?_,by rw [setB_size];exact Nat.le_refl _,fun c m1 h=>?_,
  fun c m1 hc h h'=>?_,fun c d mc md hc hd' hac had _ _ _=>by rw [only c hc hac,only d hd' had],⟨rfl,rfl,rfl⟩⟩
 ·by_cases ec:c=H.nx
  ·subst ec;rw [nx2];omega
  ·rw [Mp.put_ne β m' ec,h'] at h;cases h
 ·have:=only c hc hac;subst this
  exact ⟨m',Mp.put_same _ _ _,o',by rw [hm];exact setB_same ho,by rw [blk2,if_pos rfl];exact hr⟩
 ·have:=hno b m ha.1 ((bit_iff b b).2 rfl) e
  rw [setB_ne (Ne.symm this)];exact h
 ·rw [setB_size]
  by_cases ec:c=H.nx
  ·subst ec;rw [Mp.put_same] at h;cases h;rw [hm];exact hd b m e
  ·rw [Mp.put_ne β m' ec] at h;exact hd c m1 h
 ·by_cases ec:c=H.nx
  ·subst ec;rw [Mp.put_same] at h';cases h'
   exact .inr ⟨b,m,ha.1,(bit_iff b b).2 rfl,e,hm.symm,dead⟩
  ·rw [Mp.put_ne β m' ec,h] at h';cases h'
theorem can_fork {b:Nat} {x:Blk} (hw:H.wf) (ha:alive H b) (hn:H.room=true):Can H ((H.put b .no).push x) (bit b):=by
 have c1:=can_put hw .no ha
 have c2:Can (H.put b .no) ((H.put b .no).push x) 0:=can_push (by rw [room_put];exact hn)
 have:=Can.comp c1 c2
 rwa [show Nat.lor (bit b) 0=bit b from Nat.or_zero _] at this
theorem orel_app {k:Nat} {t:T Value} {cs row:List Value} {rest:List Value} {ty:TypeId} {sz tot lo hi:Nat} (hg:∀ (i:Nat) (v:Value),cs[i]?=some v→t.get i=v) (h1:cs.all oneC=true) (hl:LRel β cs row) (ht:tot=row.length+rest.length) :
 ORel β ⟨k,0,tot,sz⟩ (.cells t cs.length ty (sz+1) lo hi) (.cells ⟨row++rest⟩ ty):=by
 refine ⟨⟨row++rest⟩,(0,0),rfl,by simp [ht],by simp [ht,hl.1],(fun h=>by cases h),(fun k h=>by cases h;rfl),fun i hi'=>?_,?_⟩
 ·have hv:cs[i]?=some cs[i]:=by simp [hi']
  rw [hg i _ hv]
  obtain ⟨v',ev,hr⟩:=hl.get hv
  refine ⟨List.all_eq_true.1 h1 _ (List.getElem_mem hi'),v',?_,hr⟩
  have hi':i<row.length:=by rw [← hl.1];exact hi'
  simp only [Nat.zero_add]
  show (row++rest).toArray[i]?=_
  rw [List.getElem?_toArray,List.getElem?_append_left hi'];exact ev
 ·rcases Nat.lt_or_ge hi lo with h | h
  ·exact .inr (.inl ⟨h,.inl rfl⟩)
  ·exact .inl ⟨h,.inl rfl⟩
end
section
variable {P:Program} {tb:Tb} (ok:TbOk P tb) {β:Mp} {H:Hp} {W:World} (hw:H.wf)
include hw
theorem app_ok {at_:Array TypeId} {ty t xt elem:TypeId} {dx:TypeDesc} {i:TypeInfo} {zv s s' x x':Value}
 (h0:at_[0]?=some t) (h1:at_[1]?=some xt) (ht:P.underlying t=some (.slice elem)) (hx:P.underlying xt=some dx) (hdx:∀ k,dx≠.int k) (hi:P.info? elem=some i)
 (hzv:i.zero=some zv) (hzs:zv.cells.toList.length=i.size) (hs:VRel β s s') (hxx:VRel β x x'):OpV P β H W (Builtin.append_ at_ ty #[s',x']) (exApp elem i.size i.bytes s x H):=by
 unfold exApp
 split
 ·rename_i n a len cap op e1 e2
  have hsl:=sl_of e2 hs
  have hlen:=lenV_ok (P:=P) (W:=W) e1 hxx
  split
  ·trivial
  ·rename_i new r e3
   have hnew:∀ {H':Hp} {r' w':Nat},Pre β H H' r' w' W→(∀ b,r.testBit b=true→inS r' w' b)→∃ new',(∀ w:World,w.heap=W.heap→(Builtin.firstCells i.size n x').run P w=.ok ⟨new'⟩ w)∧LRel β new new'∧new.all oneC=true∧new.length=n*i.size :=
    fun p hr=>firstCells_ok (P:=P) e3 e1 (Nat.le_refl _) hxx p hr
   have zlen:∀ q,(Builtin.zeroCells zv.cells q).toList.length=q*i.size:=by
    intro q;rw [zeroCells_eq,List.length_flatten,List.map_replicate,List.sum_replicate_nat,hzs]
   cases e4:Nat.ble (len+n) cap with
   | true =>
    rw [Bc_t]
    have hc:=(ble_iff _ _).1 e4
    cases a with
    | none =>
     obtain ⟨rfl,rfl⟩:=hsl
     refine opv_read hw fun p=>?_
     obtain ⟨new',h2,_⟩:=hnew p (fun b hb=>.inl hb)
     exact ⟨_,run_append_nil h0 h1 ht hx hdx hi hlen h2 hc,.sl0 _ _⟩
    | some y =>
     obtain ⟨b,o⟩:=y
     obtain ⟨m,c',e0,rfl,g1,g2⟩:=hsl
     simp only []
     cases e5:wrN H b (o+len*i.size) new with
     | none=>trivial
     | some H' =>
      simp only []
      refine ⟨(can_wr hw e5).1,fun p=>?_⟩
      obtain ⟨new',h2,h3,h4,h5⟩:=hnew p (fun b hb=>.inl hb)
      obtain ⟨_,hwr⟩:=write_ok (Hx:=H') (W:=W) (P:=P) (r:=r) (w:=bit b) hw e5 e0 h3 h4
      obtain ⟨o',hrun,hpost⟩:=hwr p (.inr ((bit_iff b b).2 rfl))
      have hcc:cap≤c':=by
       cases op with
       | false=>rw [g1 rfl];exact Nat.le_refl _
       | true=>exact (g2 rfl).1
      have hst:(storeCells ((⟨m.rb,o+m.sh,none⟩:Addr).add (len*i.size)) new').run P W=.ok () (World.setB W m.rb o'):=by
       rw [add_eq,show o+m.sh+len*i.size=o+len*i.size+m.sh from by omega];exact hrun
      exact ⟨β,_,_,run_append_in h0 h1 ht hx hdx hi hlen h2 (Nat.le_trans hc hcc) hst,sl_mk ⟨m,c',e0,rfl,g1,g2⟩,hpost⟩
   | false =>
    rw [Bc_f]
    have hc:=(ble_f _ _).1 e4
    cases e5:okBytes (len+n) i.bytes with
    | false=>rw [Bc_f];trivial
    | true =>
     rw [Bc_t]
     cases a with
     | none =>
      obtain ⟨rfl,rfl⟩:=hsl
      simp only []
      cases e6:Nat.beq len 0 with
      | false=>rw [Bc_f];trivial
      | true =>
       rw [Bc_t]
       have:=(beq_iff _ _).1 e6;subst this
       obtain ⟨t',hb,hg⟩:=blkL_eq new elem (Nat.succ i.size)
       rw [hb]
       refine allocO_ok fun p=>?_
       obtain ⟨new',h2,h3,h4,h5⟩:=hnew p (fun b hb=>.inl hb)
       obtain ⟨q,row,hrow,hrun⟩:=run_append_new (ty:=ty) (old:=[]) (a:=none) h0 h1 ht hx hdx hi hlen h2 hc e5 hzv (fun w _=>rfl)
       have hrow':row=⟨new'++(Builtin.zeroCells zv.cells q).toList⟩:=Array.ext' (by simpa using hrow)
       refine ⟨_,.cells row elem,⟨W.heap.size,0,(0+n+q)*i.size,i.size⟩,_,hrun,rfl,⟨rfl,rfl,rfl⟩,rfl,fun β' hle=>?_,fun β' hle e=>?_⟩
       ·rw [hrow']
        refine orel_app hg h4 (h3.mono hle) ?_
        rw [← h3.1,h5,zlen,Nat.zero_add,Nat.add_mul]
       ·exact sl_mk ⟨⟨W.heap.size,0,(0+n+q)*i.size,i.size⟩,0+n+q,e,by simp,(fun h=>by cases h),fun _=>⟨by omega,by simp⟩⟩
     | some y =>
      obtain ⟨b,o⟩:=y
      obtain ⟨m,c',e0,rfl,g1,g2⟩:=hsl
      simp only []
      cases e6:rdN H b o (len*i.size) with
      | none=>trivial
      | some old =>
       simp only []
       obtain ⟨t',k,ty0,op0,lo,hi0,hb,ho,rfl⟩:=rdN_inv e6
       have ha:alive H b:=(alive_iff H b).2 (by rw [hb];simp)
       cases op with
       | false =>
        rw [Bc_f]
        have:=g1 rfl;subst this
        obtain ⟨t2,hb2,hg⟩:=blkL_eq (rdL t' (len*i.size) o++new) elem (Nat.succ i.size)
        rw [hb2]
        refine allocO_ok fun p=>?_
        obtain ⟨new',h2,h3,h4,h5⟩:=hnew p (fun b hb=>.inl (by rw [lor_bit];simp [hb]))
        obtain ⟨m1,cs,fr,em,hm,k1,k2,k3,k3',k4,k5⟩:=cells_of p (.inl (by rw [lor_bit,(bit_iff b b).2 rfl];simp)) hb
        rw [e0] at em;cases em
        have hl:=lrel_row (sh:=m.sh) ho (by omega) k4
        have hone:=one_row ho fun j hj=>(k4 j hj).1
        obtain ⟨q,row,hrow,hrun⟩:=run_append_new (ty:=ty) (old:=rowOf cs (o+m.sh) (len*i.size)) (a:=some ⟨m.rb,o+m.sh,none⟩) h0 h1 ht hx hdx hi hlen h2 hc e5 hzv
         (fun w hw'=>run_row (by rw [hw'];exact hm) (by omega))
        have hrow':row=⟨(rowOf cs (o+m.sh) (len*i.size)++new')++(Builtin.zeroCells zv.cells q).toList⟩:=Array.ext' (by simpa using hrow)
        refine ⟨_,.cells row elem,⟨W.heap.size,0,(len+n+q)*i.size,i.size⟩,_,hrun,rfl,⟨rfl,rfl,rfl⟩,rfl,fun β' hle=>?_,fun β' hle e=>?_⟩
        ·rw [hrow']
         refine orel_app hg (by rw [List.all_append,hone,h4];rfl) ((LRel.append hl h3).mono hle) ?_
         rw [List.length_append,← hl.1,← h3.1,rdL_len,h5,zlen,Nat.add_mul,Nat.add_mul]
        ·exact sl_mk ⟨⟨W.heap.size,0,(len+n+q)*i.size,i.size⟩,len+n+q,e,by simp,(fun h=>by cases h),fun _=>⟨by omega,by simp⟩⟩
       | true =>
        rw [Bc_t,hb]
        simp only []
        cases e7:(Nat.beq op0 (Nat.succ i.size) && Nat.beq (o+cap*i.size) k && Nat.beq ty0 elem && (Nat.ble hi0 lo || Nat.ble o lo) && thawed (o+len*i.size) (n*i.size) lo hi0) with
        | false=>rw [Bc_f];trivial
        | true =>
         rw [Bc_t]
         simp only [Bool.and_eq_true,Bool.or_eq_true,beq_iff,ble_iff] at e7
         obtain ⟨⟨⟨⟨rfl,ek⟩,rfl⟩,hlo⟩,hth⟩:=e7
         obtain ⟨g3,g4⟩:=g2 rfl
         obtain ⟨t2,hb2,hg⟩:=blkL_eq (rdL t' (len*i.size) o++new) ty0 (Nat.succ i.size)
         obtain ⟨lo',hi',hfr,hlh⟩:∃ lo' hi',frB (Nat.blt hi0 lo) (lo-o) (hi0-o) (.cells t2 (rdL t' (len*i.size) o++new).length ty0 (Nat.succ i.size) 0 0) =
          .cells t2 (rdL t' (len*i.size) o++new).length ty0 (Nat.succ i.size) lo' hi'∧((hi0<lo∧hi'<lo')∨(lo≤hi0∧lo'=lo-o∧hi'=hi0-o)):=by
          cases e8:Nat.blt hi0 lo with
          | true=>exact ⟨1,0,rfl,.inl ⟨(blt_iff _ _).1 e8,by omega⟩⟩
          | false =>
           have:¬ hi0<lo:=fun h=>by rw [(blt_iff _ _).2 h] at e8;cases e8
           exact ⟨_,_,rfl,.inr ⟨by omega,rfl,rfl⟩⟩
         rw [hb2,hfr,alloc1_eq,nx_put,room_put]
         split
         ·rename_i hn
          refine ⟨can_fork hw ha hn,fun p=>?_⟩
          obtain ⟨new',h2,h3,h4,h5⟩:=hnew p (fun b hb=>.inl hb)
          obtain ⟨m1,cs,fr,em,hm,k1,k2,k3,k3',k4,k5⟩:=cells_of p (.inr ((bit_iff b b).2 rfl)) hb
          rw [e0] at em;cases em
          have hl:=lrel_row (sh:=m.sh) ho (by omega) k4
          have hone:=one_row ho fun j hj=>(k4 j hj).1
          have hesz:=k3' _ rfl
          have hf:β H.nx=none:=p.fresh _ (Nat.le_refl _) (by rw [nx_push,nx_put];omega)
          have hall:(rdL t' (len*i.size) o++new).all oneC=true:=by rw [List.all_append,hone,h4];rfl
          by_cases hcc:len+n≤c'
          ·
           have hmul:=Nat.mul_le_mul_right i.size hcc
           rw [Nat.add_mul] at hmul
           rw [hesz] at g4
           have hfit:o+m.sh+len*i.size+new'.length≤m.tot:=by rw [← h3.1,h5];omega
           have hthaw:=thawed_ok hth k5 (by rw [← h3.1,h5] at hfit;omega)
           have hst:=run_storeCells_g P m.rb ty0 fr (o+m.sh+len*i.size) new' 0 cs W hm (by omega) (all_one h3 h4) (fun j hj hj2=>hthaw j (by omega) (by rw [← h3.1,h5] at hj2;omega))
           rw [Nat.add_zero] at hst
           have hrun:=run_append_in (ty:=ty) (a:=⟨m.rb,o+m.sh,none⟩) h0 h1 ht hx hdx hi hlen h2 hcc (by rw [add_eq];exact hst)
           let m':Bm:=⟨m.rb,m.sh+o,m.tot,m.esz⟩
           have hle:Mp.le β (β.put H.nx m'):=Mp.le_put m' hf
           refine ⟨β.put H.nx m',_,_,hrun,sl_mk ⟨m',c',Mp.put_same _ _ _,?_,(fun h=>by cases h),fun _=>⟨hcc,?_⟩⟩,post_fork hw ha e0 hm hn hf rfl ?_ p.dom⟩
           ·show Value.slice (some ⟨m.rb,o+m.sh,none⟩) (len+n) c'=Value.slice (some ⟨m.rb,0+(m.sh+o),none⟩) (len+n) c'
            rw [show 0+(m.sh+o)=o+m.sh from by omega]
           ·show 0+(m.sh+o)+c'*m.esz=m.tot
            rw [hesz];omega
           ·have hlen2:(rdL t' (len*i.size) o++new).length=len*i.size+n*i.size:=by rw [List.length_append,rdL_len,h5]
            refine ⟨_,fr,rfl,by rw [putRow_size];exact k1,?_,(fun h=>by cases h),(fun k h=>by cases h;exact hesz),fun j hj=>?_,?_⟩
            ·show m.sh+o+_≤m.tot
             rw [hlen2];rw [← h3.1,h5] at hfit;omega
            ·have hv:(rdL t' (len*i.size) o++new)[j]?=some (rdL t' (len*i.size) o++new)[j]:=by simp [hj]
             rw [hg j _ hv]
             refine ⟨List.all_eq_true.1 hall _ (List.getElem_mem hj),?_⟩
             show ∃ v',(putRow cs (o+m.sh+len*i.size) new')[m.sh+o+j]?=some v'∧_
             rw [putRow_get _ _ _ _ (by omega)]
             rw [hlen2] at hj
             by_cases hj1:j<len*i.size
             ·rw [if_neg (by omega)]
              rw [List.getElem?_append_left (by rw [rdL_len];exact hj1),rdL_get _ _ _ _ hj1] at hv
              injection hv with hv
              rw [← hv]
              obtain ⟨_,v',ev,hr⟩:=k4 (o+j) (by omega)
              exact ⟨v',by rw [show m.sh+o+j=m.sh+(o+j) from by omega];exact ev,hr.mono hle⟩
             ·rw [if_pos (by rw [← h3.1,h5];omega)]
              rw [List.getElem?_append_right (by rw [rdL_len];omega),rdL_len] at hv
              obtain ⟨v',ev,hr⟩:=h3.get hv
              exact ⟨v',by rw [show m.sh+o+j-(o+m.sh+len*i.size)=j-len*i.size from by omega];exact ev,hr.mono hle⟩
            ·rcases hlh with ⟨hl1,hl2⟩ | ⟨hl1,rfl,rfl⟩
             ·rcases k5 with ⟨h,_⟩ | ⟨_,h⟩ | ⟨h,_⟩
              ·omega
              ·exact .inr (.inl ⟨hl2,h⟩)
              ·omega
             ·rcases k5 with ⟨h,h' | ⟨h1',h3',h2'⟩⟩ | ⟨h,_⟩ | ⟨h,h'⟩
              ·exact .inl ⟨by omega,.inl h'⟩
              ·refine .inl ⟨by omega,?_⟩
               rcases hlo with hlo | hlo
               ·exact .inl (by omega)
               ·exact .inr ⟨by show m.sh+o+(lo-o)≤fr.1;omega,h3',by show fr.2≤m.sh+o+(hi0-o);omega⟩
              ·omega
              ·refine .inr (.inr ⟨by omega,?_⟩)
               show m.tot<hi0-o
               omega
          ·have hc2:c'<len+n:=by omega
           obtain ⟨q,row,hrow,hrun⟩:=run_append_new (ty:=ty) (old:=rowOf cs (o+m.sh) (len*i.size)) (a:=some ⟨m.rb,o+m.sh,none⟩) h0 h1 ht hx hdx hi hlen h2 hc2 e5 hzv
            (fun w hw'=>run_row (by rw [hw'];exact hm) (by omega))
           have hrow':row=⟨(rowOf cs (o+m.sh) (len*i.size)++new')++(Builtin.zeroCells zv.cells q).toList⟩:=Array.ext' (by simpa using hrow)
           have c1:=can_put hw .no ha
           have hn1:(H.put b .no).room=true:=by rw [room_put];exact hn
           have c2:Can (H.put b .no) ((H.put b .no).push (.cells t2 (rdL t' (len*i.size) o++new).length ty0 (Nat.succ i.size) lo' hi')) 0:=can_push hn1
           let m':Bm:=⟨W.heap.size,0,(len+n+q)*i.size,i.size⟩
           have hle:Mp.le β (β.put H.nx m'):=Mp.le_put m' hf
           have q1:=post_forget (W:=W) hw ha p.dom
           have hor:ORel (β.put H.nx m') m' (.cells t2 (rdL t' (len*i.size) o++new).length ty0 (Nat.succ i.size) lo' hi') (.cells row ty0):=by
            rw [hrow']
            refine orel_app hg hall ((LRel.append hl h3).mono hle) ?_
            rw [List.length_append,← hl.1,← h3.1,rdL_len,h5,zlen,Nat.add_mul,Nat.add_mul]
           have q2:Post β (β.put H.nx m') (H.put b .no) ((H.put b .no).push (.cells t2 (rdL t' (len*i.size) o++new).length ty0 (Nat.succ i.size) lo' hi')) 0 W (World.pushB W (.cells row ty0)):=by
            have:=post_push (β:=β) (W:=W) (.cells t2 (rdL t' (len*i.size) o++new).length ty0 (Nat.succ i.size) lo' hi') (.cells row ty0) m' hn1 rfl (by rw [nx_put];exact hf) (by rw [nx_put];exact hor) p.dom
            rw [nx_put] at this
            exact this
           have p':Pre β H ((H.put b .no).push (.cells t2 (rdL t' (len*i.size) o++new).length ty0 (Nat.succ i.size) lo' hi')) (Nat.lor r 0) (Nat.lor (bit b) 0) W:=by
            rw [show Nat.lor r 0=r from Nat.or_zero _,show Nat.lor (bit b) 0=bit b from Nat.or_zero _];exact p
           have hp:=Post.comp c1 c2 p' q1 q2
           rw [show Nat.lor (bit b) 0=bit b from Nat.or_zero _] at hp
           exact ⟨β.put H.nx m',_,_,hrun,sl_mk ⟨m',len+n+q,Mp.put_same _ _ _,by simp [m'],(fun h=>by cases h),fun _=>⟨by omega,by simp [m']⟩⟩,hp.congr rfl ⟨rfl,rfl,rfl⟩⟩
         ·trivial
 ·trivial
end
section
variable {P:Program} {tb:Tb} (ok:TbOk P tb) {β:Mp} {H:Hp} {W:World} (hw:H.wf)
theorem shape_of {W:World} {rb:Nat} {cs:Array Value} {ty:TypeId} {fr:Nat×Nat} (h:W.heap[rb]?=some (.cells cs ty fr)):W.shape? rb=some (ty,cs.size):=by simp [World.shape?,h]
theorem liesAt_bytes_at {e:TypeId} (hc:P.cellsOf e=1) (count off n:Nat) (hn:off+n≤count):liesAt P P.depth e count off e n=true:=by
 have hd:P.depth=(2*(P.types.size+Made.depth)+1)+1:=rfl
 rw [hd]
 simp only [liesAt,Bool.or_eq_true]
 left
 rw [hd]
 simp [rowAt,hc,hn,sameLayout,Nat.mod_one]
theorem run_loadBytes_ints (w:World):∀ (l:List Int) (b off:Nat) (acc:ByteArray),(∀ (j:Nat) x,l[j]?=some x→w.cell? ⟨b,off+j,none⟩=some (.int .u8 x)) →
 (loadBytes ⟨b,off,none⟩ acc l.length).run P w=.ok ⟨acc.data++(l.map fun n=>UInt8.ofNat n.toNat).toArray⟩ w
 | [],b,off,acc,_=>by simp [loadBytes]
 | x::l,b,off,acc,h=>by
  have h0:w.cell? ⟨b,off,none⟩=some (.int .u8 x):=by have:=h 0 x rfl;simpa using this
  have ih:=run_loadBytes_ints w l b (off+1) (acc.push (UInt8.ofNat x.toNat)) (fun j y hy=>by
   have:=h (j+1) y (by simpa using hy)
   rw [show off+1+j=off+(j+1) from by omega];exact this)
  have hx:x.toNat.toUInt8=UInt8.ofNat x.toNat:=rfl
  have ha:(⟨b,off,none⟩:Addr).add 1=⟨b,off+1,none⟩:=add_eq b off 1
  simp only [List.length_cons,loadBytes,Sem.run_bind,run_load,h0,Result.andThen,hx,ha]
  rw [ih]
  congr 1
  apply ByteArray.ext
  simp [ByteArray.push]
theorem run_unsafeString_at (w:World) (pt:TypeId) (it:List TypeId) (ty e:TypeId) (hp:P.underlying pt=some (.pointer e)) (hc:P.cellsOf e=1) (g off cells:Nat) (hsh:w.shape? g=some (e,cells)) (l:List Int) (h0:l≠[]) (hn:off+l.length≤cells) (h63:l.length≤9223372036854775807)
 (hcell:∀ (j:Nat) x,l[j]?=some x→w.cell? ⟨g,off+j,none⟩=some (.int .u8 x)) :
 (Builtin.unsafeString_ ⟨pt::it⟩ ty #[.pointer (some ⟨g,off,none⟩),.int .i64 l.length]).run P w=.ok (.string ⟨(l.map fun n=>UInt8.ofNat n.toNat).toArray⟩) (w.freeze ⟨g,off,none⟩ l.length):=by
 have hl:l.length≠0:=by simpa using h0
 have hlb:=run_loadBytes_ints (P:=P) w l g off .empty hcell
 have hlies:=liesAt_bytes_at (P:=P) hc (cells / P.cellsOf e) off l.length (by rw [hc];simpa using hn)
 have h63':¬ (9223372036854775807:Int)<(l.length:Int):=by omega
 have hdef:Builtin.unsafeString_ ⟨pt::it⟩ ty #[.pointer (some ⟨g,off,none⟩),.int .i64 l.length] =
  (do
   let n ← asInt (.int .i64 l.length)
   if n < 0 then runtimePanic (.error "unsafe.String: len out of range")
   if n > IntKind.i64.max then unsupported (.unsafePointer "String: a length above the largest int")
   if n=0 then pure (.string .empty)
   else if ← variablesAt ⟨g,off,none⟩ (← elemOf pt) n.toNat then do
    let s ← loadBytes ⟨g,off,none⟩ .empty n.toNat
    freeze ⟨g,off,none⟩ n.toNat
    pure (.string s)
   else unsupported (.unsafePointer "String: not so many bytes at ptr")) := rfl
 rw [hdef]
 have hmax:IntKind.i64.max=9223372036854775807:=rfl
 have hneg:¬ (l.length:Int)<0:=by omega
 simp [asInt,asIntOf,hmax,h63',hneg,hl,variablesAt,hsh,elemOf,run_underlying hp,hlies,hlb]
theorem freeze_eq {W:World} {rb off n:Nat} {cs:Array Value} {ty:TypeId} {fr:Nat×Nat} (h:W.heap[rb]?=some (.cells cs ty fr)) (hn:n≠0) :
 W.freeze ⟨rb,off,none⟩ n=World.setB W rb (.cells cs ty (if fr.1 == fr.2 then (off,off+n) else (min fr.1 off,max fr.2 (off+n)))):=by
 obtain ⟨lo,hi⟩:=fr
 unfold World.freeze World.setB
 rw [if_neg hn]
 congr 1
 apply Array.ext_getElem?
 intro j
 rw [Array.getElem?_modify,Array.getElem?_setIfInBounds]
 have hrb:rb<W.heap.size:=by
  rcases Nat.lt_or_ge rb W.heap.size with h' | h'
  ·exact h'
  ·simp [Array.getElem?_eq_none h'] at h
 by_cases hj:rb=j
 ·subst hj;rw [h];simp [hrb]
 ·simp [hj]
include hw
theorem toU_ok {src dst t:TypeId} {k:Nat} {v v':Value} (hs:P.underlying src=some (.pointer t)) (hd:P.underlying dst=some .unsafePointer) (ht:∃ i,P.info? t=some i∧i.size=k+1) (hv:VRel β v v'):OpV P β H W (convert src dst v') (exToU v H):=by
 unfold exToU
 cases e:asPtr v with
 | none=>trivial
 | some x =>
  obtain ⟨b,o⟩:=x
  have:=asPtr_inv e;subst this
  cases hv with | ptr _ _ m0 e0 =>
  simp only []
  split
  ·rename_i t' n ty op lo hi hb
   cases hlt:Nat.blt o n with
   | false=>trivial
   | true =>
    rw [Bc_t]
    refine opv_read hw fun p=>?_
    obtain ⟨m,cs,fr,em,hm,h1,h2,_⟩:=cells_of p (.inl ((bit_iff b b).2 rfl)) hb
    rw [e0] at em;cases em
    obtain ⟨i,hi,hk⟩:=ht
    have:=(blt_iff _ _).1 hlt
    exact ⟨_,Lib.run_to_unsafe W ⟨m0.rb,o+m0.sh,none⟩ hs hd hi (by omega) (shape_of hm) (by show o+m0.sh<cs.size;omega),.ptr b o m0 e0⟩
  ·trivial
omit hw in
theorem liesIn_inv {ty n o:Nat}:∀ {l:List (Nat×Nat×Nat)},liesIn ty n o l=true→(ty,n,o)∈l:=by
 intro l
 induction l with
 | nil=>intro h;cases h
 | cons x l ih =>
  obtain ⟨a,b,c⟩:=x
  intro h
  simp only [liesIn] at h
  cases hc:(Nat.beq a ty && Nat.beq b n && Nat.beq c o) with
  | true =>
   simp only [Bool.and_eq_true,beq_iff] at hc
   obtain ⟨⟨rfl,rfl⟩,rfl⟩:=hc
   simp
  | false=>rw [hc,Bc_f] at h;simp [ih h]
include ok in
theorem frU_ok {src dst u:TypeId} {k:Nat} {v v':Value} (hs:P.underlying src=some .unsafePointer) (hd:P.underlying dst=some (.pointer u)) (hu:∃ i,P.info? u=some i∧i.size=k+1) (hv:VRel β v v'):OpV P β H W (convert src dst v') (exFrU (tb.lies u) v H):=by
 unfold exFrU
 cases e:asPtr v with
 | none=>trivial
 | some x =>
  obtain ⟨b,o⟩:=x
  have:=asPtr_inv e;subst this
  cases hv with | ptr _ _ m0 e0 =>
  simp only []
  split
  ·rename_i t' n ty lo hi hb
   cases hl:liesIn ty n o (tb.lies u) with
   | false=>trivial
   | true =>
    rw [Bc_t]
    refine opv_read hw fun p=>?_
    obtain ⟨m,cs,fr,em,hm,h1,h2,h3,_⟩:=cells_of p (.inl ((bit_iff b b).2 rfl)) hb
    rw [e0] at em;cases em
    obtain ⟨i,hi,hk⟩:=hu
    obtain ⟨h4,h5⟩:=h3 rfl
    have hlies:=ok.lies u ty n o (liesIn_inv hl)
    refine ⟨_,Lib.run_from_unsafe W ⟨m0.rb,o+m0.sh,none⟩ hs hd hi (shape_of hm) ?_,.ptr b o m0 e0⟩
    show liesAt P P.depth ty (cs.size / P.cellsOf ty) (o+m0.sh) u 1=true
    rw [h4,h1,h5];exact hlies
  ·trivial
theorem usd_ok {at_:Array TypeId} {ty:TypeId} {v v':Value} (hv:VRel β v v'):OpV P β H W (Builtin.unsafeSliceData_ at_ ty #[v']) (exUsd v H):=by
 unfold exUsd
 split
 ·rename_i l c op h
  obtain ⟨_,rfl⟩:=sl_of h hv
  exact opv_pure hw (v':=.pointer none) (Lib.run_unsafeSliceData_nil W at_ ty l c) .ptr0
 ·rename_i b o l c op h
  obtain ⟨m,c',em,rfl,h1,h2⟩:=sl_of h hv
  cases hc:Nat.beq c 0 with
  | true=>trivial
  | false =>
   rw [Bc_f]
   have hc0:c≠0:=fun e=>by rw [(beq_iff _ _).2 e] at hc;cases hc
   refine opv_pure hw (v':=.pointer (some ⟨m.rb,o+m.sh,none⟩)) (Lib.run_unsafeSliceData_row W at_ ty ⟨m.rb,o+m.sh,none⟩ l c' ?_) (.ptr b o m em)
   cases op with
   | false=>rw [h1 rfl];exact hc0
   | true=>have:=(h2 rfl).1;omega
 ·trivial
omit hw in
theorem frok_hull {m:Bm} {lo hi o n:Nat} {fr:Nat×Nat} (hle:lo≤hi) (h:FrOk m lo hi fr):FrOk m (frHull lo hi o n).1 (frHull lo hi o n).2 (if fr.1 == fr.2 then (o+m.sh,o+m.sh+n) else (min fr.1 (o+m.sh),max fr.2 (o+m.sh+n))):=by
 by_cases h3:lo=0∧m.tot<hi
 ·have hb:Nat.ble hi lo=false:=by rw [ble_f];omega
  unfold frHull
  rw [hb,Bc_f]
  have h4:Nat.min lo o=0:=by rw [h3.1];exact Nat.zero_min o
  have h5:hi≤Nat.max hi (o+n):=Nat.le_max_left _ _
  exact .inr (.inr ⟨h4,by show m.tot<Nat.max hi (o+n);omega⟩)
 have h':fr.1=fr.2∨(m.sh+lo≤fr.1∧fr.1≤fr.2∧fr.2≤m.sh+hi):=by
  rcases h with h | h | h
  ·exact h.2
  ·omega
  ·exact absurd h h3
 unfold frHull
 left
 have hmin:Nat.min lo o≤o∧Nat.min lo o≤lo:=⟨Nat.min_le_right _ _,Nat.min_le_left _ _⟩
 have hmax:o+n≤Nat.max hi (o+n)∧hi≤Nat.max hi (o+n):=⟨Nat.le_max_right _ _,Nat.le_max_left _ _⟩
 cases hb:Nat.ble hi lo with
 | true =>
  have:=(ble_iff _ _).1 hb
  rw [Bc_t]
  have he:fr.1=fr.2:=by omega
  simp only [he,beq_self_eq_true,if_true]
  omega
 | false =>
  rw [Bc_f]
  by_cases he:fr.1=fr.2
  ·simp only [he,beq_self_eq_true,if_true];omega
  ·have hne:(fr.1 == fr.2)=false:=by simpa using he
   simp only [hne,Bool.false_eq_true,if_false]
   have:=h'.resolve_left he
   omega
omit hw in
theorem run_unsafeString_none' (W:World) (pt:TypeId) (it:List TypeId) (ty:TypeId) (p:Option Addr):(Builtin.unsafeString_ ⟨pt::it⟩ ty #[.pointer p,.int .i64 0]).run P W=.ok (.string .empty) W:=by
 have hmax:IntKind.i64.max=9223372036854775807:=rfl
 cases p with
 | none =>
  have hdef:Builtin.unsafeString_ ⟨pt::it⟩ ty #[.pointer none,.int .i64 0] =
   (do
    let n ← asInt (.int .i64 0)
    if n < 0 then runtimePanic (.error "unsafe.String: len out of range")
    if n > IntKind.i64.max then unsupported (.unsafePointer "String: a length above the largest int")
    if n=0 then pure (.string .empty)
    else runtimePanic (.error "unsafe.String: ptr is nil and len is not zero")) := rfl
  rw [hdef]
  simp [asInt,asIntOf,hmax]
 | some a =>
  have hdef:Builtin.unsafeString_ ⟨pt::it⟩ ty #[.pointer (some a),.int .i64 0] =
   (do
    let n ← asInt (.int .i64 0)
    if n < 0 then runtimePanic (.error "unsafe.String: len out of range")
    if n > IntKind.i64.max then unsupported (.unsafePointer "String: a length above the largest int")
    if n=0 then pure (.string .empty)
    else if ← variablesAt a (← elemOf pt) n.toNat then do
     let s ← loadBytes a .empty n.toNat
     freeze a n.toNat
     pure (.string s)
    else unsupported (.unsafePointer "String: not so many bytes at ptr")) := rfl
  rw [hdef]
  simp [asInt,asIntOf,hmax]
theorem ustr_ok {at_:Array TypeId} {pt e ty:TypeId} {p n p' n':Value} (ha:at_[0]?=some pt) (hp:P.underlying pt=some (.pointer e)) (hc:P.cellsOf e=1) (hvp:VRel β p p') (hvn:VRel β n n'):OpV P β H W (Builtin.unsafeString_ at_ ty #[p',n']) (exUstr e p n H):=by
 obtain ⟨it,rfl⟩:∃ it,at_=⟨pt::it⟩:=by
  obtain ⟨l⟩:=at_
  cases l with
  | nil=>simp at ha
  | cons x l=>simp at ha;subst ha;exact ⟨l,rfl⟩
 unfold exUstr
 split
 ·rename_i z
  cases hvn
  cases ez:natI z with
  | none=>trivial
  | some m =>
   have:=natI_inv ez;subst this
   cases m with
   | zero =>
    simp only []
    split
    ·rename_i a
     have:∃ a',p'=.pointer a':=by cases hvp <;> exact ⟨_,rfl⟩
     obtain ⟨a',rfl⟩:=this
     exact opv_pure hw (v':=.string .empty) (run_unsafeString_none' W pt it ty a') (.string _)
    ·trivial
   | succ m =>
    simp only []
    cases ep:asPtr p with
    | none=>trivial
    | some x =>
     obtain ⟨b,o⟩:=x
     have:=asPtr_inv ep;subst this
     cases hvp with | ptr _ _ m0 e0 =>
     simp only []
     split
     ·rename_i t k ty' op lo hi hb
      cases hcd:(Nat.beq ty' e && Nat.ble (o+(m+1)) k && Nat.ble lo hi && Nat.ble k 1073741824) with
      | false=>trivial
      | true =>
       rw [Bc_t]
       simp only [Bool.and_eq_true,beq_iff,ble_iff] at hcd
       obtain ⟨⟨⟨rfl,hok⟩,hlohi⟩,hkk⟩:=hcd
       cases es:strOf (rdL t (m+1) o) with
       | none=>trivial
       | some s =>
        simp only []
        have hal:alive H b:=(alive_iff H b).2 (by rw [hb];simp)
        refine ⟨can_put hw _ hal,fun pp=>?_⟩
        obtain ⟨mm,cs,fr,em,hm,h1,h2,h3,h3',h4,h5⟩:=cells_of pp (.inl ((bit_iff b b).2 rfl)) hb
        rw [e0] at em;cases em
        have hl:=lrel_row (sh:=m0.sh) hok (by omega) h4
        obtain ⟨ns,e3,rfl⟩:=strOf_inv es
        rw [e3] at hl
        have h6:=lrel_ints hl
        have hlen:ns.length=m+1:=by
         have:=congrArg List.length e3
         rw [rdL_len] at this;simpa using this.symm
        have hcell:∀ (j:Nat) x,ns[j]?=some x→W.cell? ⟨m0.rb,o+m0.sh+j,none⟩=some (.int .u8 x):=by
         intro j x hx
         rw [cell_of hm]
         have hj:j<m+1:=by
          rcases Nat.lt_or_ge j ns.length with h | h
          ·omega
          ·rw [List.getElem?_eq_none h] at hx;cases hx
         have:=rowOf_get (cs:=cs) (p:=o+m0.sh) (k:=m+1) hj
         rw [← this]
         have h7:(rowOf cs (o+m0.sh) (m+1))[j]?=(ns.map (Value.int .u8))[j]?:=by rw [h6]
         rw [h7];simp [hx]
        have hrun:=run_unsafeString_at (P:=P) W pt it ty ty' hp hc m0.rb (o+m0.sh) cs.size (shape_of hm) ns (by intro h;rw [h] at hlen;simp at hlen) (by omega) (by omega) hcell
        rw [hlen,freeze_eq hm (by omega)] at hrun
        refine ⟨β,_,_,hrun,.string _,?_⟩
        exact post_put _ hw hal e0 hm ⟨cs,_,rfl,h1,h2,h3,h3',h4,frok_hull (o:=o) (n:=m+1) hlohi h5⟩ pp.dom
     ·trivial
 ·trivial
end
theorem lrel_eval {β:Mp} {t:T Value} {ρ:Operand→Value}:∀ {xs:List Operand},(∀ x∈xs,VRel β (evalO t x) (ρ x))→LRel β (evalL t xs) (xs.map ρ):=by
 intro xs
 induction xs with
 | nil=>intro _;exact LRel.nil β
 | cons x xs ih=>intro h;exact LRel.cons (h x (by simp)) (ih fun y hy=>h y (by simp [hy]))
theorem orl_eval {β:Mp} {t:T Value} {ρ:Operand→Value} {x:Option Operand} (h:∀ y∈x,VRel β (evalO t y) (ρ y)):ORl β (evalM t x) (x.map ρ):=by
 cases x with
 | none=>trivial
 | some y=>exact h y rfl
section
variable {P:Program} {tb:Tb} (ok:TbOk P tb) {β:Mp} {H:Hp} {W:World} (hw:H.wf) {ρ:Operand→Value} {t:T Value}
include ok hw
theorem eq_ok {neg:Bool} {ty:TypeId} {x y:Operand} (hx:VRel β (evalO t x) (ρ x)) (hy:VRel β (evalO t y) (ρ y)) :
 OpV P β H W (do eqGuard (if neg then .neq else .eql) ty x y (ρ x) (ρ y);binOp (if neg then .neq else .eql) ty (ρ x) (ρ y)) (run (compEq tb neg ty x y) t H):=by
 obtain ⟨c,hc⟩:∃ c,compEq tb neg ty x y=c:=⟨_,rfl⟩
 rw [hc]
 unfold compEq at hc
 split at hc
 ·rename_i ms e
  split at hc
  ·rename_i hcc
   subst hc
   simp only [Bool.or_eq_true] at hcc
   refine leafEq_ok ok hw (d:=.interface ms) rfl (ok.und _ _ e) hx hy fun _=>?_
   rcases hcc with (h | h) | h
   ·exact .inl h
   ·exact .inr (.inl h)
   ·right;right
    rw [ok.und _ _ e]
    have:ms = #[]:=Array.isEmpty_iff.1 h
    rw [this]
  ·subst hc;trivial
 ·rename_i hni
  split at hc
  ·rename_i p e
   subst hc
   unfold eqPlan at e
   split at e
   ·rename_i fs e1
    split at e
    ·rename_i l n e2 e3
     cases e
     exact manyEq_ok ok hw e2 e3 ⟨fs,e1⟩ hx hy
    ·cases e
   ·cases e
   ·rename_i d hd1 hd2 e1
    split at e
    ·rename_i l e2
     cases e
     refine leafEq_ok ok hw e2 (ok.und _ _ e1) hx hy fun hl=>?_
     subst hl
     exfalso
     unfold leafOf at e2
     split at e2 <;> try (cases e2;done)
     ·split at e2 <;> cases e2
     ·exact hni _ e1
    ·cases e
   ·cases e
  ·subst hc;trivial
omit hw in
theorem at0_inv {at_:Array TypeId} {d:TypeDesc} (h:at0 tb at_=some d):∃ ty,at_[0]?=some ty∧P.underlying ty=some d:=by
 unfold at0 at h
 split at h
 ·rename_i ty r e
  exact ⟨ty,by rw [← Array.getElem?_toList,e];rfl,ok.und _ _ h⟩
 ·cases h
omit hw in
theorem at1_inv {at_:Array TypeId} {d:TypeDesc} (h:at1 tb at_=some d):∃ ty,at_[1]?=some ty∧P.underlying ty=some d:=by
 unfold at1 at h
 split at h
 ·rename_i ty1 ty r e
  exact ⟨ty,by rw [← Array.getElem?_toList,e];rfl,ok.und _ _ h⟩
 ·cases h
omit ok hw in
theorem exec_builtin {b:Builtin} {args:Array Operand} {at_:Array TypeId} {dst:Option Tmp} {type:TypeId} {pos:String} {after:Array Edge} {guard:Option (Nat×Bool)} :
 (execOp ρ ⟨dst,.call ⟨.builtin b,args,at_⟩,type,pos,after,guard⟩).run P W=(builtin b at_ type (args.map fun | .const _=>true | _=>false) (args.map ρ)).run P W:=rfl
theorem builtin_ok {b:Builtin} {args:Array Operand} {at_:Array TypeId} {dst:Option Tmp} {type:TypeId} {pos:String} {after:Array Edge} {guard:Option (Nat×Bool)} (hv:∀ x∈args.toList,VRel β (evalO t x) (ρ x)) :
 OpS P β H W (execOp ρ ⟨dst,.call ⟨.builtin b,args,at_⟩,type,pos,after,guard⟩) (run (compB tb b at_ args.toList) t H):=by
 refine ops_congr exec_builtin ?_
 obtain ⟨args⟩:=args
 simp only at hv
 obtain ⟨c,hc⟩:∃ c,compB tb b at_ args=c:=⟨_,rfl⟩
 show OpS P β H W _ (run (compB tb b at_ args) t H)
 have hm:(⟨args⟩:Array Operand).map ρ=⟨args.map ρ⟩:=Array.ext' (by simp)
 rw [hc,hm]
 unfold compB at hc
 split at hc
 ·rename_i s x
  have hs:=hv s (by simp)
  have hx:=hv x (by simp)
  split at hc
  ·subst hc;trivial
  ·rename_i elem dx hdx e1 e2
   split at hc
   ·rename_i i e3
    split at hc
    ·rename_i z e4
     split at hc
     ·rename_i e5
      subst hc
      obtain ⟨t0,g0,g1⟩:=at0_inv ok e1
      obtain ⟨t1,g2,g3⟩:=at1_inv ok e2
      have:=app_ok (P:=P) (W:=W) (ty:=type) hw g0 g2 g1 g3 (fun k h=>hdx k h) (ok.info _ _ e3) e4 ((beq_iff _ _).1 e5) hs hx
      exact ops_v this
     ·subst hc;trivial
    ·subst hc;trivial
   ·subst hc;trivial
  ·subst hc;trivial
 ·rename_i x
  have hx:=hv x (by simp)
  split at hc
  ·rename_i n elem e1
   subst hc
   obtain ⟨t0,g0,g1⟩:=at0_inv ok e1
   exact ops_v (lenA_ok hw g0 g1)
  ·rename_i e1
   subst hc
   obtain ⟨t0,g0,g1⟩:=at0_inv ok e1
   exact ops_v (len_ok hw g0 g1 (.inl ⟨rfl,rfl⟩) hx)
  ·rename_i e e1
   subst hc
   obtain ⟨t0,g0,g1⟩:=at0_inv ok e1
   exact ops_v (len_ok hw g0 g1 (.inr (.inl ⟨rfl,e,rfl⟩)) hx)
  ·rename_i a b e1
   subst hc
   obtain ⟨t0,g0,g1⟩:=at0_inv ok e1
   exact ops_v (len_ok hw g0 g1 (.inr (.inr ⟨rfl,a,b,rfl⟩)) hx)
  ·subst hc;trivial
 ·rename_i x
  have hx:=hv x (by simp)
  split at hc
  ·rename_i e e1
   subst hc
   obtain ⟨t0,g0,g1⟩:=at0_inv ok e1
   exact ops_v (cap_ok hw g0 g1 hx)
  ·subst hc;trivial
 ·rename_i d x
  have hd:=hv d (by simp)
  have hx:=hv x (by simp)
  split at hc
  ·rename_i elem e1
   split at hc
   ·rename_i sz e2
    subst hc
    obtain ⟨i,hi',rfl⟩:=szOf_inv ok e2
    obtain ⟨t0,g0,g1⟩:=at0_inv ok e1
    exact ops_v (copy_ok ok hw g0 g1 hi' hd hx)
   ·subst hc;trivial
  ·subst hc;trivial
 ·rename_i x
  have hx:=hv x (by simp)
  split at hc
  ·rename_i elem e1
   split at hc
   ·rename_i z e2
    subst hc
    obtain ⟨t0,g0,g1⟩:=at0_inv ok e1
    exact ops_v (clear_ok ok hw g0 g1 e2 hx)
   ·subst hc;trivial
  ·subst hc;trivial
 ·rename_i x y
  subst hc
  exact ops_v (min_ok hw (hv x (by simp)) (hv y (by simp)))
 ·rename_i x y
  subst hc
  exact ops_v (max_ok hw (hv x (by simp)) (hv y (by simp)))
 ·rename_i x y z
  subst hc
  exact ops_v (min3_ok hw (hv x (by simp)) (hv y (by simp)) (hv z (by simp)))
 ·rename_i x y z
  subst hc
  exact ops_v (max3_ok hw (hv x (by simp)) (hv y (by simp)) (hv z (by simp)))
 ·subst hc;rfl
 ·rename_i x
  subst hc
  exact ops_v (usd_ok hw (hv x (by simp)))
 ·rename_i p n
  split at hc
  ·rename_i e e1
   split at hc
   ·rename_i e2 e3
    subst hc
    obtain ⟨t0,g0,g1⟩:=at0_inv ok e1
    obtain ⟨i,hi',hsz⟩:=szOf_inv ok e3
    exact ops_v (ustr_ok hw g0 g1 (by simp [Program.cellsOf,hi',hsz]) (hv p (by simp)) (hv n (by simp)))
   ·subst hc;trivial
  ·subst hc;trivial
 ·rename_i m k
  split at hc
  ·rename_i key elem e1
   split at hc
   ·rename_i p e2
    subst hc
    obtain ⟨t0,g0,g1⟩:=at0_inv ok e1
    exact ops_v (del_ok ok hw g0 g1 e2 (hv m (by simp)) (hv k (by simp)))
   ·subst hc;trivial
  ·subst hc;trivial
 ·subst hc;trivial
theorem run_ok {o:Oper} (hv:∀ x∈o.op.operands.toList,VRel β (evalO t x) (ρ x)):OpS P β H W (execOp ρ o) (run (compOp tb o) t H):=by
 obtain ⟨dst,op,type,pos,after,guard⟩:=o
 cases op with
 | move x=>exact ops_v (opv_pure hw (s:=pure (ρ x)) rfl (hv x (by simp [Op.operands])))
 | assign x=>exact ops_v (opv_pure hw (s:=pure (ρ x)) rfl (hv x (by simp [Op.operands])))
 | pick c a b =>
  have:=pick_ok (P:=P) (W:=W) hw (hv c (by simp [Op.operands])) (hv a (by simp [Op.operands])) (hv b (by simp [Op.operands]))
  exact ops_congr (by simp [execOp]) (ops_v this)
 | alloc elem =>
  simp only [compOp]
  split
  ·rename_i n v hu;exact ops_v (allocU_ok ok hu)
  ·split
   ·rename_i z hz;exact ops_v (allocOp_ok ok hz)
   ·trivial
 | box elem x=>exact ops_v (box_ok (hv x (by simp [Op.operands])))
 | build ty parts =>
  have hp:∀ p∈parts.toList,VRel β (evalO t p.2) (ρ p.2):=fun p hp=>hv p.2 (by simp only [Op.operands];simp;exact ⟨p.1,by simpa using hp⟩)
  have hm:(parts.map fun (i,x)=>(i,ρ x))=(parts.toList.map fun (i,x)=>(i,ρ x)).toArray:=by
   apply Array.ext';simp
  simp only [compOp]
  split
  ·rename_i fields z e1 e2
   split
   ·rename_i l e3 e4
    have:=buildS_ok (W:=W) ok hw (ok.und _ _ e1) e2 e3 e4 hp
    rw [← hm] at this
    exact ops_v this
   ·trivial
  ·rename_i n elem z e1 e2
   split
   ·rename_i s e3
    have:=buildA_ok (W:=W) ok hw (ok.und _ _ e1) e2 e3 hp
    rw [← hm] at this
    exact ops_v this
   ·trivial
  ·trivial
 | buildSlice ty len parts =>
  have hp:∀ p∈parts.toList,VRel β (evalO t p.2) (ρ p.2):=fun p hp=>hv p.2 (by simp only [Op.operands];simp;exact ⟨p.1,by simpa using hp⟩)
  have hm:(parts.map fun (i,x)=>(i,ρ x))=(parts.toList.map fun (i,x)=>(i,ρ x)).toArray:=by
   apply Array.ext';simp
  simp only [compOp]
  split
  ·rename_i elem e1
   split
   ·rename_i s z e2 e3
    cases e4:(Nat.beq z.length s && Nat.ble (len*s) 16777216) with
    | false=>rw [Bc_f];trivial
    | true =>
     rw [Bc_t]
     simp only [Bool.and_eq_true,beq_iff,ble_iff] at e4
     have:=bslice_ok (H:=H) (W:=W) ok (ok.und _ _ e1) e3 e2 e4.1 e4.2 hp
     rw [← hm] at this
     exact ops_v this
   ·trivial
  ·trivial
 | load ty a =>
  have ha:=hv a (by simp [Op.operands])
  simp only [compOp]
  split
  ·rename_i e1
   split
   ·rename_i n e2;exact ops_v (ldN_ok ok hw e1 e2 ha)
   ·trivial
  ·rename_i e1;exact ops_v (ld1_ok ok hw e1 ha)
  ·trivial
 | store ty a x =>
  simp only [compOp]
  split
  ·rename_i n e1;exact ops_u (st_ok ok hw e1 (hv a (by simp [Op.operands])) (hv x (by simp [Op.operands])))
  ·trivial
 | nilCheck x =>
  have hx:=hv x (by simp [Op.operands])
  show OpS P β H W _ (exNil (evalO t x) H)
  generalize hr:ρ x=v' at hx
  generalize evalO t x=v at hx
  have keep:=hx
  cases hx <;> first
   | trivial
   | exact ⟨Can.refl hw,fun p=>⟨β,W,_,.inl (by simp [execOp,hr]),keep,Post.refl p.dom⟩⟩
 | binOp op ty x y k =>
  have hx:=hv x (by simp [Op.operands])
  have hy:=hv y (by simp [Op.operands])
  cases op with
  | eql=>exact ops_v (eq_ok ok hw (neg:=false) hx hy)
  | neq=>exact ops_v (eq_ok ok hw (neg:=true) hx hy)
  | _=>exact ops_v (bin_ok hw hx hy)
 | unOp op k x=>exact ops_v (un_ok hw (hv x (by simp [Op.operands])))
 | convert src dst x =>
  have hx:=hv x (by simp [Op.operands])
  simp only [compOp]
  split
  ·rename_i k1 k e1 e2;exact ops_v (cInt_ok hw (ok.und _ _ e1) (ok.und _ _ e2) hx)
  ·rename_i k1 e1 e2;exact ops_v (cChr_ok hw (ok.und _ _ e1) (ok.und _ _ e2) hx)
  ·rename_i e1 e2;exact ops_v (cSS_ok hw (ok.und _ _ e1) (ok.und _ _ e2) hx)
  ·rename_i e e1 e2
   split
   ·rename_i k e3;exact ops_v (toU_ok hw (ok.und _ _ e1) (ok.und _ _ e2) (szOf_inv ok e3) hx)
   ·trivial
  ·rename_i u e1 e2
   split
   ·rename_i k e3;exact ops_v (frU_ok ok hw (ok.und _ _ e1) (ok.und _ _ e2) (szOf_inv ok e3) hx)
   ·trivial
  ·rename_i e e1 e2
   split
   ·rename_i e3;exact ops_v (cToB_ok (ok.und _ _ e1) (ok.und _ _ e2) (ok.und _ _ e3) hx)
   ·trivial
  ·rename_i e e1 e2
   split
   ·rename_i e3;exact ops_v (cToS_ok hw (ok.und _ _ e1) (ok.und _ _ e3) (ok.und _ _ e2) hx)
   ·trivial
  ·trivial
 | makeInterface ty x =>
  simp only [compOp]
  split
  ·trivial
  ·rename_i d hd e1;exact ops_v (mkI_ok hw (ok.und _ _ e1) (fun ms h=>hd ms h) (hv x (by simp [Op.operands])))
  ·trivial
 | makeFunc fn first captured =>
  simp only [compOp]
  split
  ·rename_i f
   have h1:LRel β (evalL t first.toList) (first.map ρ).toList:=by rw [Array.toList_map];exact lrel_eval fun x hx=>hv x (by simp only [Op.operands];simp;left;simpa using hx)
   have h2:LRel β (evalL t captured.toList) (captured.map ρ).toList:=by rw [Array.toList_map];exact lrel_eval fun x hx=>hv x (by simp only [Op.operands];simp;right;simpa using hx)
   exact ops_v (mkF_ok hw h1 h2)
  ·trivial
 | makeMap ty r =>
  cases r with
  | none=>exact ops_v (mkM_ok (.inl rfl))
  | some x =>
   cases x with
   | const v =>
    cases v <;> try trivial
    rename_i k n
    simp only [compOp]
    split
    ·rename_i a b e1
     have hx:=hv (.const (.int k n)) (by simp [Op.operands])
     refine ops_v (mkM_ok (r:=some (ρ (.const (.int k n)))) (.inr ?_))
     generalize ρ (.const (.int k n))=v' at hx
     simp only [evalO] at hx
     cases hx
     exact ⟨_,_,_,_,rfl,ok.und _ _ e1⟩
    ·trivial
   | _=>trivial
 | makeSlice ty l c =>
  simp only [compOp]
  split
  ·rename_i elem e1
   split
   ·rename_i z ti e2 e3
    cases e4:Nat.beq z.length ti.size with
    | false=>rw [Bc_f];trivial
    | true =>
     rw [Bc_t]
     exact ops_v (mkSl_ok ok hw (ok.und _ _ e1) e2 e3 ((beq_iff _ _).1 e4) (hv l (by simp [Op.operands])) (hv c (by simp [Op.operands])))
   ·trivial
  ·trivial
 | slice ty x lo hi mx =>
  have hx:=hv x (by simp [Op.operands])
  have r1:ORl β (evalM t lo) (lo.map ρ):=orl_eval fun y hy=>hv y (by simp only [Op.operands];simp;right;left;simpa using hy)
  have r2:ORl β (evalM t hi) (hi.map ρ):=orl_eval fun y hy=>hv y (by simp only [Op.operands];simp;right;right;left;simpa using hy)
  have r3:ORl β (evalM t mx) (mx.map ρ):=orl_eval fun y hy=>hv y (by simp only [Op.operands];simp;right;right;right;simpa using hy)
  simp only [compOp]
  split
  ·rename_i e1
   split
   ·exact ops_v (slS_ok hw (ok.und _ _ e1) hx r1 r2)
   ·trivial
  ·rename_i elem e1
   split
   ·rename_i sz e2
    obtain ⟨i,hi',rfl⟩:=szOf_inv ok e2
    exact ops_v (slL_ok hw (ok.und _ _ e1) hi' hx r1 r2 r3)
   ·trivial
  ·rename_i n elem e1
   split
   ·rename_i sz e2
    obtain ⟨i,hi',rfl⟩:=szOf_inv ok e2
    exact ops_v (slA_ok hw (ok.und _ _ e1) hi' hx r1 r2 r3)
   ·trivial
  ·trivial
 | fieldAddr s x f =>
  have hx:=hv x (by simp [Op.operands])
  simp only [compOp]
  split
  ·rename_i fields e1
   split
   ·rename_i fd e2
    split
    ·rename_i n e3
     obtain ⟨i,hi',hn⟩:=szOf_inv ok e3
     exact ops_v (fa_ok hw (ok.und _ _ e1) e2 hi' hn hx)
    ·trivial
   ·trivial
  ·trivial
 | field s x f =>
  have hx:=hv x (by simp [Op.operands])
  simp only [compOp]
  split
  ·rename_i fields e1
   split
   ·rename_i fd e2
    split
    ·rename_i n ag e3 e4
     obtain ⟨i,hi',rfl⟩:=szOf_inv ok e3
     exact ops_v (fld_ok ok hw (ok.und _ _ e1) e2 hi' e4 hx)
    ·trivial
   ·trivial
  ·trivial
 | indexAddr ty x ix =>
  have hx:=hv x (by simp [Op.operands])
  have hi:=hv ix (by simp [Op.operands])
  simp only [compOp]
  split
  ·rename_i n elem e1
   split
   ·rename_i sz e2
    obtain ⟨i,hi',rfl⟩:=szOf_inv ok e2
    exact ops_v (iaA_ok hw (ok.und _ _ e1) hi' hx hi)
   ·trivial
  ·rename_i elem e1
   split
   ·rename_i sz e2
    obtain ⟨i,hi',rfl⟩:=szOf_inv ok e2
    exact ops_v (iaS_ok hw (ok.und _ _ e1) hi' hx hi)
   ·trivial
  ·trivial
 | index ty x ix =>
  have hx:=hv x (by simp [Op.operands])
  have hi:=hv ix (by simp [Op.operands])
  simp only [compOp]
  split
  ·rename_i n elem e1
   split
   ·rename_i sz ag e2 e3
    obtain ⟨i,hi',rfl⟩:=szOf_inv ok e2
    exact ops_v (ixA_ok ok hw (ok.und _ _ e1) hi' e3 hx hi)
   ·trivial
  ·rename_i e1;exact ops_v (ixS_ok hw (ok.und _ _ e1) hx hi)
  ·trivial
 | lookup ty m k okb =>
  simp only [compOp]
  split
  ·rename_i key elem e1
   split
   ·rename_i z p e2 e3
    exact ops_v (lkp_ok ok hw (ok.und _ _ e1) e2 e3 (hv m (by simp [Op.operands])) (hv k (by simp [Op.operands])))
   ·trivial
  ·trivial
 | mapUpdate ty m k x =>
  simp only [compOp,compMup]
  split
  ·rename_i key elem e1
   split
   ·rename_i p e2
    exact ops_u (mup_ok ok hw (ok.und _ _ e1) e2 (hv m (by simp [Op.operands])) (hv k (by simp [Op.operands])) (hv x (by simp [Op.operands])))
   ·trivial
  ·trivial
 | insert ty m k x =>
  simp only [compOp,compMup]
  split
  ·rename_i key elem e1
   split
   ·rename_i p e2
    exact ops_u (mup_ok ok hw (ok.und _ _ e1) e2 (hv m (by simp [Op.operands])) (hv k (by simp [Op.operands])) (hv x (by simp [Op.operands])))
   ·trivial
  ·trivial
 | range ty x =>
  have hx:=hv x (by simp [Op.operands])
  simp only [compOp]
  split
  ·rename_i e1;exact ops_v (rngS_ok (ok.und _ _ e1) hx)
  ·rename_i a b e1;exact ops_v (rngM_ok (ok.und _ _ e1) hx)
  ·trivial
 | next it b =>
  have hx:=hv it (by simp [Op.operands])
  cases b with
  | true=>exact ops_v (nxtS_ok hw hx)
  | false=>exact ops_v (nxtM_ok hw hx)
 | typeAssert x xt ty okb =>
  have hx:=hv x (by simp [Op.operands])
  simp only [compOp]
  split
  ·trivial
  ·rename_i d hd e1
   split
   ·rename_i z e2
    obtain ⟨i,hi',hz,hf⟩:=zeroV_inv ok e2
    exact ops_v (tas_ok hw (ok.und _ _ e1) (fun ms h=>hd ms h) hi' hz hf hx)
   ·trivial
  ·trivial
 | extract x i=>exact ops_v (ext_ok hw (hv x (by simp [Op.operands])))
 | call c =>
  obtain ⟨callee,args,at_⟩:=c
  have hargs:∀ x∈args.toList,VRel β (evalO t x) (ρ x):=fun x hx=>hv x (by simp only [Op.operands,Call.operands];simp;right;simpa using hx)
  cases callee with
  | builtin b=>exact builtin_ok ok hw hargs
  | value f =>
   have hf:=hv f (by simp [Op.operands,Call.operands])
   have hl:LRel β (evalL t args.toList) (args.map ρ).toList:=by rw [Array.toList_map];exact lrel_eval hargs
   show OpS P β H W _ (callV (evalO t f) (evalL t args.toList))
   generalize hr:ρ f=f' at hf
   generalize evalO t f=fv at hf
   unfold callV
   cases hf <;> try trivial
   ·rename_i f as as' cs cs' h1 h2 h3 h4
    refine ⟨((⟨as'⟩:Array Value)++args.map ρ)++(⟨cs'⟩:Array Value),?_,?_⟩
    ·simp [execOp,resolve,Deferred.ofValue,hr,invoke]
    ·have:=LRel.append (a:=as) (a':=as') ⟨h1,h2⟩ (LRel.append hl (b:=cs) (b':=cs') ⟨h3,h4⟩)
     simpa using this
   ·rename_i l m e
    refine ⟨m,args.map ρ,e,?_,?_⟩
    ·simp [execOp,resolve,Deferred.ofValue,hr,invoke]
    ·simpa using hl
  | invoke r n=>trivial
 | defer c =>
  obtain ⟨callee,args,at_⟩:=c
  have hargs:∀ x∈args.toList,VRel β (evalO t x) (ρ x):=fun x hx=>hv x (by simp only [Op.operands,Call.operands];simp;right;simpa using hx)
  cases callee with
  | value f =>
   have hf:=hv f (by simp [Op.operands,Call.operands])
   have hl:LRel β (evalL t args.toList) (args.map ρ).toList:=by rw [Array.toList_map];exact lrel_eval hargs
   show OpS P β H W _ (deferV (evalO t f) (evalL t args.toList))
   generalize hr:ρ f=f' at hf
   generalize evalO t f=fv at hf
   unfold deferV
   cases hf <;> try trivial
   ·rename_i f as as' cs cs' h1 h2 h3 h4
    refine ⟨{ target:=.fn (.func f) ⟨cs'⟩,args:=(⟨as'⟩:Array Value)++args.map ρ },?_,⟨rfl,⟨h3,h4⟩⟩,?_⟩
    ·simp [execOp,resolve,Deferred.ofValue,hr]
    ·have:=LRel.append (a:=as) (a':=as') ⟨h1,h2⟩ hl
     simpa using this
   ·rename_i l m e
    refine ⟨{ target:=.fn (.yield m.rb) #[],args:=#[]++args.map ρ },?_,⟨m,e,rfl⟩,?_⟩
    ·simp [execOp,resolve,Deferred.ofValue,hr]
    ·simpa using hl
  | _=>trivial
 | panic x =>
  have hx:=hv x (by simp [Op.operands])
  show OpS P β H W _ (exPanic (evalO t x))
  unfold exPanic
  split
  ·rename_i e
   rw [e] at hx
   generalize hr:ρ x=v' at hx
   cases hx with | iface _ _ v2 h2 =>
   exact ⟨.iface _ v2,by simp [execOp,Instr.panic,hr],.iface _ _ _ h2⟩
  ·trivial
 | _=>trivial
end
end Go.Ev
end
