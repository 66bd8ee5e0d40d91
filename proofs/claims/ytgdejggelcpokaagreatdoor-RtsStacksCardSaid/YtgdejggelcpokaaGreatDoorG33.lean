/-
 A part of the proof that pliantlaw15.RtsStacks returns true and leaves its arguments alone. Conditions: those of the card in the last text.
-/
import Derived.Test.YtgdejggelcpokaaGreatDoorG32
set_option linter.unusedSimpArgs false
set_option linter.unusedVariables false
set_option linter.unusedSectionVars false
noncomputable section
namespace Go.Ev
open Go.Proofs.RS
structure NSl (H:Hp) (L:List Value) (ty:Nat) (H1:Hp):Prop where
 al:alloc1 (blkL L ty 0) H (fun i=>mkSlV (some (i,0)) 1 1 false) 0 0=.val (.slice (some ⟨H.nx,0,none⟩) 1 (2*1)) H1 0 0
 row:Row H1 H.nx ty 0 L
 kept:Kept H H1
 nx:H1.nx=H.nx+1
theorem newSl {H:Hp} (hf:H.isFn=true) (L:List Value) (ty:Nat):∃ H1,NSl H L ty H1 :=
 ⟨H.push (blkL L ty 0),alloc_bsl hf _ _ _,row_push (fn_room hf) _ _ _,⟨by rw [isFn_push];exact hf,by rw [nx_push];omega,fun b hb=>blk_push_old (fn_room hf) _ hb⟩,nx_push _ _⟩
theorem exSt1_set {H:Hp} {b ty op i:Nat} {L:List Value} {v:Value} (hv:oneC v=true) (hf:H.isFn=true) (h:Row H b ty op L) (hi:i<L.length):∃ H1,exSt 1 (.pointer (some ⟨b,i,none⟩)) v H=.val U H1 0 (bit b)∧WrB H b ty op (L.set i v) H1:=by
 obtain ⟨H1,h1,h2⟩:=exSt1_at (o:=i) hv hf h (by omega)
 refine ⟨H1,h1,?_⟩
 have:L.take i++[v]++L.drop (i+1)=L.set i v:=by
  rw [List.set_eq_take_append_cons_drop,if_pos hi];simp
 rwa [this] at h2
theorem KeptX.step {X:Nat→Prop} {H H1 H2:Hp} (h:KeptX X H H1) (hf:H2.isFn=true) (hn:H1.nx≤H2.nx) (he:∀ c,c<H.nx→¬ X c→H2.blk c=H1.blk c):KeptX X H H2 :=
 ⟨hf,Nat.le_trans h.nx hn,fun c hc hx=>by rw [he c hc hx,h.old c hc hx]⟩
inductive Lst (n ty:Nat) (H:Hp) (b:Nat):Value→List Value→Prop where
 | nil:Lst n ty H b (.slice none 0 0) []
 | one (l L:List Value) (hb:n≤b) (hr:Row H b ty 2 L) (hl:l.length≤L.length) (ht:L.take l.length=l):Lst n ty H b (.slice (some ⟨b,0,none⟩) l.length (2*L.length+1)) l
section
variable {n ty b:Nat} {H H':Hp} {v:Value} {l:List Value}
theorem Lst.keep (h:Lst n ty H b v l) (e:n≤b→H'.blk b=H.blk b):Lst n ty H' b v l:=by
 cases h with
 | nil=>exact .nil
 | one l L hb hr hl ht=>exact .one l L hb (hr.of_blk (e hb)) hl ht
theorem Lst.mv (h:Lst n ty H b v l) (hb:b<H.nx) (k:Kept H H'):Lst n ty H' b v l:=h.keep fun _=>k.old _ hb
theorem Lst.len (h:Lst n ty H b v l) (H2:Hp):exLen 1 v H2=.val (vN ((l.length:Nat):Int)) H2 0 0:=by cases h <;> rfl
theorem Lst.oneC (h:Lst n ty H b v l):Go.Ev.oneC v=true:=by cases h <;> rfl
theorem Lst.pos {x:Value} {i:Nat} (h:Lst n ty H b v l) (hx:l[i]?=some x):n≤b∧b<H.nx:=by
 cases h with
 | nil=>cases hx
 | one l L hb hr hl ht=>exact ⟨hb,hr.lt⟩
theorem Lst.ia {x:Value} {i:Nat} (h:Lst n ty H b v l) (hx:l[i]?=some x) (H2:Hp):exIaS 1 v (vN ((i:Nat):Int)) H2=.val (.pointer (some ⟨b,i,none⟩)) H2 0 0:=by
 cases h with
 | nil=>cases hx
 | one l L hb hr hl ht =>
  have hi:i<l.length:=by
   rcases Nat.lt_or_ge i l.length with h | h
   ·exact h
   ·rw [List.getElem?_eq_none h] at hx;cases hx
  rw [exIaS_int (by omega) (by omega)];simp
theorem Lst.ld {x:Value} {i:Nat} (h:Lst n ty H b v l) (hx:l[i]?=some x):exLd1 (.pointer (some ⟨b,i,none⟩)) H=.val x H (bit b) 0:=by
 cases h with
 | nil=>cases hx
 | one l L hb hr hl ht =>
  refine exLd1_row hr ?_
  have hi:i<l.length:=by
   rcases Nat.lt_or_ge i l.length with h | h
   ·exact h
   ·rw [List.getElem?_eq_none h] at hx;cases hx
  have:(L.take l.length)[i]?=some x:=by rw [ht];exact hx
  rwa [List.getElem?_take,if_pos hi] at this
theorem Lst.cut {i:Nat} (h:Lst n ty H b v l) (hi:i≤l.length):∃ v',(∀ H2,exSlL 1 v none (some (vN ((i:Nat):Int))) none H2=.val v' H2 0 0)∧Lst n ty H b v' (l.take i):=by
 cases h with
 | nil =>
  obtain rfl:i=0:=by simpa using hi
  exact ⟨_,fun H2=>rfl,.nil⟩
 | one l L hb hr hl ht =>
  have hlen:(l.take i).length=i:=by rw [List.length_take];omega
  refine ⟨.slice (some ⟨b,0,none⟩) i (2*L.length+1),fun H2=>?_,?_⟩
  ·unfold exSlL
   rw [asSl_open]
   simp only []
   have:bounds l.length L.length none (some (vN ((i:Nat):Int))) none=some (0,i,L.length):=by
    unfold bounds
    rw [show Bc ((none:Option Value).isSome && (some (vN ((i:Nat):Int))).isNone) none (bnd none L.length L.length)=some L.length from rfl]
    simp only []
    rw [bnd_some (by omega)]
    rfl
   rw [this]
   rfl
  ·have:=Lst.one (n:=n) (ty:=ty) (H:=H) (b:=b) (l.take i) L hb hr (by omega) (by
    rw [hlen,← ht,List.take_take,Nat.min_eq_left hi])
   rwa [hlen] at this
theorem Lst.app {e:Env} {x:Value} {by_ b2 ty2 op2:Nat} (h:Lst n ty H b v l) (hf:H.isFn=true) (hn:e.n0≤n) (hnx:n≤H.nx) (hb:b<H.nx) (h2:Row H b2 ty2 op2 [x]) (hx:Go.Ev.oneC x=true) (hb2:b2<e.n0→e.Rd b2) (hby:by_≤24) (hl:l.length≤1000) :
 ∃ v' b' H1 r w,exApp ty 1 by_ v (.slice (some ⟨b2,0,none⟩) 1 (2*1)) H=.val v' H1 r w∧e.ok r w H1∧H1.isFn=true∧H.nx≤H1.nx∧H1.nx≤H.nx+1∧(∀ c,w.testBit c=true∨(H.nx≤c∧c<H1.nx)→n≤c) ∧
  Lst n ty H1 b' v' (l++[x])∧(b'=b∨b'=H.nx)∧b'<H1.nx∧∀ c,c<H.nx→(c≠b∨c<n)→H1.blk c=H.blk c:=by
 have hc:cellsOfV H 1 1 (.slice (some ⟨b2,0,none⟩) 1 (2*1))=some ([x],bit b2):=by
  rw [cellsOf_slice h2 (by show 0+1*1≤1;decide)];rfl
 have hlv:lenV (.slice (some ⟨b2,0,none⟩) 1 (2*1))=some 1:=rfl
 have hok1:e.ok (bit b2) 0 H:=.read h2.lt hb2
 have hby':∀ k:Nat,k≤1002→okBytes k by_=true:=fun k hk=>okBytes_of (by
  have h1:(2*k+768)*by_≤2772*24:=Nat.mul_le_mul (by omega) hby
  omega) (by omega)
 cases h with
 | nil =>
  refine ⟨_,H.nx,_,_,_,exApp_nil (fn_room hf) hlv (by decide) hc (hby' 1 (by omega)),⟨hok1.rd,hok1.wr,fun c hcc=>by rw [nx_push];have:=hok1.lt c hcc;omega⟩,by rw [isFn_push];exact hf,by rw [nx_push];omega,by rw [nx_push];omega,fun c hcc=>?_,?_,.inr rfl,by rw [nx_push];omega,fun c hcl _=>blk_push_old (fn_room hf) _ hcl⟩
  ·rcases hcc with hcc | hcc
   ·simp at hcc
   ·omega
  ·exact .one [x] [x] hnx (row_push (fn_room hf) [x] ty 2) (Nat.le_refl _) rfl
 | one l L hb' hr hll ht =>
  have hlt:=hr.lt
  rcases Nat.lt_or_ge l.length L.length with hlt2 | hge
  ·
   obtain ⟨H1,w1,w2⟩:=wrN_at (o:=l.length) (vs:=[x]) hf hr (by show l.length+1≤_;omega)
   have hlen:(L.take l.length++[x]++L.drop (l.length + [x].length)).length=L.length:=by
    rw [List.length_append,List.length_append,List.length_take,List.length_drop];show min l.length L.length+1+(L.length-(l.length+1))=_;rw [Nat.min_eq_left hll];omega
   have hL1:(l++[x]).length=l.length+1:=by simp
   refine ⟨.slice (some ⟨b,0,none⟩) (l.length+1) (2*L.length+1),b,H1,bit b2,bit b,?_,?_,w2.fn,by rw [w2.nx];exact Nat.le_refl _,by rw [w2.nx];omega,fun c hcc=>?_,?_,.inl rfl,by rw [w2.nx];exact hb,fun c hcl hcn=>w2.else_ c (by omega)⟩
   ·unfold exApp
    rw [hlv,asSl_open]
    simp only [hc]
    rw [show Nat.ble (l.length+1) L.length=true from (ble_iff _ _).2 (by omega),Bc_t]
    rw [show 0+l.length*1=l.length by omega,w1]
    rfl
   ·have h3:=hok1.lor (Env.ok.write (e:=e) (b:=b) hlt (fun h=>absurd h (by omega))) (Nat.le_refl _)
    rw [lor_zero',zero_lor'] at h3
    exact ⟨h3.rd,h3.wr,fun c hcc=>by rw [w2.nx];exact h3.lt c hcc⟩
   ·rcases hcc with hcc | hcc
    ·have:=(bit_iff b c).1 hcc;omega
    ·rw [w2.nx] at hcc;omega
   ·have hrow:=w2.row
    have:=Lst.one (n:=n) (ty:=ty) (H:=H1) (b:=b) (l++[x]) _ hb' hrow (by rw [hlen,hL1];omega) (by
     rw [hL1,List.append_assoc,List.take_append,List.length_take,Nat.min_eq_left hll,show l.length+1-l.length=1 by omega,List.take_take,Nat.min_eq_right (by omega:l.length≤l.length+1),ht];rfl)
    rwa [hL1,hlen] at this
  ·
   have hLl:L=l:=by
    have:L.take l.length=L:=List.take_of_length_le (by omega)
    rw [← this];exact ht
   subst hLl
   have hL1:(L++[x]).length=L.length+1:=by simp
   have hroom:(H.put b .no).room=true:=by rw [room_put];exact fn_room hf
   refine ⟨_,H.nx,_,_,_,exApp_open (fn_room hf) hr (m:=L.length) (by omega) hlv (by decide) hc (hby' (L.length+1) (by omega)),?_,by rw [isFn_push,isFn_put];exact hf,by rw [nx_push,nx_put];omega,by rw [nx_push,nx_put];omega,fun c hcc=>?_,?_,.inr rfl,by rw [nx_push,nx_put];omega,fun c hcl hcn=>?_⟩
   ·have h3:=hok1.lor (Env.ok.write (e:=e) (b:=b) hlt (fun h=>absurd h (by omega))) (Nat.le_refl _)
    rw [lor_zero',zero_lor'] at h3
    exact ⟨h3.rd,h3.wr,fun c hcc=>by rw [nx_push,nx_put];have:=h3.lt c hcc;omega⟩
   ·rcases hcc with hcc | hcc
    ·have:=(bit_iff b c).1 hcc;omega
    ·omega
   ·have hrow:=row_push (H:=H.put b .no) hroom (L++[x]) ty 2
    rw [nx_put] at hrow
    have:=Lst.one (n:=n) (ty:=ty) (b:=H.nx) (L++[x]) (L++[x]) hnx hrow (Nat.le_refl _) (List.take_length ..)
    rwa [hL1] at this
   ·rw [blk_push_old hroom _ (by rw [nx_put];exact hcl),blk_put_ne (fn_wf hf) _ hlt (by omega)]
theorem Lst.tail {e:Env} {l0:List Value} {u:UInt8} (h:Lst n 5 H b v (l0++[uB u])) (hn:e.n0≤n):∃ v' r,(∀ x:Value,x=vN ((l0.length:Nat):Int)→exSlL 1 v (some x) none none H=.val v' H r 0)∧e.ok r 0 H∧exToS v' H=.val (vS [u]) H (bit b) 0∧n≤b∧b<H.nx∧∀ c,r.testBit c=true→c<H.nx:=by
 generalize hl:l0++[uB u]=l at h
 cases h with
 | nil=>simp at hl
 | one l L hb hr hll ht =>
  have hlen:l.length=l0.length+1:=by rw [← hl];simp
  have hlt:=hr.lt
  have hat:L[l0.length]?=some (uB u):=by
   have:(L.take l.length)[l0.length]?=some (uB u):=by rw [ht,← hl];simp
   rwa [List.getElem?_take,if_pos (by omega)] at this
  have hbd:bounds l.length L.length (some (vN ((l0.length:Nat):Int))) none none=some (l0.length,l.length,L.length):=by
   unfold bounds
   rw [show Bc ((none:Option Value).isSome && (none:Option Value).isNone) none (bnd none L.length L.length)=some L.length from rfl]
   simp only [bnd_none]
   rw [bnd_some (by omega)]
  have hto:∀ c,exToS (.slice (some ⟨b,l0.length,none⟩) 1 c) H=.val (vS [u]) H (bit b) 0:=fun c=>by
   show (match rdN H b l0.length 1 with | some l=>(match strOf l with | some s=>R.val (.string ⟨⟨s⟩⟩) H (bit b) 0 | none=>.fail) | none=>.fail)=_
   rw [rdN_row hr (by omega)]
   have:(L.drop l0.length).take 1=[uB u]:=by
    have hlt':l0.length<L.length:=by omega
    rw [List.drop_eq_getElem_cons hlt']
    rw [List.getElem?_eq_getElem hlt'] at hat
    rw [Option.some.inj hat];rfl
   rw [this]
   have h2:strOf [uB u]=some [u]:=strOf_bys (fun _=>u) 1
   simp only [h2]
  by_cases h0:l0.length=0
  ·refine ⟨.slice (some ⟨b,0,none⟩) (l.length-l0.length) (2*(L.length-l0.length)+1),0,fun x hx=>?_,.zero _ _,?_,hb,hlt,fun c h=>by simp at h⟩
   ·subst hx
    unfold exSlL
    rw [asSl_open]
    simp only [hbd]
    rw [h0];rfl
   ·have:=hto (2*(L.length-l0.length)+1)
    rw [h0] at this ⊢
    rw [hlen,h0];exact this
  ·obtain ⟨t,hbk,_⟩:=hr
   refine ⟨.slice (some ⟨b,l0.length,none⟩) 1 (2*(L.length-l0.length)+1),bit b,fun x hx=>?_,.read hlt (fun h=>absurd h (by omega)),hto _,hb,hlt,fun c h=>by have:=(bit_iff b c).1 h;omega⟩
   subst hx
   unfold exSlL
   rw [asSl_open]
   simp only [hbd]
   rw [show Nat.beq l0.length 0=false from by
    cases hh:Nat.beq l0.length 0 with
    | false=>rfl
    | true=>exact absurd ((beq_iff _ _).1 hh) h0,show Nat.ble L.length l0.length=false from by rw [ble_f];omega,Bc_f,Bc_f]
   rw [show (true && (none:Option Value).isNone)=true from rfl,Bc_t]
   unfold exSlO
   simp only [hbk]
   rw [show Nat.beq 2 (Nat.succ 1)=true from rfl,Bc_t,show 0+l0.length*1=l0.length by omega,show l.length-l0.length=1 by omega]
   rfl
end
end Go.Ev
namespace Go.Ev
theorem newSn {H:Hp} (hf:H.isFn=true) {n:Nat} (hn:n≤1000):∃ H1,exMkSl 45 24 [.slice none 0 0] (vN n) (vN n) H=.val (.slice (some ⟨H.nx,0,none⟩) n (2*n)) H1 0 0∧Row H1 H.nx 45 0 (List.replicate n (.slice none 0 0))∧Kept H H1∧H1.nx=H.nx+1:=by
 refine ⟨H.push (.cells (.e (.slice none 0 0)) n 45 0 0 0),?_,⟨.e (.slice none 0 0),?_,fun i v hv=>?_⟩,⟨by rw [isFn_push];exact hf,by rw [nx_push];omega,fun b hb=>blk_push_old (fn_room hf) _ hb⟩,nx_push _ _⟩
 ·show Bc (Nat.ble n n && Nat.ble (n*24) 1099511627776 && Nat.ble n 1099511627776) (alloc1 (.cells (.e (.slice none 0 0)) n 45 0 0 0) H (fun i=>mkSlV (some (i,0)) n n false) 0 0) .fail=_
  rw [(ble_iff _ _).2 (Nat.le_refl n),(ble_iff _ _).2 (show n*24≤1099511627776 by omega),(ble_iff _ _).2 (show n≤1099511627776 by omega)]
  rw [show (true && true && true)=true from rfl,Bc_t,alloc1_room (fn_room hf)]
  rfl
 ·rw [List.length_replicate,blk_push _ (fn_room hf),if_pos rfl]
 ·rw [List.getElem?_replicate] at hv
  split at hv
  ·exact Option.some.inj hv
  ·cases hv
end Go.Ev
end
noncomputable section
namespace Go.Proofs.RS
open Go Go.Ev Go.Proofs Go.Ar
abbrev acL:List Value:=[.int .i64 (0),.slice none 0 0,.int .i64 (24),.int .i64 (-1),.slice none 0 0,.int .i64 (0),.int .i64 (0),.int .i64 (0),vS [],vS []]
section
attribute [local go_sem] Bc_f Bc_t GT Ro_some Rv_eq WOG WOX Yj Yk Yl Ym Yn Yo Yp Yq Yr and_self and_true binV_geq binV_gtr binV_lss binV_sub callV_func dec_F dec_T evalL evalO_const evalO_func evalO_tmp exEq_int exFa_ptr exLen_str exPick_f exPick_t if_false if_true no_bits ok_zero putT_none run true_and wantsV_U wantsV_ff wantsV_ft wantsV_tf wantsV_tt wants_none' wants_some
variable {sp:Nat→List Value→Hp→Option (Value×Hp×Nat×Nat)} {e:Env}
set_option maxRecDepth 10000 in
set_option maxHeartbeats 4000000 in
theorem gens_ok (S:SpX sp) {H:Hp} (hf:H.isFn=true) (he:e.n0≤H.nx) {sb:Nat} {L:List Value} (hes:e.n0≤sb) (hst:Row H sb 104 0 L) (h19:L[19]?=some (.bool false)) {bg k:Nat} {gs:List Value} (heg:e.n0≤bg) (hk8:k≤8) (h12:L[12]?=some (.slice (some ⟨bg,0,none⟩) k (2*k))) (hrg:Row H bg 22 0 gs) (hgl:gs.length=k) {i:Nat} (hi:i<k) {n b:Nat} {v:Value} {l:List Value} (hn:e.n0≤n) (hv:gs[i]?=some v) (hl:Lst n 3 H b v l):EC Tb0 sp e 14 [pA sb 0,iN i] H fun v H'=>v=vN ((l.length:Nat):Int)∧H'=H:=by
 refine EC.i2 (by rfl) gens_some gens_comp (S.no 14 (by decide) _ _) (by show 2≤28;decide) fun t0 g0 g1=>?_
 show WK Tb0 sp e ⟨5,28,none,false⟩ gens_k t0 [] H _
 unfold gens_k
 have lt1_:=hst.lt
 have lt2_:=hrg.lt
 refine WK.seq ?_
 refine WK.reg_g ?_
 refine WOG.all (fun t' H'=>H=H'∧GT t' [(0,pA sb 0),(1,iN i),(4,.int .i64 (0))]) ?_ ?_
 ·simp +decide only [gens_r0,g0,g1,Xo 5,go_sem]
 rintro t3_ _ ⟨rfl,g0_3,g1_3,g4_3, -⟩
 refine WK.seq ?_
 refine WK.seq ?_
 refine WK.reg_g ?_
 refine WOG.hide fun K0 hK0=>?_
 simp +decide only [gens_r1,g0_3,Xo 5,go_sem]
 refine EC.mono (dead_ok S hf (by omega) hst h19 (fun h=>absurd h (by omega))) fun v H5_ _ hv6_=>?_
 obtain ⟨rfl,hh7_⟩:=hv6_
 rw [hh7_];clear hh7_
 rw [WOGk]
 have d8_:decide (((i:Nat):Int)<(0:Int))=false:=decide_eq_false (by omega)
 have m9_:∀ Hq,exNil (pA sb 0) Hq=.val (pA sb 0) Hq 0 0:=fun _=>rfl
 have m10_:exLd1 (pA sb 12) H=.val (sC bg 0 (k) (2*k)) H (bit (sb)) 0:=exLd1_row hst h12
 have o11_:=okr (e:=e) hst (by omega)
 have m12_:∀ Hq,exLen 1 (sC bg 0 (k) (2*k)) Hq=.val (vN ((k:Nat))) Hq 0 0:=fun _=>rfl
 have d13_:decide (((i:Nat):Int)<((k:Nat):Int))=true:=decide_eq_true (by omega)
 refine WOG.all (fun t' H'=>H=H'∧GT t' [(0,pA sb 0),(1,iN i),(4,.int .i64 (0)),(19,.bool false)]) ?_ ?_
 ·simp +decide only [gens_r1,g0_3,g1_3,g4_3,d8_,m9_,m10_,o11_,m12_,d13_,Xo 5,go_sem]
 rintro t14_ _ ⟨rfl,g0_14,g1_14,g4_14,g19_14, -⟩
 refine hK0 _ _ ?_
 refine WK.cond (v:=false) (by rw [evalO_tmp,g19_14];rfl) ?_
 refine WK.skip ?_
 refine WK.seq ?_
 refine WK.reg_g ?_
 have m16_:∀ Hq,exNil (pA sb 0) Hq=.val (pA sb 0) Hq 0 0:=fun _=>rfl
 have m17_:exLd1 (pA sb 12) H=.val (sC bg 0 (k) (2*k)) H (bit (sb)) 0:=exLd1_row hst h12
 have o18_:=okr (e:=e) hst (by omega)
 have m19_:∀ Hq,exIaS 1 (sC bg 0 (k) (2*k)) (iN i) Hq=.val (pA bg i) Hq 0 0:=fun Hq=>by rw [exIaS_int (by omega) (by omega)];simp
 have m20_:exLd1 (pA bg i) H=.val (v) H (bit (bg)) 0:=exLd1_row hrg hv
 have o21_:e.ok (bit (bg)) 0 H:=.read hrg.lt (fun h=>absurd h (by omega))
 have m22_:∀ Hq,exLen 1 v Hq=.val (vN ((l.length:Nat):Int)) Hq 0 0:=fun Hq=>hl.len Hq
 refine WOG.all (fun t' H'=>H=H'∧t'.get 4=iN (l.length)) ?_ ?_
 ·simp +decide only [gens_r3,g0_14,g1_14,g4_14,g19_14,m16_,m17_,o18_,m19_,m20_,o21_,m22_,Xo 5,go_sem]
 rintro t23_ _ ⟨rfl,g4_23⟩
 refine WK.ret ⟨.inr rfl,rfl,[iN (l.length)],0,?_,.zero _ _,rfl,rfl⟩
 show resL Tb0 28 t23_ _ [.tmp 4]=_
 simp only [resL,g4_23];rfl
set_option maxRecDepth 10000 in
set_option maxHeartbeats 4000000 in
theorem newest_ok (S:SpX sp) {H:Hp} (hf:H.isFn=true) (he:e.n0≤H.nx) {sb:Nat} {L:List Value} (hps:sb<e.n0→e.Rd sb) (hst:Row H sb 104 0 L) {ba ca:Nat} (h7:L[7]?=some (.slice (some ⟨ba,0,none⟩) 1 ca)):EC Tb0 sp e 48 [pA sb 0] H fun v H'=>v=pA ba 0∧H'=H:=by
 refine EC.i1 (by rfl) newest_some newest_comp (S.no 48 (by decide) _ _) (by show 1≤14;decide) fun t0 g0=>?_
 show WK Tb0 sp e ⟨4,14,none,false⟩ newest_k t0 [] H _
 unfold newest_k
 have lt1_:=hst.lt
 refine WK.seq ?_
 refine WK.reg_g ?_
 refine WOG.all (fun t' H'=>H=H'∧GT t' [(0,pA sb 0),(2,.pointer none)]) ?_ ?_
 ·simp +decide only [newest_r0,g0,Xo 4,go_sem]
 rintro t2_ _ ⟨rfl,g0_2,g2_2, -⟩
 refine WK.seq ?_
 refine WK.draw_xx (fun _=>False) [.p,.p,.p,.q,.p,.p,.p,.q,.p,.p,.p,.p] (by omega) rfl ?_
 have m4_:∀ Hq,exNil (pA sb 0) Hq=.val (pA sb 0) Hq 0 0:=fun _=>rfl
 have m5_:exLd1 (pA sb 7) H=.val (sC ba 0 (1) (ca)) H (bit (sb)) 0:=exLd1_row hst h7
 have o6_:e.ok (bit (sb)) 0 H:=.read hst.lt hps
 have o7_:∀ cq,(bit (sb)).testBit cq=true→cq<H.nx:=the_bit (P:=fun cq=>cq<H.nx) (by have:=hst.lt;omega)
 have m8_:∀ Hq,exNil (pA sb 0) Hq=.val (pA sb 0) Hq 0 0:=fun _=>rfl
 have m9_:exLd1 (pA sb 7) H=.val (sC ba 0 (1) (ca)) H (bit (sb)) 0:=exLd1_row hst h7
 have m10_:∀ Hq,exLen 1 (sC ba 0 (1) (ca)) Hq=.val (vN ((1:Nat))) Hq 0 0:=fun _=>rfl
 have m11_:Value.int .i64 (wrapF .i64 (((1:Nat):Int)-(1:Int)))=.int .i64 (0):=rfl
 have m12_:∀ Hq,exIaS 10 (sC ba 0 (1) (ca)) (.int .i64 (0)) Hq=.val (pA ba 0) Hq 0 0:=fun Hq=>by rw [exIaS_int (by omega) (by omega)];rfl
 refine WOX.all (fun t' H'=>H=H'∧t'.get 2=pA ba 0) ?_ ?_
 ·simp +decide only [newest_r1,g0_2,g2_2,m4_,m5_,o6_,o7_,m8_,m9_,o6_,o7_,m10_,m11_,m12_,Xo 4,go_sem]
  all_goals ((repeat' apply And.intro) <;> assumption)
 rintro t13_ _ ⟨rfl,g2_13⟩
 refine WK.ret ⟨.inr rfl,rfl,[pA ba 0],0,?_,.zero _ _,rfl,rfl⟩
 show resL Tb0 14 t13_ _ [.tmp 2]=_
 simp only [resL,g2_13];rfl
set_option maxRecDepth 10000 in
set_option maxHeartbeats 4000000 in
theorem around_ok (S:SpX sp) {H:Hp} (hf:H.isFn=true) (he:e.n0≤H.nx) {sb:Nat}:EC Tb0 sp e 49 [pA sb 0,.int .i64 (0),.int .i64 (0)] H fun v H'=>v=vN 0∧H'=H:=by
 refine EC.i3 (by rfl) around_some around_comp (S.no 49 (by decide) _ _) (by show 3≤20;decide) fun t0 g0 g1 g2=>?_
 show WK Tb0 sp e ⟨5,20,none,false⟩ around_k t0 [] H _
 unfold around_k
 refine WK.seq ?_
 refine WK.reg_g ?_
 refine WOG.all (fun t' H'=>H=H'∧GT t' [(0,pA sb 0),(1,.int .i64 (0)),(2,.int .i64 (0)),(6,.int .i64 (0))]) ?_ ?_
 ·simp +decide only [around_r0,g0,g1,g2,Xo 5,go_sem]
 rintro t1_ _ ⟨rfl,g0_1,g1_1,g2_1,g6_1, -⟩
 refine WK.seq ?_
 refine WK.seq ?_
 refine WK.reg_g ?_
 refine WOG.all (fun t' H'=>H=H'∧GT t' [(0,pA sb 0),(1,.int .i64 (0)),(6,.int .i64 (0)),(7,.int .i64 (0)),(8,.int .i64 (0))]) ?_ ?_
 ·simp +decide only [around_r1,g0_1,g1_1,g2_1,g6_1,Xo 5,go_sem]
 rintro t3_ _ ⟨rfl,g0_3,g1_3,g6_3,g7_3,g8_3, -⟩
 refine WK.block (WK.loop_ind (fun m t' ds' H'=>ds'=[]∧H'=H∧m=0∧t'.get 0=pA sb 0∧t'.get 1=.int .i64 (0)∧t'.get 7=.int .i64 (0)∧t'.get 8=.int .i64 (0)) ?_ _ t3_ [] H ⟨rfl,rfl,rfl,g0_3,g1_3,g7_3,g8_3⟩)
 rintro m_l5 t_l5 ds_ H_l5 ⟨rfl,hH_,rfl,g0_l5,g1_l5,g7_l5,g8_l5⟩
 rw [hH_];clear hH_
 unfold around_l5
 refine WK.seq ?_
 refine WK.reg_g ?_
 have d6_:decide ((0:Int)<(0:Int))=false:=decide_eq_false (by omega)
 refine WOG.all (fun t' H'=>H=H'∧GT t' [(0,pA sb 0),(1,.int .i64 (0)),(7,.int .i64 (0)),(8,.int .i64 (0)),(9,.bool false)]) ?_ ?_
 ·simp +decide only [around_r2,g0_l5,g1_l5,g7_l5,g8_l5,d6_,Xo 5,go_sem]
 rintro t7_ _ ⟨rfl,g0_7,g1_7,g7_7,g8_7,g9_7, -⟩
 refine WK.seq ?_
 refine WK.cond (v:=false) (by rw [evalO_tmp,g9_7];rfl) ?_
 refine WK.exit ?_
 refine WK.seq ?_
 refine WK.reg_g ?_
 refine WOG.all (fun t' H'=>H=H'∧GT t' [(0,pA sb 0),(1,.int .i64 (0)),(6,.int .i64 (0)),(7,.int .i64 (0)),(8,.int .i64 (0))]) ?_ ?_
 ·simp +decide only [around_r6,g0_7,g1_7,g7_7,g8_7,g9_7,Xo 5,go_sem]
 rintro t9_ _ ⟨rfl,g0_9,g1_9,g6_9,g7_9,g8_9, -⟩
 refine WK.ret ⟨.inr rfl,rfl,[.int .i64 (0)],0,?_,.zero _ _,rfl,rfl⟩
 show resL Tb0 20 t9_ _ [.tmp 6]=_
 simp only [resL,g6_9];rfl
set_option maxRecDepth 10000 in
set_option maxHeartbeats 4000000 in
theorem base_ok (S:SpX sp) {H:Hp} (hf:H.isFn=true) (he:e.n0≤H.nx) {sb:Nat} {L:List Value} (hes:e.n0≤sb) (hst:Row H sb 104 0 L) (h19:L[19]?=some (.bool false)) {bg k:Nat} {gs:List Value} (heg:e.n0≤bg) (hk8:k≤8) (h12:L[12]?=some (.slice (some ⟨bg,0,none⟩) k (2*k))) (hrg:Row H bg 22 0 gs) (hgl:gs.length=k) {i:Nat} (hi:i<k) {n b:Nat} {v:Value} {l0:List Value} {a:Nat} (hn:e.n0≤n) (hv:gs[i]?=some v) (hl:Lst n 3 H b v (l0++[iN a])) (hl1:l0.length≤1000) {bp cp ba ca tp op ta oa:Nat} {Pc:List Value} (hep:e.n0≤bp) (hea:e.n0≤ba) (h0:L[0]?=some (.slice (some ⟨bp,0,none⟩) 2 cp)) (h7:L[7]?=some (.slice (some ⟨ba,0,none⟩) 1 ca)) (hpr:Row H bp tp op Pc) (hp1:Pc[1]?=some (.int .i64 (-1))) (hac:Row H ba ta oa acL):EC Tb0 sp e 10 [pA sb 0,.int .i64 (5),.int .i64 (0),iN i] H fun v H'=>v=.tuple #[iN a,vN 0]∧Kept H H':=by
 refine EC.i4 (by rfl) base_some base_comp (S.no 10 (by decide) _ _) (by show 4≤138;decide) fun t0 g0 g1 g2 g3=>?_
 show WK Tb0 sp e ⟨8,138,none,false⟩ base_k t0 [] H _
 unfold base_k
 have lt1_:=hst.lt
 have lt2_:=hrg.lt
 have lt3_:=hpr.lt
 have lt4_:=hac.lt
 have k0_:Kept H H:=.refl hf
 have hbp:=hl.pos (i:=l0.length) (x:=iN a) (by simp)
 have hln:(l0++[iN a]).length=l0.length+1:=by simp
 refine WK.seq ?_
 refine WK.reg_g ?_
 refine WOG.all (fun t' H'=>H=H'∧GT t' [(0,pA sb 0),(1,.int .i64 (5)),(2,.int .i64 (0)),(3,iN i),(8,.int .i64 (0)),(9,.int .i64 (0))]) ?_ ?_
 ·simp +decide only [base_r0,g0,g1,g2,g3,Xo 8,go_sem]
 rintro t5_ _ ⟨rfl,g0_5,g1_5,g2_5,g3_5,g8_5,g9_5, -⟩
 refine WK.seq ?_
 refine WK.seq ?_
 refine WK.reg_g ?_
 refine WOG.hide fun K0 hK0=>?_
 simp +decide only [base_r1,g0_5,Xo 8,go_sem]
 refine EC.mono (dead_ok S hf (by omega) hst h19 (fun h=>absurd h (by omega))) fun v H7_ _ hv8_=>?_
 obtain ⟨rfl,hh9_⟩:=hv8_
 rw [hh9_];clear hh9_
 rw [WOGk]
 refine WOG.all (fun t' H'=>H=H'∧GT t' [(0,pA sb 0),(1,.int .i64 (5)),(2,.int .i64 (0)),(3,iN i),(8,.int .i64 (0)),(9,.int .i64 (0)),(16,.bool false)]) ?_ ?_
 ·simp +decide only [base_r1,g0_5,g1_5,g2_5,g3_5,g8_5,g9_5,Xo 8,go_sem]
 rintro t10_ _ ⟨rfl,g0_10,g1_10,g2_10,g3_10,g8_10,g9_10,g16_10, -⟩
 refine hK0 _ _ ?_
 refine WK.cond (v:=false) (by rw [evalO_tmp,g16_10];rfl) ?_
 refine WK.skip ?_
 refine WK.seq ?_
 refine WK.reg_g ?_
 refine WOG.hide fun K0 hK0=>?_
 simp +decide only [base_r3,g0_10,Xo 8,go_sem]
 refine EC.mono (newest_ok S hf (by omega) (fun h=>absurd h (by omega)) hst h7) fun v H12_ _ hv13_=>?_
 obtain ⟨rfl,hh14_⟩:=hv13_
 rw [hh14_];clear hh14_
 rw [WOGk]
 refine WOG.all (fun t' H'=>H=H'∧GT t' [(0,pA sb 0),(1,.int .i64 (5)),(2,.int .i64 (0)),(3,iN i),(8,.int .i64 (0)),(9,.int .i64 (0)),(10,pA ba 0)]) ?_ ?_
 ·simp +decide only [base_r3,g0_10,g1_10,g2_10,g3_10,g8_10,g9_10,g16_10,Xo 8,go_sem]
 rintro t15_ _ ⟨rfl,g0_15,g1_15,g2_15,g3_15,g8_15,g9_15,g10_15, -⟩
 refine hK0 _ _ ?_
 refine WK.seq ?_
 refine WK.reg_g ?_
 refine WOG.all (fun t' H'=>H=H'∧GT t' [(0,pA sb 0),(1,.int .i64 (5)),(2,.int .i64 (0)),(3,iN i),(8,.int .i64 (0)),(9,.int .i64 (0)),(10,pA ba 0),(11,.int .i64 (0))]) ?_ ?_
 ·simp +decide only [base_r4,g0_15,g1_15,g2_15,g3_15,g8_15,g9_15,g10_15,Xo 8,go_sem]
 rintro t17_ _ ⟨rfl,g0_17,g1_17,g2_17,g3_17,g8_17,g9_17,g10_17,g11_17, -⟩
 refine WK.seq ?_
 refine WK.seq ?_
 refine WK.draw_xx (fun _=>False) [.p,.p,.p,.p,.q,.p,.p,.p,.q,.p,.p,.q,.p] (by omega) rfl ?_
 have m19_:∀ Hq,exNil (pA sb 0) Hq=.val (pA sb 0) Hq 0 0:=fun _=>rfl
 have m20_:exLd1 (pA sb 0) H=.val (sC bp 0 (2) (cp)) H (bit (sb)) 0:=exLd1_row hst h0
 have o21_:=okr (e:=e) hst (by omega)
 have o22_:∀ cq,(bit (sb)).testBit cq=true→cq<H.nx:=the_bit (P:=fun cq=>cq<H.nx) (by have:=hst.lt;omega)
 have m23_:∀ Hq,exNil (pA ba 0) Hq=.val (pA ba 0) Hq 0 0:=fun _=>rfl
 have m24_:exLd1 (pA ba 0) H=.val (.int .i64 (0)) H (bit (ba)) 0:=exLd1_row hac rfl
 have o25_:=okr (e:=e) hac (by omega)
 have o26_:∀ cq,(bit (ba)).testBit cq=true→cq<H.nx:=the_bit (P:=fun cq=>cq<H.nx) (by have:=hac.lt;omega)
 have m27_:∀ Hq,exIaS 7 (sC bp 0 (2) (cp)) (.int .i64 (0)) Hq=.val (pA bp 0) Hq 0 0:=fun Hq=>by rw [exIaS_int (by omega) (by omega)];rfl
 have m28_:exLd1 (pA bp 1) H=.val (.int .i64 (-1)) H (bit (bp)) 0:=exLd1_row hpr hp1
 have o29_:=okr (e:=e) hpr (by omega)
 have o30_:∀ cq,(bit (bp)).testBit cq=true→cq<H.nx:=the_bit (P:=fun cq=>cq<H.nx) (by have:=hpr.lt;omega)
 refine WOX.all (fun t' H'=>H=H'∧GT t' [(0,pA sb 0),(1,.int .i64 (5)),(2,.int .i64 (0)),(3,iN i),(8,.int .i64 (0)),(9,.int .i64 (0)),(11,.int .i64 (0)),(12,.int .i64 (-1))]) ?_ ?_
 ·simp +decide only [base_r5,g0_17,g1_17,g2_17,g3_17,g8_17,g9_17,g10_17,g11_17,m19_,m20_,o21_,o22_,m23_,m24_,o25_,o26_,m27_,m28_,o29_,o30_,Xo 8,go_sem]
  all_goals ((repeat' apply And.intro) <;> assumption)
 rintro t31_ _ ⟨rfl,g0_31,g1_31,g2_31,g3_31,g8_31,g9_31,g11_31,g12_31, -⟩
 refine WK.block (WK.loop_ind (fun m t' ds' H'=>ds'=[]∧H'=H∧m=0∧t'.get 0=pA sb 0∧t'.get 1=.int .i64 (5)∧t'.get 2=.int .i64 (0)∧t'.get 3=iN i∧t'.get 11=.int .i64 (0)∧t'.get 12=.int .i64 (-1)) ?_ _ t31_ [] H ⟨rfl,rfl,rfl,g0_31,g1_31,g2_31,g3_31,g11_31,g12_31⟩)
 rintro m_l33 t_l33 ds_ H_l33 ⟨rfl,hH_,rfl,g0_l33,g1_l33,g2_l33,g3_l33,g11_l33,g12_l33⟩
 rw [hH_];clear hH_
 unfold base_l9
 refine WK.seq ?_
 refine WK.seq ?_
 refine WK.reg_g ?_
 have d34_:decide ((-1:Int)<(0:Int))=true:=decide_eq_true (by omega)
 refine WOG.all (fun t' H'=>H=H'∧GT t' [(0,pA sb 0),(1,.int .i64 (5)),(2,.int .i64 (0)),(3,iN i),(11,.int .i64 (0)),(12,.int .i64 (-1)),(32,.bool false)]) ?_ ?_
 ·simp +decide only [base_r6,g0_l33,g1_l33,g2_l33,g3_l33,g11_l33,g12_l33,d34_,Xo 8,go_sem]
 rintro t35_ _ ⟨rfl,g0_35,g1_35,g2_35,g3_35,g11_35,g12_35,g32_35, -⟩
 refine WK.cond (v:=false) (by rw [evalO_tmp,g32_35];rfl) ?_
 refine WK.exit ?_
 refine WK.seq ?_
 refine WK.seq ?_
 refine WK.reg_g ?_
 have d37_:decide ((0:Int)<(0:Int))=false:=decide_eq_false (by omega)
 have d38_:decide ((0:Int)<(0:Int))=false:=decide_eq_false (by omega)
 have d39_:decide (((i:Nat):Int)<(0:Int))=false:=decide_eq_false (by omega)
 refine WOG.all (fun t' H'=>H=H'∧GT t' [(0,pA sb 0),(1,.int .i64 (5)),(2,.int .i64 (0)),(3,iN i),(11,.int .i64 (0)),(12,.int .i64 (-1)),(54,.bool false)]) ?_ ?_
 ·simp +decide only [base_r10,g0_35,g1_35,g2_35,g3_35,g11_35,g12_35,g32_35,d37_,d38_,d39_,Xo 8,go_sem]
 rintro t40_ _ ⟨rfl,g0_40,g1_40,g2_40,g3_40,g11_40,g12_40,g54_40, -⟩
 refine WK.cond (v:=false) (by rw [evalO_tmp,g54_40];rfl) ?_
 refine WK.skip ?_
 refine WK.seq ?_
 refine WK.draw_xx (fun _=>False) [.p,.p,.p,.q,.p,.p,.p,.p,.q,.p,.p,.p,.q,.p,.q,.q,.l] (by omega) rfl ?_
 refine WOX.hide fun K0 hK0=>?_
 have m42_:∀ Hq,exNil (pA sb 0) Hq=.val (pA sb 0) Hq 0 0:=fun _=>rfl
 have m43_:exLd1 (pA sb 7) H=.val (sC ba 0 (1) (ca)) H (bit (sb)) 0:=exLd1_row hst h7
 have o44_:=okr (e:=e) hst (by omega)
 have o45_:∀ cq,(bit (sb)).testBit cq=true→cq<H.nx:=the_bit (P:=fun cq=>cq<H.nx) (by have:=hst.lt;omega)
 have m46_:∀ Hq,exNil (pA sb 0) Hq=.val (pA sb 0) Hq 0 0:=fun _=>rfl
 have m47_:exLd1 (pA sb 7) H=.val (sC ba 0 (1) (ca)) H (bit (sb)) 0:=exLd1_row hst h7
 have m48_:∀ Hq,exLen 1 (sC ba 0 (1) (ca)) Hq=.val (vN ((1:Nat))) Hq 0 0:=fun _=>rfl
 have m49_:Value.int .i64 (wrapF .i64 (((1:Nat):Int)-(1:Int)))=.int .i64 (0):=rfl
 simp +decide only [base_r12,g0_40,g2_40,m42_,m43_,o44_,o45_,m46_,m47_,o44_,o45_,m48_,m49_,Xo 8,go_sem]
 repeat (refine And.intro (by assumption) ?_)
 refine EC.mono (around_ok S hf (Nat.le_refl _) (sb:=sb)) fun v H50_ _ hv51_=>?_
 obtain ⟨rfl,hh52_⟩:=hv51_
 rw [hh52_];clear hh52_
 rw [WOXk]
 have m53_:∀ Hq,exIaS 10 (sC ba 0 (1) (ca)) (.int .i64 (0)) Hq=.val (pA ba 0) Hq 0 0:=fun Hq=>by rw [exIaS_int (by omega) (by omega)];rfl
 have m54_:exLdN 10 (pA ba 0) H=.val (.agg ⟨[.int .i64 (0),.slice none 0 0,.int .i64 (24),.int .i64 (-1),.slice none 0 0,.int .i64 (0),.int .i64 (0),.int .i64 (0),vS [],vS []]⟩) H (bit (ba)) 0:=exLdN_row hac (by show 0+10≤10;decide)
 have o55_:=okr (e:=e) hac (by omega)
 have o56_:∀ cq,(bit (ba)).testBit cq=true→cq<H.nx:=the_bit (P:=fun cq=>cq<H.nx) (by have:=hac.lt;omega)
 obtain ⟨H57_,nb58_⟩:=newB hf [.int .i64 (0),.slice none 0 0,.int .i64 (0),.int .i64 (0),.slice none 0 0,.int .i64 (0),.int .i64 (0),.int .i64 (0),.string ⟨#[]⟩,.string ⟨#[]⟩] 128
 have m59_:alloc1 (blkL [.int .i64 (0),.slice none 0 0,.int .i64 (0),.int .i64 (0),.slice none 0 0,.int .i64 (0),.int .i64 (0),.int .i64 (0),.string ⟨#[]⟩,.string ⟨#[]⟩] 128 0) H ptrTo 0 0=.val (.pointer (some ⟨H.nx,0,none⟩)) H57_ 0 0:=nb58_.al
 have hf60_:=nb58_.kept.fn
 have nx61_:H57_.nx=H.nx+1:=nb58_.nx
 have m62_:H.nx≤H57_.nx:=by omega
 have lt63_:=nb58_.row.lt
 have k64_:=k0_.trans nb58_.kept
 obtain ⟨H65_,e66_,wr67_⟩:=exStN_at (o:=0) (vs:=[.int .i64 (0),.slice none 0 0,.int .i64 (24),.int .i64 (-1),.slice none 0 0,.int .i64 (0),.int .i64 (0),.int .i64 (0),vS [],vS []]) hf60_ nb58_.row (by show 0+10≤10;decide)
 have m68_:exSt 10 (pA H.nx 0) (.agg ⟨[.int .i64 (0),.slice none 0 0,.int .i64 (24),.int .i64 (-1),.slice none 0 0,.int .i64 (0),.int .i64 (0),.int .i64 (0),vS [],vS []]⟩) H57_=.val U H65_ 0 (bit (H.nx)):=e66_
 have hf69_:=wr67_.fn
 have nx70_:H65_.nx=H57_.nx:=wr67_.nx
 have m71_:H57_.nx≤H65_.nx:=by omega
 have r72_:Row H65_ (H.nx) 128 0 [.int .i64 (0),.slice none 0 0,.int .i64 (24),.int .i64 (-1),.slice none 0 0,.int .i64 (0),.int .i64 (0),.int .i64 (0),vS [],vS []]:=wr67_.row
 have o73_:e.ok 0 (bit (H.nx)) H65_:=.write r72_.lt (fun h=>absurd h (by omega))
 have o74_:∀ cq,(bit (H.nx)).testBit cq=true→H.nx≤cq:=the_bit (P:=fun cq=>H.nx≤cq) (by omega)
 have k75_:Kept H H65_:=⟨wr67_.fn,by have:=k64_.nx;omega,fun c hc=>(wr67_.else_ c (by omega)).trans (k64_.old c hc)⟩
 refine WOX.all (fun t' H'=>H65_=H'∧GT t' [(0,pA sb 0),(1,.int .i64 (5)),(2,.int .i64 (0)),(3,iN i),(11,.int .i64 (0)),(12,.int .i64 (-1)),(13,pA H.nx 0)]) ?_ ?_
 ·simp +decide only [base_r12,g0_40,g1_40,g2_40,g3_40,g11_40,g12_40,g54_40,m53_,m54_,o55_,o56_,m59_,m62_,m68_,m71_,o73_,o74_,Xo 8,go_sem]
  all_goals ((repeat' apply And.intro) <;> assumption)
 rintro t76_ _ ⟨rfl,g0_76,g1_76,g2_76,g3_76,g11_76,g12_76,g13_76, -⟩
 refine hK0 _ _ ?_
 refine WK.seq ?_
 refine WK.block ?_
 refine WK.seq ?_
 refine WK.reg_g ?_
 have d78_:decide ((5:Int)=(1:Int))=false:=decide_eq_false (by omega)
 refine WOG.all (fun t' H'=>H65_=H'∧GT t' [(0,pA sb 0),(1,.int .i64 (5)),(2,.int .i64 (0)),(3,iN i),(11,.int .i64 (0)),(12,.int .i64 (-1)),(13,pA H.nx 0),(70,.bool false)]) ?_ ?_
 ·simp +decide only [base_r13,g0_76,g1_76,g2_76,g3_76,g11_76,g12_76,g13_76,d78_,Xo 8,go_sem]
 rintro t79_ _ ⟨rfl,g0_79,g1_79,g2_79,g3_79,g11_79,g12_79,g13_79,g70_79, -⟩
 refine WK.cond (v:=false) (by rw [evalO_tmp,g70_79];rfl) ?_
 refine WK.seq ?_
 refine WK.reg_g ?_
 have d81_:decide ((5:Int)=(2:Int))=false:=decide_eq_false (by omega)
 refine WOG.all (fun t' H'=>H65_=H'∧GT t' [(0,pA sb 0),(1,.int .i64 (5)),(2,.int .i64 (0)),(3,iN i),(11,.int .i64 (0)),(12,.int .i64 (-1)),(13,pA H.nx 0),(80,.bool false)]) ?_ ?_
 ·simp +decide only [base_r15,g0_79,g1_79,g2_79,g3_79,g11_79,g12_79,g13_79,g70_79,d81_,Xo 8,go_sem]
 rintro t82_ _ ⟨rfl,g0_82,g1_82,g2_82,g3_82,g11_82,g12_82,g13_82,g80_82, -⟩
 refine WK.cond (v:=false) (by rw [evalO_tmp,g80_82];rfl) ?_
 refine WK.seq ?_
 refine WK.reg_g ?_
 have d84_:decide ((5:Int)=(3:Int))=false:=decide_eq_false (by omega)
 refine WOG.all (fun t' H'=>H65_=H'∧GT t' [(0,pA sb 0),(1,.int .i64 (5)),(2,.int .i64 (0)),(3,iN i),(11,.int .i64 (0)),(12,.int .i64 (-1)),(13,pA H.nx 0),(91,.bool false)]) ?_ ?_
 ·simp +decide only [base_r17,g0_82,g1_82,g2_82,g3_82,g11_82,g12_82,g13_82,g80_82,d84_,Xo 8,go_sem]
 rintro t85_ _ ⟨rfl,g0_85,g1_85,g2_85,g3_85,g11_85,g12_85,g13_85,g91_85, -⟩
 refine WK.cond (v:=false) (by rw [evalO_tmp,g91_85];rfl) ?_
 refine WK.seq ?_
 refine WK.reg_g ?_
 have d87_:decide ((5:Int)=(5:Int))=true:=decide_eq_true (by omega)
 have d88_:decide ((0:Int)=(0:Int))=true:=decide_eq_true (by omega)
 have m89_:∀ Hq,exNil (pA sb 0) Hq=.val (pA sb 0) Hq 0 0:=fun _=>rfl
 have r90_:=(hst.mv nb58_.kept).ot wr67_.else_ (by omega)
 have m91_:exLd1 (pA sb 12) H65_=.val (sC bg 0 (k) (2*k)) H65_ (bit (sb)) 0:=exLd1_row r90_ h12
 have o92_:=okr (e:=e) r90_ (by omega)
 have m93_:∀ Hq,exLen 1 (sC bg 0 (k) (2*k)) Hq=.val (vN ((k:Nat))) Hq 0 0:=fun _=>rfl
 have d94_:decide (((i:Nat):Int)<((k:Nat):Int))=true:=decide_eq_true (by omega)
 refine WOG.all (fun t' H'=>H65_=H'∧GT t' [(0,pA sb 0),(1,.int .i64 (5)),(2,.int .i64 (0)),(3,iN i),(11,.int .i64 (0)),(12,.int .i64 (-1)),(13,pA H.nx 0),(106,.bool true)]) ?_ ?_
 ·simp +decide only [base_r19,g0_85,g1_85,g2_85,g3_85,g11_85,g12_85,g13_85,g91_85,d87_,d88_,m89_,m91_,o92_,m93_,d94_,Xo 8,go_sem]
 rintro t95_ _ ⟨rfl,g0_95,g1_95,g2_95,g3_95,g11_95,g12_95,g13_95,g106_95, -⟩
 refine WK.cond (v:=true) (by rw [evalO_tmp,g106_95];rfl) ?_
 refine WK.seq ?_
 refine WK.seq ?_
 refine WK.reg_g ?_
 have m97_:∀ Hq,exNil (pA sb 0) Hq=.val (pA sb 0) Hq 0 0:=fun _=>rfl
 have m98_:exLd1 (pA sb 12) H65_=.val (sC bg 0 (k) (2*k)) H65_ (bit (sb)) 0:=exLd1_row r90_ h12
 have o99_:=okr (e:=e) r90_ (by omega)
 have m100_:∀ Hq,exIaS 1 (sC bg 0 (k) (2*k)) (iN i) Hq=.val (pA bg i) Hq 0 0:=fun Hq=>by rw [exIaS_int (by omega) (by omega)];simp
 have r101_:=(hrg.mv nb58_.kept).ot wr67_.else_ (by omega)
 have m102_:exLd1 (pA bg i) H65_=.val (v) H65_ (bit (bg)) 0:=exLd1_row r101_ hv
 have o103_:e.ok (bit (bg)) 0 H65_:=.read r101_.lt (fun h=>absurd h (by omega))
 refine WOG.all (fun t' H'=>H65_=H'∧GT t' [(0,pA sb 0),(1,.int .i64 (5)),(2,.int .i64 (0)),(3,iN i),(11,.int .i64 (0)),(12,.int .i64 (-1)),(13,pA H.nx 0),(14,v)]) ?_ ?_
 ·simp +decide only [base_r20,g0_95,g1_95,g2_95,g3_95,g11_95,g12_95,g13_95,g106_95,m97_,m98_,o99_,m100_,m102_,o103_,Xo 8,go_sem]
 rintro t104_ _ ⟨rfl,g0_104,g1_104,g2_104,g3_104,g11_104,g12_104,g13_104,g14_104, -⟩
 refine WK.seq ?_
 refine WK.reg_g ?_
 have m106_:∀ Hq,exLen 1 v Hq=.val (vN (((l0.length+1):Nat):Int)) Hq 0 0:=fun Hq=>by rw [hl.len,hln]
 have d107_:decide ((0:Int)<(((l0.length+1):Nat):Int))=true:=decide_eq_true (by omega)
 refine WOG.all (fun t' H'=>H65_=H'∧GT t' [(0,pA sb 0),(1,.int .i64 (5)),(2,.int .i64 (0)),(3,iN i),(11,.int .i64 (0)),(12,.int .i64 (-1)),(13,pA H.nx 0),(14,v),(131,.bool true)]) ?_ ?_
 ·simp +decide only [base_r21,g0_104,g1_104,g2_104,g3_104,g11_104,g12_104,g13_104,g14_104,m106_,d107_,Xo 8,go_sem]
 rintro t108_ _ ⟨rfl,g0_108,g1_108,g2_108,g3_108,g11_108,g12_108,g13_108,g14_108,g131_108, -⟩
 refine WK.cond (v:=true) (by rw [evalO_tmp,g131_108];rfl) ?_
 refine WK.seq ?_
 refine WK.reg_g ?_
 have m110_:∀ Hq,exLen 1 v Hq=.val (vN (((l0.length+1):Nat):Int)) Hq 0 0:=fun Hq=>by rw [hl.len,hln]
 have m111_:Value.int .i64 (wrapF .i64 (((l0.length+1:Nat):Int)-(1:Int)))=iN (l0.length):=wF (by omega)
 have m112_:∀ Hq,exIaS 1 v (iN (l0.length)) Hq=.val (pA b (l0.length)) Hq 0 0:=fun Hq=>hl.ia (i:=l0.length) (x:=iN a) (by simp) Hq
 have r113_:=(hl.mv (by omega) nb58_.kept).keep (fun hb_=>wr67_.else_ _ (by omega))
 have m114_:exLd1 (pA b (l0.length)) H65_=.val (iN a) H65_ (bit (b)) 0:=r113_.ld (i:=l0.length) (by simp)
 have o115_:e.ok (bit (b)) 0 H65_:=.read (by omega) (fun h=>absurd h (by omega))
 refine WOG.all (fun t' H'=>H65_=H'∧GT t' [(0,pA sb 0),(1,.int .i64 (5)),(2,.int .i64 (0)),(3,iN i),(8,iN a),(9,.int .i64 (0)),(11,.int .i64 (0)),(12,.int .i64 (-1)),(13,pA H.nx 0)]) ?_ ?_
 ·simp +decide only [base_r22,g0_108,g1_108,g2_108,g3_108,g11_108,g12_108,g13_108,g14_108,g131_108,m110_,m111_,m112_,m114_,o115_,Xo 8,go_sem]
 rintro t116_ _ ⟨rfl,g0_116,g1_116,g2_116,g3_116,g8_116,g9_116,g11_116,g12_116,g13_116, -⟩
 refine WK.ret ⟨.inr rfl,rfl,[iN a,.int .i64 (0)],0,?_,.zero _ _,rfl,k75_⟩
 show resL Tb0 138 t116_ _ [.tmp 8,.tmp 9]=_
 simp only [resL,g8_116,g9_116];rfl
end
end Go.Proofs.RS
end
