/-
 A part of the reckoner for the statements of a Go program: what it answers,the model answers. Holds for every program whose tables are as given.
-/
import Derived.Sort.Grow
import Derived.Sort.Row
import Derived.Test.YtdmcanlbncbemaaGreatDoorG07
import Derived.Test.YtdmcanlbncbemaaGreatDoorG08
set_option linter.unusedSimpArgs false
set_option linter.unusedVariables false
set_option linter.unusedSectionVars false
set_option maxRecDepth 100000
set_option maxHeartbeats 8000000
noncomputable section
namespace Go.Ar
abbrev By:=Nat->UInt8
end Go.Ar
namespace Go.Ev
variable [dj]
abbrev vN (z:Int):Value:=.int .i64 z
abbrev vS (s:List UInt8):Value:=.string ⟨⟨s⟩⟩
end Go.Ev
namespace Go.Ev
variable [dj]
section
variable {tb:Tb} {sp:Nat->List Value->Hp->Option (Value×Hp×Nat×Nat)} {e:Env} {N0:Nat} {Us:Nat->Prop} {d:Nat} {K K1:T Value->Hp->Prop} {cos:List CO} {t:T Value} {H:Hp}
theorem aR.app:∀ {A:List CO} {t:T Value} {H:Hp},aR tb sp e d K1 A t H->(∀ t' H',K1 t' H'->aR tb sp e d K cos t' H')->aR tb sp e d K (A++cos) t H:=by
 intro A
 induction A with
 |nil=>intro t H h hk;rw[aR]at h;exact hk t H h
 |cons o A ih =>
  intro t H h hk
  rw[List.cons_append]
  rw[aR]at h ⊢
  cases hg:dn t o.guard with
  |true =>
   rw[hg]at h
   revert h
   cases run o.op t H with
   |val v H' r w=>exact λh=>⟨h.1,h.2.1,ih h.2.2 hk⟩
   |call f args=>exact λh=>EC.mono h λv H1 _ hh=>by rw[fC]at *;exact ih hh hk
   |_=>exact λh=>h.elim
  |false=>rw[hg]at h;exact ih h hk
theorem aR.cut (k:Nat) (K1:T Value->Hp->Prop) (h:aR tb sp e d K1 (cos.take k) t H) (hk:∀ t' H',K1 t' H'->aR tb sp e d K (cos.drop k) t' H'):aR tb sp e d K cos t H:=by
 have:=aR.app h hk
 rwa [List.take_append_drop]at this
theorem aR.all (K1:T Value->Hp->Prop) (h:aR tb sp e d K1 cos t H) (hk:∀ t' H',K1 t' H'->K t' H'):aR tb sp e d K cos t H:=h.mono hk
theorem fe.app {vL:List C4}:∀ {A:List CO} {clA:List C4} {t:T Value} {H:Hp},clA.length=A.length->fe tb sp e N0 Us d K1 A clA t H->(∀ t' H',K1 t' H'->fe tb sp e N0 Us d K cos vL t' H')->fe tb sp e N0 Us d K (A++cos) (clA++vL) t H:=by
 intro A
 induction A with
 |nil =>
  intro clA t H hl h hk
  obtain rfl:clA=[]:=List.length_eq_zero_iff.1 hl
  rw[fe]at h;exact hk t H h
 |cons o A ih =>
  intro clA t H hl h hk
  cases clA with
  |nil=>cases hl
  |cons c clA =>
  have hl':clA.length=A.length:=by simpa using hl
  rw[List.cons_append,List.cons_append]
  rw[fe]at h ⊢
  cases hg:dn t o.guard with
  |true =>
   rw[hg]at h
   revert h
   cases run o.op t H with
   |val v H' r w =>
    cases c with
    |p=>exact λh=>⟨h.1,h.2.1,h.2.2.1,ih hl' h.2.2.2 hk⟩
    |q=>exact λh=>⟨h.1,h.2.1,h.2.2.1,h.2.2.2.1,ih hl' h.2.2.2.2 hk⟩
    |l=>exact λh=>⟨h.1,h.2.1,h.2.2.1,ih hl' h.2.2.2 hk⟩
    |x=>exact λh=>⟨h.1,h.2.1,ih hl' h.2.2 hk⟩
    |u=>exact λh=>⟨h.1,h.2.1,h.2.2.1,h.2.2.2.1,ih hl' h.2.2.2.2 hk⟩
    |y=>exact λh=>⟨h.1,h.2.1,h.2.2.1,h.2.2.2.1,ih hl' h.2.2.2.2 hk⟩
    |z=>exact λh=>⟨h.1,h.2.1,h.2.2.1,ih hl' h.2.2.2 hk⟩
   |call f args =>
    cases c with
    |p=>exact λh=>h.elim
    |q=>exact λh=>EC.mono h λv H1 _ hh=>by rw[o8]at *;exact ih hl' hh hk
    |l=>exact λh=>EC.mono h λv H1 _ hh=>by rw[o8]at *;exact ih hl' hh hk
    |x=>exact λh=>EC.mono h λv H1 _ hh=>by rw[o8]at *;exact ih hl' hh hk
    |u=>exact λh=>h.elim
    |y=>exact λh=>h.elim
    |z=>exact λh=>h.elim
   |_=>exact λh=>h.elim
  |false=>rw[hg]at h;exact ih hl' h hk
theorem fe.cut {cl:List C4} (k:Nat) (K1:T Value->Hp->Prop) (hl:cl.length=cos.length) (h:fe tb sp e N0 Us d K1 (cos.take k) (cl.take k) t H) (hk:∀ t' H',K1 t' H'->fe tb sp e N0 Us d K (cos.drop k) (cl.drop k) t' H'):fe tb sp e N0 Us d K cos cl t H:=by
 have:=fe.app (by rw[List.length_take,List.length_take,hl]) h hk
 rwa [List.take_append_drop,List.take_append_drop]at this
theorem fe.mono (hk:∀ t' H',K1 t' H'->K t' H'):∀ {cos:List CO} {cl:List C4} {t:T Value} {H:Hp},fe tb sp e N0 Us d K1 cos cl t H->fe tb sp e N0 Us d K cos cl t H:=by
 intro cos
 induction cos with
 |nil=>intro cl t H h;rw[fe]at *;exact hk t H h
 |cons o cos ih =>
  intro cl t H h
  cases cl with
  |nil=>rw[fe]at h;exact h.elim
  |cons c cl =>
  rw[fe]at h ⊢
  cases hg:dn t o.guard with
  |true =>
   rw[hg]at h
   revert h
   cases run o.op t H with
   |val v H' r w =>
    cases c with
    |p=>exact λh=>⟨h.1,h.2.1,h.2.2.1,ih h.2.2.2⟩
    |q=>exact λh=>⟨h.1,h.2.1,h.2.2.1,h.2.2.2.1,ih h.2.2.2.2⟩
    |l=>exact λh=>⟨h.1,h.2.1,h.2.2.1,ih h.2.2.2⟩
    |x=>exact λh=>⟨h.1,h.2.1,ih h.2.2⟩
    |u=>exact λh=>⟨h.1,h.2.1,h.2.2.1,h.2.2.2.1,ih h.2.2.2.2⟩
    |y=>exact λh=>⟨h.1,h.2.1,h.2.2.1,h.2.2.2.1,ih h.2.2.2.2⟩
    |z=>exact λh=>⟨h.1,h.2.1,h.2.2.1,ih h.2.2.2⟩
   |call f args =>
    cases c with
    |p=>exact λh=>h.elim
    |q=>exact λh=>h.mono λv H1 _ hh=>by rw[o8]at *;exact ih hh
    |l=>exact λh=>h.mono λv H1 _ hh=>by rw[o8]at *;exact ih hh
    |x=>exact λh=>h.mono λv H1 _ hh=>by rw[o8]at *;exact ih hh
    |u=>exact λh=>h.elim
    |y=>exact λh=>h.elim
    |z=>exact λh=>h.elim
   |_=>exact λh=>h.elim
  |false=>rw[hg]at h;exact ih h
theorem fe.all {cl:List C4} (K1:T Value->Hp->Prop) (h:fe tb sp e N0 Us d K1 cos cl t H) (hk:∀ t' H',K1 t' H'->K t' H'):fe tb sp e N0 Us d K cos cl t H:=fe.mono hk h
theorem WK.gw {cx:Cx} {B:Array Nat} {ds:List Deferred} {K:Ex->T Value->List Deferred->Hp->Prop} (Us:Nat->Prop) (cl:List C4) (he:e.n0<=H.nx) (hc:eV B 0 [] [] [] cl=true)
 (h:fe tb sp e H.nx Us cx.d (λt' H'=>K .normal t' ds H') cos cl t H):WK tb sp e cx (.draw B cos) t ds H K:=WK.afk cl _ he hc h λ_ _ h=>h
end
theorem dM (P:Nat->Prop):(∀ b,Nat.testBit 0 b=true->P b)↔True:=by simp
theorem dH {b:Nat} {P:Nat->Prop} (h:P b):∀ c,(bit b).testBit c=true->P c:=λc hc=>by rw[(aB _ _).1 hc];exact h
structure NB (H:Hp) (L:List Value) (ty:Nat) (H1:Hp):Prop where
 al:aS (aG L ty 0) H ptrTo 0 0=.val (.pointer (some ⟨H.nx,0,none⟩)) H1 0 0
 row:Row H1 H.nx ty 0 L
 kept:Kept H H1
 nx:H1.nx=H.nx+1
theorem nW {H:Hp} (hf:H.bG=true) (L:List Value) (ty:Nat):∃ H1,NB H L ty H1 :=
 ⟨H.push (aG L ty 0),Qz hf _,fq (aO hf) _ _ _,⟨by rw[cg];exact hf,by rw[aZ];omega,λb hb=>a_ (aO hf) _ hb⟩,aZ _ _⟩
structure wS (H:Hp) (b ty op:Nat) (L:List Value) (H1:Hp):Prop where
 row:Row H1 b ty op L
 fn:H1.bG=true
 nx:H1.nx=H.nx
 dS:∀ c,c≠b->H1.blk c=H.blk c
theorem ab9 {H:Hp} {b ty op o:Nat} {L vs:List Value} (hf:H.bG=true) (h:Row H b ty op L) (hle:o+vs.length<=L.length):∃ H1,N3 H b o vs=some H1/\wS H b ty op (L.take o++vs++L.drop (o+vs.length)) H1:=by
 obtain⟨t,hb,ht⟩:=h
 have hlt:b<H.nx:=((aH H b).2 (by rw[hb];simp)).1
 refine⟨H.put b (.cells (QJ (dep L.length) vs o t) L.length ty op 0 0),?_,?_,by rw[sx];exact hf,cW _ _ _,λc hc=>j9 (vc hf) _ hlt hc⟩
 ·unfold N3
  rw[hb]
  simp only[]
  rw[uP,Bool.and_true,(aE _ _).2 hle,aj]
 ·have hlen:(L.take o++vs++L.drop (o+vs.length)).length=L.length:=by
   rw[List.length_append,List.length_append,List.length_take,List.length_drop];omega
  refine⟨QJ (dep L.length) vs o t,?_,λi v hv=>?_⟩
  ·rw[hlen,jh _ (vc hf) hlt,if_pos rfl]
  ·have hi:i<L.length:=by
    rcases Nat.lt_or_ge i L.length with h|h
    ·exact h
    ·rw[List.getElem?_eq_none (by omega)]at hv;cases hv
   have hd:L.length<8 ^ dep L.length:=jY _
   rw[kF _ _ _ _ _ (by omega) (by omega)]
   by_cases h1:o<=i/\i<o+vs.length
   ·rw[if_pos h1]
    rw[List.getElem?_append_left (by rw[List.length_append,List.length_take];omega),List.getElem?_append_right (by rw[List.length_take];omega),List.length_take,Nat.min_eq_left (by omega)]at hv
    rw[List.getD_eq_getElem?_getD,hv];rfl
   ·rw[if_neg h1]
    by_cases h2:i<o
    ·rw[List.getElem?_append_left (by rw[List.length_append,List.length_take];omega),List.getElem?_append_left (by rw[List.length_take];omega),List.getElem?_take,if_pos h2]at hv
     exact ht i v hv
    ·rw[List.getElem?_append_right (by rw[List.length_append,List.length_take];omega),List.getElem?_drop,List.length_append,List.length_take,Nat.min_eq_left (by omega),show o+vs.length+(i-(o+vs.length))=i by omega]at hv
     exact ht i v hv
theorem j4 {H:Hp} {b ty op o:Nat} {L vs:List Value} (hf:H.bG=true) (h:Row H b ty op L) (hle:o+vs.length<=L.length) :
 ∃ H1,i_ vs.length (.pointer (some ⟨b,o,none⟩)) (.agg ⟨vs⟩) H=.val U H1 0 (bit b)/\wS H b ty op (L.take o++vs++L.drop (o+vs.length)) H1:=by
 obtain⟨H1,h1,h2⟩:=ab9 hf h hle
 refine⟨H1,?_,h2⟩
 show(match some vs with|some vs'=>Bc (Nat.beq vs'.length vs.length) (match N3 H b o vs' with|some H'=>R.val U H' 0 (bit b)|none=>.fail) .fail|none=>.fail)=_
 simp only[h1,(beq_iff _ _).2 rfl,aj]
theorem VX {v:Value} (h:bQ v=true) (p:Value) (H:Hp):i_ 1 p v H=i_ 1 p (.agg ⟨[v]⟩) H:=by
 cases v<;>first|rfl|(cases h;done)|(rename_i ch;cases ch<;>first|rfl|cases h)
theorem fA {H:Hp} {b ty op o:Nat} {L:List Value} {v:Value} (hv:bQ v=true) (hf:H.bG=true) (h:Row H b ty op L) (hle:o+1<=L.length) :
 ∃ H1,i_ 1 (.pointer (some ⟨b,o,none⟩)) v H=.val U H1 0 (bit b)/\wS H b ty op (L.take o++[v]++L.drop (o+1)) H1:=by
 obtain⟨H1,h1,h2⟩:=j4 (vs:=[v]) hf h hle
 exact⟨H1,by rw[VX hv];exact h1,h2⟩
open Go.Ar (By)
def uB (u:UInt8):Value:=.int .u8 (.ofNat u.toNat)
def qW (f:By) (n:Nat):List Value:=(List.range n).map λi=>uB (f i)
def gJ (f:By) (n:Nat):List UInt8:=(List.range n).map f
theorem cA (f:By) (n:Nat):(qW f n).length=n:=by simp[qW]
theorem xj (f:By) (n:Nat):(gJ f n).length=n:=by simp[gJ]
theorem gx {f:By} {n i:Nat} (h:i<n):(qW f n)[i]?=some (uB (f i)):=by simp[qW,h]
theorem Ei {f:By} {n i:Nat} (h:i<n):(gJ f n)[i]?=some (f i):=by simp[gJ,h]
theorem Qo {f g:By} {n:Nat} (h:∀ i,i<n->f i=g i):qW f n=qW g n:=List.map_congr_left λi hi=>by rw[h i (List.mem_range.1 hi)]
theorem aaK {f:By} {n o k:Nat} (h:o+k<=n):((qW f n).drop o).take k=qW (λi=>f (o+i)) k:=by
 apply List.ext_getElem?
 intro i
 rw[List.getElem?_take]
 split
 ·rename_i hi
  rw[List.getElem?_drop,gx (by omega),gx hi]
 ·rename_i hi
  rw[List.getElem?_eq_none (by rw[cA];omega)]
def over (f:By) (o k:Nat) (g:By):By:=λi=>if o<=i/\i<o+k then g (i-o)else f i
theorem WB {f g:By} {n o k:Nat} (h:o+k<=n):(qW f n).take o++qW g k++(qW f n).drop (o+k)=qW (over f o k g) n:=by
 apply List.ext_getElem?
 intro i
 by_cases hi:i<n
 ·rw[gx hi]
  unfold over
  by_cases h1:i<o
  ·rw[List.getElem?_append_left (by rw[List.length_append,List.length_take,cA,cA];omega),List.getElem?_append_left (by rw[List.length_take,cA];omega),List.getElem?_take,if_pos h1,gx hi,if_neg (by omega)]
  ·by_cases h2:i<o+k
   ·rw[List.getElem?_append_left (by rw[List.length_append,List.length_take,cA,cA];omega),List.getElem?_append_right (by rw[List.length_take,cA];omega),List.length_take,cA,Nat.min_eq_left (by omega),gx (by omega),if_pos ⟨by omega,h2⟩]
   ·rw[List.getElem?_append_right (by rw[List.length_append,List.length_take,cA,cA];omega),List.getElem?_drop,List.length_append,List.length_take,cA,cA,Nat.min_eq_left (by omega),show o+k+(i-(o+k))=i by omega,gx hi,if_neg (by omega)]
 ·rw[List.getElem?_eq_none (by rw[List.length_append,List.length_append,List.length_take,List.length_drop,cA,cA];omega),List.getElem?_eq_none (by rw[cA];omega)]
theorem Aw (f:By) (n:Nat):strOf (qW f n)=some (gJ f n):=by
 unfold strOf qW gJ
 rw[show((List.range n).map λi=>uB (f i)).all Up=true from List.all_eq_true.2 λv hv=>by obtain⟨i,_,rfl⟩:=List.mem_map.1 hv;rfl,aj,List.map_map]
 congr 1
 apply List.map_congr_left
 intro i _
 show UInt8.ofNat (Int.ofNat (f i).toNat).toNat=f i
 simp
abbrev od (H:Hp) (b ty:Nat) (f:By) (n:Nat):Prop:=Row H b ty 0 (qW f n)
theorem od.ld {H:Hp} {b ty n i:Nat} {f:By} (h:od H b ty f n) (hi:i<n):dA (.pointer (some ⟨b,i,none⟩)) H=.val (uB (f i)) H (bit b) 0:=aV h (gx hi)
theorem od.qU {H:Hp} {b ty n o k:Nat} {f:By} (h:od H b ty f n) (hle:o+k<=n):qU H b o k=some (qW (λi=>f (o+i)) k):=by
 rw[rM h (by rw[cA];exact hle),aaK hle]
theorem od.toS {H:Hp} {b ty n o k c:Nat} {f:By} (h:od H b ty f n) (hle:o+k<=n):vf (.slice (some ⟨b,o,none⟩) k c) H=.val (vS (gJ (λi=>f (o+i)) k)) H (bit b) 0:=by
 show(match Go.Ev.qU H b o k with|some l=>(match zD l with|some s=>R.val s H (bit b) 0|none=>.fail)|none=>.fail)=_
 rw[h.qU hle]
 simp only[zD,YY,Aw]
structure NS (H:Hp) (n:Nat) (H1:Hp):Prop where
 made:qI 5 1 [.int .u8 0] (vN n) (vN n) H=.val (.slice (some ⟨H.nx,0,none⟩) n (2*n)) H1 0 0
 row:od H1 H.nx 5 (λ_=>0) n
 kept:Kept H H1
 nx:H1.nx=H.nx+1
theorem amJ {H:Hp} (hf:H.bG=true) {n:Nat} (hn:n<=1099511627776):∃ H1,NS H n H1:=by
 refine⟨H.push (.cells (.e (.int .u8 0)) n 5 0 0 0),?_,⟨.e (.int .u8 0),?_,λi v hv=>?_⟩,⟨by rw[cg];exact hf,by rw[aZ];omega,λb hb=>a_ (aO hf) _ hb⟩,aZ _ _⟩
 ·show Bc (Nat.ble n n&&Nat.ble (n*1) 1099511627776&&Nat.ble n 1099511627776) (aS (.cells (.e (.int .u8 0)) n 5 0 0 0) H (λi=>c_ (some (i,0)) n n false) 0 0) .fail=_
  rw[(aE _ _).2 (Nat.le_refl n),(aE _ _).2 (show n*1<=1099511627776 by omega),(aE _ _).2 hn]
  rw[show(true&&true&&true)=true from rfl,aj,e_ (aO hf)]
  rfl
 ·rw[cA,gf _ (aO hf),if_pos rfl]
 ·have hi:i<n:=by
   rcases Nat.lt_or_ge i n with h|h
   ·exact h
   ·rw[List.getElem?_eq_none (by rw[cA];exact h)]at hv;cases hv
  rw[gx hi]at hv
  exact Option.some.inj hv
structure G3 (H:Hp) (b ty:Nat) (f:By) (n:Nat) (H1:Hp):Prop where
 row:od H1 b ty f n
 fn:H1.bG=true
 nx:H1.nx=H.nx
 dS:∀ c,c≠b->H1.blk c=H.blk c
theorem wS.ov {H H1:Hp} {b ty n o k:Nat} {f g:By} (hle:o+k<=n) (h:wS H b ty 0 ((qW f n).take o++qW g k++(qW f n).drop (o+(qW g k).length)) H1):G3 H b ty (over f o k g) n H1:=by
 obtain⟨h1,h2,h3,h4⟩:=h
 rw[cA,WB hle]at h1
 exact⟨h1,h2,h3,h4⟩
theorem od.st {H:Hp} {b ty n i:Nat} {f:By} {u:UInt8} (hf:H.bG=true) (h:od H b ty f n) (hi:i<n):∃ H1,i_ 1 (.pointer (some ⟨b,i,none⟩)) (uB u) H=.val U H1 0 (bit b)/\G3 H b ty (over f i 1 λ_=>u) n H1:=by
 obtain⟨H1,h1,h2⟩:=fA (v:=uB u) (o:=i) rfl hf h (by rw[cA];omega)
 exact⟨H1,h1,wS.ov (k:=1) (g:=λ_=>u) (by omega) h2⟩
theorem GJ {x:Nat} {dflt hi:Nat} (h:x<=hi):XD (some (vN (x:Nat))) dflt hi=some x:=by
 show(match (some ((x:Nat):Int))with|some n=>(match tZ n with|some m=>Bc (Nat.ble m hi) (some m) none|none=>none)|none=>none)=_
 show Bc (Nat.ble x hi) (some x) none=_
 rw[(aE _ _).2 h,aj]
end Go.Ev
namespace Go.Ev
variable [dj]
theorem Yj:(!true)=false:=rfl
theorem Yk:(!false)=true:=rfl
theorem Yl (n:Nat):0+n=n:=Nat.zero_add n
theorem Ym (n:Nat):n+0=n:=rfl
theorem Yn (n:Nat):n<=n:=Nat.le_refl n
theorem Yo {α:Type} {n:Nat} {a:α} {l:List α}:(a::l).take (n+1)=a::l.take n:=rfl
theorem Yp {α:Type} {l:List α}:l.take 0=[]:=by cases l<;>rfl
theorem Yq {α:Type} {n:Nat} {a:α} {l:List α}:(a::l).drop (n+1)=l.drop n:=rfl
theorem Yr {α:Type} {l:List α}:l.drop 0=l:=rfl
end Go.Ev
namespace Go.Ev
variable [dj]
abbrev iN (n:Nat):Value:=.int .i64 ((n:Nat):Int)
abbrev pA (b o:Nat):Value:=.pointer (some ⟨b,o,none⟩)
abbrev sC (b o n c:Nat):Value:=.slice (some ⟨b,o,none⟩) n c
section
variable {tb:Tb} {sp:Nat->List Value->Hp->Option (Value×Hp×Nat×Nat)} {e:Env} {N0:Nat} {Us:Nat->Prop} {d:Nat} {K:T Value->Hp->Prop} {cos:List CO} {t:T Value} {H:Hp}
theorem aR.iX (h:∀ K0:T Value->Hp->Prop,(∀ t H,K t H->K0 t H)->aR tb sp e d K0 cos t H):aR tb sp e d K cos t H:=h K λ_ _ h=>h
theorem fe.iX {cl:List C4} (h:∀ K0:T Value->Hp->Prop,(∀ t H,K t H->K0 t H)->fe tb sp e N0 Us d K0 cos cl t H):fe tb sp e N0 Us d K cos cl t H:=h K λ_ _ h=>h
end
end Go.Ev
namespace Go.Ev
variable [dj]
section
variable {H H':Hp} {b b2 ty op:Nat} {L:List Value}
theorem Row.mv (h:Row H b ty op L) (k:Kept H H'):Row H' b ty op L:=h.bF (k.old _ h.lt)
theorem pV {e:Env} (h:Row H b ty op L) (hb:e.n0<=b):e.ok (bit b) 0 H:=.read h.lt λh=>absurd h (by omega)
theorem wm {e:Env} (h:Row H b ty op L) (hb:e.n0<=b):e.ok 0 (bit b) H:=.write h.lt λh=>absurd h (by omega)
end
end Go.Ev
namespace Go.Ev
variable [dj]
theorem Xo (d:Nat) {i j:Nat} (hi:i<8 ^ d) (hj:j<8 ^ d) (t:T Value) (v:Value):(eF d t (some i) v).get j=if j=i then v else t.get j:=UP hi hj t v
end Go.Ev
namespace Go.Ev
variable [dj]
section
variable {tb:Tb} {sp:Nat->List Value->Hp->Option (Value×Hp×Nat×Nat)} {e:Env} {f:FuncId} {fn:Func} {c:Code} {k:KC} {a0 a1 a2 a3 a4:Value} {H:Hp} {K:Value->Hp->Prop} (hf:tb.fn f=some fn) (hb:fn.body=some c) (hk:bC tb fn.ntmps c=k)
include hf hb hk
theorem EC.i1 (hs:sp f [a0] H=none) (hn:1<=fn.ntmps) (h:∀ t0:T Value,t0.get 0=a0->WK tb sp e (Qf fn) k t0 [] H (Leaves tb e fn K)):EC tb sp e f [a0] H K:=EC.intro hs hf hb hk hn (h _ (dZ (args:=[a0]) hn (by omega)))
theorem EC.i2 (hs:sp f [a0,a1] H=none) (hn:2<=fn.ntmps) (h:∀ t0:T Value,t0.get 0=a0->t0.get 1=a1->WK tb sp e (Qf fn) k t0 [] H (Leaves tb e fn K)):EC tb sp e f [a0,a1] H K:=EC.intro hs hf hb hk hn (h _ (dZ (args:=[a0,a1]) hn (by omega)) (dZ (args:=[a0,a1]) hn (by omega)))
theorem EC.i3 (hs:sp f [a0,a1,a2] H=none) (hn:3<=fn.ntmps) (h:∀ t0:T Value,t0.get 0=a0->t0.get 1=a1->t0.get 2=a2->WK tb sp e (Qf fn) k t0 [] H (Leaves tb e fn K)):EC tb sp e f [a0,a1,a2] H K:=EC.intro hs hf hb hk hn (h _ (dZ (args:=[a0,a1,a2]) hn (by omega)) (dZ (args:=[a0,a1,a2]) hn (by omega)) (dZ (args:=[a0,a1,a2]) hn (by omega)))
theorem EC.i5 (hs:sp f [a0,a1,a2,a3,a4] H=none) (hn:5<=fn.ntmps) (h:∀ t0:T Value,t0.get 0=a0->t0.get 1=a1->t0.get 2=a2->t0.get 3=a3->t0.get 4=a4->WK tb sp e (Qf fn) k t0 [] H (Leaves tb e fn K)):EC tb sp e f [a0,a1,a2,a3,a4] H K:=EC.intro hs hf hb hk hn (h _ (dZ (args:=[a0,a1,a2,a3,a4]) hn (by omega)) (dZ (args:=[a0,a1,a2,a3,a4]) hn (by omega)) (dZ (args:=[a0,a1,a2,a3,a4]) hn (by omega)) (dZ (args:=[a0,a1,a2,a3,a4]) hn (by omega)) (dZ (args:=[a0,a1,a2,a3,a4]) hn (by omega)))
end
end Go.Ev
namespace Go.Ev
variable [dj]
def GT (t:T Value):List (Nat×Value)->Prop
 | []=>True
 |(i,v)::l=>t.get i=v/\GT t l
theorem wF {x y:Int} (h : -9223372036854775808<=x/\x<=9223372036854775807/\x=y):Value.int .i64 (aN .i64 x)=.int .i64 y:=congrArg _ ((Al h.1 h.2.1).trans h.2.2)
end Go.Ev
end
noncomputable section
namespace Go.Ev
variable [dj]
open Go.Ar (By)
theorem jJ (n:Nat):(UInt8.ofNat n).toNat=n % 256:=by simp
theorem NZ {n:Nat} (h:n<=9223372036854775807):aN .i64 ((n:Nat):Int)=((n:Nat):Int):=Al (by omega) (by omega)
theorem ic {h:Decidable True}:@decide True h=true:=decide_eq_true trivial
theorem ig {h:Decidable False}:@decide False h=false:=decide_eq_false id
theorem bP (s:List UInt8) (H:Hp):fY 0 (vS s) H=.val (vN s.length) H 0 0:=rfl
theorem G3.refl {H:Hp} {b ty n:Nat} {f:By} (hf:H.bG=true) (h:od H b ty f n):G3 H b ty f n H:=⟨h,hf,rfl,λ_ _=>rfl⟩
theorem G3.trans {H H1 H2:Hp} {b ty n:Nat} {f g:By} (h:G3 H b ty f n H1) (k:G3 H1 b ty g n H2):G3 H b ty g n H2:=⟨k.row,k.fn,by rw[k.nx,h.nx],λc hc=>by rw[k.dS c hc,h.dS c hc]⟩
theorem G3.as {H H1:Hp} {b ty n:Nat} {f g:By} (h:G3 H b ty f n H1) (e:f=g):G3 H b ty g n H1:=by rw[<-e];exact h
def jB (u:UInt8) (i:Nat):UInt8:=UInt8.ofNat (48+u.toNat / 2 ^ (7-i) % 2)
def bitsOf (u:UInt8):List UInt8:=(List.range 8).map (jB u)
theorem od.congr {H:Hp} {b ty n:Nat} {f g:By} (h:od H b ty f n) (e:∀ i,i<n->f i=g i):od H b ty g n:=by
 show Row H b ty 0 (qW g n)
 rw[<-Qo e];exact h
theorem od.akN {H:Hp} {b ty n k c:Nat} {f:By} (h:od H b ty f n) (hle:0+k<=n):vf (.slice (some ⟨b,0,none⟩) k c) H=.val (vS (gJ f k)) H (bit b) 0:=by
 rw[h.toS hle]
 simp only[Nat.zero_add]
theorem acU {b l h:Nat} (H:Hp) (h1:l<=h) (h2:h<=65536) (h3:l<65536):yS 65536 1 (.pointer (some ⟨b,0,none⟩)) (some (vN ((l:Nat):Int))) (some (vN ((h:Nat):Int))) none H=.val (.slice (some ⟨b,l,none⟩) (h-l) (2*(65536-l))) H 0 0:=by
 have:bounds 65536 65536 (some (vN (l:Int))) (some (vN (h:Int))) none=some (l,h,65536):=by
  unfold bounds
  rw[show Bc ((none:Option Value).isSome&&(some (vN (h:Int))).isNone) none (XD none 65536 65536)=some 65536 from rfl]
  simp only[]
  rw[GJ h2]
  simp only[]
  rw[GJ h1]
 show(match bounds 65536 65536 (some (vN (l:Int))) (some (vN (h:Int))) none with
  |none=>R.fail
  |some (l,h,m)=>Bc (Nat.beq m l) (R.v (c_ (some (b,0)) (h-l) (m-l) false) H) (R.v (c_ (some (b,0+l*1)) (h-l) (m-l) false) H))=_
 rw[this]
 simp only[]
 have e:Nat.beq 65536 l=false:=by
  cases hh:Nat.beq 65536 l with
  |false=>rfl
  |true=>have:=(beq_iff _ _).1 hh;omega
 rw[e,au,Nat.mul_one,Nat.zero_add]
 rfl
theorem agj {b p n:Nat} (H:Hp) (h1:p+n<=65536) (h2:p<65536):yS 65536 1 (.pointer (some ⟨b,0,none⟩)) (some (vN ((p:Nat):Int))) (some (vN ((p+n:Nat):Int))) none H=.val (.slice (some ⟨b,p,none⟩) n (2*(65536-p))) H 0 0:=by
 rw[acU H (by omega) h1 h2,show p+n-p=n by omega]
theorem SC {n q:Nat} (h:n / 8=q) (hn:n<9223372036854775808) (H:Hp):R.o (dK .quo (vN ((n:Nat):Int)) (.int .i64 8)) H=.val (vN ((q:Nat):Int)) H 0 0:=by
 have:dK .quo (vN ((n:Nat):Int)) (.int .i64 8)=some (vN ((q:Nat):Int)):=by
  show Bc (nQ 8 0) none (some (Value.int .i64 (aN .i64 (((n:Nat):Int).tdiv 8))))=_
  rw[show nQ 8 0=false from rfl,au]
  have:((n:Nat):Int).tdiv 8=((q:Nat):Int):=by rw[Int.tdiv_eq_ediv_of_nonneg (Int.natCast_nonneg _)];omega
  rw[this,NZ (by omega)]
 rw[this];rfl
theorem amc {n q k:Nat} (hk:0<k) (h:n % k=q) (H:Hp):R.o (dK .rem (vN ((n:Nat):Int)) (.int .i64 ((k:Nat):Int))) H=.val (vN ((q:Nat):Int)) H 0 0:=by
 have:dK .rem (vN ((n:Nat):Int)) (.int .i64 ((k:Nat):Int))=some (vN ((q:Nat):Int)):=by
  refine DO ?_
  show Bc (nQ ((k:Nat):Int) 0) none (some (Value.int .i64 (((n:Nat):Int).tmod ((k:Nat):Int))))=_
  have e:nQ ((k:Nat):Int) 0=false:=by
   rw[wM];exact decide_eq_false (by omega)
  rw[e,au]
  have:((n:Nat):Int).tmod ((k:Nat):Int)=((q:Nat):Int):=by
   rw[Int.tmod_eq_emod_of_nonneg (Int.natCast_nonneg _),<-h];rfl
  rw[this]
 rw[this];rfl
theorem Sq {n q:Nat} (h:n % 8=q) (H:Hp):R.o (dK .rem (vN ((n:Nat):Int)) (.int .i64 8)) H=.val (vN ((q:Nat):Int)) H 0 0:=amc (k:=8) (by decide) h H
abbrev nB (n:Nat):Value:=.int .u8 ((n:Nat):Int)
theorem Ff {n:Nat} (h:n<256):nB n=uB (UInt8.ofNat n):=by
 show Value.int .u8 (.ofNat n)=Value.int .u8 (.ofNat (UInt8.ofNat n).toNat)
 rw[jJ,Nat.mod_eq_of_lt h]
theorem aba {n k:Nat} (hk:k<8):dK .shr (nB n) (vN ((k:Nat):Int))=some (nB (n / 2 ^ k)):=by
 refine DO ?_
 show Bc (pW (k:Int) 0) none (some (Value.int .u8 (((n:Nat):Int).fdiv (2 ^ (min ((k:Int)).toNat IntKind.u8.bits)))))=_
 rw[show pW (k:Int) 0=false from by rw[si];exact decide_eq_false (by omega),au]
 have e:min ((k:Int)).toNat IntKind.u8.bits=k:=by
  rw[Int.toNat_natCast];exact Nat.min_eq_left (by show k<=8;omega)
 rw[e]
 have:((2:Int) ^ k)=((2 ^ k:Nat):Int):=by simp
 rw[this,Int.fdiv_eq_ediv_of_nonneg _ (by exact Int.natCast_nonneg _)]
 congr 2
theorem Kr {n:Nat} (h:n<256):aN .u8 ((n:Nat):Int)=((n:Nat):Int):=by
 show Bc (Nat.ble n (C5 .u8)) (Int.ofNat n) _=_
 rw[(aE _ _).2 (by show n<=255;omega),aj];rfl
theorem aoC {n:Nat} (h:n<256):dK .and (nB n) (.int .u8 1)=some (nB (n % 2)):=by
 show some (Value.int .u8 (aN .u8 (.ofNat (Nat.land n 1))))=_
 have:Nat.land n 1=n % 2:=Nat.and_one_is_mod n
 rw[this]
 show some (Value.int .u8 (aN .u8 ((n % 2:Nat):Int)))=_
 rw[Kr (by omega)]
theorem akt {n:Nat} (h:n<2):dK .add (.int .u8 48) (nB n)=some (nB (48+n)):=by
 show some (Value.int .u8 (aN .u8 (48+((n:Nat):Int))))=_
 rw[show(48+((n:Nat):Int))=((48+n:Nat):Int) by omega,Kr (by omega)]
def fL (a u i:Nat):Nat:=2 ^ (8-i)*(u / 2 ^ (8-i))+a % 2 ^ (8-i)
theorem rZ {a u i:Nat} (hu:u<256) (j:Nat):(fL a u i).testBit j=if j<8-i then a.testBit j else u.testBit j:=by
 unfold fL
 rw[Nat.testBit_two_pow_mul_add _ (Nat.mod_lt _ (Nat.two_pow_pos _))]
 by_cases h:j<8-i
 ·rw[if_pos h,if_pos h,Nat.testBit_mod_two_pow];simp[h]
 ·rw[if_neg h,if_neg h,Nat.testBit_div_two_pow];congr 1;omega
theorem qy {a u i:Nat} (ha:a<256) (hu:u<256):fL a u i<256:=by
 have:fL a u i<2 ^ 8:=Nat.lt_pow_two_of_testBit _ λj hj=>by
  rw[rZ hu]
  have e1:a.testBit j=false:=Nat.testBit_lt_two_pow (Nat.lt_of_lt_of_le ha (show 256<=2 ^ j from Nat.pow_le_pow_right (n:=2) (by decide) hj))
  have e2:u.testBit j=false:=Nat.testBit_lt_two_pow (Nat.lt_of_lt_of_le hu (show 256<=2 ^ j from Nat.pow_le_pow_right (n:=2) (by decide) hj))
  rw[e1,e2];simp
 exact this
theorem Fl {a u:Nat} (ha:a<256) (hu:u<256):fL a u 0=a:=by
 unfold fL
 have e1:u / 2 ^ (8-0)=0:=Nat.div_eq_of_lt hu
 have e2:a % 2 ^ (8-0)=a:=Nat.mod_eq_of_lt ha
 rw[e1,e2];omega
theorem LB (a u:Nat):fL a u 8=u:=by
 unfold fL;simp[Nat.mod_one]
theorem acV {i:Nat} (h:i<8):dK .shr (.int .u8 128) (vN ((i:Nat):Int))=some (nB (2 ^ (7-i))):=by
 have:=aba (n:=128) h
 rw[show(128:Nat)=2 ^ 7 from rfl,Nat.pow_div (by omega) (by decide)]at this
 exact this
theorem adE {a u i:Nat} (ha:a<256) (hu:u<256) (hi:i<8) (hb:u / 2 ^ (7-i) % 2=1):dK .or (nB (fL a u i)) (nB (2 ^ (7-i)))=some (nB (fL a u (i+1))):=by
 have hb':u.testBit (7-i)=true:=by rw[Nat.testBit_eq_decide_div_mod_eq];simp[hb]
 have e:Nat.lor (fL a u i) (2 ^ (7-i))=fL a u (i+1):=by
  apply Nat.eq_of_testBit_eq
  intro j
  show(fL a u i ||| 2 ^ (7-i)).testBit j=_
  rw[Nat.testBit_or,rZ hu,rZ hu,Nat.testBit_two_pow]
  by_cases h1:7-i=j
  ·subst h1
   rw[if_pos (by omega:7-i<8-i),if_neg (by omega:¬ 7-i<8-(i+1)),hb'];simp
  ·simp only[h1,decide_false,Bool.or_false]
   by_cases h2:j<8-i
   ·rw[if_pos h2,if_pos (by omega)]
   ·rw[if_neg h2,if_neg (by omega)]
 show some (Value.int .u8 (aN .u8 (.ofNat (Nat.lor (fL a u i) (2 ^ (7-i))))))=_
 rw[e]
 show some (Value.int .u8 (aN .u8 ((fL a u (i+1):Nat):Int)))=_
 rw[Kr (qy ha hu)]
theorem Zw {a u i:Nat} (ha:a<256) (hu:u<256) (hi:i<8) (hb:u / 2 ^ (7-i) % 2=0):dK .andNot (nB (fL a u i)) (nB (2 ^ (7-i)))=some (nB (fL a u (i+1))):=by
 have hb':u.testBit (7-i)=false:=by rw[Nat.testBit_eq_decide_div_mod_eq];simp[hb]
 have hm:=qy (i:=i) ha hu
 have hp:2 ^ (7-i)<256:=Nat.pow_lt_pow_right (a:=2) (m:=7-i) (n:=8) (by decide) (by omega)
 have e:(BitVec.ofInt 8 ((fL a u i:Nat):Int) &&& ~~~ (BitVec.ofInt 8 ((2 ^ (7-i):Nat):Int))).toNat=fL a u (i+1):=by
  have e1:(BitVec.ofInt 8 ((fL a u i:Nat):Int))=BitVec.ofNat 8 (fL a u i):=by simp
  have e2:(BitVec.ofInt 8 ((2 ^ (7-i):Nat):Int))=BitVec.ofNat 8 (2 ^ (7-i)):=BitVec.ofInt_natCast _ _
  rw[e1,e2]
  apply Nat.eq_of_testBit_eq
  intro j
  rw[BitVec.testBit_toNat,BitVec.getLsbD_and,BitVec.getLsbD_not,BitVec.getLsbD_ofNat,BitVec.getLsbD_ofNat,rZ hu,rZ hu,Nat.testBit_two_pow]
  by_cases h8:j<8
  ·by_cases h1:7-i=j
   ·subst h1
    rw[if_neg (by omega:¬ 7-i<8-(i+1)),hb'];simp
   ·simp only[h1,decide_false,h8,decide_true,Bool.true_and,Bool.not_false,Bool.and_true,Bool.and_false]
    by_cases h2:j<8-i
    ·rw[if_pos h2,if_pos (by omega)]
    ·rw[if_neg h2,if_neg (by omega)]
  ·have e2:u.testBit j=false:=Nat.testBit_lt_two_pow (Nat.lt_of_lt_of_le hu (show 256<=2 ^ j from Nat.pow_le_pow_right (n:=2) (by decide) (show 8<=j by omega)))
   have n1:¬ j<8-i:=by omega
   have n2:¬ j<8-(i+1):=by omega
   have n3:¬ j<7-i:=by omega
   simp[h8,n1,n2,n3,e2]
 show some (Value.int .u8 (IntKind.u8.wrap ((BitVec.ofInt 8 ((fL a u i:Nat):Int) &&& ~~~ (BitVec.ofInt 8 ((2 ^ (7-i):Nat):Int))).toNat:Nat)))=_
 rw[e,<-dO,Kr (qy ha hu)]
end Go.Ev
namespace Go.Ev
variable [dj]
open Go.Ar (By)
theorem aaQ (u:UInt8) (i:Nat):dK .add (.int .u8 48) (nB (u.toNat / 2 ^ (7-i) % 2))=some (uB (jB u i)):=by
 have:=Nat.mod_lt (u.toNat / 2 ^ (7-i)) (show 0<2 by decide)
 rw[akt this,Ff (by omega)];rfl
theorem afc {u:UInt8} {i:Nat} (h:u.toNat / 2 ^ (7-i) % 2=1) (H:Hp):jo false (.one .i) (uB (jB u i)) (.int .u8 49) H=.val (.bool true) H 0 0:=by
 have:jB u i=49:=by unfold jB;rw[h];rfl
 rw[this];rfl
theorem afd {u:UInt8} {i:Nat} (h:u.toNat / 2 ^ (7-i) % 2=0) (H:Hp):jo false (.one .i) (uB (jB u i)) (.int .u8 49) H=.val (.bool false) H 0 0:=by
 have:jB u i=48:=by unfold jB;rw[h];rfl
 rw[this];rfl
def mg (f:By) (p x:Nat):By:=over f p 1 λ_=>UInt8.ofNat x
theorem Cy (f:By) (p x:Nat):mg f p x p=UInt8.ofNat x:=by unfold mg over;rw[if_pos (by omega)]
theorem adG {f:By} {p i:Nat} {u:UInt8} (hi:i<8) (hb:u.toNat / 2 ^ (7-i) % 2=1):dK .or (uB (mg f p (fL (f p).toNat u.toNat i) p)) (nB (2 ^ (7-i)))=some (uB (UInt8.ofNat (fL (f p).toNat u.toNat (i+1)))):=by
 rw[Cy,<-Ff (qy (f p).toNat_lt u.toNat_lt),adE (f p).toNat_lt u.toNat_lt hi hb,Ff (qy (f p).toNat_lt u.toNat_lt)]
theorem ZA {f:By} {p i:Nat} {u:UInt8} (hi:i<8) (hb:u.toNat / 2 ^ (7-i) % 2=0):dK .andNot (uB (mg f p (fL (f p).toNat u.toNat i) p)) (nB (2 ^ (7-i)))=some (uB (UInt8.ofNat (fL (f p).toNat u.toNat (i+1)))):=by
 rw[Cy,<-Ff (qy (f p).toNat_lt u.toNat_lt),Zw (f p).toNat_lt u.toNat_lt hi hb,Ff (qy (f p).toNat_lt u.toNat_lt)]
end Go.Ev
end
noncomputable section
namespace Go.Ev
variable [dj]
theorem Post.grow {β β':Mp} {H H':Hp} {w:Nat} {W W1 W2:World} {os:Array Obj} (q:Post β β' H H' w W W1) (h:W2.heap=W1.heap++os) (he:W2.os=W1.os/\W2.tape=W1.tape/\W2.output=W1.output):Post β β' H H' w W W2:=by
 have up:∀ (i:Nat) o,W1.heap[i]?=some o->W2.heap[i]?=some o:=λi o ho=>by
  have hi:i<W1.heap.size:=by
   rcases Nat.lt_or_ge i W1.heap.size with h'|h'
   ·exact h'
   ·rw[Array.getElem?_eq_none h']at ho;cases ho
  rw[h,Array.getElem?_append_left hi];exact ho
 have sz:W1.heap.size<=W2.heap.size:=by rw[h,Array.size_append];omega
 exact⟨q.le,q.only,λb hb ha=>let ⟨m,e1,o,ho,hr⟩:=q.rel b hb ha;⟨m,e1,o,up _ _ ho,hr⟩,λrb o ho hn=>up _ _ (q.frame rb o ho hn),Nat.le_trans q.size sz,
  λb m e=>Nat.lt_of_lt_of_le (q.dom b m e) sz,q.new,q.inj,⟨he.1.trans q.env.1,he.2.1.trans q.env.2.1,he.2.2.trans q.env.2.2⟩⟩
end Go.Ev
end
