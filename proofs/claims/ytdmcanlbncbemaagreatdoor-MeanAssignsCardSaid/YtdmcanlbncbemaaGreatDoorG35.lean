/-
 A part of the proof that pliantlaw16.MeanAssigns returns true and leaves its arguments alone. Conditions: those of the card in the last text.
-/
import Derived.Below
import Derived.ChangeArms
import Derived.Deep.DeepHandedRow
import Derived.Deep.DeepLaidRun
import Derived.Deep.DeepWitnessRowRef
import Derived.Deep.SlicePairs
import Derived.Deep.Slices
import Derived.KernelRfl
import Derived.LaidHandle
import Derived.LaidLaws
import Derived.Lib.LaidTab
import Derived.OpenShut
import Derived.ProofKit
import Derived.Test.YtdmcanlbncbemaaGreatDoorProg
import Derived.Test.YtdmcanlbncbemaaGreatDoorRows
import Derived.WalkKit
import Derived.Test.YtdmcanlbncbemaaGreatDoorG25
import Derived.Test.YtdmcanlbncbemaaGreatDoorG26
import Derived.Test.YtdmcanlbncbemaaGreatDoorG27
import Derived.Test.YtdmcanlbncbemaaGreatDoorG28
import Derived.Test.YtdmcanlbncbemaaGreatDoorG29
import Derived.Test.YtdmcanlbncbemaaGreatDoorG30
import Derived.Test.YtdmcanlbncbemaaGreatDoorG31
import Derived.Test.YtdmcanlbncbemaaGreatDoorG32
import Derived.Test.YtdmcanlbncbemaaGreatDoorG33
import Derived.Test.YtdmcanlbncbemaaGreatDoorG34
set_option linter.unusedSimpArgs false
set_option linter.unusedVariables false
set_option linter.unusedSectionVars false
set_option maxRecDepth 100000
set_option maxHeartbeats 8000000
noncomputable section
namespace Go.Proofs.CA
open Go Go.Ev Go.Proofs Go.Proofs.MN Go.Proofs.CN Go.Ev.SM
open Go.RowKit (Below)
theorem agn:∀ k,k<81->eK k=true:=by
 intro k hk
 match k,hk with
 |0,_=>exact az ru0
 |1,_=>exact az ru1
 |2,_=>exact az ru2
 |3,_=>exact az ru3
 |4,_=>exact az ru4
 |5,_=>exact az ru5
 |6,_=>exact az ru6
 |7,_=>exact az ru7
 |8,_=>exact az ru8
 |9,_=>exact az ru9
 |10,_=>exact az amb
 |11,_=>exact az ama
 |12,_=>exact az al_
 |13,_=>exact az al'
 |14,_=>exact az al9
 |15,_=>exact az al8
 |16,_=>exact az al7
 |17,_=>exact az al6
 |18,_=>exact az al5
 |19,_=>exact az al4
 |20,_=>exact az al3
 |21,_=>exact az al2
 |22,_=>exact az al0
 |23,_=>exact az alZ
 |24,_=>exact az alY
 |25,_=>exact az alX
 |26,_=>exact az alW
 |27,_=>exact az alV
 |28,_=>exact az alU
 |29,_=>exact az alT
 |30,_=>exact az alS
 |31,_=>exact az alR
 |32,_=>exact az alQ
 |33,_=>exact az alP
 |34,_=>exact az alO
 |35,_=>exact az alN
 |36,_=>exact az alM
 |37,_=>exact az alL
 |38,_=>exact az alK
 |39,_=>exact az alJ
 |40,_=>exact az alI
 |41,_=>exact az alH
 |42,_=>exact az alG
 |43,_=>exact az alF
 |44,_=>exact az alE
 |45,_=>exact az alD
 |46,_=>exact az alC
 |47,_=>exact az alB
 |48,_=>exact az alA
 |49,_=>exact az alz
 |50,_=>exact az aly
 |51,_=>exact az alx
 |52,_=>exact az alw
 |53,_=>exact az alu
 |54,_=>exact az alr
 |55,_=>exact az alq
 |56,_=>exact az aln
 |57,_=>exact az alk
 |58,_=>exact az alj
 |59,_=>exact az ali
 |60,_=>exact az alh
 |61,_=>exact az alg
 |62,_=>exact az alf
 |63,_=>exact az ale
 |64,_=>exact az ald
 |65,_=>exact az alc
 |66,_=>exact az alb
 |67,_=>exact az ala
 |68,_=>exact az ak_
 |69,_=>exact az ak'
 |70,_=>exact az ak9
 |71,_=>exact az ak8
 |72,_=>exact az ak7
 |73,_=>exact az ak6
 |74,_=>exact az ak5
 |75,_=>exact az ak4
 |76,_=>exact az ak3
 |77,_=>exact az ak2
 |78,_=>exact az ak1
 |79,_=>exact az ak0
 |80,_=>exact az akZ
 |k+81,h=>exact absurd h (by omega)
def NP (W:World) (v:Value) (l:List (Int×Int)):Prop :=
 (v=.slice none 0 0/\l=[])\/(∃ a:Addr,v=.slice (some a) 0 0/\l=[])\/∃ blk off cap cs ty fr,v=.slice (some ⟨blk,off,none⟩) l.length cap/\W.heap[blk]?=some (.cells cs ty fr)/\off+l.length*2<=cs.size /\
   ∀ (i:Nat) x,l[i]?=some x->cs[off+i*2]?=some (.int .i64 x.1)/\cs[off+i*2+1]?=some (.int .i64 x.2)
def rq (W:World) (b:Nat):Nat:=match W.heap[b]? with|some (.cells cs _ _)=>cs.size|_=>0
structure GlA (W:World):Prop where
 size:NG<=W.heap.size
 cells:∀ x∈sM,∀ β,fM β W x.2 ⟨x.1,0,rq W x.1,0⟩
 spc:∀ β,fM β W HD ⟨0,0,rq W 0,0⟩
noncomputable def Xx (B:dB):Hp:=.fn (λc=>Bc (Nat.beq c 0) HD (Bc (Nat.beq c 2) zH (Bc (Nat.beq c 3) Ox (Bc (Nat.beq c 6) OM (Bc (Nat.beq c 15) B .no))))) 16
theorem ad_ (B:dB):zp (Xx B):=⟨rfl,rfl,rfl,rfl⟩
theorem aeb (B:dB):(Xx B).blk 15=B:=rfl
theorem aea {B:dB} {c:Nat} (h:alive (Xx B) c):c=0\/c=2\/c=3\/c=6\/(c=15/\B≠.no):=by
 have hc:c<16:=h.1
 have h2:=h.2
 rcases(by omega:c=0\/c=1\/c=2\/c=3\/c=4\/c=5\/c=6\/c=7\/c=8\/c=9\/c=10\/c=11\/c=12\/c=13\/c=14\/c=15)with rfl|rfl|rfl|rfl|rfl|rfl|rfl|rfl|rfl|rfl|rfl|rfl|rfl|rfl|rfl|rfl
 ·simp
 ·exact absurd rfl h2
 ·simp
 ·simp
 ·exact absurd rfl h2
 ·exact absurd rfl h2
 ·simp
 ·exact absurd rfl h2
 ·exact absurd rfl h2
 ·exact absurd rfl h2
 ·exact absurd rfl h2
 ·exact absurd rfl h2
 ·exact absurd rfl h2
 ·exact absurd rfl h2
 ·exact absurd rfl h2
 ·exact .inr (.inr (.inr (.inr ⟨rfl,h2⟩)))
def TE (W:World) (m:Bm):Mp:=λb=>if b<15 then some ⟨b,0,rq W b,0⟩else if b=15 then some m else none
theorem Fj {W:World} {m:Bm} {b:Nat} (h:b<15):TE W m b=some ⟨b,0,rq W b,0⟩:=by unfold TE;rw[if_pos h]
theorem TD {W:World} {m:Bm}:TE W m 15=some m:=rfl
theorem Qm {P:Program} {f:FuncId} {args:Array Value} {W:World} {R:Ending->World->Prop} (hb:(callFunc f args).run P W=.ok (.enter f args) W) (h:lO P f args W R):Calls P f args W R:=by
 rcases h with⟨_,hc⟩|⟨v',W',hc,_⟩
 ·exact callsIn_wide.1 hc
 ·rw[hb]at hc;cases hc
theorem aom (args:Array Value) (W:World):(callFunc 6 args).run Tryz.prog W=.ok (.enter 6 args) W:=by kernel_rfl
theorem Oi {l:List (Int×Int)} {i:Nat} {v:Value} (h:(iM l)[i]?=some v):∃ x,l[i / 2]?=some x/\((i % 2=0/\v=.int .i64 x.1)\/(i % 2=1/\v=.int .i64 x.2)):=by
 have hl:=pn l
 have hi:i<2*l.length:=by
  rcases Nat.lt_or_ge i (2*l.length)with h'|h'
  ·exact h'
  ·rw[List.getElem?_eq_none (by omega)]at h;cases h
 have hx:l[i / 2]?=some l[i / 2]:=List.getElem?_eq_getElem (by omega)
 refine⟨_,hx,?_⟩
 have key:=xm l (i / 2) _ hx
 have hg:(((iM l).drop (2*(i / 2))).take 2)[i % 2]?=some v:=by
  rw[List.getElem?_take,if_pos (by omega),List.getElem?_drop,show 2*(i / 2)+i % 2=i by omega];exact h
 rw[key]at hg
 rcases(by omega:i % 2=0\/i % 2=1)with e|e
 ·rw[e]at hg;cases hg;exact .inl ⟨e,rfl⟩
 ·rw[e]at hg;cases hg;exact .inr ⟨e,rfl⟩
theorem II {W:World} (g:GlA W) {l:List (Int×Int)} {lv lr:Value} {B:dB} {m:Bm} (hB:B≠.no->fM (TE W m) W B m) (hd:m.rb<W.heap.size) (hlv:l≠[]->∃ lc,lv=.slice (some ⟨15,0,none⟩) l.length lc) (hln:∃ a c,lv=.slice a l.length c) (hlb:l≠[]->zm (Xx B) 15 (iM l)) (hr:ai (TE W m) lv lr) (sw:Int) :
 Calls Tryz.prog 6 #[lr,.int .i64 sw] W λe W'=>e=.returned (.bool true)/\Below W.heap.size W W':=by
 letI:=SN
 obtain⟨e,he⟩:∃ e:Env,e=⟨16,λ_=>True,λ_=>False⟩:=⟨_,rfl⟩
 obtain⟨lc,hlc⟩:∃ lc,l≠[]->lv=.slice (some ⟨15,0,none⟩) l.length lc:=by
  by_cases h:l=[]
  ·exact⟨0,λh'=>absurd h h'⟩
  ·obtain⟨lc,h2⟩:=hlv h
   exact⟨lc,λ_=>h2⟩
 have hfn:(Xx B).bG=true:=rfl
 have IX:=adV (e:=e) (N:=16) (by rw[he];exact Nat.le_refl _) (by omega) (λb _=>by rw[he];trivial) (l:=l) agn hfn (Nat.le_refl _) (ad_ B) (lb:=15) (lc:=lc) (lv:=lv) hlc hln (λh=>⟨hlb h,by omega⟩) (sw:=sw)
 obtain⟨N,v1,H1,r1,w1,ju,hok,A7,Xw⟩:=IX
 have hT:=@oW SN _ _ jS (@oF SN) _ (acC (m:=(gh l).length) (bE:=gp (λi=>stx (dy (gh l) i)) 12)) N (.call 6 [lv,.int .i64 sw]) (Xx B) (vc hfn)
 rw[ju]at hT
 have XP:∀ {b},b<16->w1.testBit b=true->False:=λ{b} hb h=>by
  have:=hok.wr b (by rw[he];exact hb) h
  rw[he]at this;exact this
 have hsz:=g.size
 have hpre:Pre (TE W m) (Xx B) H1 r1 w1 W:=by
  refine⟨λb _ ha=>?_,λb c mb mc zA _ ab _ _ _ _=>(XP ab.1 zA).elim,λb h1 _=>?_,λb mm e=>?_⟩
  ·rcases aea ha with rfl|rfl|rfl|rfl|⟨rfl,hne⟩
   ·exact⟨_,Fj (by decide),g.spc _⟩
   ·exact⟨_,Fj (by decide),g.cells (2,zH) (by simp[sM]) _⟩
   ·exact⟨_,Fj (by decide),g.cells (3,Ox) (by simp[sM]) _⟩
   ·exact⟨_,Fj (by decide),g.cells (6,OM) (by simp[sM]) _⟩
   ·exact⟨_,TD,by rw[aeb];exact hB hne⟩
  ·have h1:16<=b:=h1
   unfold TE;rw[if_neg (by omega),if_neg (by omega)]
  ·unfold TE at e
   split at e
   ·have e:=Option.some.inj e
    rw[<-e]
    have:NG=15:=rfl
    show b<_;omega
   split at e
   ·have e:=Option.some.inj e
    rw[<-e];exact hd
   ·cases e
 have hg:cX NG (TE W m):=⟨λx hx=>⟨_,Fj hx,rfl,rfl⟩,trivial⟩
 have hl:ak (TE W m) [lv,.int .i64 sw] (#[lr,.int .i64 sw]:Array Value).toList:=ak.cons hr (ak.cons (.int _ _) (ak.nil _))
 refine(Qm (aom _ W) (hT.2 _ W hg hpre _ hl)).mono λe' W' hR=>?_
 obtain⟨β',v',he',hv',q⟩:=hR
 subst Xw
 cases hv'
 refine⟨he',q.env.1,q.env.2.1,q.env.2.2,q.size,λk hk=>?_⟩
 cases ho:W.heap[k]? with
 |none=>have:=Array.getElem?_eq_none_iff.1 ho;omega
 |some o=>exact q.frame k o ho λb mm hb zA=>(XP hb zA).elim
theorem AX {W:World} (g:GlA W) {l:List (Int×Int)} {lr:Value} (hl:NP W lr l) (sw:Int):Calls Tryz.prog 6 #[lr,.int .i64 sw] W λe W'=>e=.returned (.bool true)/\Below W.heap.size W W':=by
 have hs:0<W.heap.size:=Nat.lt_of_lt_of_le (by decide) g.size
 rcases hl with⟨rfl,rfl⟩|⟨a,rfl,rfl⟩|⟨blk,off,cap,cs,ty,fr,rfl,hb,hfit,hc⟩
 ·exact II g (B:=.no) (m:=⟨0,0,0,0⟩) (lv:=.slice none 0 0) (λh=>absurd rfl h) hs (λh=>absurd rfl h) ⟨_,_,rfl⟩ (λh=>absurd rfl h) (.AA _ _) sw
 ·exact II g (B:=.no) (m:=⟨0,0,0,0⟩) (lv:=.slice (some ⟨0,0,some 0⟩) 0 0) (λh=>absurd rfl h) hs (λh=>absurd rfl h) ⟨_,_,rfl⟩ (λh=>absurd rfl h) (.slX 0 0 0 a) sw
 ·have hlt:blk<W.heap.size:=by
   rcases Nat.lt_or_ge blk W.heap.size with h'|h'
   ·exact h'
   ·rw[Array.getElem?_eq_none h']at hb;cases hb
  obtain⟨t,et,ht⟩:=bW (iM l) ty 3
  have hlen:=pn l
  refine II g (B:=.cells t (iM l).length ty 3 0 (cs.size+1)) (m:=⟨blk,off,cs.size,2⟩) (lv:=.slice (some ⟨15,0,none⟩) l.length (2*cap)) (λ_=>?_) hlt (λ_=>⟨_,rfl⟩) ⟨_,_,rfl⟩ (λ_=>⟨t,ty,3,0,cs.size+1,rfl,ht⟩) ?_ sw
  ·refine⟨_,hb,cs,fr,rfl,rfl,by show off+(iM l).length<=cs.size;omega,(λh=>by cases h),(λk h=>by show 2=k;omega),λi hi=>?_,.inr (.inr ⟨rfl,Nat.lt_succ_self _⟩)⟩
   have hv:(iM l)[i]?=some (iM l)[i]:=List.getElem?_eq_getElem hi
   obtain⟨x,hx,h⟩:=Oi hv
   obtain⟨q1,q2⟩:=hc _ x hx
   rw[ht i _ hv]
   rcases h with⟨h1,h2⟩|⟨h1,h2⟩
   ·rw[h2]
    exact⟨rfl,_,by show cs[off+i]?=_;rw[show off+i=off+i / 2*2 by omega];exact q1,.int _ _⟩
   ·rw[h2]
    exact⟨rfl,_,by show cs[off+i]?=_;rw[show off+i=off+i / 2*2+1 by omega];exact q2,.int _ _⟩
  ·have:=ai.sl (β:=TE W ⟨blk,off,cs.size,2⟩) 15 0 l.length (2*cap) cap ⟨blk,off,cs.size,2⟩ TD ⟨λ_=>by omega,λh=>by omega⟩
   rw[show(0+off:Nat)=off by omega]at this
   exact this
end Go.Proofs.CA
end
noncomputable section
namespace Go.Proofs.YtdmcanlbncbemaaGreatDoor.meanAssigns
open Go.ChangeShapes Go.WideShapes Go.RowKit Go.Lib
open Go.Ev (dB aG bW ai fM bQ)
open Go.Proofs.CA (GlA rq)
open Go.Proofs.MN (sM NG)
theorem pieces {m:Nat}:∀ (L:List (List Value)) (cs:List Value),cs.length=L.length*m->(∀ i l,L[i]?=some l->(cs.drop (i*m)).take m=l)->cs=L.flatten
 | [],cs,h,_=>by simpa using h
 |l::L,cs,h,hp=>by
  have h0:=hp 0 l rfl
  rw[Nat.zero_mul,List.drop_zero]at h0
  have ih:=pieces (m:=m) L (cs.drop m) (by rw[List.length_drop,h,List.length_cons,Nat.succ_mul];omega) (λi l' hl=>by
   have:=hp (i+1) l' (by simpa using hl)
   rw[List.drop_drop,<-this]
   congr 2
   rw[Nat.succ_mul];omega)
  rw[List.flatten_cons,<-ih,<-h0,List.take_append_drop]
def EB {H:Type} (k:IntKind) (zs:List Int):DataW H:=.agg (zs.map λz=>.lit (.int k z))
def zF (k:IntKind) (zs:List Int):List Value:=zs.map λz=>.int k z
section
variable {H:Type} {enc:TypeId×Value->H} {P:Program} {w:World} {base:Nat} {sp:Nat->Bool} {held:Bool}
theorem vM {t e:TypeId} {fs:Array Field} {k:IntKind} (ht:P.underlying t=some (.struct fs)) (he:P.underlying e=some (.int k)) (hce:P.cellsOf e=1) (hct:P.cellsOf t=fs.size)
 (hfs:∀ (i:Nat) (f:Field),fs[i]?=some f->f.type=e/\f.offset=i) {fuel:Nat} {cs:List Value} {zs:List Int} {p:List MemPlace}
 (h:DataW.trod enc P w base sp held fuel t cs=some (EB k zs,p)):cs=zF k zs:=by
 obtain⟨xs,n,rfl,hx,hl,hxl,hp⟩:=DataW.trod_struct ht h
 have hxs:xs.map (·.1)=zs.map λz=>(DataW.lit (.int k z):DataW H):=by
  have:=congrArg Prod.fst hx
  simpa [EB] using this.symm
 have hzl:zs.length=fs.size:=by
  have:=congrArg List.length hxs
  simp at this;omega
 apply List.ext_getElem?
 intro i
 by_cases hi:i<fs.size
 ·obtain⟨h1,h2⟩:=hfs i fs[i] (by simp[hi])
  have hq:=hp i fs[i] (by simp[hi])
  rw[h1,h2,hce,List.getElem?_eq_getElem (by omega)]at hq
  obtain⟨z,hc,hz,_⟩:=DataW.trod_int he hq
  have e1:cs[i]?=some (.int k z):=by
   have:=congrArg (·[0]?) hc
   simpa [List.getElem?_take,List.getElem?_drop] using this
  have e2:(xs.map (·.1))[i]?=some (DataW.lit (.int k z):DataW H):=by
   rw[List.getElem?_map,List.getElem?_eq_getElem (by omega),hz];rfl
  rw[hxs]at e2
  simp only[List.getElem?_map,Option.map_eq_some_iff,DataW.lit.injEq,Lit.int.injEq,true_and]at e2
  obtain⟨z',hz',rfl⟩:=e2
  simp[zF,e1,hz']
 ·rw[List.getElem?_eq_none (by omega),List.getElem?_eq_none (by simp[zF];omega)]
theorem qj {t e:TypeId} {n m:Nat} {k:IntKind} (ht:P.underlying t=some (.array n e)) (hce:P.cellsOf e=m) (hct:P.cellsOf t=n*m)
 (hr:∀ (fuel:Nat) (cs:List Value) (zs:List Int) (p:List MemPlace),DataW.trod enc P w base sp held fuel e cs=some (EB k zs,p)->cs=zF k zs)
 {fuel:Nat} {cs:List Value} {zss:List (List Int)} {p:List MemPlace} (h:DataW.trod enc P w base sp held fuel t cs=some (.agg (zss.map (EB k)),p)):cs=(zss.map (zF k)).flatten:=by
 obtain⟨xs,q,rfl,hx,hl,hxl,hp⟩:=DataW.trod_array ht h
 have hxs:xs.map (·.1)=zss.map (EB k):=by
  have:=congrArg Prod.fst hx
  simpa using this.symm
 have hzl:zss.length=n:=by
  have:=congrArg List.length hxs
  simp at this;omega
 refine pieces (m:=m) _ _ (by rw[hl,hct,List.length_map,hzl]) λi l hi=>?_
 rw[List.getElem?_map,Option.map_eq_some_iff]at hi
 obtain⟨zs,hzs,rfl⟩:=hi
 have hin:i<n:=by
  rcases Nat.lt_or_ge i n with h'|h'
  ·exact h'
  ·rw[List.getElem?_eq_none (by omega)]at hzs;cases hzs
 have hq:=hp i hin
 rw[hce,List.getElem?_eq_getElem (by omega)]at hq
 have e2:(xs[i]).1=EB k zs:=by
  have:(xs.map (·.1))[i]?=some (xs[i]).1:=by rw[List.getElem?_map,List.getElem?_eq_getElem (by omega)];rfl
  rw[hxs,List.getElem?_map,hzs]at this
  exact(Option.some.inj this).symm
 exact hr _ _ zs (xs[i]).2 (by rw[hq,<-e2])
end
theorem C3 {P:Program} {x:String×DataW Unit} {l:List (String×DataW Unit)} {w:World} (h:laidMet P (x::l) w):laidMet P l w:=by
 obtain⟨n,d⟩:=x
 obtain⟨ps,⟨g,t,cs,fuel,p,q,h1,h2,h3,h4,h5,rfl⟩,hn,hc⟩:=h
 refine⟨q,h5,(List.nodup_append.1 hn).2.1,λb off hm=>hc b off (List.mem_append.2 (.inr hm))⟩
theorem oJ {P:Program} {w:World} {n:String} {d:DataW Unit}:∀ {l:List (String×DataW Unit)},laidMet P l w->(n,d)∈l ->
 ∃ (enc:TypeId×Value->Unit) (base:Nat) (sp:Nat->Bool) (held:Bool) (g:Nat) (t:TypeId) (cs:Array Value) (fuel:Nat) (p:List MemPlace),P.globalNamed n=some g/\(P.globals[g]?).map (·.type)=some t/\w.var? P n=some cs/\DataW.trod enc P w base sp held fuel t cs.toList=some (d,p)
 | [],_,hm=>by cases hm
 |(n',d')::l,h,hm=>by
  rcases List.mem_cons.1 hm with e|hm
  ·cases e
   obtain⟨ps,⟨g,t,cs,fuel,p,q,h1,h2,h3,h4,h5,rfl⟩,hn,hc⟩:=h
   exact⟨_,_,_,_,g,t,cs,fuel,p,h1,h2,h3,h4⟩
  ·exact oJ (C3 h) hm
theorem wI {W:World} {g:Nat} {ty:TypeId} {L:List Value} {name:String} {cs c:Array Value} (hg:Tryz.prog.globalNamed name=some g) (hv:W.var? Tryz.prog name=some cs) (hcs:cs.toList=L)
 (hfl:∀ v∈L,∃ k z,v=.int k z) (hb:W.heap[g]?=some (.cells c ty (0,0))) (hsz:c.size=L.length) (β:Go.Ev.Mp):fM β W (aG L ty 0) ⟨g,0,rq W g,0⟩:=by
 obtain⟨t,h1,h2⟩:=bW L ty 0
 rw[h1]
 have ht:rq W g=c.size:=by unfold rq;rw[hb]
 refine⟨_,hb,c,(0,0),rfl,ht.symm,by show 0+L.length<=rq W g;omega,λ_=>⟨rfl,by show rq W g=_;omega⟩,(λk h=>by cases h),λi hi=>?_,.inl ⟨Nat.le_refl _,.inl rfl⟩⟩
 have hL:L[i]?=some L[i]:=List.getElem?_eq_getElem hi
 have hc:=World.var?_cell hg hv i
 have e1:c[i]?=some L[i]:=by
  have:W.cell? ⟨g,i,none⟩=c[i]?:=by simp[World.cell?,hb]
  rw[<-this,hc,<-hL,<-hcs,Array.getElem?_toList]
 obtain⟨k,z,hz⟩:=hfl L[i] (List.getElem_mem hi)
 rw[h2 i _ hL]
 refine⟨by rw[hz];rfl,L[i],by show c[0+i]?=_;rw[Nat.zero_add];exact e1,by rw[hz];exact .int _ _⟩
def agI:List Int:=[1,10,100,1000,10000,100000,1000000,10000000,100000000,1000000000,10000000000,100000000000,1000000000000,10000000000000,100000000000000,1000000000000000,10000000000000000,100000000000000000,1000000000000000000,10000000000000000000]
def shs:List (List Int):=[[0,0,0,0,0],[0,0,0,0,0],[1,1,1,1,0],[0,0,0,0,1],[0,0,1,1,1],[0,0,0,0,3],[0,0,0,8,1],[0,0,0,1,0],[0,0,0,0,7],[0,0,0,0,6],[0,0,0,0,6],[1,2,0,0,1],[0,1,1,1,0],[0,0,0,0,1],[0,0,0,0,1],[0,0,0,16,26],[1,16,0,0,10],[1,1,0,1,2],[1,1,1,1,2],[1,1,1,1,2],[0,0,1,1,2],[2,2,0,0,0],[0,0,0,0,0]]
def ops:List (List Int):=[[0,0],[0,0],[0,1],[0,1],[1,0],[1,0],[2,0],[2,0],[2,0],[2,0],[2,0],[1,0],[2,0],[2,0],[2,0],[2,0],[2,0],[1,0],[2,0],[3,0],[2,0],[1,0],[2,0],[3,0],[2,0],[-1,0],[0,0],[0,0],[0,0],[0,0],[1,1],[1,1]]
theorem akh:(Rows.laid_internal_strconv_uint64pow10:DataW Unit)=tabData .u64 agI:=rfl
theorem aon:(Rows.laid_pliant_core_shapes:DataW Unit)=.agg (shs.map (EB .i8)):=rfl
theorem aoo:(Rows.laid_pliant_core_operands:DataW Unit)=.agg (ops.map (EB .i8)):=rfl
theorem akr:Go.Ev.SM.zH=aG (zF .u64 agI) 214 0:=by kernel_rfl
theorem aoy:Go.Ev.SM.Ox=aG (shs.map (zF .i8)).flatten 272 0:=by kernel_rfl
theorem aoz:Go.Ev.SM.OM=aG (ops.map (zF .i8)).flatten 345 0:=by kernel_rfl
theorem abp : Tryz.prog.globalNamed "internal/strconv.uint64pow10" = some 2 := by kernel_rfl
theorem ahM : Tryz.prog.globalNamed "pliant/core.shapes" = some 3 := by kernel_rfl
theorem ahN : Tryz.prog.globalNamed "pliant/core.operands" = some 6 := by kernel_rfl
theorem agb:(Tryz.prog.globals[2]?).map (·.type)=some 214:=by kernel_rfl
theorem akO:(Tryz.prog.globals[3]?).map (·.type)=some 272:=by kernel_rfl
theorem akP:(Tryz.prog.globals[6]?).map (·.type)=some 345:=by kernel_rfl
theorem akK:Tryz.prog.underlying 214=some (.array 20 66):=by kernel_rfl
theorem u66:Tryz.prog.underlying 66=some (.int .u64):=by kernel_rfl
theorem akI:Tryz.prog.underlying 272=some (.array 23 271):=by kernel_rfl
theorem akG:Tryz.prog.underlying 345=some (.array 32 344):=by kernel_rfl
theorem akH:Tryz.prog.underlying 344=some (.array 2 269):=by kernel_rfl
theorem af2:Tryz.prog.underlying 269=some (.int .i8):=by kernel_rfl
theorem c66:Tryz.prog.cellsOf 66=1:=by kernel_rfl
theorem aou:Tryz.prog.cellsOf 214=20:=by kernel_rfl
theorem akn:Tryz.prog.cellsOf 269=1:=by kernel_rfl
theorem akm:Tryz.prog.cellsOf 271=5:=by kernel_rfl
theorem aot:Tryz.prog.cellsOf 272=115:=by kernel_rfl
theorem akl:Tryz.prog.cellsOf 344=2:=by kernel_rfl
theorem aos:Tryz.prog.cellsOf 345=64:=by kernel_rfl
def KI (d:Option TypeDesc):Bool:=match d with
 |some (.struct fs)=>Nat.beq fs.size 5&&(List.range 5).all λi=>match fs[i]? with|some f=>Nat.beq f.type 269&&Nat.beq f.offset i|none=>false
 |_=>false
theorem agk:KI (Tryz.prog.underlying 271)=true:=by kernel_rfl
theorem akJ:∃ fs:Array Field,Tryz.prog.underlying 271=some (.struct fs)/\fs.size=5/\∀ (i:Nat) (f:Field),fs[i]?=some f->f.type=269/\f.offset=i:=by
 have h:=agk
 revert h
 generalize Tryz.prog.underlying 271=d
 intro h
 unfold KI at h
 split at h
 ·rename_i fs
  simp only[Bool.and_eq_true,List.all_eq_true,List.mem_range]at h
  have hs:fs.size=5:=Nat.eq_of_beq_eq_true h.1
  refine⟨fs,rfl,hs,λi f hf=>?_⟩
  have hi:i<5:=by
   rcases Nat.lt_or_ge i 5 with h'|h'
   ·exact h'
   ·rw[Array.getElem?_eq_none (by omega)]at hf;cases hf
  have:=h.2 i hi
  rw[hf]at this
  simp only[Bool.and_eq_true]at this
  exact⟨Nat.eq_of_beq_eq_true this.1,Nat.eq_of_beq_eq_true this.2⟩
 ·cases h
theorem FM {k:IntKind} {zss:List (List Int)}:∀ v∈(zss.map (zF k)).flatten,∃ k z,v=Value.int k z:=λv hv=>by
 obtain⟨l,hl,hv⟩:=List.mem_flatten.1 hv
 obtain⟨zs,_,rfl⟩:=List.mem_map.1 hl
 obtain⟨z,_,rfl⟩:=List.mem_map.1 hv
 exact⟨k,z,rfl⟩
theorem B5 {W:World} (hS:W.ShapedOpen Tryz.prog) {g n:Nat} {ty:TypeId} (hg:g<15) (h0:(((begin Tryz.prog (λ_ _=>0) default).world.heap[g]?).bind Obj.row?).map (λx=>(x.1.size,x.2))=some (n,ty)) :
 ∃ c,W.heap[g]?=some (.cells c ty (0,0))/\c.size=n:=by
 obtain⟨⟨zero,t⟩,h1,h2⟩:=Option.map_eq_some_iff.1 h0
 simp only[Prod.mk.injEq]at h2
 obtain⟨h2,rfl⟩:=h2
 obtain⟨cs,h3,h4,_⟩:=hS.1 g zero t (by rw[show Tryz.prog.globals.size=15 from by kernel_rfl];exact hg) h1
 exact⟨cs,h3,by rw[h4];exact h2⟩
theorem agu:(((begin Tryz.prog (λ_ _=>0) default).world.heap[2]?).bind Obj.row?).map (λx=>(x.1.size,x.2))=some (20,214):=by kernel_rfl
theorem amg:(((begin Tryz.prog (λ_ _=>0) default).world.heap[3]?).bind Obj.row?).map (λx=>(x.1.size,x.2))=some (115,272):=by kernel_rfl
theorem amh:(((begin Tryz.prog (λ_ _=>0) default).world.heap[6]?).bind Obj.row?).map (λx=>(x.1.size,x.2))=some (64,345):=by kernel_rfl
def agi:List Int:=[0,0,0,0,0,0,0,0,0,1,1,1,1,1,0,0,0,0,0,0,0,0,0,0,0,0,0,0,0,0,0,0,1,0,0,0,0,0,0,0,0,0,0,0,0,0,0,0,0,0,0,0,0,0,0,0,0,0,0,0,0,0,0,0,0,0,0,0,0,0,0,0,0,0,0,0,0,0,0,0,0,0,0,0,0,0,0,0,0,0,0,0,0,0,0,0,0,0,0,0,0,0,0,0,0,0,0,0,0,0,0,0,0,0,0,0,0,0,0,0,0,0,0,0,0,0,0,0,0,0,0,0,0,0,0,0,0,0,0,0,0,0,0,0,0,0,0,0,0,0,0,0,0,0,0,0,0,0,0,0,0,0,0,0,0,0,0,0,0,0,0,0,0,0,0,0,0,0,0,0,0,0,0,0,0,0,0,0,0,0,0,0,0,0,0,0,0,0,0,0,0,0,0,0,0,0,0,0,0,0,0,0,0,0,0,0,0,0,0,0,0,0,0,0,0,0,0,0,0,0,0,0,0,0,0,0,0,0,0,0,0,0,0,0,0,0,0,0,0,0,0,0,0,0,0,0]
theorem akg:(Rows.laid_strings_asciiSpace:DataW Unit)=tabData .u8 agi:=by kernel_rfl
theorem akq:Go.Proofs.CA.HD=aG (zF .u8 agi) 100 0:=by kernel_rfl
theorem abo : Tryz.prog.globalNamed "strings.asciiSpace" = some 0 := by kernel_rfl
theorem aga:(Tryz.prog.globals[0]?).map (·.type)=some 100:=by kernel_rfl
theorem akL:Tryz.prog.underlying 100=some (.array 256 5):=by kernel_rfl
theorem u5:Tryz.prog.underlying 5=some (.int .u8):=by kernel_rfl
theorem c5:Tryz.prog.cellsOf 5=1:=by kernel_rfl
theorem aov:Tryz.prog.cellsOf 100=256:=by kernel_rfl
theorem agt:(((begin Tryz.prog (λ_ _=>0) default).world.heap[0]?).bind Obj.row?).map (λx=>(x.1.size,x.2))=some (256,100):=by kernel_rfl
theorem ade:(((begin Tryz.prog (λ_ _=>0) default).world.heap[14]?).bind Obj.row?).isSome=true:=by kernel_rfl
theorem ahL {W : World} (hS : W.ShapedOpen Tryz.prog) {l : List (String × DataW Unit)} (hL : laidMet Tryz.prog l W) (h1 : ("internal/strconv.uint64pow10", Rows.laid_internal_strconv_uint64pow10) ∈ l) (h2 : ("pliant/core.shapes", Rows.laid_pliant_core_shapes) ∈ l) (h3 : ("pliant/core.operands", Rows.laid_pliant_core_operands) ∈ l) (h4 : ("strings.asciiSpace", Rows.laid_strings_asciiSpace) ∈ l) : GlA W := by
 refine⟨?_,λx hx β=>?_,λβ=>?_⟩
 ·obtain⟨⟨zero,t⟩,h1⟩:=Option.isSome_iff_exists.1 ade
  obtain⟨cs,h2,_⟩:=hS.1 14 zero t (by rw[show Tryz.prog.globals.size=15 from by kernel_rfl];decide) h1
  rcases Nat.lt_or_ge 14 W.heap.size with h'|h'
  ·show 15<=_;omega
  ·rw[Array.getElem?_eq_none h']at h2;cases h2
 ·simp only[sM,List.mem_cons,List.mem_nil_iff,or_false]at hx
  rcases hx with rfl|rfl|rfl
  ·obtain⟨enc,base,sp,held,g,t,cs,fuel,p,e1,e2,e3,e4⟩:=oJ hL h1
   obtain rfl:=Option.some.inj (abp.symm.trans e1)
   obtain rfl:=Option.some.inj (agb.symm.trans e2)
   obtain⟨c,hc,hn⟩:=B5 hS (by decide) agu
   rw[akh]at e4
   have:=cells_of_tab akK u66 c66 aou e4
   show fM β W Go.Ev.SM.zH ⟨2,0,rq W 2,0⟩
   rw[akr]
   exact wI abp e3 this (λv hv=>by obtain⟨z,_,rfl⟩:=List.mem_map.1 hv;exact⟨_,z,rfl⟩) hc (by rw[hn];rfl) β
  ·obtain⟨enc,base,sp,held,g,t,cs,fuel,p,e1,e2,e3,e4⟩:=oJ hL h2
   obtain rfl:=Option.some.inj (ahM.symm.trans e1)
   obtain rfl:=Option.some.inj (akO.symm.trans e2)
   obtain⟨c,hc,hn⟩:=B5 hS (by decide) amg
   rw[aon]at e4
   obtain⟨fs,f1,f2,f3⟩:=akJ
   have:=qj (m:=5) akI akm aot (λfuel cs zs p h=>vM f1 af2 akn (by rw[akm,f2]) f3 h) e4
   show fM β W Go.Ev.SM.Ox ⟨3,0,rq W 3,0⟩
   rw[aoy]
   exact wI ahM e3 this FM hc (by rw[hn];rfl) β
  ·obtain⟨enc,base,sp,held,g,t,cs,fuel,p,e1,e2,e3,e4⟩:=oJ hL h3
   obtain rfl:=Option.some.inj (ahN.symm.trans e1)
   obtain rfl:=Option.some.inj (akP.symm.trans e2)
   obtain⟨c,hc,hn⟩:=B5 hS (by decide) amh
   rw[aoo]at e4
   have:=qj (m:=2) akG akl aos (λfuel cs zs p h=>cells_of_tab akH af2 akn akl h) e4
   show fM β W Go.Ev.SM.OM ⟨6,0,rq W 6,0⟩
   rw[aoz]
   exact wI ahN e3 this FM hc (by rw[hn];rfl) β
 ·obtain⟨enc,base,sp,held,g,t,cs,fuel,p,e1,e2,e3,e4⟩:=oJ hL h4
  obtain rfl:=Option.some.inj (abo.symm.trans e1)
  obtain rfl:=Option.some.inj (aga.symm.trans e2)
  obtain⟨c,hc,hn⟩:=B5 hS (by decide) agt
  rw[akg]at e4
  have:=cells_of_tab akL u5 c5 aov e4
  show fM β W Go.Proofs.CA.HD ⟨0,0,rq W 0,0⟩
  rw[akq]
  exact wI abo e3 this (λv hv=>by obtain⟨z,_,rfl⟩:=List.mem_map.1 hv;exact⟨_,z,rfl⟩) hc (by rw[hn];kernel_rfl) β
end Go.Proofs.YtdmcanlbncbemaaGreatDoor.meanAssigns
end
noncomputable section
namespace Go.Proofs.YtdmcanlbncbemaaGreatDoor.meanAssigns
open Go Go.ChangeShapes Go.Deep
open Go.Proofs.CA (NP)
theorem u3:Tryz.prog.underlying 3=some (.int .i64):=by kernel_rfl
theorem c3:Tryz.prog.cellsOf 3=1:=by kernel_rfl
theorem u74:Tryz.prog.underlying 74=some (.slice 79):=by kernel_rfl
def aok : Field := { name := "Var", type := 3, offset := 0, embedded := false, tag := "", pkgPath := "", byteOffset := 0 }
def fN : Field := { name := "N", type := 3, offset := 1, embedded := false, tag := "", pkgPath := "", byteOffset := 8 }
theorem u79:Tryz.prog.underlying 79=some (.struct #[aok,fN]):=by kernel_rfl
theorem c79:Tryz.prog.cellsOf 79=2:=by kernel_rfl
theorem JP {W:World} {a:Addr} {v:Value} (h:W.cell? a=some v):∃ cs ty fr,a.spot=none/\W.heap[a.block]?=some (.cells cs ty fr)/\cs[a.off]?=some v:=by
 unfold World.cell? at h
 split at h
 ·rename_i cs ty fr hb
  split at h
  ·cases h
  ·rename_i hs
   refine⟨cs,ty,fr,?_,hb,h⟩
   cases hsp:a.spot with
   |none=>rfl
   |some k=>rw[hsp]at hs;exact absurd rfl hs
 ·cases h
theorem RQ {H:Type} {enc:TypeId×Value->H} {W:World} {held:Bool} {fuel:Nat} {v:Value} {x:DataW H×List MemPlace}
 (h:DataW.trod enc Tryz.prog W 0 (λ_=>true) held fuel 74 [v]=some x):∃ l,NP W v l:=by
 rcases open_slice_pairs u74 u79 c79 rfl rfl c3 c3 h with⟨hcs,_⟩|⟨a,len,cap,m,n,V0,V1,D0,D1,P0,P1,hcs,_,hl,_,hmm,_,hx⟩
 ·simp only[List.cons.injEq,and_true]at hcs
  exact⟨[],.inl ⟨hcs,rfl⟩⟩
 ·simp only[List.cons.injEq,and_true]at hcs
  subst hcs
  replace hmm:m=cap:=by rw[hmm,if_pos rfl]
  subst hmm
  cases m with
  |zero =>
   obtain rfl:len=0:=by omega
   exact⟨[],.inr (.inl ⟨a,rfl,rfl⟩)⟩
  |succ m =>
   obtain⟨cs,ty,fr,aoI,Dh,_⟩:=JP (hx 0 (by omega)).1
   obtain⟨blk,off,spot⟩:=a
   have h0:spot=none:=by
    have:(Addr.add ⟨blk,off,spot⟩ (0*2)).spot=spot:=by unfold Addr.add;split<;>simp_all
    simp_all
   subst h0
   have ahH:∀ k,Addr.add ⟨blk,off,none⟩ k=⟨blk,off+k,none⟩:=by
    intro k
    unfold Addr.add
    split
    ·rename_i hk;simp_all
    ·rfl
   rw[ahH]at Dh
   have Dh:W.heap[blk]?=some (.cells cs ty fr):=Dh
   have hcell:∀ k v,W.cell? (Addr.add ⟨blk,off,none⟩ k)=some v->cs[off+k]?=some v:=by
    intro k v hv
    rw[ahH]at hv
    simpa [World.cell?,Dh] using hv
   have hz:∀ i,i<m+1->∃ z:Int×Int,V0 i=.int .i64 z.1/\V1 i=.int .i64 z.2:=by
    intro i hi
    obtain⟨_,_,h3,h4⟩:=hx i hi
    obtain⟨z0,e0,_⟩:=DataW.trod_int u3 h3
    obtain⟨z1,e1,_⟩:=DataW.trod_int u3 h4
    exact⟨(z0,z1),(List.cons.inj e0).1,(List.cons.inj e1).1⟩
   let f:Nat->Int×Int:=λi=>if hi:i<m+1 then Classical.choose (hz i hi)else (0,0)
   have hf:∀ i,i<m+1->V0 i=.int .i64 (f i).1/\V1 i=.int .i64 (f i).2:=by
    intro i hi
    have:f i=Classical.choose (hz i hi):=dif_pos hi
    rw[this]
    exact Classical.choose_spec (hz i hi)
   have hlen:((List.range len).map f).length=len:=by simp
   have XA:∀ i,i<m+1->cs[off+i*2]?=some (.int .i64 (f i).1)/\cs[off+i*2+1]?=some (.int .i64 (f i).2):=by
    intro i hi
    obtain⟨h1,h2,_⟩:=hx i hi
    obtain⟨e0,e1⟩:=hf i hi
    rw[e0]at h1
    rw[e1]at h2
    exact⟨hcell _ _ h1,hcell _ _ h2⟩
   refine⟨(List.range len).map f,.inr (.inr ⟨blk,off,m+1,cs,ty,fr,by rw[hlen],Dh,?_,λi y hi=>?_⟩)⟩
   ·rw[hlen]
    have hfit:∀ i,i<m+1->off+i*2+1<cs.size:=by
     intro i hi
     have:=(XA i hi).2
     rcases Nat.lt_or_ge (off+i*2+1) cs.size with h'|h'
     ·exact h'
     ·rw[Array.getElem?_eq_none h']at this;cases this
    cases len with
    |zero=>have:=hfit 0 (by omega);omega
    |succ k=>have:=hfit k (by omega);omega
   ·have hil:i<len:=by
     rcases Nat.lt_or_ge i len with h'|h'
     ·exact h'
     ·rw[List.getElem?_eq_none (by rw[hlen];exact h')]at hi;cases hi
    have e:y=f i:=by
     rw[List.getElem?_map,List.getElem?_range hil]at hi
     exact(Option.some.inj hi).symm
    subst e
    exact XA i (by omega)
end Go.Proofs.YtdmcanlbncbemaaGreatDoor.meanAssigns
end
noncomputable section
namespace Go.Proofs.YtdmcanlbncbemaaGreatDoor.meanAssigns
open Go.ChangeShapes Go.WideShapes Go.ChangeAt Go.RowKit Go.Deep
open Go.Proofs.CA (AX NP)
open Go.Proofs.MN (NG)
theorem own:ownKnob Tryz.prog.godebug=none:=by kernel_rfl
theorem params6:Tryz.f6.params = #[74,3]:=by kernel_rfl
theorem u4:Tryz.prog.underlying 4=some .bool:=by kernel_rfl
theorem Jx:laidOutB Tryz.prog=true:=by kernel_rfl
theorem agr:Tryz.prog.readableRec 3=true:=by kernel_rfl
theorem ac9:Tryz.prog.readableRec 74=true:=by kernel_rfl
theorem Uh (W:World) (hL:laidMetH Tryz.prog Rows.meanAssignsRow.laid W):laidMet Tryz.prog (Rows.meanAssignsRow.laid.filter λx=>x.2.handleName?.isNone) W:=by
 unfold laidMetH at hL
 split at hL
 ·rename_i h
  exfalso
  have:(Rows.meanAssignsRow.laid.filter λx=>x.2.handleName?.isSome).length=1:=by kernel_rfl
  rw[h]at this;cases this
 ·exact hL.1
theorem contract (H:Type) (enc:TypeId×Value->H) (W:World) (base:Nat) (args:Array Value) (ds gs:List (DataW H)) (before:List MemPlace)
 (hval:∀ (j:Nat) t v,Tryz.f6.params[j]?=some t->args[j]?=some v->Value.okWide Tryz.prog W .any base t v)
 (hW:DataW.Whole enc Tryz.prog Tryz.f6.params.toList Rows.meanAssignsSpec.vars false W args.toList ds gs before) (hL:laidMetH Tryz.prog Rows.meanAssignsRow.laid W) (hS:W.ShapedOpen Tryz.prog) :
 Calls Tryz.prog 6 args W λe W'=>∃ v,e=.returned v/\Rows.meanAssignsSpec.post enc Tryz.prog Tryz.f6 false true false false W args v W':=by
 have hG:=ahL hS (Uh W hL) (by simp[Rows.meanAssignsRow,List.mem_filter];rfl) (by simp[Rows.meanAssignsRow,List.mem_filter];rfl) (by simp[Rows.meanAssignsRow,List.mem_filter];rfl) (by simp[Rows.meanAssignsRow,List.mem_filter];rfl)
 have hW':=hW
 obtain⟨p,q,hA0,hV,rfl,hfz,hnd⟩:=hW
 have hA:DataW.TrodAll enc Tryz.prog W 0 (λ_=>true) true Tryz.f6.params.toList args.toList ds p:=hA0
 rw[params6]at hA hval
 obtain⟨v0,vs0,d0,ds0,p0,q0,hargs,rfl,rfl,h0,r0⟩:=trodAll_cons hA
 obtain⟨v1,vs1,d1,ds1,p1,q1,rfl,rfl,rfl,h1,r1⟩:=trodAll_cons r0
 obtain⟨rfl,rfl,rfl⟩:=trodAll_nil r1
 obtain rfl:args = #[v0,v1]:=by cases args;simp_all
 obtain⟨rfl,rfl⟩:=trodVars_none hV
 obtain⟨a1,len1,cap1,rfl⟩:=okWide_slice u74 (hval 0 74 v0 rfl rfl)
 obtain⟨sw,rfl⟩:=okWide_int u3 (hval 1 3 v1 rfl rfl)
 have k0:=h0
 have k1:=h1
 have lt0:∀ x∈p0,x.block<W.heap.size:=by obtain⟨m,hm⟩:=k0;exact DataW.trod_lt m _ _ _ hm
 have lt1:∀ x∈p1,x.block<W.heap.size:=by obtain⟨m,hm⟩:=k1;exact DataW.trod_lt m _ _ _ hm
 obtain⟨f0,Xz⟩:=h0
 obtain⟨l,hl⟩:=RQ (v:=.slice a1 len1 cap1) Xz
 refine(AX hG hl sw).mono λe W' ⟨he,bel⟩=>?_
 subst he
 exact⟨_,rfl,_,_,_,[],_,[],hW',trodAll_mk1 (shut_bool u4 _),trodAll_cons_mk (Below.trod Jx ac9 (of_decide_eq_true (by kernel_rfl)) k0 bel lt0) (trodAll_cons_mk (Below.trod Jx agr (of_decide_eq_true (by kernel_rfl)) k1 bel lt1) trodAll_mk0),rfl,bel.frame _,λh=>by cases h⟩
end Go.Proofs.YtdmcanlbncbemaaGreatDoor.meanAssigns
end
noncomputable section
namespace Go.Proofs.YtdmcanlbncbemaaGreatDoor.meanAssigns
open Go.ChangeShapes Go.WideShapes Go.ChangeAt Go.RowKit Go.Deep
def flat:Nat->DataW Unit->List Value
 |0,_=>[]
 |n+1,.agg ps=>ps.flatMap (flat n)
 |_+1,.lit (.int k z)=>[.int k z]
 |_+1,_=>[]
def setRow (b:Nat) (cs:Array Value) (h:Array Obj):Array Obj:=h.modify b fun
 |.cells _ t frozen=>.cells cs t frozen
 |o=>o
def Uj (n:Nat) (h:Array Obj):Array Obj :=
 let h:=setRow 0 ⟨flat 4 Rows.laid_strings_asciiSpace⟩ h
 let h:=setRow 1 #[.pointer (some ⟨n+2,0,none⟩)] h
 let h:=setRow 2 ⟨flat 4 Rows.laid_internal_strconv_uint64pow10⟩ h
 let h:=setRow 3 ⟨flat 4 Rows.laid_pliant_core_shapes⟩ h
 let h:=setRow 4 ⟨flat 4 Rows.laid_math_bits_deBruijn32tab⟩ h
 let h:=setRow 5 ⟨flat 4 Rows.laid_math_bits_deBruijn64tab⟩ h
 let h:=setRow 6 ⟨flat 4 Rows.laid_pliant_core_operands⟩ h
 let h:=setRow 8 ⟨flat 4 Rows.laid_pliant_picture_punched⟩ h
 let h:=setRow 10 #[.iface 624 (.pointer (some ⟨n,0,none⟩))] h
 let h:=setRow 11 #[.iface 624 (.pointer (some ⟨n+1,0,none⟩))] h
 let h:=setRow 12 ⟨flat 4 Rows.laid_unicode_utf8_first⟩ h
 let h:=setRow 13 ⟨flat 4 Rows.laid_unicode_utf8_acceptRanges⟩ h
 h
noncomputable def A3 (os:Os):World :=
 let w0:=World.holding Tryz.prog os ⟨#[.cells #[.string ⟨#[105,110,118,97,108,105,100,32,115,121,110,116,97,120]⟩] 626,.cells #[.string ⟨#[118,97,108,117,101,32,111,117,116,32,111,102,32,114,97,110,103,101]⟩] 626,.cells #[.slice (some ⟨(World.settled Tryz.prog os).heap.size+3,0,none⟩) 7 7,.slice none 0 0,.int .i64 2] 203,.cells #[.int .u16 9,.int .u16 13,.int .u16 1,.int .u16 32,.int .u16 133,.int .u16 101,.int .u16 160,.int .u16 5760,.int .u16 5600,.int .u16 8192,.int .u16 8202,.int .u16 1,.int .u16 8232,.int .u16 8233,.int .u16 1,.int .u16 8239,.int .u16 8287,.int .u16 48,.int .u16 12288,.int .u16 12288,.int .u16 1] 206],#[],[]⟩
 { w0 with heap:=setRow 7 #[.iface 418 (.agg #[typeHandle Tryz.prog 290])] (Uj (World.settled Tryz.prog os).heap.size w0.heap) }
noncomputable abbrev G9 (os:Os):World:=((A3 os).forCall (λ_ _=>0) ⟨#[],#[.slice none 0 0,.int .i64 0],[]⟩)
theorem Ph (os:Os):(DataW.laidRun Tryz.prog (G9 os).memory 8 ((Rows.meanAssignsRow.laid.filter λx=>x.2.handleName?.isNone).map (·.1))).map (·.1)=some (Rows.meanAssignsRow.laid.filter λx=>x.2.handleName?.isNone):=by kernel_rfl
theorem Pk (os:Os):(DataW.laidRun Tryz.prog (G9 os).memory 8 ((Rows.meanAssignsRow.laid.filter λx=>x.2.handleName?.isNone).map (·.1))).map (λx=>nodupB (x.2.map MemPlace.codeOf))=some true:=by kernel_rfl
theorem Pj (os:Os):(DataW.laidRun Tryz.prog (G9 os).memory 8 ((Rows.meanAssignsRow.laid.filter λx=>x.2.handleName?.isNone).map (·.1))).map (λx=>laidRowsB Tryz.prog (G9 os).memory x.2)=some true:=by kernel_rfl
theorem Ug (os:Os):laidMet Tryz.prog (Rows.meanAssignsRow.laid.filter λx=>x.2.handleName?.isNone) (G9 os).memory:=laidMet_of_run3 8 (Ph os) (Pk os) (Pj os)
theorem Ui (os:Os):laidMetH Tryz.prog Rows.meanAssignsRow.laid (G9 os).memory:=laidMetH_of_parts (Ug os) (by kernel_rfl)
theorem reads (os:Os) {H:Type} (enc:TypeId×Value->H):∃ places,DataW.whole enc Tryz.prog (G9 os).memory Tryz.f6.params.toList Rows.meanAssignsSpec.vars false #[Value.slice none 0 0,Value.int .i64 0].toList 8=some ([.nil,.lit (.int .i64 0)],[],places):=⟨[],by kernel_rfl⟩
theorem lifted (os:Os) (started:os.Started) (H:Type) (enc:TypeId×Value->H) (F:Stop.Interp) :
 ReturnsInHanded {} Tryz.checked os 6 .any ((OpenSpec.ofChange Rows.meanAssignsSpec).preRow enc Tryz.prog Tryz.f6 Rows.meanAssignsRow.domain false Rows.meanAssignsRow.laid) (((OpenSpec.ofChange Rows.meanAssignsSpec).at F).post enc Tryz.prog Tryz.f6 false true false false):=by
 obtain⟨places,hx⟩:=reads os enc
 refine returnsInHanded_of_row (C:=Tryz.checked) (s:=OpenSpec.ofChange Rows.meanAssignsSpec) own started (by kernel_rfl) Tryz.func6
  (witness_row_atRef (enc:=enc) (C:=Tryz.checked) false (A3 os) #[.slice none 0 0,.int .i64 0] rfl (by kernel_rfl) (by kernel_rfl) (by kernel_rfl)
    (OpenSpec.preRow_of_cond 8 hx (by kernel_rfl) (λk hk=>by cases hk) (by kernel_rfl) (Ui os))) ?_
 intro W base args ds gs before hval hW _ u6 _ hL hS _
 exact contract H enc W base args ds gs before hval hW hL hS
end Go.Proofs.YtdmcanlbncbemaaGreatDoor.meanAssigns
end
