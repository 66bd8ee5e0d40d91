/-
 A part of the proof that pliantlaw15.RtsStacks returns true and leaves its arguments alone. Conditions: those of the card in the last text.
-/
import Derived.Test.YtgdejggelcpokaaGreatDoorG13
set_option linter.unusedSimpArgs false
set_option linter.unusedVariables false
set_option linter.unusedSectionVars false
noncomputable section
namespace Go.Ar
abbrev By:=Nat→UInt8
def up (n:Nat):Nat:=(n+7) / 8*8
theorem up_le (n:Nat):n≤up n:=by unfold up;omega
theorem up_lt (n:Nat):up n<n+8:=by unfold up;omega
theorem up_mod (n:Nat):up n % 8=0:=by unfold up;omega
theorem up_of {n:Nat} (h:n % 8=0):up n=n:=by unfold up;omega
def be (f:By) (p:Nat):Nat:=(f p).toNat*16777216+(f (p+1)).toNat*65536+(f (p+2)).toNat*256+(f (p+3)).toNat
def put4 (f:By) (p n:Nat):By:=fun i=>if p≤i∧i<p+4 then UInt8.ofNat (n / 256 ^ (3-(i-p))) else f i
theorem put4_ne {f:By} {p n i:Nat} (h:i<p∨p+4≤i):put4 f p n i=f i:=by
 unfold put4;rw [if_neg (by omega)]
theorem put4_at {f:By} {p n k:Nat} (h:k<4):put4 f p n (p+k)=UInt8.ofNat (n / 256 ^ (3-k)):=by
 unfold put4;rw [if_pos (by omega),show p+k-p=k by omega]
theorem ofNat_toNat (n:Nat):(UInt8.ofNat n).toNat=n % 256:=by simp
theorem be_put4 {f:By} {p n:Nat} (h:n<4294967296):be (put4 f p n) p=n:=by
 unfold be
 have h0:=put4_at (f:=f) (p:=p) (n:=n) (k:=0) (by decide)
 rw [Nat.add_zero] at h0
 rw [h0,put4_at (by decide),put4_at (by decide),put4_at (by decide),ofNat_toNat,ofNat_toNat,ofNat_toNat,ofNat_toNat]
 simp only [Nat.reduceSub,Nat.reducePow,Nat.div_one]
 omega
theorem be_congr {f g:By} {p:Nat} (h:∀ i,p≤i→i<p+4→f i=g i):be f p=be g p:=by
 unfold be
 rw [h p (by omega) (by omega),h (p+1) (by omega) (by omega),h (p+2) (by omega) (by omega),h (p+3) (by omega) (by omega)]
theorem be_zero {f:By} {p:Nat} (h:∀ i,p≤i→i<p+4→f i=0):be f p=0:=by
 unfold be
 rw [h p (by omega) (by omega),h (p+1) (by omega) (by omega),h (p+2) (by omega) (by omega),h (p+3) (by omega) (by omega)]
 rfl
theorem be_lt (f:By) (p:Nat):be f p<4294967296:=by
 unfold be
 have h0:=(f p).toNat_lt
 have h1:=(f (p+1)).toNat_lt
 have h2:=(f (p+2)).toNat_lt
 have h3:=(f (p+3)).toNat_lt
 omega
structure U where
 used:Bool
 size:Nat
def U.span (u:U):Nat:=8+up u.size
def U.mark (u:U):Nat:=if u.used then 1 else 2
structure U.Ok (f:By) (a:Nat) (u:U):Prop where
 size:be f a=u.size
 mark:be f (a+4)=u.mark
 use:u.used=true→1≤u.size∧∀ i,u.size≤i→i<up u.size→f (a+8+i)=0
 gap:u.used=false→u.size % 8=0∧(a=8→8≤u.size)∧∀ i,i<u.size→f (a+8+i)=0
def fin:Nat→List U→Nat
 | a,[]=>a
 | a,u::us=>fin (a+u.span) us
def gapB:Bool→List U→Bool
 | g,[]=>g
 | _,u::us=>gapB (!u.used) us
def Lay (f:By):Nat→Bool→List U→Prop
 | _,_,[]=>True
 | a,g,u::us=>u.Ok f a∧(u.used=false→g=false)∧Lay f (a+u.span) (!u.used) us
def places:Nat→List U→List (Nat×Nat)
 | _,[]=>[]
 | a,u::us=>(if u.used then [(a+8,u.size)] else [])++places (a+u.span) us
theorem span_ge (u:U):8≤u.span:=by unfold U.span;omega
theorem span_mod (u:U):u.span % 8=0:=by unfold U.span;have:=up_mod u.size;omega
theorem fin_append (a:Nat) (us vs:List U):fin a (us++vs)=fin (fin a us) vs:=by
 induction us generalizing a with
 | nil=>rfl
 | cons u us ih=>exact ih _
theorem fin_ge (a:Nat) (us:List U):a≤fin a us:=by
 induction us generalizing a with
 | nil=>exact Nat.le_refl _
 | cons u us ih=>have:=ih (a+u.span);unfold fin;omega
theorem fin_cons_gt (a:Nat) (u:U) (us:List U):a+8≤fin a (u::us):=by
 have:=fin_ge (a+u.span) us;have:=span_ge u;unfold fin;omega
theorem fin_mod {a:Nat} (h:a % 8=0) (us:List U):fin a us % 8=0:=by
 induction us generalizing a with
 | nil=>exact h
 | cons u us ih=>exact ih (by have:=span_mod u;omega)
theorem gapB_append (g:Bool) (us vs:List U):gapB g (us++vs)=gapB (gapB g us) vs:=by
 induction us generalizing g with
 | nil=>rfl
 | cons u us ih=>exact ih _
theorem lay_append (f:By) (a:Nat) (g:Bool) (us vs:List U):Lay f a g (us++vs)↔Lay f a g us∧Lay f (fin a us) (gapB g us) vs:=by
 induction us generalizing a g with
 | nil=>simp [Lay,fin,gapB]
 | cons u us ih =>
  simp only [List.cons_append,Lay,fin,gapB,ih]
  constructor
  ·rintro ⟨h1,h2,h3,h4⟩;exact ⟨⟨h1,h2,h3⟩,h4⟩
  ·rintro ⟨⟨h1,h2,h3⟩,h4⟩;exact ⟨h1,h2,h3,h4⟩
theorem U.Ok.congr {f f':By} {a:Nat} {u:U} (h:u.Ok f a) (hf:∀ i,a≤i→i<a+u.span→f' i=f i):u.Ok f' a:=by
 have hs:=up_le u.size
 unfold U.span at hf
 refine ⟨?_,?_,fun hu=>⟨(h.use hu).1,fun i h1 h2=>?_⟩,fun hu=>⟨(h.gap hu).1,(h.gap hu).2.1,fun i h1=>?_⟩⟩
 ·rw [be_congr fun i h1 h2=>hf i h1 (by omega)];exact h.size
 ·rw [be_congr fun i h1 h2=>hf i (by omega) (by omega)];exact h.mark
 ·rw [hf _ (by omega) (by omega)];exact (h.use hu).2 i h1 h2
 ·rw [hf _ (by omega) (by omega)];exact (h.gap hu).2.2 i h1
theorem Lay.congr {f f':By} {a:Nat} {g:Bool} {us:List U} (h:Lay f a g us) (hf:∀ i,a≤i→i<fin a us→f' i=f i):Lay f' a g us:=by
 induction us generalizing a g with
 | nil=>trivial
 | cons u us ih =>
  have hg:=fin_ge (a+u.span) us
  obtain ⟨h1,h2,h3⟩:=h
  exact ⟨h1.congr fun i k1 k2=>hf i k1 (by unfold fin;omega),h2,ih h3 fun i k1 k2=>hf i (by omega) k2⟩
theorem Lay.gap {f:By} {a:Nat} {g g':Bool} {us:List U} (h:Lay f a g us) (hu:∀ u vs,us=u::vs→u.used=true):Lay f a g' us:=by
 cases us with
 | nil=>trivial
 | cons u us=>exact ⟨h.1,fun h'=>(by rw [hu u us rfl] at h';cases h'),h.2.2⟩
theorem places_append (a:Nat) (us vs:List U):places a (us++vs)=places a us++places (fin a us) vs:=by
 induction us generalizing a with
 | nil=>rfl
 | cons u us ih=>simp only [List.cons_append,places,fin,ih,List.append_assoc]
theorem places_in {a:Nat} {us:List U} {p:Nat×Nat} (h:p∈places a us):a+8≤p.1∧p.1+p.2≤fin a us:=by
 induction us generalizing a with
 | nil=>cases h
 | cons u us ih =>
  have hg:=fin_ge (a+u.span) us
  have hs:=up_le u.size
  unfold places at h
  unfold fin
  rcases List.mem_append.1 h with h | h
  ·split at h
   ·simp only [List.mem_singleton] at h
    subst h
    unfold U.span at *
    exact ⟨Nat.le_refl _,by show a+8+u.size≤_;omega⟩
   ·cases h
  ·have:=ih h
   exact ⟨by omega,this.2⟩
theorem places_apart (a:Nat) (us:List U):(places a us).Pairwise fun p q=>p.1+p.2≤q.1:=by
 induction us generalizing a with
 | nil=>exact .nil
 | cons u us ih =>
  unfold places
  cases hu:u.used with
  | false=>simpa using ih _
  | true =>
   simp only [if_true,List.singleton_append]
   refine .cons (fun q hq=>?_) (ih _)
   have:=(places_in hq).1
   have hs:=up_le u.size
   unfold U.span at this
   show a+8+u.size≤q.1
   omega
structure Is (f:By) (n:Nat) (us:List U):Prop where
 lay:Lay f 8 false us
 shut:gapB false us=false
 le:fin 8 us≤n
 fin_:be f 0=fin 8 us-8
 cnt:be f 4=(places 8 us).length
 zero:∀ i,fin 8 us≤i→i<n→f i=0
theorem Is.congr {f f':By} {n:Nat} {us:List U} (h:Is f n us) (hf:∀ i,i<n→f' i=f i):Is f' n us:=by
 have h8:=fin_ge 8 us
 have hl:=h.le
 exact ⟨h.lay.congr fun i _ h2=>hf i (by omega),h.shut,h.le,by rw [be_congr fun i _ h2=>hf i (by omega)];exact h.fin_,by rw [be_congr fun i _ h2=>hf i (by omega)];exact h.cnt,fun i h1 h2=>by rw [hf i h2];exact h.zero i h1 h2⟩
theorem Is.new {f:By} {n:Nat} (hn:8≤n) (h:∀ i,i<n→f i=0):Is f n [] :=
 ⟨trivial,rfl,hn,be_zero fun i _ h2=>h i (by omega),be_zero fun i _ h2=>h i (by omega),fun i _ h2=>h i h2⟩
def headF (f:By) (a size mark:Nat):By:=put4 (put4 f a size) (a+4) mark
theorem headF_ne {f:By} {a s m i:Nat} (h:i<a∨a+8≤i):headF f a s m i=f i:=by
 unfold headF;rw [put4_ne (by omega),put4_ne (by omega)]
theorem headF_size {f:By} {a s m:Nat} (h:s<4294967296):be (headF f a s m) a=s:=by
 unfold headF
 rw [be_congr (g:=put4 f a s) fun i h1 h2=>put4_ne (by omega)]
 exact be_put4 h
theorem headF_mark {f:By} {a s m:Nat} (h:m<4294967296):be (headF f a s m) (a+4)=m:=by
 unfold headF;exact be_put4 h
structure AllocR (f f':By) (n:Nat) (us us':List U) (off k:Nat):Prop where
 is:Is f' n us'
 perm:(places 8 us').Perm ((off,k)::places 8 us)
 keep:∀ p∈places 8 us,∀ i,p.1≤i→i<p.1+p.2→f' i=f i
 zero:∀ i,off≤i→i<off+k→f' i=0
 same:∀ i,n≤i→f' i=f i
def gapF (f:By) (a k size c:Nat):By :=
 if up k<size then headF (headF (put4 f 4 (c+1)) a k 1) (a+8+up k) (size-up k-8) 2 else headF (put4 f 4 (c+1)) a k 1
theorem places_free (a:Nat) {u:U} (h:u.used=false) (us:List U):places a (u::us)=places (a+u.span) us:=by
 show (if u.used then _ else [])++_=_
 rw [h];rfl
theorem places_used (a:Nat) {u:U} (h:u.used=true) (us:List U):places a (u::us)=(a+8,u.size)::places (a+u.span) us:=by
 show (if u.used then _ else [])++_=_
 rw [h];rfl
theorem alloc_gap {f:By} {n k:Nat} {A B:List U} {u:U} (h:Is f n (A++u::B)) (hu:u.used=false) (hk:1≤k) (hle:up k≤u.size) (hn:n<4294967296) :
 ∃ us',AllocR f (gapF f (fin 8 A) k u.size (be f 4)) n (A++u::B) us' (fin 8 A+8) k:=by
 obtain ⟨hl,hshut,hfin,hend,hcnt,hz⟩:=h
 rw [lay_append] at hl
 obtain ⟨hA,hok,hg,hB⟩:=hl
 rw [fin_append] at hfin hend hz
 rw [gapB_append] at hshut
 rw [places_append,places_free _ hu] at hcnt
 have ha8:=fin_ge 8 A
 have hgap:=hok.gap hu
 have hup:=up_of hgap.1
 have hspan:u.span=8+u.size:=by unfold U.span;rw [hup]
 have hbe:=fin_ge (fin 8 A+u.span) B
 have hkm:=up_mod k
 have hku:=up_le k
 have ham:fin 8 A % 8=0:=fin_mod (by decide) A
 generalize ha:fin 8 A=a at *
 unfold fin at hfin hend hz
 have hsh':gapB (!u.used) B=false:=hshut
 rw [hspan] at hcnt hfin hend hz hbe hB
 have hc:be f 4+1<4294967296:=by
  have h1:∀ (b:Nat) (us:List U),(places b us).length*8≤fin b us-b:=by
   intro b us
   induction us generalizing b with
   | nil=>simp [places]
   | cons v us ih =>
    have e1:=ih (b+v.span)
    have e2:=fin_ge (b+v.span) us
    have e3:=span_ge v
    unfold places fin
    split
    ·simp only [List.singleton_append,List.length_cons];omega
    ·simp only [List.nil_append];omega
  have h2:=h1 8 A
  have h3:=h1 (a+(8+u.size)) B
  rw [ha] at h2
  rw [hcnt,List.length_append]
  omega
 have hlow:∀ i,(i<4∨8≤i)→(i<a∨a+8≤i)→(i<a+8+up k∨a+8+u.size≤i)→gapF f a k u.size (be f 4) i=f i:=by
  intro i h1 h2 h3
  unfold gapF
  split
  ·rw [headF_ne (by omega),headF_ne (by omega),put4_ne (by omega)]
  ·rw [headF_ne (by omega),put4_ne (by omega)]
 have hhead:∀ i,i<a+8+up k→gapF f a k u.size (be f 4) i=headF (put4 f 4 (be f 4+1)) a k 1 i:=by
  intro i h1
  unfold gapF
  split
  ·rw [headF_ne (by omega)]
  ·rfl
 have hown:(U.mk true k).Ok (gapF f a k u.size (be f 4)) a:=by
  refine ⟨?_,?_,fun _=>⟨hk,fun i h1 h2=>?_⟩,fun h=>by cases h⟩
  ·rw [be_congr (g:=headF (put4 f 4 (be f 4+1)) a k 1) fun i _ h2=>hhead i (by omega)]
   exact headF_size (by omega)
  ·rw [be_congr (g:=headF (put4 f 4 (be f 4+1)) a k 1) fun i _ h2=>hhead i (by omega)]
   exact headF_mark (by decide)
  ·have h2':i<up k:=h2
   rw [hlow _ (by omega) (by omega) (by omega)]
   exact hgap.2.2 i (by omega)
 have hA':Lay (gapF f a k u.size (be f 4)) 8 false A:=hA.congr fun i h1 h2=>hlow i (by omega) (by omega) (by omega)
 have hB':∀ g,Lay (gapF f a k u.size (be f 4)) (a+(8+u.size)) g B:=fun g=>(hB.congr fun i h1 h2=>hlow i (by omega) (by omega) (by omega)).gap fun v vs e=>by
  subst e
  have:=hB.2.1
  rw [hu] at this
  cases hv:v.used with
  | true=>rfl
  | false=>exact absurd (this hv) (by decide)
 have hspk:(U.mk true k).span=8+up k:=rfl
 have hzero:∀ i,a+8≤i→i<a+8+k→gapF f a k u.size (be f 4) i=0:=fun i h1 h2=>by
  rw [hlow i (by omega) (by omega) (by omega)]
  have:=hgap.2.2 (i-(a+8)) (by omega)
  rwa [show a+8+(i-(a+8))=i by omega] at this
 have hkeep:∀ p∈places 8 (A++u::B),∀ i,p.1≤i→i<p.1+p.2→gapF f a k u.size (be f 4) i=f i:=by
  intro p hp i h1 h2
  rw [places_append,places_free _ hu,ha,hspan] at hp
  rcases List.mem_append.1 hp with hp | hp
  ·have:=places_in hp
   rw [ha] at this
   exact hlow i (by omega) (by omega) (by omega)
  ·have:=places_in hp
   exact hlow i (by omega) (by omega) (by omega)
 have hsame:∀ i,n≤i→gapF f a k u.size (be f 4) i=f i:=fun i h1=>hlow i (by omega) (by omega) (by omega)
 have hcnt':be (gapF f a k u.size (be f 4)) 4=be f 4+1:=by
  rw [be_congr (g:=put4 f 4 (be f 4+1)) fun i h1 h2=>by rw [hhead i (by omega),headF_ne (by omega)]]
  exact be_put4 hc
 have hend':be (gapF f a k u.size (be f 4)) 0=be f 0:=be_congr fun i h1 h2=>hlow i (by omega) (by omega) (by omega)
 by_cases hr:up k<u.size
 ·
  have hsp2:(U.mk false (u.size-up k-8)).span=u.size-up k:=by unfold U.span;rw [up_of (by show (u.size-up k-8) % 8=0;omega)];show 8+(u.size-up k-8)=_;omega
  have hgapOk:(U.mk false (u.size-up k-8)).Ok (gapF f a k u.size (be f 4)) (a+(8+up k)):=by
   have e:∀ i,gapF f a k u.size (be f 4) i=headF (headF (put4 f 4 (be f 4+1)) a k 1) (a+8+up k) (u.size-up k-8) 2 i:=fun i=>by unfold gapF;rw [if_pos hr]
   refine ⟨?_,?_,fun h=>(by cases h),fun _=>⟨by show (u.size-up k-8) % 8=0;omega,fun h=>(by omega),fun i h1=>?_⟩⟩
   ·rw [be_congr fun i _ _=>e i,show a+(8+up k)=a+8+up k by omega]
    exact headF_size (by omega)
   ·rw [be_congr fun i _ _=>e i,show a+(8+up k)=a+8+up k by omega]
    exact headF_mark (by decide)
   ·have h1':i<u.size-up k-8:=h1
    rw [e,headF_ne (by omega),headF_ne (by omega),put4_ne (by omega)]
    have:=hgap.2.2 (up k+8+i) (by omega)
    rwa [show a+8+(up k+8+i)=a+(8+up k)+8+i by omega] at this
  have hfe:∀ (x:Nat),x=a→fin x (U.mk true k::U.mk false (u.size-up k-8)::B)=fin (a+(8+u.size)) B:=by
   rintro x rfl
   show fin (x+(U.mk true k).span+(U.mk false (u.size-up k-8)).span) B=_
   rw [hspk,hsp2];congr 1;omega
  have hpl:places 8 (A++U.mk true k::U.mk false (u.size-up k-8)::B)=places 8 A++(a+8,k)::places (a+(8+u.size)) B:=by
   rw [places_append,places_used _ rfl,places_free _ rfl,ha,hspk,hsp2,show a+(8+up k)+(u.size-up k)=a+(8+u.size) by omega]
  refine ⟨A++U.mk true k::U.mk false (u.size-up k-8)::B,⟨?_,?_,?_,?_,?_,?_⟩,?_,hkeep,hzero,hsame⟩
  ·rw [lay_append,ha]
   refine ⟨hA',hown,fun h=>(by cases h),?_⟩
   rw [hspk]
   refine ⟨hgapOk,fun _=>rfl,?_⟩
   rw [hsp2,show a+(8+up k)+(u.size-up k)=a+(8+u.size) by omega]
   exact hB' _
  ·rw [gapB_append]
   show gapB true B=false
   rw [hu] at hsh';exact hsh'
  ·rw [fin_append,ha,hfe a rfl];exact hfin
  ·rw [fin_append,ha,hfe a rfl,hend'];exact hend
  ·rw [hcnt',hcnt,hpl]
   simp only [List.length_append,List.length_cons];omega
  ·rw [fin_append,ha,hfe a rfl]
   intro i h1 h2
   rw [hlow i (by omega) (by omega) (by omega)]
   exact hz i h1 h2
  ·rw [hpl,places_append,places_free _ hu,ha,hspan]
   exact List.perm_middle
 ·
  have hk':up k=u.size:=by omega
  have hfe:∀ (x:Nat),x=a→fin x (U.mk true k::B)=fin (a+(8+u.size)) B:=by
   rintro x rfl
   show fin (x+(U.mk true k).span) B=_
   rw [hspk,hk']
  have hpl:places 8 (A++U.mk true k::B)=places 8 A++(a+8,k)::places (a+(8+u.size)) B:=by
   rw [places_append,places_used _ rfl,ha,hspk,hk']
  refine ⟨A++U.mk true k::B,⟨?_,?_,?_,?_,?_,?_⟩,?_,hkeep,hzero,hsame⟩
  ·rw [lay_append,ha]
   refine ⟨hA',hown,fun h=>(by cases h),?_⟩
   rw [hspk,hk'];exact hB' _
  ·rw [gapB_append]
   show gapB false B=false
   cases B with
   | nil=>rfl
   | cons v B=>exact hsh'
  ·rw [fin_append,ha,hfe a rfl];exact hfin
  ·rw [fin_append,ha,hfe a rfl,hend'];exact hend
  ·rw [hcnt',hcnt,hpl]
   simp only [List.length_append,List.length_cons];omega
  ·rw [fin_append,ha,hfe a rfl]
   intro i h1 h2
   rw [hlow i (by omega) (by omega) (by omega)]
   exact hz i h1 h2
  ·rw [hpl,places_append,places_free _ hu,ha,hspan]
   exact List.perm_middle
theorem places_len (b:Nat) (us:List U):(places b us).length*8≤fin b us-b:=by
 induction us generalizing b with
 | nil=>simp [places]
 | cons v us ih =>
  have e1:=ih (b+v.span)
  have e2:=fin_ge (b+v.span) us
  have e3:=span_ge v
  unfold places fin
  split
  ·simp only [List.singleton_append,List.length_cons];omega
  ·simp only [List.nil_append];omega
def endF (f:By) (a k c:Nat):By:=put4 (headF (put4 f 4 (c+1)) a k 1) 0 (a+up k)
theorem alloc_end {f:By} {n k:Nat} {us:List U} (h:Is f n us) (hk:1≤k) (hle:fin 8 us+8+up k≤n) (hn:n<4294967296) :
 AllocR f (endF f (fin 8 us) k (be f 4)) n us (us++[U.mk true k]) (fin 8 us+8) k:=by
 obtain ⟨hl,hshut,hfin,hend,hcnt,hz⟩:=h
 have ha8:=fin_ge 8 us
 have hku:=up_le k
 have hlen:=places_len 8 us
 have hspk:(U.mk true k).span=8+up k:=rfl
 have hfe:fin 8 (us++[U.mk true k])=fin 8 us+(8+up k):=by rw [fin_append];rfl
 have hpl:places 8 (us++[U.mk true k])=places 8 us++[(fin 8 us+8,k)]:=by rw [places_append,places_used _ rfl];rfl
 generalize ha:fin 8 us=a at *
 have hlow:∀ i,8≤i→(i<a∨a+8≤i)→endF f a k (be f 4) i=f i:=fun i h1 h2=>by
  unfold endF
  rw [put4_ne (by omega),headF_ne (by omega),put4_ne (by omega)]
 have hhead:∀ i,4≤i→endF f a k (be f 4) i=headF (put4 f 4 (be f 4+1)) a k 1 i:=fun i h1=>by
  unfold endF
  rw [put4_ne (by omega)]
 have hown:(U.mk true k).Ok (endF f a k (be f 4)) a:=by
  refine ⟨?_,?_,fun _=>⟨hk,fun i h1 h2=>?_⟩,fun h=>by cases h⟩
  ·rw [be_congr (g:=headF (put4 f 4 (be f 4+1)) a k 1) fun i _ h2=>hhead i (by omega)]
   exact headF_size (by omega)
  ·rw [be_congr (g:=headF (put4 f 4 (be f 4+1)) a k 1) fun i _ h2=>hhead i (by omega)]
   exact headF_mark (by decide)
  ·have h2':i<up k:=h2
   rw [hlow _ (by omega) (by omega)]
   exact hz _ (by omega) (by omega)
 refine ⟨⟨?_,?_,?_,?_,?_,?_⟩,?_,fun p hp i h1 h2=>?_,fun i h1 h2=>?_,fun i h1=>?_⟩
 ·rw [lay_append]
  refine ⟨hl.congr fun i h1 h2=>hlow i h1 (by omega),?_,fun h=>(by cases h),trivial⟩
  rw [ha];exact hown
 ·rw [gapB_append];rfl
 ·rw [hfe];omega
 ·rw [hfe]
  unfold endF
  rw [be_put4 (by omega)];omega
 ·rw [be_congr (g:=put4 f 4 (be f 4+1)) fun i h1 h2=>by rw [hhead i h1,headF_ne (by omega)],be_put4 (by omega),hpl,hcnt,List.length_append];rfl
 ·rw [hfe]
  intro i h1 h2
  rw [hlow i (by omega) (by omega)]
  exact hz i (by omega) h2
 ·rw [hpl]
  exact List.perm_append_singleton _ _
 ·have:=places_in hp
  rw [ha] at this
  exact hlow i (by omega) (by omega)
 ·rw [hlow i (by omega) (by omega)]
  exact hz i (by omega) (by omega)
 ·exact hlow i (by omega) (by omega)
structure FreeR (f f':By) (n:Nat) (us us':List U) (off k:Nat):Prop where
 is:Is f' n us'
 perm:(places 8 us).Perm ((off,k)::places 8 us')
 keep:∀ p∈places 8 us',∀ i,p.1≤i→i<p.1+p.2→f' i=f i
 same:∀ i,n≤i→f' i=f i
def clr (f:By) (a b:Nat):By:=fun i=>if a≤i∧i<b then 0 else f i
theorem clr_ne {f:By} {a b i:Nat} (h:i<a∨b≤i):clr f a b i=f i:=by unfold clr;rw [if_neg (by omega)]
theorem clr_in {f:By} {a b i:Nat} (h1:a≤i) (h2:i<b):clr f a b i=0:=by unfold clr;rw [if_pos ⟨h1,h2⟩]
def freeF (f:By) (a b e c:Nat):By :=
 if b=e then put4 (put4 (clr f a b) 4 (c-1)) 0 (a-8) else headF (put4 (clr f a b) 4 (c-1)) a (b-a-8) 2
theorem places_gaps {us:List U} (h:∀ u∈us,u.used=false) (a:Nat):places a us=[]:=by
 induction us generalizing a with
 | nil=>rfl
 | cons u us ih =>
  rw [places_free _ (h u (by simp))]
  exact ih (fun v hv=>h v (by simp [hv])) _
theorem free_ok {f:By} {n:Nat} {A G1 G2 B:List U} {u:U} (h:Is f n (A++(G1++u::G2)++B)) (hu:u.used=true) (h1:∀ v∈G1,v.used=false) (h2:∀ v∈G2,v.used=false) (hA:gapB false A=false) (hB:∀ v vs,B=v::vs→v.used=true) (hn:n<4294967296) :
 ∃ us',FreeR f (freeF f (fin 8 A) (fin (fin 8 A) (G1++u::G2)) (fin (fin (fin 8 A) (G1++u::G2)) B) (be f 4)) n (A++(G1++u::G2)++B) us' (fin (fin 8 A) G1+8) u.size:=by
 obtain ⟨hl,hshut,hfin,hend,hcnt,hz⟩:=h
 have hlen:=places_len 8 (A++(G1++u::G2)++B)
 rw [lay_append,lay_append] at hl
 obtain ⟨⟨hlA,hlM⟩,hlB⟩:=hl
 have hpl:places 8 (A++(G1++u::G2)++B)=places 8 A++(fin (fin 8 A) G1+8,u.size)::places (fin (fin 8 A) (G1++u::G2)) B:=by
  rw [places_append,places_append,places_append,places_used _ hu,places_gaps h1,places_gaps h2,List.nil_append,fin_append]
  simp
 rw [fin_append,fin_append] at hfin hend hz hlen
 rw [fin_append] at hlB
 have hok:u.Ok f (fin (fin 8 A) G1):=by
  rw [lay_append] at hlM
  exact hlM.2.1
 have hbig:fin 8 A+16≤fin (fin 8 A) (G1++u::G2):=by
  have e1:=fin_ge (fin 8 A) G1
  have e2:=fin_ge (fin (fin 8 A) G1+u.span) G2
  have e3:=(hok.use hu).1
  have e4:=up_le u.size
  have e5:=up_mod u.size
  rw [fin_append]
  show _≤fin (fin (fin 8 A) G1+u.span) G2
  unfold U.span at *
  omega
 have hbm:fin (fin 8 A) (G1++u::G2) % 8=0:=fin_mod (fin_mod (by decide) A) _
 have ham:fin 8 A % 8=0:=fin_mod (by decide) A
 have ha8:=fin_ge 8 A
 have hbe:=fin_ge (fin (fin 8 A) (G1++u::G2)) B
 have hcpos:0<be f 4:=by rw [hcnt,hpl,List.length_append,List.length_cons];omega
 generalize hb:fin (fin 8 A) (G1++u::G2)=b at *
 generalize hG:fin (fin 8 A) G1=gg at *
 generalize ha:fin 8 A=a at *
 have hc32:be f 4-1<4294967296:=by have:=be_lt f 4;omega
 have hsame0:∀ i,8≤i→(i<a∨b≤i)→freeF f a b (fin b B) (be f 4) i=f i:=fun i h1 h2=>by
  unfold freeF
  split
  ·rw [put4_ne (by omega),put4_ne (by omega),clr_ne (by omega)]
  ·rw [headF_ne (by omega),put4_ne (by omega),clr_ne (by omega)]
 have hcnt':be (freeF f a b (fin b B) (be f 4)) 4=be f 4-1:=by
  unfold freeF
  split
  ·rw [be_congr (g:=put4 (clr f a b) 4 (be f 4-1)) fun i h1 h2=>put4_ne (by omega)]
   exact be_put4 hc32
  ·rw [be_congr (g:=put4 (clr f a b) 4 (be f 4-1)) fun i h1 h2=>headF_ne (by omega)]
   exact be_put4 hc32
 by_cases hbB:b=fin b B
 ·
  have hBn:B=[]:=by
   cases B with
   | nil=>rfl
   | cons v B=>have:=fin_cons_gt b v B;omega
  subst hBn
  refine ⟨A,⟨hlA.congr fun i k1 k2=>hsame0 i k1 (by omega),hA,by omega,?_,?_,fun i k1 k2=>?_⟩,?_,fun p hp i k1 k2=>?_,fun i k1=>hsame0 i (by omega) (by omega)⟩
  ·unfold freeF
   rw [if_pos hbB,be_put4 (by omega),ha]
  ·rw [hcnt',hcnt,hpl]
   simp [places]
  ·rw [ha] at k1
   by_cases hib:i<b
   ·unfold freeF
    rw [if_pos hbB,put4_ne (by omega),put4_ne (by omega),clr_in k1 hib]
   ·rw [hsame0 i (by omega) (by omega)]
    exact hz i (by omega) k2
  ·rw [hpl]
   simp only [places]
   exact List.perm_append_singleton _ _
  ·have:=places_in hp
   rw [ha] at this
   exact hsame0 i (by omega) (by omega)
 ·have hsp:(U.mk false (b-a-8)).span=b-a:=by unfold U.span;rw [up_of (by show (b-a-8) % 8=0;omega)];show 8+(b-a-8)=_;omega
  have hgapOk:(U.mk false (b-a-8)).Ok (freeF f a b (fin b B) (be f 4)) a:=by
   have e:∀ i,freeF f a b (fin b B) (be f 4) i=headF (put4 (clr f a b) 4 (be f 4-1)) a (b-a-8) 2 i:=fun i=>by unfold freeF;rw [if_neg hbB]
   refine ⟨?_,?_,fun h=>(by cases h),fun _=>⟨by show (b-a-8) % 8=0;omega,fun h=>(by show 8≤b-a-8;omega),fun i k1=>?_⟩⟩
   ·rw [be_congr fun i _ _=>e i]
    exact headF_size (by omega)
   ·rw [be_congr fun i _ _=>e i]
    exact headF_mark (by decide)
   ·have k1':i<b-a-8:=k1
    rw [e,headF_ne (by omega),put4_ne (by omega),clr_in (by omega) (by omega)]
  have hfe:fin 8 (A++U.mk false (b-a-8)::B)=fin b B:=by
   rw [fin_append,ha]
   show fin (a+(U.mk false (b-a-8)).span) B=_
   rw [hsp];congr 1;omega
  have hpl':places 8 (A++U.mk false (b-a-8)::B)=places 8 A++places b B:=by
   rw [places_append,places_free _ rfl,ha,hsp,show a+(b-a)=b by omega]
  refine ⟨A++U.mk false (b-a-8)::B,⟨?_,?_,by rw [hfe];exact hfin,?_,?_,fun i k1 k2=>?_⟩,?_,fun p hp i k1 k2=>?_,fun i k1=>hsame0 i (by omega) (by omega)⟩
  ·rw [lay_append,ha,hA]
   refine ⟨hlA.congr fun i k1 k2=>hsame0 i k1 (by omega),hgapOk,fun _=>rfl,?_⟩
   rw [hsp,show a+(b-a)=b by omega]
   exact (hlB.congr fun i k1 k2=>hsame0 i (by omega) (by omega)).gap hB
  ·rw [gapB_append]
   show gapB true B=false
   rw [gapB_append] at hshut
   cases B with
   | nil=>exact absurd rfl hbB
   | cons v B=>exact hshut
  ·rw [hfe,← hend]
   exact be_congr fun i k1 k2=>by
    unfold freeF
    rw [if_neg hbB,headF_ne (by omega),put4_ne (by omega),clr_ne (by omega)]
  ·rw [hcnt',hcnt,hpl,hpl']
   simp only [List.length_append,List.length_cons];omega
  ·rw [hfe] at k1
   rw [hsame0 i (by omega) (by omega)]
   exact hz i k1 k2
  ·rw [hpl,hpl']
   exact List.perm_middle
  ·rw [hpl'] at hp
   rcases List.mem_append.1 hp with hp | hp
   ·have:=places_in hp
    rw [ha] at this
    exact hsame0 i (by omega) (by omega)
   ·have:=places_in hp
    exact hsame0 i (by omega) (by omega)
theorem places_mem {a off k:Nat} {us:List U} (h:(off,k)∈places a us):∃ A u B,us=A++u::B∧u.used=true∧u.size=k∧fin a A+8=off:=by
 induction us generalizing a with
 | nil=>cases h
 | cons u us ih =>
  unfold places at h
  rcases List.mem_append.1 h with h | h
  ·split at h
   ·rename_i hu
    simp only [List.mem_singleton,Prod.mk.injEq] at h
    exact ⟨[],u,us,rfl,hu,h.2.symm,h.1.symm⟩
   ·cases h
  ·obtain ⟨A,v,B,rfl,h2,h3,h4⟩:=ih h
   exact ⟨u::A,v,B,rfl,h2,h3,h4⟩
theorem Is.bytes {f f':By} {n:Nat} {us:List U} (h:Is f n us) (hf:∀ i,i<n→(∀ p∈places 8 us,i<p.1∨p.1+p.2≤i)→f' i=f i):Is f' n us:=by
 have ha8:=fin_ge 8 us
 have hlow:∀ i,i<8→f' i=f i:=fun i hi=>hf i (by have:=h.le;omega) fun p hp=>by have:=places_in hp;omega
 refine ⟨?_,h.shut,h.le,?_,?_,fun i h1 h2=>?_⟩
 ·have key:∀ (us:List U) (a:Nat) (g:Bool),Lay f a g us→fin a us≤n→(∀ i,a≤i→i<fin a us→(∀ p∈places a us,i<p.1∨p.1+p.2≤i)→f' i=f i)→Lay f' a g us:=by
   intro us
   induction us with
   | nil=>intros;trivial
   | cons u us ih =>
    intro a g ⟨hok,hg,hr⟩ hle hag
    have hge:=fin_ge (a+u.span) us
    have hsu:=up_le u.size
    unfold fin at hle hag
    refine ⟨?_,hg,ih _ _ hr hle fun i k1 k2 hp=>hag i (by omega) k2 fun p hp'=>?_⟩
    ·have hnear:∀ i,a≤i→i<a+u.span→(u.used=true→i<a+8∨a+8+u.size≤i)→f' i=f i:=fun i k1 k2 k3=>by
      refine hag i k1 (by omega) fun p hp=>?_
      unfold places at hp
      rcases List.mem_append.1 hp with hp | hp
      ·split at hp
       ·rename_i hu
        simp only [List.mem_singleton] at hp
        subst hp
        exact k3 hu
       ·cases hp
      ·have:=places_in hp;omega
     have hs:u.span=8+up u.size:=rfl
     refine ⟨?_,?_,fun hu=>⟨(hok.use hu).1,fun i k1 k2=>?_⟩,fun hu=>⟨(hok.gap hu).1,(hok.gap hu).2.1,fun i k1=>?_⟩⟩
     ·rw [be_congr fun i k1 k2=>hnear i k1 (by omega) fun _=>by omega];exact hok.size
     ·rw [be_congr fun i k1 k2=>hnear i (by omega) (by omega) fun _=>by omega];exact hok.mark
     ·rw [hnear _ (by omega) (by omega) fun _=>by omega];exact (hok.use hu).2 i k1 k2
     ·rw [hnear _ (by omega) (by omega) fun h=>by rw [hu] at h;cases h];exact (hok.gap hu).2.2 i k1
    ·unfold places at hp'
     rcases List.mem_append.1 hp' with hp' | hp'
     ·split at hp'
      ·simp only [List.mem_singleton] at hp'
       subst hp'
       have hs:u.span=8+up u.size:=rfl
       show i<a+8∨a+8+u.size≤i
       omega
      ·cases hp'
     ·exact hp p hp'
  exact key us 8 false h.lay h.le fun i k1 k2 hp=>hf i (by have:=h.le;omega) hp
 ·rw [be_congr fun i _ k2=>hlow i (by omega)];exact h.fin_
 ·rw [be_congr fun i _ k2=>hlow i (by omega)];exact h.cnt
 ·rw [hf i h2 fun p hp=>by have:=places_in hp;omega]
  exact h.zero i h1 h2
end Go.Ar
end
noncomputable section
namespace Go.Ev
section
variable {tb:Tb} {sp:Nat→List Value→Hp→Option (Value×Hp×Nat×Nat)} {e:Env} {N0:Nat} {Us:Nat→Prop} {d:Nat} {K K1:T Value→Hp→Prop} {cos:List CO} {t:T Value} {H:Hp}
theorem WOG.all (K1:T Value→Hp→Prop) (h:WOG tb sp e d K1 cos t H) (hk:∀ t' H',K1 t' H'→K t' H'):WOG tb sp e d K cos t H:=h.mono hk
theorem WOX.mono (hk:∀ t' H',K1 t' H'→K t' H'):∀ {cos:List CO} {cl:List C4} {t:T Value} {H:Hp},WOX tb sp e N0 Us d K1 cos cl t H→WOX tb sp e N0 Us d K cos cl t H:=by
 intro cos
 induction cos with
 | nil=>intro cl t H h;rw [WOX] at *;exact hk t H h
 | cons o cos ih =>
  intro cl t H h
  cases cl with
  | nil=>rw [WOX] at h;exact h.elim
  | cons c cl =>
  rw [WOX] at h ⊢
  cases hg:wants t o.guard with
  | true =>
   rw [hg] at h
   revert h
   cases run o.op t H with
   | val v H' r w =>
    cases c with
    | p=>exact fun h=>⟨h.1,h.2.1,h.2.2.1,ih h.2.2.2⟩
    | q=>exact fun h=>⟨h.1,h.2.1,h.2.2.1,h.2.2.2.1,ih h.2.2.2.2⟩
    | l=>exact fun h=>⟨h.1,h.2.1,h.2.2.1,ih h.2.2.2⟩
    | x=>exact fun h=>⟨h.1,h.2.1,ih h.2.2⟩
    | u=>exact fun h=>⟨h.1,h.2.1,h.2.2.1,h.2.2.2.1,ih h.2.2.2.2⟩
    | y=>exact fun h=>⟨h.1,h.2.1,h.2.2.1,h.2.2.2.1,ih h.2.2.2.2⟩
    | z=>exact fun h=>⟨h.1,h.2.1,h.2.2.1,ih h.2.2.2⟩
   | call f args =>
    cases c with
    | p=>exact fun h=>h.elim
    | q=>exact fun h=>h.mono fun v H1 _ hh=>by rw [WOXk] at *;exact ih hh
    | l=>exact fun h=>h.mono fun v H1 _ hh=>by rw [WOXk] at *;exact ih hh
    | x=>exact fun h=>h.mono fun v H1 _ hh=>by rw [WOXk] at *;exact ih hh
    | u=>exact fun h=>h.elim
    | y=>exact fun h=>h.elim
    | z=>exact fun h=>h.elim
   | _=>exact fun h=>h.elim
  | false=>rw [hg] at h;exact ih h
theorem WOX.all {cl:List C4} (K1:T Value→Hp→Prop) (h:WOX tb sp e N0 Us d K1 cos cl t H) (hk:∀ t' H',K1 t' H'→K t' H'):WOX tb sp e N0 Us d K cos cl t H:=WOX.mono hk h
theorem WK.draw_xx {cx:Cx} {B:Array Nat} {ds:List Deferred} {K:Ex→T Value→List Deferred→Hp→Prop} (Us:Nat→Prop) (cl:List C4) (he:e.n0≤H.nx) (hc:chkC4 B 0 [] [] [] cl=true)
 (h:WOX tb sp e H.nx Us cx.d (fun t' H'=>K .normal t' ds H') cos cl t H):WK tb sp e cx (.draw B cos) t ds H K:=WK.draw_x cl _ he hc h fun _ _ h=>h
end
theorem no_bits (P:Nat→Prop):(∀ b,Nat.testBit 0 b=true→P b)↔True:=by simp
theorem the_bit {b:Nat} {P:Nat→Prop} (h:P b):∀ c,(bit b).testBit c=true→P c:=fun c hc=>by rw [(bit_iff _ _).1 hc];exact h
structure NB (H:Hp) (L:List Value) (ty:Nat) (H1:Hp):Prop where
 al:alloc1 (blkL L ty 0) H ptrTo 0 0=.val (.pointer (some ⟨H.nx,0,none⟩)) H1 0 0
 row:Row H1 H.nx ty 0 L
 kept:Kept H H1
 nx:H1.nx=H.nx+1
theorem newB {H:Hp} (hf:H.isFn=true) (L:List Value) (ty:Nat):∃ H1,NB H L ty H1 :=
 ⟨H.push (blkL L ty 0),alloc_ptr hf _,row_push (fn_room hf) _ _ _,⟨by rw [isFn_push];exact hf,by rw [nx_push];omega,fun b hb=>blk_push_old (fn_room hf) _ hb⟩,nx_push _ _⟩
structure WrB (H:Hp) (b ty op:Nat) (L:List Value) (H1:Hp):Prop where
 row:Row H1 b ty op L
 fn:H1.isFn=true
 nx:H1.nx=H.nx
 else_:∀ c,c≠b→H1.blk c=H.blk c
theorem wrN_at {H:Hp} {b ty op o:Nat} {L vs:List Value} (hf:H.isFn=true) (h:Row H b ty op L) (hle:o+vs.length≤L.length):∃ H1,wrN H b o vs=some H1∧WrB H b ty op (L.take o++vs++L.drop (o+vs.length)) H1:=by
 obtain ⟨t,hb,ht⟩:=h
 have hlt:b<H.nx:=((alive_iff H b).2 (by rw [hb];simp)).1
 refine ⟨H.put b (.cells (wrL (dep L.length) vs o t) L.length ty op 0 0),?_,?_,by rw [isFn_put];exact hf,nx_put _ _ _,fun c hc=>blk_put_ne (fn_wf hf) _ hlt hc⟩
 ·unfold wrN
  rw [hb]
  simp only []
  rw [thawed_zero,Bool.and_true,(ble_iff _ _).2 hle,Bc_t]
 ·have hlen:(L.take o++vs++L.drop (o+vs.length)).length=L.length:=by
   rw [List.length_append,List.length_append,List.length_take,List.length_drop];omega
  refine ⟨wrL (dep L.length) vs o t,?_,fun i v hv=>?_⟩
  ·rw [hlen,blk_put _ (fn_wf hf) hlt,if_pos rfl]
  ·have hi:i<L.length:=by
    rcases Nat.lt_or_ge i L.length with h | h
    ·exact h
    ·rw [List.getElem?_eq_none (by omega)] at hv;cases hv
   have hd:L.length<2 ^ dep L.length:=lt_dep _
   rw [wrL_get _ _ _ _ _ (by omega) (by omega)]
   by_cases h1:o≤i∧i<o+vs.length
   ·rw [if_pos h1]
    rw [List.getElem?_append_left (by rw [List.length_append,List.length_take];omega),List.getElem?_append_right (by rw [List.length_take];omega),List.length_take,Nat.min_eq_left (by omega)] at hv
    rw [List.getD_eq_getElem?_getD,hv];rfl
   ·rw [if_neg h1]
    by_cases h2:i<o
    ·rw [List.getElem?_append_left (by rw [List.length_append,List.length_take];omega),List.getElem?_append_left (by rw [List.length_take];omega),List.getElem?_take,if_pos h2] at hv
     exact ht i v hv
    ·rw [List.getElem?_append_right (by rw [List.length_append,List.length_take];omega),List.getElem?_drop,List.length_append,List.length_take,Nat.min_eq_left (by omega),show o+vs.length+(i-(o+vs.length))=i by omega] at hv
     exact ht i v hv
theorem exStN_at {H:Hp} {b ty op o:Nat} {L vs:List Value} (hf:H.isFn=true) (h:Row H b ty op L) (hle:o+vs.length≤L.length) :
 ∃ H1,exSt vs.length (.pointer (some ⟨b,o,none⟩)) (.agg ⟨vs⟩) H=.val U H1 0 (bit b)∧WrB H b ty op (L.take o++vs++L.drop (o+vs.length)) H1:=by
 obtain ⟨H1,h1,h2⟩:=wrN_at hf h hle
 refine ⟨H1,?_,h2⟩
 show (match some vs with | some vs'=>Bc (Nat.beq vs'.length vs.length) (match wrN H b o vs' with | some H'=>R.val U H' 0 (bit b) | none=>.fail) .fail | none=>.fail)=_
 simp only [h1,(beq_iff _ _).2 rfl,Bc_t]
theorem exSt_one {v:Value} (h:oneC v=true) (p:Value) (H:Hp):exSt 1 p v H=exSt 1 p (.agg ⟨[v]⟩) H:=by
 cases v <;> first | rfl | cases h
theorem exSt1_at {H:Hp} {b ty op o:Nat} {L:List Value} {v:Value} (hv:oneC v=true) (hf:H.isFn=true) (h:Row H b ty op L) (hle:o+1≤L.length) :
 ∃ H1,exSt 1 (.pointer (some ⟨b,o,none⟩)) v H=.val U H1 0 (bit b)∧WrB H b ty op (L.take o++[v]++L.drop (o+1)) H1:=by
 obtain ⟨H1,h1,h2⟩:=exStN_at (vs:=[v]) hf h hle
 exact ⟨H1,by rw [exSt_one hv];exact h1,h2⟩
open Go.Ar (By)
def uB (u:UInt8):Value:=.int .u8 (.ofNat u.toNat)
def bys (f:By) (n:Nat):List Value:=(List.range n).map fun i=>uB (f i)
def strF (f:By) (n:Nat):List UInt8:=(List.range n).map f
theorem bys_len (f:By) (n:Nat):(bys f n).length=n:=by simp [bys]
theorem strF_len (f:By) (n:Nat):(strF f n).length=n:=by simp [strF]
theorem bys_get {f:By} {n i:Nat} (h:i<n):(bys f n)[i]?=some (uB (f i)):=by simp [bys,h]
theorem strF_get {f:By} {n i:Nat} (h:i<n):(strF f n)[i]?=some (f i):=by simp [strF,h]
theorem bys_congr {f g:By} {n:Nat} (h:∀ i,i<n→f i=g i):bys f n=bys g n:=List.map_congr_left fun i hi=>by rw [h i (List.mem_range.1 hi)]
theorem bys_cut {f:By} {n o k:Nat} (h:o+k≤n):((bys f n).drop o).take k=bys (fun i=>f (o+i)) k:=by
 apply List.ext_getElem?
 intro i
 rw [List.getElem?_take]
 split
 ·rename_i hi
  rw [List.getElem?_drop,bys_get (by omega),bys_get hi]
 ·rename_i hi
  rw [List.getElem?_eq_none (by rw [bys_len];omega)]
def over (f:By) (o k:Nat) (g:By):By:=fun i=>if o≤i∧i<o+k then g (i-o) else f i
theorem bys_over {f g:By} {n o k:Nat} (h:o+k≤n):(bys f n).take o++bys g k++(bys f n).drop (o+k)=bys (over f o k g) n:=by
 apply List.ext_getElem?
 intro i
 by_cases hi:i<n
 ·rw [bys_get hi]
  unfold over
  by_cases h1:i<o
  ·rw [List.getElem?_append_left (by rw [List.length_append,List.length_take,bys_len,bys_len];omega),List.getElem?_append_left (by rw [List.length_take,bys_len];omega),List.getElem?_take,if_pos h1,bys_get hi,if_neg (by omega)]
  ·by_cases h2:i<o+k
   ·rw [List.getElem?_append_left (by rw [List.length_append,List.length_take,bys_len,bys_len];omega),List.getElem?_append_right (by rw [List.length_take,bys_len];omega),List.length_take,bys_len,Nat.min_eq_left (by omega),bys_get (by omega),if_pos ⟨by omega,h2⟩]
   ·rw [List.getElem?_append_right (by rw [List.length_append,List.length_take,bys_len,bys_len];omega),List.getElem?_drop,List.length_append,List.length_take,bys_len,bys_len,Nat.min_eq_left (by omega),show o+k+(i-(o+k))=i by omega,bys_get hi,if_neg (by omega)]
 ·rw [List.getElem?_eq_none (by rw [List.length_append,List.length_append,List.length_take,List.length_drop,bys_len,bys_len];omega),List.getElem?_eq_none (by rw [bys_len];omega)]
theorem strOf_bys (f:By) (n:Nat):strOf (bys f n)=some (strF f n):=by
 unfold strOf bys strF
 rw [show ((List.range n).map fun i=>uB (f i)).all isU8=true from List.all_eq_true.2 fun v hv=>by obtain ⟨i,_,rfl⟩:=List.mem_map.1 hv;rfl,Bc_t,List.map_map]
 congr 1
 apply List.map_congr_left
 intro i _
 show UInt8.ofNat (Int.ofNat (f i).toNat).toNat=f i
 simp
theorem bytesV_eq (s:List UInt8):bytesV s=bys (fun i=>s.getD i 0) s.length:=by
 apply List.ext_getElem?
 intro i
 unfold bytesV
 by_cases h:i<s.length
 ·rw [bys_get h,List.getElem?_map,List.getElem?_eq_getElem h]
  simp [uB,List.getD,h]
 ·rw [List.getElem?_eq_none (by simp;omega),List.getElem?_eq_none (by rw [bys_len];omega)]
theorem strF_getD {f:By} {n i:Nat} (h:i<n):(strF f n).getD i 0=f i:=by rw [List.getD_eq_getElem?_getD,strF_get h];rfl
theorem bytesV_strF (f:By) (n:Nat):bytesV (strF f n)=bys f n:=by
 rw [bytesV_eq,strF_len]
 exact bys_congr fun i hi=>strF_getD hi
theorem strF_take {f:By} {n k:Nat} (h:k≤n):(strF f n).take k=strF f k:=by
 apply List.ext_getElem?
 intro i
 rw [List.getElem?_take]
 split
 ·rename_i hi;rw [strF_get (by omega),strF_get hi]
 ·rename_i hi;rw [List.getElem?_eq_none (by rw [strF_len];omega)]
abbrev ByU (H:Hp) (b ty:Nat) (f:By) (n:Nat):Prop:=Row H b ty 0 (bys f n)
theorem ByU.ld {H:Hp} {b ty n i:Nat} {f:By} (h:ByU H b ty f n) (hi:i<n):exLd1 (.pointer (some ⟨b,i,none⟩)) H=.val (uB (f i)) H (bit b) 0:=exLd1_row h (bys_get hi)
theorem ByU.rdN {H:Hp} {b ty n o k:Nat} {f:By} (h:ByU H b ty f n) (hle:o+k≤n):rdN H b o k=some (bys (fun i=>f (o+i)) k):=by
 rw [rdN_row h (by rw [bys_len];exact hle),bys_cut hle]
theorem ByU.toS {H:Hp} {b ty n o k c:Nat} {f:By} (h:ByU H b ty f n) (hle:o+k≤n):exToS (.slice (some ⟨b,o,none⟩) k c) H=.val (vS (strF (fun i=>f (o+i)) k)) H (bit b) 0:=by
 show (match Go.Ev.rdN H b o k with | some l=>(match strOf l with | some s=>R.val (.string ⟨⟨s⟩⟩) H (bit b) 0 | none=>.fail) | none=>.fail)=_
 rw [h.rdN hle]
 simp only [strOf_bys]
structure NS (H:Hp) (n:Nat) (H1:Hp):Prop where
 made:exMkSl 5 1 [.int .u8 0] (vN n) (vN n) H=.val (.slice (some ⟨H.nx,0,none⟩) n (2*n)) H1 0 0
 row:ByU H1 H.nx 5 (fun _=>0) n
 kept:Kept H H1
 nx:H1.nx=H.nx+1
theorem newS {H:Hp} (hf:H.isFn=true) {n:Nat} (hn:n≤1099511627776):∃ H1,NS H n H1:=by
 refine ⟨H.push (.cells (.e (.int .u8 0)) n 5 0 0 0),?_,⟨.e (.int .u8 0),?_,fun i v hv=>?_⟩,⟨by rw [isFn_push];exact hf,by rw [nx_push];omega,fun b hb=>blk_push_old (fn_room hf) _ hb⟩,nx_push _ _⟩
 ·show Bc (Nat.ble n n && Nat.ble (n*1) 1099511627776 && Nat.ble n 1099511627776) (alloc1 (.cells (.e (.int .u8 0)) n 5 0 0 0) H (fun i=>mkSlV (some (i,0)) n n false) 0 0) .fail=_
  rw [(ble_iff _ _).2 (Nat.le_refl n),(ble_iff _ _).2 (show n*1≤1099511627776 by omega),(ble_iff _ _).2 hn]
  rw [show (true && true && true)=true from rfl,Bc_t,alloc1_room (fn_room hf)]
  rfl
 ·rw [bys_len,blk_push _ (fn_room hf),if_pos rfl]
 ·have hi:i<n:=by
   rcases Nat.lt_or_ge i n with h | h
   ·exact h
   ·rw [List.getElem?_eq_none (by rw [bys_len];exact h)] at hv;cases hv
  rw [bys_get hi] at hv
  exact Option.some.inj hv
structure OvB (H:Hp) (b ty:Nat) (f:By) (n:Nat) (H1:Hp):Prop where
 row:ByU H1 b ty f n
 fn:H1.isFn=true
 nx:H1.nx=H.nx
 else_:∀ c,c≠b→H1.blk c=H.blk c
theorem WrB.ov {H H1:Hp} {b ty n o k:Nat} {f g:By} (hle:o+k≤n) (h:WrB H b ty 0 ((bys f n).take o++bys g k++(bys f n).drop (o+(bys g k).length)) H1):OvB H b ty (over f o k g) n H1:=by
 obtain ⟨h1,h2,h3,h4⟩:=h
 rw [bys_len,bys_over hle] at h1
 exact ⟨h1,h2,h3,h4⟩
theorem wrNs_bys {H:Hp} {b ty n o k:Nat} {f g:By} (hf:H.isFn=true) (h:ByU H b ty f n) (hle:o+k≤n):∃ H1,wrNs H b o (bys g k)=some H1∧OvB H b ty (over f o k g) n H1:=by
 obtain ⟨H2,h1,h2⟩:=wrN_at (vs:=bys g k) hf h (by rw [bys_len,bys_len];exact hle)
 obtain ⟨t,hb,ht⟩:=h
 have hlt:b<H.nx:=((alive_iff H b).2 (by rw [hb];simp)).1
 unfold wrN at h1
 rw [hb] at h1
 simp only [] at h1
 rw [thawed_zero,Bool.and_true,(ble_iff _ _).2 (by rw [bys_len,bys_len];exact hle),Bc_t] at h1
 have h1:=Option.some.inj h1
 refine ⟨H.put b (.cells (wrS (dep (bys f n).length) (bys g k) o t) (bys f n).length ty 0 0 0),?_,?_,by rw [isFn_put];exact hf,nx_put _ _ _,fun c hc=>blk_put_ne (fn_wf hf) _ hlt hc⟩
 ·unfold wrNs
  rw [hb]
  simp only []
  rw [thawed_zero,Bool.and_true,(ble_iff _ _).2 (by rw [bys_len,bys_len];exact hle),Bc_t]
 ·have h3:=(h2.ov hle).row
  subst h1
  obtain ⟨t2,e1,e2⟩:=h3
  rw [blk_put _ (fn_wf hf) hlt,if_pos rfl,bys_len,bys_len] at e1
  refine ⟨wrS (dep (bys f n).length) (bys g k) o t,by rw [blk_put _ (fn_wf hf) hlt,if_pos rfl,bys_len,bys_len],fun i v hv=>?_⟩
  have hi:i<n:=by
   rcases Nat.lt_or_ge i n with h | h
   ·exact h
   ·rw [List.getElem?_eq_none (by rw [bys_len];exact h)] at hv;cases hv
  have hd:=lt_dep (bys f n).length
  rw [bys_len] at hd
  have e3:=e2 i v hv
  have e4:wrL (dep n) (bys g k) o t=t2:=by injection e1
  rw [← e3,← e4,bys_len]
  exact wrS_get _ _ _ _ _ (by rw [bys_len];omega) (by omega)
theorem asSl_sl (b o n c:Nat):∃ k op,asSl (.slice (some ⟨b,o,none⟩) n c)=some (some (b,o),n,k,op):=by
 rcases Nat.mod_two_eq_zero_or_one c with h | h
 ·exact ⟨_,_,by rw [show c=2*(c / 2) by omega];exact asSl_shut b o n (c / 2)⟩
 ·exact ⟨_,_,by rw [show c=2*(c / 2)+1 by omega];exact asSl_open b o n (c / 2)⟩
theorem copyT {H:Hp} {b ty n o m c k:Nat} {f g:By} (hf:H.isFn=true) (h:ByU H b ty f n) (hk:k≤m) (hle:o+k≤n):∃ H1,exCopy 1 (.slice (some ⟨b,o,none⟩) m c) (vS (strF g k)) H=.val (vN k) H1 0 (bit b)∧OvB H b ty (over f o k g) n H1:=by
 obtain ⟨H1,h1,h2⟩:=wrNs_bys (g:=g) hf h hle
 refine ⟨H1,?_,h2⟩
 obtain ⟨kk,op,hs⟩:=asSl_sl b o m c
 unfold exCopy
 rw [hs,show lenV (vS (strF g k))=some k from by show some (strF g k).length=_;rw [strF_len]]
 simp only []
 rw [show Nat.min k m=k from Nat.min_eq_left hk]
 have e:cellsOfV H 1 k (vS (strF g k))=some (bys g k,0):=by
  show Bc (Nat.beq 1 1) (some (bytesV ((strF g k).take k),0)) none=_
  rw [strF_take (Nat.le_refl _),bytesV_strF];rfl
 rw [e]
 simp only [h1]
 rfl
theorem flat_rep (n:Nat):(List.replicate n [Value.int .u8 0]).flatten=bys (fun _=>0) n:=by
 induction n with
 | zero=>rfl
 | succ n ih =>
  rw [List.replicate_succ,List.flatten_cons,ih]
  apply List.ext_getElem?
  intro i
  by_cases h:i<n+1
  ·rw [bys_get h]
   cases i with
   | zero=>rfl
   | succ i=>rw [List.getElem?_append_right (by simp),List.length_singleton,Nat.add_sub_cancel,bys_get (by omega)]
  ·rw [List.getElem?_eq_none (by rw [List.length_append,bys_len];simp;omega),List.getElem?_eq_none (by rw [bys_len];omega)]
theorem clearB {H:Hp} {b ty n o k c:Nat} {f:By} (hf:H.isFn=true) (h:ByU H b ty f n) (hle:o+k≤n):∃ H1,exClear [.int .u8 0] (.slice (some ⟨b,o,none⟩) k c) H=.val (.tuple #[]) H1 0 (bit b)∧OvB H b ty (over f o k fun _=>0) n H1:=by
 obtain ⟨H1,h1,h2⟩:=wrN_at (vs:=bys (fun _=>0) k) hf h (by rw [bys_len,bys_len];exact hle)
 refine ⟨H1,?_,h2.ov hle⟩
 obtain ⟨kk,op,hs⟩:=asSl_sl b o k c
 unfold exClear
 rw [hs]
 simp only []
 rw [flat_rep,h1]
theorem ByU.st {H:Hp} {b ty n i:Nat} {f:By} {u:UInt8} (hf:H.isFn=true) (h:ByU H b ty f n) (hi:i<n):∃ H1,exSt 1 (.pointer (some ⟨b,i,none⟩)) (uB u) H=.val U H1 0 (bit b)∧OvB H b ty (over f i 1 fun _=>u) n H1:=by
 obtain ⟨H1,h1,h2⟩:=exSt1_at (v:=uB u) (o:=i) rfl hf h (by rw [bys_len];omega)
 exact ⟨H1,h1,WrB.ov (k:=1) (g:=fun _=>u) (by omega) h2⟩
theorem bnd_some {x:Nat} {dflt hi:Nat} (h:x≤hi):bnd (some (vN (x:Nat))) dflt hi=some x:=by
 show (match (some ((x:Nat):Int)) with | some n=>(match natI n with | some m=>Bc (Nat.ble m hi) (some m) none | none=>none) | none=>none)=_
 show Bc (Nat.ble x hi) (some x) none=_
 rw [(ble_iff _ _).2 h,Bc_t]
theorem bnd_none {dflt hi:Nat}:bnd none dflt hi=some dflt:=rfl
theorem slL_lh {b o n c l h:Nat} (H:Hp) (h1:l≤h) (h2:h≤c) (h3:l<c):exSlL 1 (.slice (some ⟨b,o,none⟩) n (2*c)) (some (vN l)) (some (vN h)) none H=.val (.slice (some ⟨b,o+l,none⟩) (h-l) (2*(c-l))) H 0 0:=by
 unfold exSlL
 rw [asSl_shut]
 simp only []
 have:bounds n c (some (vN l)) (some (vN h)) none=some (l,h,c):=by
  unfold bounds
  rw [show Bc ((none:Option Value).isSome && (some (vN (h:Int))).isNone) none (bnd none c c)=some c from rfl]
  simp only []
  rw [bnd_some h2]
  simp only []
  rw [bnd_some h1]
 rw [this]
 simp only []
 have e:Nat.beq c l=false:=by
  cases hh:Nat.beq c l with
  | false=>rfl
  | true=>have:=(beq_iff _ _).1 hh;omega
 rw [show (false && (none:Option Value).isNone)=false from rfl,Bc_f,e,Bc_f]
 simp only [shiftA,Nat.mul_one]
 rfl
theorem slL_l {b o n c l:Nat} (H:Hp) (h1:l≤n) (h2:n≤c) (h3:l<c):exSlL 1 (.slice (some ⟨b,o,none⟩) n (2*c)) (some (vN l)) none none H=.val (.slice (some ⟨b,o+l,none⟩) (n-l) (2*(c-l))) H 0 0:=by
 unfold exSlL
 rw [asSl_shut]
 simp only []
 have:bounds n c (some (vN l)) none none=some (l,n,c):=by
  unfold bounds
  rw [show Bc ((none:Option Value).isSome && (none:Option Value).isNone) none (bnd none c c)=some c from rfl]
  simp only [bnd_none]
  rw [bnd_some h1]
 rw [this]
 simp only []
 have e:Nat.beq c l=false:=by
  cases hh:Nat.beq c l with
  | false=>rfl
  | true=>have:=(beq_iff _ _).1 hh;omega
 rw [show (false && (none:Option Value).isNone)=false from rfl,Bc_f,e,Bc_f]
 simp only [shiftA,Nat.mul_one]
 rfl
theorem slL_e {b o n c:Nat} (H:Hp) (h2:n≤c):exSlL 1 (.slice (some ⟨b,o,none⟩) n (2*c)) (some (vN c)) none none H=(if n=c then .val (.slice (some ⟨b,o,none⟩) 0 0) H 0 0 else .fail):=by
 unfold exSlL
 rw [asSl_shut]
 simp only []
 by_cases h:n=c
 ·have:bounds n c (some (vN c)) none none=some (c,n,c):=by
   unfold bounds
   rw [show Bc ((none:Option Value).isSome && (none:Option Value).isNone) none (bnd none c c)=some c from rfl]
   simp only [bnd_none]
   rw [bnd_some (by omega)]
  rw [this,if_pos h]
  simp only []
  rw [show (false && (none:Option Value).isNone)=false from rfl,Bc_f,show Nat.beq c c=true from (beq_iff _ _).2 rfl,Bc_t,h,Nat.sub_self]
  rfl
 ·have:bounds n c (some (vN c)) none none=none:=by
   unfold bounds
   rw [show Bc ((none:Option Value).isSome && (none:Option Value).isNone) none (bnd none c c)=some c from rfl]
   simp only [bnd_none]
   have:bnd (some (vN (c:Int))) 0 n=none:=by
    show Bc (Nat.ble c n) (some c) none=_
    have:Nat.ble c n=false:=by
     cases hh:Nat.ble c n with
     | false=>rfl
     | true=>have:=(ble_iff _ _).1 hh;omega
    rw [this,Bc_f]
   rw [this]
  rw [this,if_neg h]
end Go.Ev
namespace Go.Ev
theorem Yj:(!true)=false:=rfl
theorem Yk:(!false)=true:=rfl
theorem Yl (n:Nat):0+n=n:=Nat.zero_add n
theorem Ym (n:Nat):n+0=n:=rfl
theorem Yn (n:Nat):n≤n:=Nat.le_refl n
theorem Yo {α:Type} {n:Nat} {a:α} {l:List α}:(a::l).take (n+1)=a::l.take n:=rfl
theorem Yp {α:Type} {l:List α}:l.take 0=[]:=by cases l <;> rfl
theorem Yq {α:Type} {n:Nat} {a:α} {l:List α}:(a::l).drop (n+1)=l.drop n:=rfl
theorem Yr {α:Type} {l:List α}:l.drop 0=l:=rfl
end Go.Ev
namespace Go.Ev
abbrev iN (n:Nat):Value:=.int .i64 ((n:Nat):Int)
abbrev pA (b o:Nat):Value:=.pointer (some ⟨b,o,none⟩)
abbrev sC (b o n c:Nat):Value:=.slice (some ⟨b,o,none⟩) n c
section
variable {tb:Tb} {sp:Nat→List Value→Hp→Option (Value×Hp×Nat×Nat)} {e:Env} {N0:Nat} {Us:Nat→Prop} {d:Nat} {K:T Value→Hp→Prop} {cos:List CO} {t:T Value} {H:Hp}
theorem WOG.hide (h:∀ K0:T Value→Hp→Prop,(∀ t H,K t H→K0 t H)→WOG tb sp e d K0 cos t H):WOG tb sp e d K cos t H:=h K fun _ _ h=>h
theorem WOX.hide {cl:List C4} (h:∀ K0:T Value→Hp→Prop,(∀ t H,K t H→K0 t H)→WOX tb sp e N0 Us d K0 cos cl t H):WOX tb sp e N0 Us d K cos cl t H:=h K fun _ _ h=>h
end
end Go.Ev
namespace Go.Ev
section
variable {H H':Hp} {b b2 ty op:Nat} {L:List Value}
theorem Row.mv (h:Row H b ty op L) (k:Kept H H'):Row H' b ty op L:=h.of_blk (k.old _ h.lt)
theorem Row.ot (h:Row H b ty op L) (he:∀ c,c≠b2→H'.blk c=H.blk c) (hn:b≠b2):Row H' b ty op L:=h.of_blk (he _ hn)
theorem Row.mo (h:Row H b ty op L) (he:∀ c,c<H.nx→c≠b2→H'.blk c=H.blk c) (hn:b≠b2):Row H' b ty op L:=h.of_blk (he _ h.lt hn)
theorem okr {e:Env} (h:Row H b ty op L) (hb:e.n0≤b):e.ok (bit b) 0 H:=.read h.lt fun h=>absurd h (by omega)
end
end Go.Ev
namespace Go.Ev
theorem Xo (d:Nat) {i j:Nat} (hi:i<2 ^ d) (hj:j<2 ^ d) (t:T Value) (v:Value):(putT d t (some i) v).get j=if j=i then v else t.get j:=get_putT hi hj t v
end Go.Ev
namespace Go.Ev
section
variable {tb:Tb} {sp:Nat→List Value→Hp→Option (Value×Hp×Nat×Nat)} {e:Env} {f:FuncId} {fn:Func} {c:Code} {k:KC} {a0 a1 a2 a3 a4:Value} {H:Hp} {K:Value→Hp→Prop} (hf:tb.fn f=some fn) (hb:fn.body=some c) (hk:kcomp tb fn.ntmps c=k)
include hf hb hk
theorem EC.i1 (hs:sp f [a0] H=none) (hn:1≤fn.ntmps) (h:∀ t0:T Value,t0.get 0=a0→WK tb sp e (cxOf fn) k t0 [] H (Leaves tb e fn K)):EC tb sp e f [a0] H K:=EC.intro hs hf hb hk hn (h _ (enterT_get (args:=[a0]) hn (by omega)))
theorem EC.i2 (hs:sp f [a0,a1] H=none) (hn:2≤fn.ntmps) (h:∀ t0:T Value,t0.get 0=a0→t0.get 1=a1→WK tb sp e (cxOf fn) k t0 [] H (Leaves tb e fn K)):EC tb sp e f [a0,a1] H K:=EC.intro hs hf hb hk hn (h _ (enterT_get (args:=[a0,a1]) hn (by omega)) (enterT_get (args:=[a0,a1]) hn (by omega)))
theorem EC.i3 (hs:sp f [a0,a1,a2] H=none) (hn:3≤fn.ntmps) (h:∀ t0:T Value,t0.get 0=a0→t0.get 1=a1→t0.get 2=a2→WK tb sp e (cxOf fn) k t0 [] H (Leaves tb e fn K)):EC tb sp e f [a0,a1,a2] H K:=EC.intro hs hf hb hk hn (h _ (enterT_get (args:=[a0,a1,a2]) hn (by omega)) (enterT_get (args:=[a0,a1,a2]) hn (by omega)) (enterT_get (args:=[a0,a1,a2]) hn (by omega)))
theorem EC.i4 (hs:sp f [a0,a1,a2,a3] H=none) (hn:4≤fn.ntmps) (h:∀ t0:T Value,t0.get 0=a0→t0.get 1=a1→t0.get 2=a2→t0.get 3=a3→WK tb sp e (cxOf fn) k t0 [] H (Leaves tb e fn K)):EC tb sp e f [a0,a1,a2,a3] H K:=EC.intro hs hf hb hk hn (h _ (enterT_get (args:=[a0,a1,a2,a3]) hn (by omega)) (enterT_get (args:=[a0,a1,a2,a3]) hn (by omega)) (enterT_get (args:=[a0,a1,a2,a3]) hn (by omega)) (enterT_get (args:=[a0,a1,a2,a3]) hn (by omega)))
theorem EC.i5 (hs:sp f [a0,a1,a2,a3,a4] H=none) (hn:5≤fn.ntmps) (h:∀ t0:T Value,t0.get 0=a0→t0.get 1=a1→t0.get 2=a2→t0.get 3=a3→t0.get 4=a4→WK tb sp e (cxOf fn) k t0 [] H (Leaves tb e fn K)):EC tb sp e f [a0,a1,a2,a3,a4] H K:=EC.intro hs hf hb hk hn (h _ (enterT_get (args:=[a0,a1,a2,a3,a4]) hn (by omega)) (enterT_get (args:=[a0,a1,a2,a3,a4]) hn (by omega)) (enterT_get (args:=[a0,a1,a2,a3,a4]) hn (by omega)) (enterT_get (args:=[a0,a1,a2,a3,a4]) hn (by omega)) (enterT_get (args:=[a0,a1,a2,a3,a4]) hn (by omega)))
end
end Go.Ev
namespace Go.Ev
def GT (t:T Value):List (Nat×Value)→Prop
 | []=>True
 | (i,v)::l=>t.get i=v∧GT t l
theorem wF {x y:Int} (h : -9223372036854775808≤x∧x≤9223372036854775807∧x=y):Value.int .i64 (wrapF .i64 x)=.int .i64 y:=congrArg _ ((wrapF_i64 h.1 h.2.1).trans h.2.2)
end Go.Ev
end
