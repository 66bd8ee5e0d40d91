/-
 A part of the proof that pliantlaw15.RtsStacks returns true and leaves its arguments alone. Conditions: those of the card in the last text.
-/
import Derived.Test.YtgdejggelcpokaaGreatDoorG14
set_option linter.unusedSimpArgs false
set_option linter.unusedVariables false
set_option linter.unusedSectionVars false
noncomputable section
namespace Go.Ar
def Fnd (off k:Nat) (A0:List U) (a b:Nat):Prop :=
 ∃ A G1 u G2 C,A0=A++(G1++u::G2)++C∧u.used=true∧u.size=k∧fin (fin 8 A) G1+8=off∧(∀ v∈G1,v.used=false)∧(∀ v∈G2,v.used=false)∧gapB false A=false∧(∀ v vs,C=v::vs→v.used=true)∧a=fin 8 A∧b=fin (fin 8 A) (G1++u::G2)
def Lst (A0:List U) (la lm:Nat):Prop:=(A0=[]∧lm=0)∨∃ X v,A0=X++[v]∧la=fin 8 X∧lm=v.mark
theorem Lst.next (A0:List U) (u:U):Lst (A0++[u]) (fin 8 A0) u.mark:=.inr ⟨A0,u,rfl,rfl,rfl⟩
theorem Fnd.lt {off k a b:Nat} {A0:List U} (h:Fnd off k A0 a b):off≤fin 8 A0:=by
 obtain ⟨A,G1,u,G2,C,rfl,_,_,h3,_⟩:=h
 have e1:fin 8 (A++(G1++u::G2)++C)=fin (fin (fin 8 A) (G1++u::G2)) C:=by rw [fin_append 8 (A++(G1++u::G2)) C,fin_append 8 A]
 rw [e1]
 have e0:=fin_append (fin 8 A) G1 (u::G2)
 have:=fin_ge (fin (fin 8 A) (G1++u::G2)) C
 have:=fin_ge (fin (fin 8 A) G1+u.span) G2
 have:=span_ge u
 have e:fin (fin (fin 8 A) G1) (u::G2)=fin (fin (fin 8 A) G1+u.span) G2:=rfl
 omega
theorem Fnd.ab {off k a b:Nat} {A0:List U} (h:Fnd off k A0 a b):8≤a∧a+8≤b∧b≤fin 8 A0:=by
 obtain ⟨A,G1,u,G2,C,rfl,_,_,h3,_,_,_,_,rfl,rfl⟩:=h
 have e1:fin 8 (A++(G1++u::G2)++C)=fin (fin (fin 8 A) (G1++u::G2)) C:=by rw [fin_append 8 (A++(G1++u::G2)) C,fin_append 8 A]
 rw [e1]
 have e0:=fin_append (fin 8 A) G1 (u::G2)
 have:=fin_ge (fin (fin 8 A) (G1++u::G2)) C
 have:=fin_ge (fin (fin 8 A) G1+u.span) G2
 have:=fin_ge (fin 8 A) G1
 have:=fin_ge 8 A
 have:=span_ge u
 have e:fin (fin (fin 8 A) G1) (u::G2)=fin (fin (fin 8 A) G1+u.span) G2:=rfl
 omega
theorem Fnd.more {off k a b:Nat} {A0:List U} {u:U} (h:Fnd off k A0 a b) (hu:u.used=false) (he:fin 8 A0=b):Fnd off k (A0++[u]) a (fin 8 (A0++[u])):=by
 obtain ⟨A,G1,w,G2,C,rfl,h1,h2,h3,h4,h5,h6,h7,rfl,rfl⟩:=h
 have hC:C=[]:=by
  cases C with
  | nil=>rfl
  | cons v C =>
   exfalso
   rw [fin_append,fin_append] at he
   have:=fin_cons_gt (fin (fin 8 A) (G1++w::G2)) v C
   omega
 subst hC
 refine ⟨A,G1,w,G2++[u],[],by simp,h1,h2,h3,h4,?_,h6,(fun v vs h=>by cases h),rfl,?_⟩
 ·intro v hv
  rcases List.mem_append.1 hv with hv | hv
  ·exact h5 v hv
  ·rw [List.mem_singleton.1 hv];exact hu
 ·rw [show A++(G1++w::G2)++[]++[u]=A++(G1++w::(G2++[u])) by simp,fin_append]
theorem Fnd.skip {off k a b:Nat} {A0:List U} {u:U} (h:Fnd off k A0 a b) (hs:u.used=true∨fin 8 A0≠b):Fnd off k (A0++[u]) a b:=by
 obtain ⟨A,G1,w,G2,C,rfl,h1,h2,h3,h4,h5,h6,h7,rfl,rfl⟩:=h
 refine ⟨A,G1,w,G2,C++[u],by simp,h1,h2,h3,h4,h5,h6,?_,rfl,rfl⟩
 intro v vs hv
 cases C with
 | nil =>
  simp only [List.nil_append,List.cons.injEq] at hv
  obtain ⟨rfl,_⟩:=hv
  rcases hs with hs | hs
  ·exact hs
  ·exact absurd (by rw [List.append_nil,fin_append]) hs
 | cons c C =>
  simp only [List.cons_append,List.cons.injEq] at hv
  obtain ⟨rfl,_⟩:=hv
  exact h7 _ _ rfl
theorem place_size {off k:Nat} {A0 B:List U} {u:U} (h:(off,k)∈places 8 (A0++u::B)) (he:fin 8 A0+8=off):u.size=k∧u.used=true:=by
 rw [places_append] at h
 rcases List.mem_append.1 h with h | h
 ·have:=places_in h
  have h1:(off,k).1+(off,k).2≤fin 8 A0:=this.2
  have h2:off+k≤fin 8 A0:=h1
  omega
 ·unfold places at h
  rcases List.mem_append.1 h with h | h
  ·split at h
   ·rename_i hu
    simp only [List.mem_singleton,Prod.mk.injEq] at h
    exact ⟨h.2.symm,hu⟩
   ·cases h
  ·have h1:fin 8 A0+u.span+8≤(off,k).1:=(places_in h).1
   have h2:fin 8 A0+u.span+8≤off:=h1
   have:=span_ge u
   omega
theorem Fnd.at_gap {f:By} {off k n:Nat} {us X B:List U} {u v:U} (h:Lay f 8 false us) (hm:(off,k)∈places 8 us) (hus:us=X++[v]++u::B) (he:fin 8 (X++[v])+8=off) (hv:v.used=false) :
 Fnd off k (X++[v]++[u]) (fin 8 X) (fin 8 (X++[v]++[u])):=by
 subst hus
 obtain ⟨h1,h2⟩:=place_size hm he
 rw [show X++[v]++u::B=X++v::u::B by simp,lay_append] at h
 refine ⟨X,[v],u,[],[],by simp,h2,h1,?_,?_,(fun v hv=>by cases hv),h.2.2.1 hv,(fun v vs h=>by cases h),rfl,?_⟩
 ·rw [← he,fin_append]
 ·intro w hw;rw [List.mem_singleton.1 hw];exact hv
 ·rw [show X++[v]++[u]=X++([v]++u::[]) by simp,fin_append]
theorem Fnd.at_use {f:By} {off k n:Nat} {us A0 B:List U} {u:U} (hm:(off,k)∈places 8 us) (hus:us=A0++u::B) (he:fin 8 A0+8=off) (hg:gapB false A0=false) :
 Fnd off k (A0++[u]) (fin 8 A0) (fin 8 (A0++[u])):=by
 subst hus
 obtain ⟨h1,h2⟩:=place_size hm he
 refine ⟨A0,[],u,[],[],by simp,h2,h1,he,(fun v hv=>by cases hv),(fun v hv=>by cases hv),hg,(fun v vs h=>by cases h),rfl,?_⟩
 rw [fin_append];rfl
theorem Lst.no_gap {A0:List U} {la lm:Nat} (h:Lst A0 la lm) (hm:lm≠2):gapB false A0=false:=by
 rcases h with ⟨rfl,_⟩ | ⟨X,v,rfl,_,rfl⟩
 ·rfl
 ·rw [gapB_append]
  show (!v.used)=false
  cases hv:v.used with
  | true=>rfl
  | false=>exact absurd (by unfold U.mark;rw [hv];rfl) hm
theorem Lst.gap {A0:List U} {la:Nat} (h:Lst A0 la 2):∃ X v,A0=X++[v]∧v.used=false∧la=fin 8 X:=by
 rcases h with ⟨_,h⟩ | ⟨X,v,rfl,h1,h2⟩
 ·cases h
 ·refine ⟨X,v,rfl,?_,h1⟩
  cases hv:v.used with
  | false=>rfl
  | true=>unfold U.mark at h2;rw [hv] at h2;cases h2
theorem not_found {off k:Nat} {us A0 B:List U} {u:U} (hm:(off,k)∈places 8 us) (hus:us=A0++u::B) (h0:∀ p∈places 8 A0,p.1≠off) (hne:u.used=true→fin 8 A0+8≠off):∀ p∈places 8 (A0++[u]),p.1≠off:=by
 intro p hp
 rw [places_append] at hp
 rcases List.mem_append.1 hp with hp | hp
 ·exact h0 p hp
 ·unfold places at hp
  rcases List.mem_append.1 hp with hp | hp
  ·split at hp
   ·rename_i hu
    rw [List.mem_singleton.1 hp]
    exact hne hu
   ·cases hp
  ·cases hp
theorem Fnd.free {f:By} {off k n a b:Nat} {us:List U} (h:Fnd off k us a b) (hI:Is f n us) (hn:n<4294967296):∃ us',FreeR f (freeF f a b (fin 8 us) (be f 4)) n us us' off k:=by
 obtain ⟨A,G1,u,G2,C,rfl,h1,rfl,rfl,h4,h5,h6,h7,rfl,rfl⟩:=h
 obtain ⟨us',hf⟩:=free_ok hI h1 h4 h5 h6 h7 hn
 refine ⟨us',?_⟩
 have e:fin 8 (A++(G1++u::G2)++C)=fin (fin (fin 8 A) (G1++u::G2)) C:=by rw [fin_append 8 (A++(G1++u::G2)) C,fin_append 8 A]
 rw [e]
 exact hf
end Go.Ar
end
