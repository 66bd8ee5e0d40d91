/-
 A part of the proof that pliantlaw16.MeanAssigns returns true and leaves its arguments alone. Conditions: those of the card in the last text.
-/
import Derived.KernelRfl
import Derived.Laws.Externs
import Derived.Test.YtdmcanlbncbemaaGreatDoorG07
import Derived.Test.YtdmcanlbncbemaaGreatDoorG08
import Derived.Test.YtdmcanlbncbemaaGreatDoorG09
import Derived.Test.YtdmcanlbncbemaaGreatDoorG10
import Derived.Test.YtdmcanlbncbemaaGreatDoorG11
import Derived.Test.YtdmcanlbncbemaaGreatDoorG12
set_option linter.unusedSimpArgs false
set_option linter.unusedVariables false
set_option linter.unusedSectionVars false
set_option maxRecDepth 100000
set_option maxHeartbeats 8000000
noncomputable section
namespace Go.Proofs.MN
open Go Go.Ev Go.Proofs
theorem Y9:(adt.all λt=>!Tryz.prog.stoodInHeld t&&!Tryz.prog.eqGuardType Tryz.prog.depth t)=true:=by kernel_rfl
theorem T3:(L5.all λx=>liesAt Tryz.prog Tryz.prog.depth x.1 (x.2.1 / Tryz.prog.cellsOf x.1) x.2.2 128 1)=true:=by kernel_rfl
theorem Zl : ((List.range NF).all fun i => match Jr.get i with | some fn => !(fn.name == "runtime.NumGoroutine") | none => true) = true := by kernel_rfl
theorem TG:Tryz.prog.follows .mixedOrders=true:=by kernel_rfl
theorem aq {α:Type} {b:Bool} {x:Option α} {a:α} (h:Bc b x none=some a):b=true/\x=some a:=by
 cases b with
 |true=>exact⟨rfl,h⟩
 |false=>cases h
theorem ads (t:Nat) (h:t∈adt):Tryz.prog.stoodInHeld t=false/\Tryz.prog.eqGuardType Tryz.prog.depth t=false:=by
 have h2:=List.all_eq_true.1 Y9 t h
 generalize Tryz.prog.stoodInHeld t=a at h2
 generalize Tryz.prog.eqGuardType Tryz.prog.depth t=b at h2
 cases a<;>cases b<;>first|exact⟨rfl,rfl⟩|cases h2
theorem Tr (f : Nat) (fn : Func) (h1 : f < NF) (h2 : Jr.get f = some fn) : (fn.name == "runtime.NumGoroutine") = false := by
 have h3:=List.all_eq_true.1 Zl f (List.mem_range.2 h1)
 rw[h2]at h3
 simp only[]at h3
 generalize (fn.name == "runtime.NumGoroutine") = a at h3
 cases a
 ·rfl
 ·cases h3
theorem ZJ (u ty n o:Nat) (h:(ty,n,o)∈T4 u):liesAt Tryz.prog Tryz.prog.depth ty (n / Tryz.prog.cellsOf ty) o u 1=true:=by
 unfold T4 at h
 cases hb:Nat.beq u 128 with
 |false=>rw[hb,au]at h;cases h
 |true =>
  rw[hb,aj]at h
  have hu:=(beq_iff _ _).1 hb
  rw[hu]
  have h3:=List.all_eq_true.1 T3 (ty,n,o) h
  simp only[]at h3
  exact h3
theorem acg (t n:Nat) (v:Value) (h:ach t=some (n,v)):aW 10 v=true/\bQ v=true/\∃ i z,Tryz.prog.info? t=some i/\i.zero=some z/\z.cells.toList=List.replicate n v:=by
 have anL:t=197\/t=198\/t=199:=by
  unfold ach at h
  cases h1:Nat.beq t 197 with
  |true=>exact .inl ((beq_iff _ _).1 h1)
  |false =>
   rw[h1,au]at h
   cases h2:Nat.beq t 198 with
   |true=>exact .inr (.inl ((beq_iff _ _).1 h2))
   |false =>
    rw[h2,au]at h
    cases h3:Nat.beq t 199 with
    |true=>exact .inr (.inr ((beq_iff _ _).1 h3))
    |false=>rw[h3,au]at h;cases h
 rcases anL with rfl|rfl|rfl
 ·cases h;exact⟨rfl,rfl,Tryz.t197,_,Z0,rfl,G5⟩
 ·cases h;exact⟨rfl,rfl,Tryz.t198,_,ZZ,rfl,G4⟩
 ·cases h;exact⟨rfl,rfl,Tryz.t199,_,ZY,XH,BM⟩
theorem agX (W : World) (v : Value) : (method (Tryz.prog.types.size + Made.depth) 359 v "pliant/convert.text").run Tryz.prog W = .ok (585, v) W := by kernel_rfl
theorem agW (W : World) (v : Value) : (method (Tryz.prog.types.size + Made.depth) 360 v "pliant/convert.text").run Tryz.prog W = .ok (587, v) W := by kernel_rfl
theorem agV (W : World) (v : Value) : (method (Tryz.prog.types.size + Made.depth) 362 v "pliant/convert.text").run Tryz.prog W = .ok (588, v) W := by kernel_rfl
theorem agU (W : World) (v : Value) : (method (Tryz.prog.types.size + Made.depth) 363 v "pliant/convert.text").run Tryz.prog W = .ok (589, v) W := by kernel_rfl
theorem agT (W : World) (v : Value) : (method (Tryz.prog.types.size + Made.depth) 156 v "Kind").run Tryz.prog W = .ok (395, v) W := by kernel_rfl
theorem oG {t a f:Nat} {l:List (Nat×Nat)} {x:Nat} (h:lkM t ((a,f)::l)=some x):(t=a/\x=f)\/lkM t l=some x:=by
 unfold lkM at h
 cases e:Nat.beq t a with
 |true=>rw[e,aj]at h;cases h;exact .inl ⟨(beq_iff _ _).1 e,rfl⟩
 |false=>rw[e,au]at h;exact .inr h
theorem Zz (n:String) (t f:Nat) (h:lkM t (TH n)=some f) (W:World) (v:Value):(method (Tryz.prog.types.size+Made.depth) t v n).run Tryz.prog W=.ok (f,v) W:=by
 unfold TH at h
 split at h
 ·rename_i e;subst e
  rcases oG h with⟨rfl,rfl⟩|h
  ·exact agX W v
  rcases oG h with⟨rfl,rfl⟩|h
  ·exact agW W v
  rcases oG h with⟨rfl,rfl⟩|h
  ·exact agV W v
  rcases oG h with⟨rfl,rfl⟩|h
  ·exact agU W v
  cases h
 ·split at h
  ·rename_i e;subst e
   rcases oG h with⟨rfl,rfl⟩|h
   ·exact agT W v
   cases h
  ·cases h
theorem ry:dI Tryz.prog Ad where
 eN:=λt d h=>by
  obtain⟨h1,h2⟩:=aq h
  exact(iy XT ((an _ _).1 h1)).trans h2
 info:=λt d h=>by
  obtain⟨h1,h2⟩:=aq h
  exact(iy aci ((an _ _).1 h1)).trans h2
 fn:=λt d h=>by
  obtain⟨h1,h2⟩:=aq h
  exact(iy Jq ((an _ _).1 h1)).trans h2
 Xu:=λt h=>ads t h
 mixed:=TG
 CL:=λu ty n o h=>ZJ u ty n o h
 uni:=acg
 Cw:=Zz
 nog:=λf fn h=>Tr f fn ((an _ _).1 (aq h).1) (aq h).2
theorem jS:dI Tryz.prog dm where
 eN:=ry.eN
 info:=ry.info
 fn:=λt d h=>ry.fn t d (by
  have h:Bc (Nat.testBit fnM t) (Jr.get t) none=some d:=h
  obtain⟨h1,h2⟩:=aq h
  have hlt:=CE ((an _ _).1 Js) h1
  show Bc (Nat.blt t NF) (Jr.get t) none=some d
  rw[(an _ _).2 hlt];exact h2)
 Xu:=ry.Xu
 mixed:=ry.mixed
 CL:=ry.CL
 uni:=ry.uni
 nog:=λf fn h=>by
  have h:Bc (Nat.testBit fnM f) (Jr.get f) none=some fn:=h
  obtain⟨h1,h2⟩:=aq h
  exact Tr f fn (CE ((an _ _).1 Js) h1) h2
 Cw:=ry.Cw
end Go.Proofs.MN
end
noncomputable section
namespace Go.Ev.SM
def sl (b l c:Nat):Value:=.slice (some ⟨b,0,none⟩) l c
def sn:Value:=.slice none 0 0
def pt (b:Nat):Value:=.pointer (some ⟨b,0,none⟩)
def Ox:dB:=aG [(.int .i8 0),(.int .i8 0),(.int .i8 0),(.int .i8 0),(.int .i8 0),(.int .i8 0),(.int .i8 0),(.int .i8 0),(.int .i8 0),(.int .i8 0),(.int .i8 1),(.int .i8 1),(.int .i8 1),(.int .i8 1),(.int .i8 0),(.int .i8 0),(.int .i8 0),(.int .i8 0),(.int .i8 0),(.int .i8 1),(.int .i8 0),(.int .i8 0),(.int .i8 1),(.int .i8 1),(.int .i8 1),(.int .i8 0),(.int .i8 0),(.int .i8 0),(.int .i8 0),(.int .i8 3),(.int .i8 0),(.int .i8 0),(.int .i8 0),(.int .i8 8),(.int .i8 1),(.int .i8 0),(.int .i8 0),(.int .i8 0),(.int .i8 1),(.int .i8 0),(.int .i8 0),(.int .i8 0),(.int .i8 0),(.int .i8 0),(.int .i8 7),(.int .i8 0),(.int .i8 0),(.int .i8 0),(.int .i8 0),(.int .i8 6),(.int .i8 0),(.int .i8 0),(.int .i8 0),(.int .i8 0),(.int .i8 6),(.int .i8 1),(.int .i8 2),(.int .i8 0),(.int .i8 0),(.int .i8 1),(.int .i8 0),(.int .i8 1),(.int .i8 1),(.int .i8 1),(.int .i8 0),(.int .i8 0),(.int .i8 0),(.int .i8 0),(.int .i8 0),(.int .i8 1),(.int .i8 0),(.int .i8 0),(.int .i8 0),(.int .i8 0),(.int .i8 1),(.int .i8 0),(.int .i8 0),(.int .i8 0),(.int .i8 16),(.int .i8 26),(.int .i8 1),(.int .i8 16),(.int .i8 0),(.int .i8 0),(.int .i8 10),(.int .i8 1),(.int .i8 1),(.int .i8 0),(.int .i8 1),(.int .i8 2),(.int .i8 1),(.int .i8 1),(.int .i8 1),(.int .i8 1),(.int .i8 2),(.int .i8 1),(.int .i8 1),(.int .i8 1),(.int .i8 1),(.int .i8 2),(.int .i8 0),(.int .i8 0),(.int .i8 1),(.int .i8 1),(.int .i8 2),(.int .i8 2),(.int .i8 2),(.int .i8 0),(.int .i8 0),(.int .i8 0),(.int .i8 0),(.int .i8 0),(.int .i8 0),(.int .i8 0),(.int .i8 0)] 272 0
def OM:dB:=aG [(.int .i8 0),(.int .i8 0),(.int .i8 0),(.int .i8 0),(.int .i8 0),(.int .i8 1),(.int .i8 0),(.int .i8 1),(.int .i8 1),(.int .i8 0),(.int .i8 1),(.int .i8 0),(.int .i8 2),(.int .i8 0),(.int .i8 2),(.int .i8 0),(.int .i8 2),(.int .i8 0),(.int .i8 2),(.int .i8 0),(.int .i8 2),(.int .i8 0),(.int .i8 1),(.int .i8 0),(.int .i8 2),(.int .i8 0),(.int .i8 2),(.int .i8 0),(.int .i8 2),(.int .i8 0),(.int .i8 2),(.int .i8 0),(.int .i8 2),(.int .i8 0),(.int .i8 1),(.int .i8 0),(.int .i8 2),(.int .i8 0),(.int .i8 3),(.int .i8 0),(.int .i8 2),(.int .i8 0),(.int .i8 1),(.int .i8 0),(.int .i8 2),(.int .i8 0),(.int .i8 3),(.int .i8 0),(.int .i8 2),(.int .i8 0),(.int .i8 (-1)),(.int .i8 0),(.int .i8 0),(.int .i8 0),(.int .i8 0),(.int .i8 0),(.int .i8 0),(.int .i8 0),(.int .i8 0),(.int .i8 0),(.int .i8 1),(.int .i8 1),(.int .i8 1),(.int .i8 1)] 345 0
def UK:Value:=sy 0
def en0 (e:Nat):Nat:=188*e+25
def aoD (i:Nat):List Value:=if i=0 then [nV 0,sn,nV 16,nV (-1),sn,nV 0,nV 0,nV 0,s0,s0]else [nV 1,sl (en0 i+16) 1 3,nV (16+8*i),nV 0,sn,nV 0,nV 0,nV 0,s0,s0]
def gh (e:Nat):List Value:=((List.range e).map aoD).flatten
def opsL:List Value:=([0,84,85,86,87,88,88,88,88,88,88,88,88,88,89,89,89,89,90,89,89,89,89,89,89,91,92,94,97,99,101,102]:List Nat).map λf=>if f=0 then .nilFunc else .func (.func f) #[] #[]
def Hi (n:Nat):Nat:=n*(n+1) / 2
end Go.Ev.SM
end
noncomputable section
namespace Go.Proofs.MN
open Go Go.Ev Go.Proofs Go.Ev.SM
variable [tf]
noncomputable def OV (v:Value):Bool:=match dL v with|none=>true|some _=>false
noncomputable def aor (tab:Nat->Option Value) (c:ff) (src:List Nat):TR->Bool:=@TR.rec (λ_=>Bool) (@KR.rec (λ_=>Bool) (λ_=>false) (λv H r w=>Bc (OV v) (Bc (OV c.v) (Bc (c.fits NG) (JG tab c src v H r w) false) false) false)
 (λv H r w=>Bc (OV c.v) false (Bc (c.fits NG) (JG tab c src (zJ v) H r w) false)) (λ_ _ _ _=>false) (λ_ _ _ _=>false)) (λ_=>false)
noncomputable def vL (sp:F.Sp) (tab:Nat->Option Value) (c:ff) (src:List Nat):Bool:=aor tab c src (F.evK dm sp 100000 (.call c.f c.args) c.h0 0 0 (λx=>x))
def fR (_:Nat):Option Value:=none
noncomputable def zf (f:Nat->Bool):List Nat->Bool:=λl=>@List.rec Nat (λ_=>Bool) true (λx _ ih=>Bc (f x) ih false) l
end Go.Proofs.MN
end
noncomputable section
namespace Go.Proofs.MN
open Go Go.Ev Go.Proofs Go.Ev.SM
variable [tf]
def eM (f:Nat) (args:List Value) (v:Value):ff:=⟨f,args,[],NG,v,[],NG,0,0⟩
def nN (n:Nat):Value:=.int .i64 (.ofNat n)
def vU (l:List Value):Value:=.tuple ⟨l⟩
def acv (x:Nat):ff:=eM 148 [nV 7,vl (nN (Nat.succ x)),gB,vl (nV 1),gB] (vU [vl (nN x),nV 0,nV 0])
def afR (x:Nat):ff:=eM 148 [nV 6,vl (nN (Nat.succ x)),gB,vl (nN (Hi x)),gB] (vU [vl (nN (Hi (Nat.succ x))),nV 0,nV 0])
def toC (x:Nat):ff:=⟨144,[vl (nN x),T16,gB],[(2,zH)],NG,vU [vl (nN x),nV 0,nV 0],[],NG,4,0⟩
def afv (x:Nat):ff:=eM 150 [vl (nN x),gB,vl (nV 0),gB] (vU [Bc (Nat.beq x 0) (nV 0) (nV 1),nV 0])
def afw (x:Nat):ff:=eM 163 [gB,vl (nN x)] (nV 0)
def VU (x:Nat):ff:=eM 199 [vl (nN x),gB] (nV 0)
def afi (x:Nat):ff:=eM 135 [gB,vl (nN x)] (vU [.string (j_ x),nV 0])
def afp (x:Nat):ff:=eM 307 [gB,.string (j_ x)] (vU [vl (nN x),nV 0])
def sp0 (f:Nat) (args:List Value) (H:Hp):kE:=Bc (Nat.testBit Fk f) (rW (Yi f args H)) none
def sp1 (f:Nat) (args:List Value) (H:Hp):kE:=Bc (Nat.testBit vu f) (rW (Ej f args H)) (Bc (Nat.testBit Fk f) (rW (Yi f args H)) none)
def Rq:List ff:=[eM 234 [gB] (nV 0),eM 166 [gB] (nV 0),eM 165 [gB] (nV 16),eM 229 [gB] (.bool true),eM 164 [gB] (nV 16),eM 123 [gB] (.bool true)]
noncomputable def pB (c:Nat->ff) (x:Nat):Bool:=vL sp1 fR (c x) []
noncomputable def afP (sp:F.Sp):List ff->Bool:=λl=>@List.rec ff (λ_=>Bool) true (λc _ ih=>Bc (vL sp fR c []) ih false) l
def r60:List Nat:=[0,1,2,3,4,5,6,7,8,9,10,11,12,13,14,15,16,17,18,19,20,21,22,23,24,25,26,27,28,29,30,31,32,33,34,35,36,37,38,39,40,41,42,43,44,45,46,47,48,49,50,51,52,53,54,55,56,57,58,59]
def YN:List Nat:=r60++[60]
end Go.Proofs.MN
end
noncomputable section
namespace Go.Proofs.MN
open Go Go.Ev Go.Proofs Go.Ev.SM
def vO (n k:Nat):Bm :=
 if 100<=k/\k<162 then ⟨0,n-(k-100),0,0⟩else if 200<=k/\k<262 then ⟨0,n-(k-200),0,2⟩else if 300<=k/\k<362 then ⟨0,Hi (n-(k-300)),0,0⟩else
 if k=400 then ⟨0,3*n+4,0,0⟩else if k=401 then ⟨0,3*n+5,0,0⟩else if 500<=k/\k<562 then ⟨0,n-(k-500),0,5⟩else ⟨0,0,0,4⟩
def G2 (n:Nat) (β:Mp):Prop:=∀ k,β (SY+k)=some (vO n k)
theorem G2.mono {n:Nat} {β β':Mp} (h:Mp.le β β') (t:G2 n β):G2 n β':=λk=>h _ _ (t k)
abbrev pR (P:Nat->Prop):dj where
 hk:=λ_ _=>none
 A8:=λ_ _ _ _ h=>by cases h
 Q:=λβ=>∃ n,P n/\n<=60/\G2 n β
 mono:=λh ⟨n,h1,h2,t⟩=>⟨n,h1,h2,t.mono h⟩
 loc:=λh ⟨n,h1,h2,t⟩=>⟨n,h1,h2,λk=>by rw[h _ (by omega)];exact t k⟩
instance {P:Nat->Prop}:@jb (pR P):=@jb.mk (pR P) λ⟨n,h1,h2,t⟩=>⟨_,t 0,rfl⟩
theorem vW [dj]:fK fR:=λβ k v h h'=>by cases h'
theorem aow {n k:Nat} (h:100<=k) (h':k<162):vO n k=⟨0,n-(k-100),0,0⟩:=by unfold vO;rw[if_pos ⟨h,h'⟩]
theorem afH {n k:Nat} (h:200<=k) (h':k<262):vO n k=⟨0,n-(k-200),0,2⟩:=by unfold vO;rw[if_neg (by omega),if_pos ⟨h,h'⟩]
theorem aox {n k:Nat} (h:300<=k) (h':k<362):vO n k=⟨0,Hi (n-(k-300)),0,0⟩:=by unfold vO;rw[if_neg (by omega),if_neg (by omega),if_pos ⟨h,h'⟩]
theorem afG {n k:Nat} (h:500<=k) (h':k<562):vO n k=⟨0,n-(k-500),0,5⟩:=by unfold vO;rw[if_neg (by omega),if_neg (by omega),if_neg (by omega),if_neg (by omega),if_neg (by omega),if_pos ⟨h,h'⟩]
section
variable {β:Mp} {n k x:Nat} {v':Value}
theorem ad1 {s t:Nat} (e:β (SY+k)=some ⟨s,x,t,0⟩) (h:ai β (sy k) v'):v'=nN x:=by
 cases h with|sym _ m _ em hs =>
 rw[e]at em;cases em
 rcases hs with⟨_,h⟩|⟨h,_⟩|⟨h,_⟩|⟨h,_⟩|⟨h,_⟩|⟨h,_⟩|⟨h,_⟩|⟨h,_⟩|⟨h,_⟩
 ·exact h
 all_goals (simp only at h;omega)
theorem Nx {s t:Nat} (e:β (SY+k)=some ⟨s,x,t,2⟩) (h:ai β (sy k) v'):v'=.int .u8 (Int.ofNat x):=by
 cases h with|sym _ m _ em hs =>
 rw[e]at em;cases em
 rcases hs with⟨h,_⟩|⟨h,_⟩|⟨_,h⟩|⟨h,_⟩|⟨h,_⟩|⟨h,_⟩|⟨h,_⟩|⟨h,_⟩|⟨h,_⟩
 case inr.inr.inl=>exact h
 all_goals (simp only at h;omega)
theorem RO {s t:Nat} (e:β (SY+k)=some ⟨s,x,t,5⟩) (h:ai β (sy k) v'):v'=.string (j_ x):=by
 cases h with|sym _ m _ em hs =>
 rw[e]at em;cases em
 rcases hs with⟨h,_⟩|⟨h,_⟩|⟨h,_⟩|⟨h,_⟩|⟨h,_⟩|⟨_,h⟩|⟨h,_⟩|⟨h,_⟩|⟨h,_⟩
 case inr.inr.inr.inr.inr.inl=>exact h
 all_goals (simp only at h;omega)
theorem of_int {s t:Nat} (e:β (SY+k)=some ⟨s,x,t,0⟩):ai β (sy k) (nN x):=.sym k _ _ e (.inl ⟨rfl,rfl⟩)
theorem Za {s t:Nat} (e:β (SY+k)=some ⟨s,x,t,2⟩):ai β (sy k) (.int .u8 (Int.ofNat x)):=.sym k _ _ e (.inr (.inr (.inl ⟨rfl,rfl⟩)))
theorem Tj {s t:Nat} (e:β (SY+k)=some ⟨s,x,t,5⟩):ai β (sy k) (.string (j_ x)):=.sym k _ _ e (.inr (.inr (.inr (.inr (.inr (.inl ⟨rfl,rfl⟩))))))
theorem aaZ {a b:Value} (h:ai β (.agg ⟨[a,b]⟩) v'):∃ a' b',v'=.agg ⟨[a',b']⟩/\ai β a a'/\ai β b b':=by
 cases h with|agg xs xs' e0 e1 e2 =>
 have l:ak β [a,b] xs':=⟨e1,e2⟩
 obtain⟨a',l1,rfl,ha,l⟩:=l.cons_inv
 obtain⟨b',l2,rfl,hb,l⟩:=l.cons_inv
 have:=l.aL;subst this
 exact⟨a',b',rfl,ha,hb⟩
theorem Zb {a b a' b':Value} (h1:bQ a=true) (h2:bQ b=true) (ha:ai β a a') (hb:ai β b b'):ai β (.agg ⟨[a,b]⟩) (.agg ⟨[a',b']⟩):=by
 have l:ak β [a,b] [a',b']:=ak.cons ha (ak.cons hb (ak.nil β))
 exact .agg _ _ (by simp[h1,h2]) l.1 l.2
theorem aa9 {a:Value} (h:ai β (vl a) v'):∃ a',v'=vl a'/\ai β a a':=by
 obtain⟨a',b',rfl,ha,hb⟩:=aaZ h
 have:b'=SM.s0:=b8 10 _ _ rfl hb
 exact⟨a',by rw[this];rfl,ha⟩
theorem Ti {a a':Value} (h1:bQ a=true) (ha:ai β a a'):ai β (vl a) (vl a'):=Zb h1 rfl ha (.string _)
theorem oq {s t:Nat} (e:β (SY+k)=some ⟨s,x,t,0⟩) (h:ai β (vl (sy k)) v'):v'=vl (nN x):=by
 obtain⟨a',rfl,ha⟩:=aa9 h
 rw[ad1 e ha]
theorem C7 {s t:Nat} (e:β (SY+k)=some ⟨s,x,t,0⟩):ai β (vl (sy k)) (vl (nN x)):=Ti rfl (of_int e)
theorem acm {l:List Value} (h:ai β (vU l) v'):∃ l',v'=vU l'/\ak β l l':=by
 cases h with|tuple xs xs' e1 e2=>exact⟨xs',rfl,e1,e2⟩
theorem tV {l l':List Value} (h:ak β l l'):ai β (vU l) (vU l'):=.tuple _ _ h.1 h.2
end
theorem wN {s:ByteArray} (h:s.data.toList.isEmpty=true):(Value.string s)=SM.s0:=by
 have:s.data.toList=[]:=List.isEmpty_iff.1 h
 have h2:s.data = #[]:=Array.toList_inj.1 this
 cases s;simp only at h2;rw[h2];rfl
theorem su {p:Int} {v:Value} (h:nu p v=true):v=tyV 2 p:=by
 unfold nu at h
 split at h
 ·rename_i k q z b s
  simp only[Bool.and_eq_true,dY,beq_iff_eq,Bool.not_eq_true']at h
  obtain⟨rfl,rfl,rfl,rfl,h⟩:=h
  rw[wN h];rfl
 ·cases h
theorem Mm {n:Int} {v:Value} (h:isI n v=true):v=nV n:=by
 unfold isI at h
 split at h
 ·rw[dY,beq_iff_eq]at h;subst h;rfl
 ·cases h
theorem FI {n:Int} {v:Value} (h:ZU n v=true):v=vl (nV n):=by
 unfold ZU at h
 split at h
 ·simp only[Bool.and_eq_true,dY,beq_iff_eq]at h
  obtain⟨rfl,h⟩:=h
  rw[wN h];rfl
 ·cases h
theorem iS {v:Value} {k:Nat} (h:rA v=some k):v=vl (sy k):=by
 unfold rA at h
 split at h
 ·obtain⟨h1,h2⟩:=aq h
  cases h2
  rw[wN h1];rfl
 ·cases h
theorem tY {v:Value} {m:Nat} (h:numOf v=some m):v=vl (nN m)/\m<61:=by
 unfold numOf at h
 split at h
 ·obtain⟨h1,h2⟩:=aq h
  cases h2
  simp only[Bool.and_eq_true,an]at h1
  exact⟨by rw[wN h1.1];rfl,h1.2⟩
 ·cases h
theorem iE {v:Value} {H:Hp} {q:Value×Hp×Nat×Nat} (h:NL v H=some q):q=(v,H,0,0):=by cases h;rfl
end Go.Proofs.MN
end
noncomputable section
namespace Go.Proofs.MN
open Go Go.Ev Go.Proofs Go.Ev.SM
theorem az {b:Bool} (h:Nat.beq (Bc b 1 0) 1=true):b=true:=by cases b<;>first|rfl|cases h
theorem gN {f:Nat->Bool}:∀ {l:List Nat},zf f l=true->∀ x∈l,f x=true
 | [],_,x,hx=>by cases hx
 |y::l,h,x,hx=>by
  have h:Bc (f y) (zf f l) false=true:=h
  cases e:f y with
  |false=>rw[e,au]at h;cases h
  |true =>
   rw[e,aj]at h
   rcases List.mem_cons.1 hx with rfl|hx
   ·exact e
   ·exact gN h x hx
theorem GP [tf] {sp:F.Sp}:∀ {l:List ff},afP sp l=true->∀ c∈l,vL sp fR c []=true
 | [],_,x,hx=>by cases hx
 |y::l,h,x,hx=>by
  have h:Bc (vL sp fR y []) (afP sp l) false=true:=h
  cases e:vL sp fR y []with
  |false=>rw[e,au]at h;cases h
  |true =>
   rw[e,aj]at h
   rcases List.mem_cons.1 hx with rfl|hx
   ·exact e
   ·exact GP h x hx
variable [dj]
theorem oF:vP Tryz.prog dm:=vP.none λ_ _=>rfl
theorem Ts {v:Value} (h:OV v=true):dL v=none:=by
 unfold OV at h
 split at h
 ·assumption
 ·cases h
theorem agP {v:Value} (h:OV v=false):(dL v).isSome=true:=by
 unfold OV at h
 split at h
 ·cases h
 ·rename_i x e;rw[e];rfl
theorem GC {sp:F.Sp} {tab:Nat->Option Value} {c:ff} {src:List Nat} (h:vL sp tab c src=true):∃ v H r w,F.evK dm sp 100000 (.call c.f c.args) c.h0 0 0 (λx=>x)=.k (eO v H r w)/\(dL c.v).isSome=(dL v).isSome/\c.fits NG=true/\JG tab c src v H r w=true:=by
 unfold vL at h
 generalize hx:F.evK dm sp 100000 (.call c.f c.args) c.h0 0 0 (λx=>x)=x at h
 cases x with
 |c y=>cases h
 |k y =>
  cases y with
  |ret v H r w =>
   have h:Bc (OV v) (Bc (OV c.v) (Bc (c.fits NG) (JG tab c src v H r w) false) false) false=true:=h
   cases e1:OV v with
   |false=>rw[e1,au]at h;cases h
   |true =>
   rw[e1,aj]at h
   cases e2:OV c.v with
   |false=>rw[e2,au]at h;cases h
   |true =>
   rw[e2,aj]at h
   cases e:c.fits NG with
   |false=>rw[e,au]at h;cases h
   |true=>rw[e,aj]at h;exact⟨v,H,r,w,by unfold eO;rw[Ts e1],by rw[Ts e1,Ts e2],rfl,h⟩
  |panic v H r w =>
   have h:Bc (OV c.v) false (Bc (c.fits NG) (JG tab c src (zJ v) H r w) false)=true:=h
   cases e2:OV c.v with
   |true=>rw[e2,aj]at h;cases h
   |false =>
   rw[e2,au]at h
   cases e:c.fits NG with
   |false=>rw[e,au]at h;cases h
   |true=>rw[e,aj]at h;exact⟨zJ v,H,r,w,rfl,by rw[agP e2];rfl,rfl,h⟩
  |_=>cases h
theorem afb {sp:F.Sp} {f:FuncId} {args:List Value} {H:Hp} {v:Value} {H':Hp} {r w:Nat} (h:F.evK dm sp 100000 (.call f args) H 0 0 (λx=>x)=.k (eO v H' r w)):ev dm sp 100000 (.call f args) H=.k (eO v H' r w):=by
 unfold eO at h ⊢
 cases e:dL v with
 |none=>rw[e]at h;exact Ev.F.aaq Gv h
 |some x=>rw[e]at h;exact Ev.F.P_ Gv h
theorem jz [jb] {sp:F.Sp} (hsp:oa Tryz.prog NG sp) {tab:Nat->Option Value} (ht:fK tab) {c:ff} {src:List Nat} (h:vL sp tab c src=true):kD Tryz.prog NG c/\Fits NG c:=by
 obtain⟨v,H,r,w,hr,hp,hf,he⟩:=GC h
 have Ft:=ff.Ds hf
 have ju:=afb hr
 have t:=oW jS oF hsp 100000 (.call c.f c.args) c.h0 (show c.n0<=32768 from Nat.le_trans Ft.le Ft.n1)
 rw[ju]at t
 exact⟨kD.adw ht Ft (Nq ht he) hp t,Ft⟩
theorem Tp {x:kE} {v:Value} {q:Hp×Nat×Nat} (h:rW x=some (v,q)):x=some (v,q)/\dL v=none:=by
 unfold rW at h
 split at h
 ·split at h
  ·cases h;exact⟨rfl,by assumption⟩
  ·cases h
 ·cases h
theorem aI.kr {f:FuncId} {args:List Value} {H H':Hp} {v:Value} {r w:Nat} (h:aI Tryz.prog NG (.call f args) H (.k (.ret v H' r w))) (hv:dL v=none):aI Tryz.prog NG (.call f args) H (.k (eO v H' r w)):=by
 unfold eO;rw[hv];exact h
theorem cm {f:FuncId} {args:List Value} {H H':Hp} {v:Value} {r w:Nat} {x:kE} (h:rW x=some (v,H',r,w)) (hx:x=some (v,H',r,w)->aI Tryz.prog NG (.call f args) H (.k (.ret v H' r w))):aI Tryz.prog NG (.call f args) H (.k (eO v H' r w)):=aI.kr (hx (Tp h).1) (Tp h).2
theorem OW (x:Value) (W:World):(callFunc 367 #[x]).run Tryz.prog W=.ok (.value x) W:=by
 have h:=run_callFunc_extern (e:=Extern.AbiNoEscape.same) Tryz.func367 (by kernel_rfl) (by kernel_rfl) (by kernel_rfl) (by kernel_rfl) #[x] W
 rw[h];rfl
theorem ou {f:Nat} {args:List Value} {H H':Hp} {v:Value} {r w:Nat} (hw:H.wf) (h:Yi f args H=some (v,H',r,w)):aI Tryz.prog NG (.call f args) H (.k (.ret v H' r w)):=by
 unfold Yi at h
 cases h1:Nat.beq f 367 with
 |true =>
  rw[h1,aj]at h
  rw[(beq_iff _ _).1 h1]
  exact HE OW hw h
 |false =>
  rw[h1,au]at h
  obtain⟨h2,h⟩:=aq h
  rw[(beq_iff _ _).1 h2]
  exact Om (ps:=Tryz.f446.params) (t:=126) (u8:=5) (by kernel_rfl) Tryz.func446 (by kernel_rfl) (by kernel_rfl) (by kernel_rfl) (by kernel_rfl) h
theorem acQ:oa Tryz.prog NG sp0:=λf args H v H' r w hw h=>by
 unfold sp0 at h
 obtain⟨_,h⟩:=aq h
 exact cm h λh=>ou hw h
theorem aob:dm.fn 54=some Tryz.f54:=by kernel_rfl
theorem IC:bC dm Tryz.f54.ntmps ((Tryz.f54.body).getD .skip)=.seq (.bp [⟨some 0,none,.mv (.const (.pointer none))⟩]) (.seq (.bp [⟨some 1,none,.build wU []⟩,⟨some 2,none,.box 199 (.tmp 1)⟩,⟨some 0,none,.mv (.tmp 2)⟩]) .ret):=by kernel_rfl
theorem ED {H:Hp} (hr:H.room=true) (vs:List Value) (ty:Nat):bD (gX (.agg ⟨vs⟩)) (λl=>aS (aG l ty 0) H ptrTo 0 0)=.val (.pointer (some ⟨H.nx,0,none⟩)) (H.push (aG vs ty 0)) 0 0:=e_ hr _ _ _ _
section
variable {sp:Nat->List Value->Hp->Option (Value×Hp×Nat×Nat)} {e:Env}
theorem ZI (hs:∀ args H,sp 54 args H=none) {H:Hp} (hr:H.room=true):EC dm sp e 54 [] H λv H'=>v=.pointer (some ⟨H.nx,0,none⟩)/\H'=H.push (aG wU 199 0):=by
 refine EC.intro (fn:=Tryz.f54) (c:=(Tryz.f54.body).getD .skip) (hs _ _) aob rfl IC (by show 0<=3;decide) ?_
 generalize gW Tryz.f54 []=t0
 show WK dm sp e ⟨1,3,none,false⟩ _ t0 [] H _
 have hb:=ED hr wU 199
 have hf:∀ (t:T Value) (k:List Value->R),bD (bH t wU []) k=k wU:=λ_ _=>rfl
 have qC:H.nx<=(H.push (aG wU 199 0)).nx:=by rw[aZ];omega
 refine WK.seq (WK.ac5 (λt'=>True) ?_ ?_)
 ·simp +decide only[QO,aR,fC,bf,bu,ck,bI,bJ,bK,bL,run,af,aP,bw,de,bx,gF,dF,dD,true_and,and_true,and_self,Xo 1,if_true,if_false,bM]
 intro t1 _
 refine WK.seq (WK.ac6 (λt' H'=>t'.get 0=.pointer (some ⟨H.nx,0,none⟩)/\H'=H.push (aG wU 199 0)) ?_ ?_)
 ·simp +decide only[hb,hf,qC,QO,aR,fC,bf,bu,ck,bI,bJ,bK,bL,run,af,aP,bw,de,bx,gF,dF,dD,true_and,and_true,and_self,Xo 1,if_true,if_false,bM]
  exact⟨Nat.le_refl _,Nat.le_refl _⟩
 rintro t2 H2 ⟨g0,rfl⟩
 refine WK.ret ⟨.inr rfl,rfl,[.pointer (some ⟨H.nx,0,none⟩)],0,?_,.zero _ _,rfl,rfl⟩
 show eg dm 3 t2 _ [.tmp 0]=_
 simp only[eg,g0];rfl
end
theorem xo {P:Program} (ok:dI P dm) (D3:vP P dm) {args:List Value} {H H':Hp} {v:Value} {r w:Nat} (hw:H.wf) (h:El args H=some (v,H',r,w)):aI P NG (.call 54 args) H (.k (.ret v H' r w)):=by
 unfold El at h
 split at h
 ·rw[fG]at h
  by_cases hr:H.room=true
  case neg=>rw[if_neg hr]at h;cases h
  rw[if_pos hr]at h
  simp only[Option.some.injEq,Prod.mk.injEq]at h
  obtain⟨rfl,rfl,rfl,rfl⟩:=h
  have hc:Go.Ev.Can H (H.push (.cells (.e (.int .u8 0)) 65536 199 0 0 0)) 0:=fB hr
  obtain⟨r,w,ht,h1,Ut⟩:=aav (b:=H.nx) (H2:=H.push (.cells (.e (.int .u8 0)) 65536 199 0 0 0)) (v:=.pointer (some ⟨H.nx,0,none⟩)) ok D3 (mU P dm.ng) hw (ZI (e:=⟨H.nx,λc=>c=H.nx,λ_=>False⟩) (λ_ _=>rfl) hr)
   fun v' H' hk=>⟨hk.1,hc,by rw[hk.2,aZ,aZ],λb=>by
    rw[hk.2,gf _ hr,gf _ hr]
    by_cases hb:b=H.nx
    ·rw[if_pos hb,if_pos hb]
     obtain⟨t,h1,h2⟩:=bW wU 199 0
     rw[h1]
     have hl:wU.length=65536:=by rw[BM,List.length_replicate]
     rw[hl]
     refine .inr ⟨t,_,_,_,_,_,_,rfl,rfl,λi hi=>h2 i _ ?_⟩
     rw[BM,List.getElem?_replicate,if_pos hi];rfl
    ·rw[if_neg hb,if_neg hb];exact .inl rfl⟩
  exact ht.more (λc ha hh=>absurd (h1 c ha.1 hh) (Nat.ne_of_lt ha.1)) Ut hc
 ·cases h
end Go.Proofs.MN
end
noncomputable section
namespace Go.Proofs.MN
open Go Go.Ev Go.Proofs
noncomputable def ua:Code:=(Tryz.f308.body).getD .skip
def LK:List CO:=[
 ⟨(some 6),none,.mv (.const (.string ⟨#[]⟩))⟩]
def LJ:List CO:=[
 ⟨(some 10),none,.mv (.tmp 2)⟩,
 ⟨(some 11),none,.O1 5 1 [.int .u8 (0)] (.tmp 10) (.tmp 10)⟩,
 ⟨(some 7),none,.mv (.tmp 11)⟩]
def LI:List CO:=[
 ⟨(some 12),none,.mv (.tmp 7)⟩,
 ⟨(some 13),none,.len 1 (.tmp 12)⟩,
 ⟨(some 14),none,.mv (.const (.int .i64 (0)))⟩]
def Cv:List CO:=[
 ⟨(some 15),none,.bin .lss (.tmp 14) (.tmp 13)⟩]
def LH:List CO:=[
 ⟨(some 16),none,.mv (.tmp 14)⟩,
 ⟨(some 8),none,.mv (.tmp 16)⟩]
def LG:List CO:=[
 ⟨(some 17),none,.mv (.tmp 1)⟩,
 ⟨(some 18),none,.mv (.tmp 8)⟩,
 ⟨(some 19),none,.bin .add (.tmp 17) (.tmp 18)⟩,
 ⟨(some 9),none,.mv (.tmp 19)⟩]
def LF:List CO:=[
 ⟨(some 20),none,.mv (.tmp 7)⟩,
 ⟨(some 21),none,.mv (.tmp 8)⟩,
 ⟨(some 22),none,.mv (.tmp 0)⟩,
 ⟨(some 23),none,.mv (.tmp 9)⟩,
 ⟨(some 24),none,.bin .quo (.tmp 23) (.const (.int .i64 (8)))⟩,
 ⟨(some 25),none,.dU (.tmp 22)⟩,
 ⟨(some 26),none,.fa 0 (.tmp 25)⟩,
 ⟨(some 27),none,.Z1 65536 1 (.tmp 26) (.tmp 24)⟩,
 ⟨(some 28),none,.jd (.tmp 27)⟩,
 ⟨(some 29),none,.mv (.tmp 9)⟩,
 ⟨(some 30),none,.bin .rem (.tmp 29) (.const (.int .i64 (8)))⟩,
 ⟨(some 31),none,.bin .sub (.const (.int .i64 (7))) (.tmp 30)⟩,
 ⟨(some 32),none,.bin .shr (.tmp 28) (.tmp 31)⟩,
 ⟨(some 33),none,.bin .and (.tmp 32) (.const (.int .u8 (1)))⟩,
 ⟨(some 34),none,.bin .add (.const (.int .u8 (48))) (.tmp 33)⟩,
 ⟨(some 35),none,.sJ 1 (.tmp 20) (.tmp 21)⟩,
 ⟨none,none,.st 1 (.tmp 35) (.tmp 34)⟩]
def LD:List CO:=[
 ⟨(some 36),none,.bin .add (.tmp 14) (.const (.int .i64 (1)))⟩,
 ⟨(some 14),none,.mv (.tmp 36)⟩]
noncomputable def LM:KC :=
 (.seq (.bp Cv)
 (.seq (.cond (.tmp 15) .skip
  (.exit 0))
 (.seq (.block 1 (.seq (.bp LH)
  (.seq (.bp LG)
  (.bp LF))))
 (.bp LD))))
def LC:List CO:=[
 ⟨(some 37),none,.mv (.tmp 7)⟩,
 ⟨(some 38),none,.Qn (.tmp 37)⟩,
 ⟨(some 6),none,.mv (.tmp 38)⟩]
noncomputable def Iq:KC :=
 (.seq (.bp LK)
 (.seq (.bp LJ)
 (.seq (.seq (.bp LI)
 (.block 0 (.loop ua.sr.sr.sl.sr.bl.lp LM)))
 (.seq (.bp LC)
 .ret))))
theorem O3:bC dm Tryz.f308.ntmps ua=Iq:=by kernel_rfl
theorem O2:Tryz.f308.body=some ua:=rfl
noncomputable def t_:Code:=(Tryz.f137.body).getD .skip
def Lx:List CO:=[
 ⟨(some 9),none,.mv (.tmp 2)⟩,
 ⟨(some 10),none,.len 0 (.tmp 9)⟩,
 ⟨(some 11),none,.mv (.const (.int .i64 (0)))⟩]
def Cu:List CO:=[
 ⟨(some 12),none,.bin .lss (.tmp 11) (.tmp 10)⟩]
def Lw:List CO:=[
 ⟨(some 13),none,.mv (.tmp 11)⟩,
 ⟨(some 6),none,.mv (.tmp 13)⟩]
def Lv:List CO:=[
 ⟨(some 14),none,.mv (.tmp 1)⟩,
 ⟨(some 15),none,.mv (.tmp 6)⟩,
 ⟨(some 16),none,.bin .add (.tmp 14) (.tmp 15)⟩,
 ⟨(some 7),none,.mv (.tmp 16)⟩]
def Lu:List CO:=[
 ⟨(some 17),none,.mv (.tmp 7)⟩,
 ⟨(some 18),none,.bin .rem (.tmp 17) (.const (.int .i64 (8)))⟩,
 ⟨(some 19),none,.bin .shr (.const (.int .u8 (128))) (.tmp 18)⟩,
 ⟨(some 8),none,.mv (.tmp 19)⟩]
def Ct:List CO:=[
 ⟨(some 20),none,.mv (.tmp 2)⟩,
 ⟨(some 21),none,.mv (.tmp 6)⟩,
 ⟨(some 22),none,.A5 (.tmp 20) (.tmp 21)⟩,
 ⟨(some 23),none,.eq false (.one .i) (.tmp 22) (.const (.int .u8 (49)))⟩]
def Lt:List CO:=[
 ⟨(some 24),none,.mv (.tmp 0)⟩,
 ⟨(some 25),none,.mv (.tmp 7)⟩,
 ⟨(some 26),none,.bin .quo (.tmp 25) (.const (.int .i64 (8)))⟩,
 ⟨(some 27),none,.dU (.tmp 24)⟩,
 ⟨(some 28),none,.fa 0 (.tmp 27)⟩,
 ⟨(some 29),none,.Z1 65536 1 (.tmp 28) (.tmp 26)⟩,
 ⟨(some 30),none,.jd (.tmp 29)⟩,
 ⟨(some 31),none,.mv (.tmp 8)⟩,
 ⟨(some 32),none,.bin .or (.tmp 30) (.tmp 31)⟩,
 ⟨(some 33),none,.dU (.tmp 24)⟩,
 ⟨(some 34),none,.fa 0 (.tmp 33)⟩,
 ⟨(some 35),none,.Z1 65536 1 (.tmp 34) (.tmp 26)⟩,
 ⟨none,none,.st 1 (.tmp 35) (.tmp 32)⟩]
def Ls:List CO:=[
 ⟨(some 36),none,.mv (.tmp 0)⟩,
 ⟨(some 37),none,.mv (.tmp 7)⟩,
 ⟨(some 38),none,.bin .quo (.tmp 37) (.const (.int .i64 (8)))⟩,
 ⟨(some 39),none,.dU (.tmp 36)⟩,
 ⟨(some 40),none,.fa 0 (.tmp 39)⟩,
 ⟨(some 41),none,.Z1 65536 1 (.tmp 40) (.tmp 38)⟩,
 ⟨(some 42),none,.jd (.tmp 41)⟩,
 ⟨(some 43),none,.mv (.tmp 8)⟩,
 ⟨(some 44),none,.bin .andNot (.tmp 42) (.tmp 43)⟩,
 ⟨(some 45),none,.dU (.tmp 36)⟩,
 ⟨(some 46),none,.fa 0 (.tmp 45)⟩,
 ⟨(some 47),none,.Z1 65536 1 (.tmp 46) (.tmp 38)⟩,
 ⟨none,none,.st 1 (.tmp 47) (.tmp 44)⟩]
def Cr:List CO:=[
 ⟨(some 48),none,.bin .add (.tmp 11) (.const (.int .i64 (1)))⟩,
 ⟨(some 11),none,.mv (.tmp 48)⟩]
noncomputable def Lz:KC :=
 (.seq (.bp Cu)
 (.seq (.cond (.tmp 12) .skip
  (.exit 0))
 (.seq (.block 1 (.seq (.bp Lw)
  (.seq (.bp Lv)
  (.seq (.bp Lu)
  (.seq (.bp Ct)
  (.cond (.tmp 23) (.draw #[0,0,2,1,9,31,63,0,255,1,513,2047,4095] Lt)
   (.draw #[0,0,2,1,9,31,63,0,255,1,513,2047,4095] Ls)))))))
 (.bp Cr))))
noncomputable def Io:KC :=
 (.seq (.bp Lx)
 (.block 0 (.loop t_.sr.bl.lp Lz)))
theorem O0:bC dm Tryz.f137.ntmps t_=Io:=by kernel_rfl
theorem OZ:Tryz.f137.body=some t_:=rfl
end Go.Proofs.MN
end
noncomputable section
namespace Go.Proofs.MN
open Go Go.Ev Go.Proofs Go.Ar
variable [dj]
def nS (f:By) (p i:Nat):By:=λj=>if j<i then jB (f (p+j / 8)) (j % 8)else 0
theorem J2 (f:By) (p:Nat):(λ_=>0:By)=nS f p 0:=by funext j;unfold nS;rw[if_neg (by omega)]
theorem J3 {f:By} {p i:Nat} (j:Nat):over (nS f p i) i 1 (λ_=>jB (f (p+i / 8)) (i % 8)) j=nS f p (i+1) j:=by
 unfold over nS
 by_cases h:j=i
 ·subst h;rw[if_pos (by omega),if_pos (by omega)]
 ·rw[if_neg (by omega)]
  by_cases h2:j<i
  ·rw[if_pos h2,if_pos (by omega)]
  ·rw[if_neg h2,if_neg (by omega)]
theorem Qw (f:By) (p:Nat):gJ (nS f p 16) 16=bitsOf (f p)++bitsOf (f (p+1)):=by
 show(List.range 16).map _=(List.range 8).map _++(List.range 8).map _
 simp[List.range_succ,nS]
theorem aj2:dm.fn 308=some Tryz.f308:=by kernel_rfl
theorem aj5:dm.fn 137=some Tryz.f137:=by kernel_rfl
section
attribute [local go_sem] au aj GT dF gF aR Yj Yk Yl Ym Yn Yo Yp Yq Yr and_self and_true cV cU cQ cP cN cM bx ig ic de dR aP bw af cJ cI bP cG cF cE if_false if_true dM dD bM run true_and ck bL bK bJ bI bf bu
variable {sp:Nat->List Value->Hp->Option (Value×Hp×Nat×Nat)} {e:Env}
theorem LL (S:∀ f args H,sp f args H=none) {H:Hp} (hf:H.bG=true) (he:e.n0<=H.nx) {bm p:Nat} {fm:By} (hr:od H bm 199 fm 65536) (hp:p+1<65536) (hpm:bm<e.n0->e.Rd bm):EC dm sp e 308 [pA bm 0,iN (8*p),.int .i64 (16)] H λv H'=>v=vS (bitsOf (fm p)++bitsOf (fm (p+1)))/\Kept H H'/\H'.nx<=H.nx+1:=by
 refine EC.i3 aj2 O2 O3 (S _ _ _) (by show 3<=39;decide) λt0 g0 g1 g2=>?_
 show WK dm sp e ⟨2,39,none,false⟩ Iq t0 [] H _
 unfold Iq
 have agY:=hr.lt
 have k0_:Kept H H:=.refl hf
 refine WK.seq ?_
 refine WK.av ?_
 refine aR.all (λt' H'=>H=H'/\GT t' [(0,pA bm 0),(1,iN (8*p)),(2,.int .i64 (16)),(6,.string ⟨#[]⟩)]) ?_ ?_
 ·simp +decide only[LK,g0,g1,g2,Xo 2,go_sem]
 rintro Xp _ ⟨rfl,dV,jL,oS,lC, -⟩
 refine WK.seq ?_
 refine WK.av ?_
 obtain⟨H4_,Ie⟩:=amJ hf (n:=16) (by omega)
 have r_:qI 5 1 [.int .u8 0] (.int .i64 (16)) (.int .i64 (16)) H=.val (.slice (some ⟨H.nx,0,none⟩) (16) (2*(16))) H4_ 0 0:=Ie.made
 have apc:=Ie.kept.fn
 have aoY:H4_.nx=H.nx+1:=Ie.nx
 have TO:H.nx<=H4_.nx:=by omega
 have aoH:=Ie.row.lt
 have am6:=k0_.trans Ie.kept
 refine aR.all (λt' H'=>H4_=H'/\GT t' [(0,pA bm 0),(1,iN (8*p)),(6,.string ⟨#[]⟩),(7,sC H.nx 0 (16) (2*(16)))]) ?_ ?_
 ·simp +decide only[LJ,dV,jL,oS,lC,r_,TO,Xo 2,go_sem]
 rintro X7 _ ⟨rfl,VR,Vt,U4,U2, -⟩
 have amm:od H4_ (H.nx) 5 (nS fm p 0) (16):=od.congr Ie.row (λi hi=>congrFun (J2 fm p) i)
 refine WK.seq ?_
 refine WK.seq ?_
 refine WK.av ?_
 have TX:∀ Hq,fY 1 (sC H.nx 0 (16) (2*(16))) Hq=.val (vN ((16:Nat))) Hq 0 0:=λ_=>rfl
 refine aR.all (λt' H'=>H4_=H'/\GT t' [(0,pA bm 0),(1,iN (8*p)),(6,.string ⟨#[]⟩),(7,sC H.nx 0 (16) (2*(16))),(13,iN 16),(14,.int .i64 (0))]) ?_ ?_
 ·simp +decide only[LI,VR,Vt,U4,U2,TX,Xo 2,go_sem]
 rintro age _ ⟨rfl,MV,MJ,U3,MD,ae2,aeV, -⟩
 refine WK.block (WK.eR (λm t' ds' H'=>ds'=[]/\∃ i:Nat,m=16-i/\i<=16/\(Kept H H'/\H'.nx<=H.nx+1)/\od H' H.nx 5 (nS fm p i) 16/\t'.get 0=pA bm 0/\t'.get 1=iN (8*p)/\t'.get 7=sC H.nx 0 (16) (2*(16))/\t'.get 13=iN 16/\t'.get 14=iN i) ?_ _ age [] H4_ ⟨rfl,0,rfl,by omega,⟨am6,by omega⟩,amm,MV,MJ,MD,ae2,aeV⟩)
 rintro m_l18 t_l18 ds_ H_l18 ⟨rfl,i,rfl,hi8,⟨hkl,hub⟩,hol,VL,Vm,UW,MQ,MP⟩
 have hfl:=hkl.fn
 have nxl:=hkl.nx
 have aoX:=hr.mv Ie.kept
 have ahl:od H_l18 (bm) 199 fm (65536):=hr.bF (hkl.old _ hr.lt)
 have ltol:=hol.lt
 unfold LM
 refine WK.seq ?_
 by_cases hlt:i<16
 case pos =>
  refine WK.av ?_
  have afq:decide (((i:Nat):Int)<((16:Nat):Int))=true:=decide_eq_true (by omega)
  refine aR.all (λt' H'=>H_l18=H'/\GT t' [(0,pA bm 0),(1,iN (8*p)),(7,sC H.nx 0 (16) (2*(16))),(13,iN 16),(14,iN i),(15,.bool true)]) ?_ ?_
  ·simp +decide only[Cv,VL,Vm,UW,MQ,MP,afq,Xo 2,go_sem]
  rintro akS _ ⟨rfl,VP,Vr,U0,Ji,Jg,yP, -⟩
  refine WK.seq ?_
  refine WK.cond (v:=true) (by rw[af,yP];rfl) ?_
  refine WK.skip ?_
  refine WK.seq ?_
  refine WK.block ?_
  refine WK.seq ?_
  refine WK.av ?_
  refine aR.all (λt' H'=>H_l18=H'/\GT t' [(0,pA bm 0),(1,iN (8*p)),(7,sC H.nx 0 (16) (2*(16))),(8,iN i),(13,iN 16),(14,iN i)]) ?_ ?_
  ·simp +decide only[LH,VP,Vr,U0,Ji,Jg,yP,Xo 2,go_sem]
  rintro aoT _ ⟨rfl,ajP,ajk,aim,ahX,ae1,aeU, -⟩
  refine WK.seq ?_
  refine WK.av ?_
  have akC:Value.int .i64 (aN .i64 (((8*p:Nat):Int)+((i:Nat):Int)))=.int .i64 ((((8*p)+i):Nat):Int):=wF (by omega)
  refine aR.all (λt' H'=>H_l18=H'/\GT t' [(0,pA bm 0),(1,iN (8*p)),(7,sC H.nx 0 (16) (2*(16))),(8,iN i),(9,iN (((8*p)+i))),(13,iN 16),(14,iN i)]) ?_ ?_
  ·simp +decide only[LG,ajP,ajk,aim,ahX,ae1,aeU,akC,Xo 2,go_sem]
  rintro agc _ ⟨rfl,ajO,ajj,UZ,ahW,ahP,ae0,aeT, -⟩
  refine WK.av ?_
  have Iv:∀ Hq,R.o (dK .quo (iN (((8*p)+i))) (.int .i64 8)) Hq=.val (iN (p+i / 8)) Hq 0 0:=λHq=>SC (by omega) (by omega) _
  have TT:∀ Hq,mF (pA bm 0) Hq=.val (pA bm 0) Hq 0 0:=λ_=>rfl
  have TS:∀ Hq,nM 65536 1 (pA bm 0) (iN (p+i / 8)) Hq=.val (pA bm (p+i / 8)) Hq 0 0:=λHq=>by rw[mH (by omega) (by omega)];simp;omega
  have adL:dA (pA bm (p+i / 8)) H_l18=.val (uB (fm (p+i / 8))) H_l18 (bit (bm)) 0:=od.ld ahl (by omega)
  have amB:e.ok (bit (bm)) 0 H_l18:=.read ahl.lt hpm
  have amZ:∀ Hq,R.o (dK .rem (iN (((8*p)+i))) (.int .i64 8)) Hq=.val (iN (i % 8)) Hq 0 0:=λHq=>Sq (by omega) _
  have akB:Value.int .i64 (aN .i64 ((7:Int)-((i % 8:Nat):Int)))=.int .i64 (((7-i % 8):Nat):Int):=wF (by omega)
  have amY:dK .shr (uB (fm (p+i / 8))) (iN ((7-i % 8)))=some (nB ((fm (p+i / 8)).toNat / 2 ^ (7-i % 8))):=aba (by omega)
  have amX:dK .and (nB ((fm (p+i / 8)).toNat / 2 ^ (7-i % 8))) (.int .u8 (1))=some (nB ((fm (p+i / 8)).toNat / 2 ^ (7-i % 8) % 2)):=aoC (Nat.lt_of_le_of_lt (Nat.div_le_self _ _) (fm (p+i / 8)).toNat_lt)
  have TQ:dK .add (.int .u8 (48)) (nB ((fm (p+i / 8)).toNat / 2 ^ (7-i % 8) % 2))=some (uB (jB (fm (p+i / 8)) (i % 8))):=aaQ (fm (p+i / 8)) (i % 8)
  have amW:∀ Hq,eT 1 (sC H.nx 0 (16) (2*(16))) (iN i) Hq=.val (pA H.nx i) Hq 0 0:=λHq=>by rw[dW (by omega) (by omega)];simp
  obtain⟨H39_,aop,Am⟩:=od.st (i:=i) (u:=jB (fm (p+i / 8)) (i % 8)) hfl hol (by omega)
  have amU:i_ 1 (pA H.nx i) (uB (jB (fm (p+i / 8)) (i % 8))) H_l18=.val U H39_ 0 (bit (H.nx)):=aop
  have aoL:=Am.fn
  have aoG:H39_.nx=H_l18.nx:=Am.nx
  have TP:H_l18.nx<=H39_.nx:=by omega
  have amz:e.ok 0 (bit (H.nx)) H39_:=.write Am.row.lt (λh=>absurd h (by omega))
  have am5:Kept H H39_:=⟨Am.fn,by have:=hkl.nx;omega,λc hc=>(Am.dS c (by omega)).trans (hkl.old c hc)⟩
  refine aR.all (λt' H'=>H39_=H'/\GT t' [(0,pA bm 0),(1,iN (8*p)),(7,sC H.nx 0 (16) (2*(16))),(13,iN 16),(14,iN i)]) ?_ ?_
  ·simp +decide only[LF,ajO,ajj,UZ,ahW,ahP,ae0,aeT,Iv,TT,TS,adL,amB,amZ,akB,amY,amX,TQ,amW,amU,TP,amz,Xo 2,go_sem]
  rintro aoS _ ⟨rfl,ajN,aji,aik,aeZ,aeS, -⟩
  refine WK.av ?_
  have akA:Value.int .i64 (aN .i64 (((i:Nat):Int)+(1:Int)))=.int .i64 (((i+1):Nat):Int):=wF (by omega)
  refine aR.all (λt' H'=>H39_=H'/\GT t' [(0,pA bm 0),(1,iN (8*p)),(7,sC H.nx 0 (16) (2*(16))),(13,iN 16),(14,iN ((i+1)))]) ?_ ?_
  ·simp +decide only[LD,ajN,aji,aik,aeZ,aeS,akA,Xo 2,go_sem]
  rintro aoR _ ⟨rfl,ajM,ajh,aij,aeY,aeR, -⟩
  have aml:od H39_ (H.nx) 5 (nS fm p (i+1)) (16):=od.congr Am.row (λj hj=>J3 j)
  exact⟨_,by omega,rfl,i+1,rfl,by omega,⟨am5,by omega⟩,aml,ajM,ajh,aij,aeY,aeR⟩
 case neg =>
  obtain rfl:i=16:=by omega
  refine WK.av ?_
  have afq:decide (((16:Nat):Int)<((16:Nat):Int))=false:=decide_eq_false (by omega)
  refine aR.all (λt' H'=>H_l18=H'/\GT t' [(0,pA bm 0),(1,iN (8*p)),(7,sC H.nx 0 (16) (2*(16))),(13,iN 16),(14,iN 16),(15,.bool false)]) ?_ ?_
  ·simp +decide only[Cv,VL,Vm,UW,MQ,MP,afq,Xo 2,go_sem]
  rintro akS _ ⟨rfl,VP,Vr,U0,Ji,Jg,yP, -⟩
  refine WK.seq ?_
  refine WK.cond (v:=false) (by rw[af,yP];rfl) ?_
  refine WK.exit ?_
  refine WK.seq ?_
  refine WK.av ?_
  have Ix:vf (sC H.nx 0 (16) (2*(16))) H_l18=.val (vS (gJ (nS fm p 16) (16))) H_l18 (bit (H.nx)) 0:=od.akN hol (by omega)
  have amE:=pV (e:=e) hol (by omega)
  refine aR.all (λt' H'=>H_l18=H'/\GT t' [(0,pA bm 0),(1,iN (8*p)),(6,vS (gJ (nS fm p 16) (16))),(7,sC H.nx 0 (16) (2*(16))),(13,iN 16),(14,iN 16)]) ?_ ?_
  ·simp +decide only[LC,VP,Vr,U0,Ji,Jg,yP,Ix,amE,Xo 2,go_sem]
  rintro agd _ ⟨rfl,aoQ,aoN,aiu,aoM,an',an9, -⟩
  have an8:agd.get 6=vS (bitsOf (fm p)++bitsOf (fm (p+1))):=by rw[<-Qw];exact aiu
  refine WK.ret ⟨.inr rfl,rfl,[vS (bitsOf (fm p)++bitsOf (fm (p+1)))],0,?_,.zero _ _,rfl,hkl,hub⟩
  show eg dm 39 agd _ [.tmp 6]=_
  simp only[eg,an8];rfl
end
end Go.Proofs.MN
end
noncomputable section
namespace Go.Proofs.MN
open Go Go.Ev Go.Proofs Go.Ar
variable [dj]
def zu (u v:UInt8) (i:Nat):UInt8:=if i<8 then u else v
def mG (f:By) (p:Nat) (u v:UInt8) (i:Nat):By:=λj=>if j=p then UInt8.ofNat (fL (f p).toNat u.toNat (min i 8))else if j=p+1 then UInt8.ofNat (fL (f (p+1)).toNat v.toNat (i-8))else f j
theorem TN {f:By} {p i:Nat} {u v:UInt8} (h:i<16):mG f p u v i (p+i / 8)=mg f (p+i / 8) (fL (f (p+i / 8)).toNat (zu u v i).toNat (i % 8)) (p+i / 8):=by
 rw[Cy]
 unfold mG zu
 by_cases h8:i<8
 ·have e:i / 8=0:=by omega
  rw[e,Nat.add_zero,if_pos rfl,if_pos h8,show min i 8=i % 8 from by omega]
 ·have e:i / 8=1:=by omega
  rw[e,if_neg (by omega),if_pos rfl,if_neg h8,show i-8=i % 8 from by omega]
theorem ZE (f:By) (p:Nat) (u v:UInt8):f=mG f p u v 0:=by
 funext j
 unfold mG
 by_cases h:j=p
 ·rw[if_pos h,show min 0 8=0 from rfl,Fl (UInt8.toNat_lt _) (UInt8.toNat_lt _),h];simp
 ·rw[if_neg h]
  by_cases h2:j=p+1
  ·rw[if_pos h2,show 0-8=0 from rfl,Fl (UInt8.toNat_lt _) (UInt8.toNat_lt _),h2];simp
  ·rw[if_neg h2]
theorem LN {f:By} {p i:Nat} {u v:UInt8} (h:i<16) (j:Nat):over (mG f p u v i) (p+i / 8) 1 (λ_=>UInt8.ofNat (fL (f (p+i / 8)).toNat (zu u v i).toNat (i % 8+1))) j=mG f p u v (i+1) j:=by
 unfold over mG zu
 by_cases h8:i<8
 ·have e:i / 8=0:=by omega
  rw[e,Nat.add_zero,if_pos h8]
  by_cases hj:j=p
  ·rw[if_pos (by omega),if_pos hj,show min (i+1) 8=i % 8+1 from by omega]
  ·rw[if_neg (by omega),if_neg hj,if_neg hj,show i-8=i+1-8 from by omega]
 ·have e:i / 8=1:=by omega
  rw[e,if_neg h8]
  by_cases hj:j=p+1
  ·rw[if_pos (by omega),if_neg (by omega),if_pos hj,show i+1-8=i % 8+1 from by omega]
  ·rw[if_neg (by omega),if_neg hj,if_neg hj,show min i 8=min (i+1) 8 from by omega]
theorem adJ (f:By) (p:Nat) (u v:UInt8):mG f p u v 16=over f p 2 λk=>if k=0 then u else v:=by
 funext j
 unfold mG over
 by_cases h:j=p
 ·rw[if_pos h,if_pos (by omega),show min 16 8=8 from rfl,LB];simp[show j-p=0 from by omega]
 ·rw[if_neg h]
  by_cases h2:j=p+1
  ·rw[if_pos h2,if_pos (by omega),show 16-8=8 from rfl,LB];simp[show j-p=1 from by omega]
  ·rw[if_neg h2,if_neg (by omega)]
theorem AV (u v:UInt8) (H:Hp):fY 0 (vS (bitsOf u++bitsOf v)) H=.val (vN ((16:Nat))) H 0 0:=by
 rw[bP];simp[bitsOf]
theorem uj {u v:UInt8} {i:Nat} (h:i<16) (H:Hp):kS (vS (bitsOf u++bitsOf v)) (vN ((i:Nat):Int)) H=.val (uB (jB (zu u v i) (i % 8))) H 0 0:=by
 have hl:(bitsOf u++bitsOf v).length=16:=by simp[bitsOf]
 have hg:(bitsOf u++bitsOf v)[i]?=some (jB (zu u v i) (i % 8)):=by
  by_cases h8:i<8
  ·rw[List.getElem?_append_left (by simp[bitsOf];omega)]
   simp[bitsOf,zu,h8,Nat.mod_eq_of_lt h8]
  ·rw[List.getElem?_append_right (by simp[bitsOf];omega)]
   have e:i % 8=i-8:=by omega
   have h9:i-8<8:=by omega
   simp[bitsOf,zu,h8,e,h9]
 have:idx (vN ((i:Nat):Int)) (bitsOf u++bitsOf v).length=some i:=by
  show Bc (Nat.blt i (bitsOf u++bitsOf v).length) (some i) none=_
  rw[(an _ _).2 (by rw[hl];exact h)];rfl
 show(match idx (vN ((i:Nat):Int)) (bitsOf u++bitsOf v).length with|some m=>(match (bitsOf u++bitsOf v)[m]? with|some c=>R.v (.int .u8 (.ofNat c.toNat)) H|none=>.fail)|none=>.fail)=_
 rw[this];simp only[hg];rfl
section
attribute [local go_sem] au aj GT dF gF aR fe Yj Yk Yl Ym Yn Yo Yp Yq Yr and_self and_true cV cU cQ cP cN cM bx ig ic de dR aP bw af cJ cI bP cG cF cE if_false if_true dM dD bM run true_and ck bL bK bJ bI bf bu
variable {sp:Nat->List Value->Hp->Option (Value×Hp×Nat×Nat)} {e:Env}
theorem Ly (S:∀ f args H,sp f args H=none) {H:Hp} (hf:H.bG=true) (he:e.n0<=H.nx) {u v:UInt8} {bm p:Nat} {fm:By} (hr:od H bm 199 fm 65536) (hp:p+1<65536) (hpm:bm<e.n0->e.Wr bm) (hpr:bm<e.n0->e.Rd bm):EC dm sp e 137 [pA bm 0,iN (8*p),vS (bitsOf u++bitsOf v)] H λv0 H'=>v0=.tuple #[]/\G3 H bm 199 (over fm p 2 λk=>if k=0 then u else v) 65536 H':=by
 refine EC.i3 aj5 OZ O0 (S _ _ _) (by show 3<=49;decide) λt0 g0 g1 g2=>?_
 show WK dm sp e ⟨2,49,none,false⟩ Io t0 [] H _
 unfold Io
 have agY:=hr.lt
 refine WK.seq ?_
 refine WK.av ?_
 have nX:∀ Hq,fY 0 (vS (bitsOf u++bitsOf v)) Hq=.val (vN ((16:Nat))) Hq 0 0:=λ_=>AV _ _ _
 refine aR.all (λt' H'=>H=H'/\GT t' [(0,pA bm 0),(1,iN (8*p)),(2,vS (bitsOf u++bitsOf v)),(10,iN 16),(11,.int .i64 (0))]) ?_ ?_
 ·simp +decide only[Lx,g0,g1,g2,nX,Xo 2,go_sem]
 rintro t3_ _ ⟨rfl,iq,oU,vJ,VI,Gf, -⟩
 refine WK.block (WK.eR (λm t' ds' H'=>ds'=[]/\∃ i:Nat,m=16-i/\i<=16/\G3 H bm 199 (mG fm p u v i) 65536 H'/\t'.get 0=pA bm 0/\t'.get 1=iN (8*p)/\t'.get 2=vS (bitsOf u++bitsOf v)/\t'.get 10=iN 16/\t'.get 11=iN i) ?_ _ t3_ [] H ⟨rfl,0,rfl,by omega,(G3.refl hf hr).as (ZE _ _ _ _),iq,oU,vJ,VI,Gf⟩)
 rintro m_l5 t_l5 ds_ H_l5 ⟨rfl,i,rfl,hi8,zP,abP,abI,abB,VH,VE⟩
 have hfl:=zP.fn
 have nxl:=zP.nx
 unfold Lz
 refine WK.seq ?_
 by_cases hlt:i<16
 case pos =>
  refine WK.av ?_
  have Qd:decide (((i:Nat):Int)<((16:Nat):Int))=true:=decide_eq_true (by omega)
  refine aR.all (λt' H'=>H_l5=H'/\GT t' [(0,pA bm 0),(1,iN (8*p)),(2,vS (bitsOf u++bitsOf v)),(10,iN 16),(11,iN i),(12,.bool true)]) ?_ ?_
  ·simp +decide only[Cu,abP,abI,abB,VH,VE,Qd,Xo 2,go_sem]
  rintro t7_ _ ⟨rfl,iA,n9,sP,Be,MR,Bb, -⟩
  refine WK.seq ?_
  refine WK.cond (v:=true) (by rw[af,Bb];rfl) ?_
  refine WK.skip ?_
  refine WK.seq ?_
  refine WK.block ?_
  refine WK.seq ?_
  refine WK.av ?_
  refine aR.all (λt' H'=>H_l5=H'/\GT t' [(0,pA bm 0),(1,iN (8*p)),(2,vS (bitsOf u++bitsOf v)),(6,iN i),(10,iN 16),(11,iN i)]) ?_ ?_
  ·simp +decide only[Lw,iA,n9,sP,Be,MR,Bb,Xo 2,go_sem]
  rintro t9_ _ ⟨rfl,uz,Vn,yD,I0,ajK,ajH, -⟩
  refine WK.seq ?_
  refine WK.av ?_
  have akF:Value.int .i64 (aN .i64 (((8*p:Nat):Int)+((i:Nat):Int)))=.int .i64 ((((8*p)+i):Nat):Int):=wF (by omega)
  refine aR.all (λt' H'=>H_l5=H'/\GT t' [(0,pA bm 0),(1,iN (8*p)),(2,vS (bitsOf u++bitsOf v)),(6,iN i),(7,iN (((8*p)+i))),(10,iN 16),(11,iN i)]) ?_ ?_
  ·simp +decide only[Lv,uz,Vn,yD,I0,ajK,ajH,akF,Xo 2,go_sem]
  rintro X7 _ ⟨rfl,VR,Vt,Vd,U4,U2,ae7,ae6, -⟩
  refine WK.seq ?_
  refine WK.av ?_
  have adO:∀ Hq,R.o (dK .rem (iN (((8*p)+i))) (.int .i64 8)) Hq=.val (iN (i % 8)) Hq 0 0:=λHq=>Sq (by omega) _
  have TX:dK .shr (.int .u8 (128)) (iN (i % 8))=some (nB (2 ^ (7-i % 8))):=acV (by omega)
  refine aR.all (λt' H'=>H_l5=H'/\GT t' [(0,pA bm 0),(1,iN (8*p)),(2,vS (bitsOf u++bitsOf v)),(6,iN i),(7,iN (((8*p)+i))),(8,nB (2 ^ (7-i % 8))),(10,iN 16),(11,iN i)]) ?_ ?_
  ·simp +decide only[Lu,VR,Vt,Vd,U4,U2,ae7,ae6,adO,TX,Xo 2,go_sem]
  rintro age _ ⟨rfl,MV,MJ,abC,U3,MD,abq,VK,VF, -⟩
  refine WK.seq ?_
  by_cases hb:(zu u v i).toNat / 2 ^ (7-i % 8) % 2=1
  case pos =>
   refine WK.av ?_
   have adN:∀ Hq,kS (vS (bitsOf u++bitsOf v)) (iN i) Hq=.val (uB (jB (zu u v i) (i % 8))) Hq 0 0:=λHq=>uj (by omega) Hq
   have TW:∀ Hq,jo false (.one .i) (uB (jB (zu u v i) (i % 8))) (.int .u8 (49)) Hq=.val (.bool true) Hq 0 0:=λHq=>afc hb Hq
   refine aR.all (λt' H'=>H_l5=H'/\GT t' [(0,pA bm 0),(1,iN (8*p)),(2,vS (bitsOf u++bitsOf v)),(7,iN (((8*p)+i))),(8,nB (2 ^ (7-i % 8))),(10,iN 16),(11,iN i),(23,.bool true)]) ?_ ?_
   ·simp +decide only[Ct,MV,MJ,abC,U3,MD,abq,VK,VF,adN,TW,Xo 2,go_sem]
   rintro akT _ ⟨rfl,VQ,Vs,Vc,U1,UT,Jo,Jl,yF, -⟩
   refine WK.cond (v:=true) (by rw[af,yF];rfl) ?_
   refine WK.gw (λ_=>False) [.p,.p,.p,.p,.p,.p,.q,.p,.p,.p,.p,.p,.x] (by omega) rfl ?_
   have TV:∀ Hq,R.o (dK .quo (iN (((8*p)+i))) (.int .i64 8)) Hq=.val (iN (p+i / 8)) Hq 0 0:=λHq=>SC (by omega) (by omega) _
   have Ix:∀ Hq,mF (pA bm 0) Hq=.val (pA bm 0) Hq 0 0:=λ_=>rfl
   have Iw:∀ Hq,nM 65536 1 (pA bm 0) (iN (p+i / 8)) Hq=.val (pA bm (p+i / 8)) Hq 0 0:=λHq=>by rw[mH (by omega) (by omega)];simp;omega
   have TU:dA (pA bm (p+i / 8)) H_l5=.val (uB (mG fm p u v i (p+i / 8))) H_l5 (bit (bm)) 0:=od.ld zP.row (by omega)
   have adA:e.ok (bit (bm)) 0 H_l5:=.read zP.row.lt hpr
   have adz:∀ cq,(bit (bm)).testBit cq=true->cq<H_l5.nx:=dH (P:=λcq=>cq<H_l5.nx) (by have:=zP.row.lt;omega)
   have Iv:dK .or (uB (mG fm p u v i (p+i / 8))) (nB (2 ^ (7-i % 8)))=some (uB (UInt8.ofNat (fL (fm (p+i / 8)).toNat (zu u v i).toNat (i % 8+1)))):=(by rw[TN (by omega)];exact adG (by omega) hb)
   have TT:∀ Hq,mF (pA bm 0) Hq=.val (pA bm 0) Hq 0 0:=λ_=>rfl
   have TS:∀ Hq,nM 65536 1 (pA bm 0) (iN (p+i / 8)) Hq=.val (pA bm (p+i / 8)) Hq 0 0:=λHq=>by rw[mH (by omega) (by omega)];simp;omega
   obtain⟨H31_,afj,qZ⟩:=od.st (i:=p+i / 8) (u:=UInt8.ofNat (fL (fm (p+i / 8)).toNat (zu u v i).toNat (i % 8+1))) hfl zP.row (by omega)
   have adK:i_ 1 (pA bm (p+i / 8)) (uB (UInt8.ofNat (fL (fm (p+i / 8)).toNat (zu u v i).toNat (i % 8+1)))) H_l5=.val U H31_ 0 (bit (bm)):=afj
   have ahw:=qZ.fn
   have agO:H31_.nx=H_l5.nx:=qZ.nx
   have TQ:H_l5.nx<=H31_.nx:=by omega
   have ady:e.ok 0 (bit (bm)) H31_:=.write qZ.row.lt hpm
   refine fe.all (λt' H'=>H31_=H'/\GT t' [(0,pA bm 0),(1,iN (8*p)),(2,vS (bitsOf u++bitsOf v)),(7,iN (((8*p)+i))),(8,nB (2 ^ (7-i % 8))),(10,iN 16),(11,iN i)]) ?_ ?_
   ·simp +decide only[Lt,VQ,Vs,Vc,U1,UT,Jo,Jl,yF,TV,Ix,Iw,TU,adA,adz,Iv,TT,TS,adK,TQ,ady,Xo 2,go_sem]
    all_goals ((repeat' apply And.intro)<;>assumption)
   rintro akR _ ⟨rfl,VO,Vq,Vb,UY,US,Jn,Jk, -⟩
   refine WK.av ?_
   have ab_:Value.int .i64 (aN .i64 (((i:Nat):Int)+(1:Int)))=.int .i64 (((i+1):Nat):Int):=wF (by omega)
   refine aR.all (λt' H'=>H31_=H'/\GT t' [(0,pA bm 0),(1,iN (8*p)),(2,vS (bitsOf u++bitsOf v)),(7,iN (((8*p)+i))),(8,nB (2 ^ (7-i % 8))),(10,iN 16),(11,iN ((i+1)))]) ?_ ?_
   ·simp +decide only[Cr,VO,Vq,Vb,UY,US,Jn,Jk,ab_,Xo 2,go_sem]
   rintro akQ _ ⟨rfl,VN,Vp,Va,ail,ahV,Jm,Jj, -⟩
   have aec:G3 H bm 199 (mG fm p u v (i+1)) 65536 H31_:=(zP.trans qZ).as (funext λj=>LN (by omega) j)
   exact⟨_,by omega,rfl,i+1,rfl,by omega,aec,VN,Vp,Va,Jm,Jj⟩
  case neg =>
   have hb:(zu u v i).toNat / 2 ^ (7-i % 8) % 2=0:=by omega
   refine WK.av ?_
   have adN:∀ Hq,kS (vS (bitsOf u++bitsOf v)) (iN i) Hq=.val (uB (jB (zu u v i) (i % 8))) Hq 0 0:=λHq=>uj (by omega) Hq
   have TW:∀ Hq,jo false (.one .i) (uB (jB (zu u v i) (i % 8))) (.int .u8 (49)) Hq=.val (.bool false) Hq 0 0:=λHq=>afd hb Hq
   refine aR.all (λt' H'=>H_l5=H'/\GT t' [(0,pA bm 0),(1,iN (8*p)),(2,vS (bitsOf u++bitsOf v)),(7,iN (((8*p)+i))),(8,nB (2 ^ (7-i % 8))),(10,iN 16),(11,iN i),(23,.bool false)]) ?_ ?_
   ·simp +decide only[Ct,MV,MJ,abC,U3,MD,abq,VK,VF,adN,TW,Xo 2,go_sem]
   rintro akT _ ⟨rfl,VQ,Vs,Vc,U1,UT,Jo,Jl,yF, -⟩
   refine WK.cond (v:=false) (by rw[af,yF];rfl) ?_
   refine WK.gw (λ_=>False) [.p,.p,.p,.p,.p,.p,.q,.p,.p,.p,.p,.p,.x] (by omega) rfl ?_
   have TV:∀ Hq,R.o (dK .quo (iN (((8*p)+i))) (.int .i64 8)) Hq=.val (iN (p+i / 8)) Hq 0 0:=λHq=>SC (by omega) (by omega) _
   have Ix:∀ Hq,mF (pA bm 0) Hq=.val (pA bm 0) Hq 0 0:=λ_=>rfl
   have Iw:∀ Hq,nM 65536 1 (pA bm 0) (iN (p+i / 8)) Hq=.val (pA bm (p+i / 8)) Hq 0 0:=λHq=>by rw[mH (by omega) (by omega)];simp;omega
   have TU:dA (pA bm (p+i / 8)) H_l5=.val (uB (mG fm p u v i (p+i / 8))) H_l5 (bit (bm)) 0:=od.ld zP.row (by omega)
   have adA:e.ok (bit (bm)) 0 H_l5:=.read zP.row.lt hpr
   have adz:∀ cq,(bit (bm)).testBit cq=true->cq<H_l5.nx:=dH (P:=λcq=>cq<H_l5.nx) (by have:=zP.row.lt;omega)
   have Iv:dK .andNot (uB (mG fm p u v i (p+i / 8))) (nB (2 ^ (7-i % 8)))=some (uB (UInt8.ofNat (fL (fm (p+i / 8)).toNat (zu u v i).toNat (i % 8+1)))):=(by rw[TN (by omega)];exact ZA (by omega) hb)
   have TT:∀ Hq,mF (pA bm 0) Hq=.val (pA bm 0) Hq 0 0:=λ_=>rfl
   have TS:∀ Hq,nM 65536 1 (pA bm 0) (iN (p+i / 8)) Hq=.val (pA bm (p+i / 8)) Hq 0 0:=λHq=>by rw[mH (by omega) (by omega)];simp;omega
   obtain⟨H31_,afj,qZ⟩:=od.st (i:=p+i / 8) (u:=UInt8.ofNat (fL (fm (p+i / 8)).toNat (zu u v i).toNat (i % 8+1))) hfl zP.row (by omega)
   have adK:i_ 1 (pA bm (p+i / 8)) (uB (UInt8.ofNat (fL (fm (p+i / 8)).toNat (zu u v i).toNat (i % 8+1)))) H_l5=.val U H31_ 0 (bit (bm)):=afj
   have ahw:=qZ.fn
   have agO:H31_.nx=H_l5.nx:=qZ.nx
   have TQ:H_l5.nx<=H31_.nx:=by omega
   have ady:e.ok 0 (bit (bm)) H31_:=.write qZ.row.lt hpm
   refine fe.all (λt' H'=>H31_=H'/\GT t' [(0,pA bm 0),(1,iN (8*p)),(2,vS (bitsOf u++bitsOf v)),(7,iN (((8*p)+i))),(8,nB (2 ^ (7-i % 8))),(10,iN 16),(11,iN i)]) ?_ ?_
   ·simp +decide only[Ls,VQ,Vs,Vc,U1,UT,Jo,Jl,yF,TV,Ix,Iw,TU,adA,adz,Iv,TT,TS,adK,TQ,ady,Xo 2,go_sem]
    all_goals ((repeat' apply And.intro)<;>assumption)
   rintro akR _ ⟨rfl,VO,Vq,Vb,UY,US,Jn,Jk, -⟩
   refine WK.av ?_
   have ab_:Value.int .i64 (aN .i64 (((i:Nat):Int)+(1:Int)))=.int .i64 (((i+1):Nat):Int):=wF (by omega)
   refine aR.all (λt' H'=>H31_=H'/\GT t' [(0,pA bm 0),(1,iN (8*p)),(2,vS (bitsOf u++bitsOf v)),(7,iN (((8*p)+i))),(8,nB (2 ^ (7-i % 8))),(10,iN 16),(11,iN ((i+1)))]) ?_ ?_
   ·simp +decide only[Cr,VO,Vq,Vb,UY,US,Jn,Jk,ab_,Xo 2,go_sem]
   rintro akQ _ ⟨rfl,VN,Vp,Va,ail,ahV,Jm,Jj, -⟩
   have aec:G3 H bm 199 (mG fm p u v (i+1)) 65536 H31_:=(zP.trans qZ).as (funext λj=>LN (by omega) j)
   exact⟨_,by omega,rfl,i+1,rfl,by omega,aec,VN,Vp,Va,Jm,Jj⟩
 case neg =>
  have ant:i=16:=by omega
  refine WK.av ?_
  have Qd:decide (((i:Nat):Int)<((16:Nat):Int))=false:=decide_eq_false (by omega)
  refine aR.all (λt' H'=>H_l5=H'/\GT t' [(0,pA bm 0),(1,iN (8*p)),(2,vS (bitsOf u++bitsOf v)),(10,iN 16),(11,iN i),(12,.bool false)]) ?_ ?_
  ·simp +decide only[Cu,abP,abI,abB,VH,VE,Qd,Xo 2,go_sem]
  rintro t7_ _ ⟨rfl,iA,n9,sP,Be,MR,Bb, -⟩
  refine WK.seq ?_
  refine WK.cond (v:=false) (by rw[af,Bb];rfl) ?_
  refine WK.exit ?_
  exact⟨.inl rfl,rfl,[],0,rfl,.zero _ _,rfl,zP.as (by rw[ant];exact adJ _ _ _ _)⟩
end
end Go.Proofs.MN
end
noncomputable section
namespace Go.Proofs.MN
open Go Go.Ev Go.Proofs Go.Ev.SM
open Go.Ar (By)
section
variable [dj]
theorem WY:((List.range 61).all λx=>p8 (bitsOf 0++bitsOf (UInt8.ofNat x)) (j_ x).data.toList)=true:=by kernel_rfl
theorem GK {x:Nat} (h:x<61):vS (bitsOf 0++bitsOf (UInt8.ofNat x))=.string (j_ x):=by
 have h1:=List.all_eq_true.1 WY x (List.mem_range.2 h)
 rw[gv,beq_iff_eq]at h1
 show Value.string ⟨⟨_⟩⟩=_
 rw[h1]
theorem iF {f:Value->Bool}:∀ (d:Nat) (x:Oc Value d),ze f d x=true->∀ i,f (nw Value d x i)=true
 |0,x,h,i=>h
 |d+1,x,h,i=>by
  rw[pK]
  obtain⟨a,b,c,e,g,h1,i1,j⟩:=(x:N8 (Oc Value d))
  simp only[ze,Bool.and_eq_true]at h
  obtain⟨p0,p1,p2,p3,p4,p5,p6,p7⟩:=h
  cases dg i with
  |d0=>exact iF d _ p0 _
  |d1=>exact iF d _ p1 _
  |d2=>exact iF d _ p2 _
  |d3=>exact iF d _ p3 _
  |d4=>exact iF d _ p4 _
  |d5=>exact iF d _ p5 _
  |d6=>exact iF d _ p6 _
  |d7=>exact iF d _ p7 _
theorem zd {f:Value->Bool} {t:T Value} (h:QC f t=true) (i:Nat):f (t.get i)=true:=by
 unfold QC at h
 split at h
 ·exact h
 ·exact iF 6 _ h i
 ·cases h
theorem me {B:dB} {t:T Value} (h:xY B=some t):B=.cells t 65536 199 0 0 0/\∀ i,sD (t.get i)=true:=by
 unfold xY at h
 split at h
 ·obtain⟨h1,h2⟩:=aq h
  cases h2
  simp only[Bool.and_eq_true,beq_iff]at h1
  obtain⟨rfl,rfl,rfl,rfl,rfl,h1⟩:=h1
  exact⟨rfl,zd h1⟩
 ·cases h
theorem Pr {n:Nat} {β:Mp} (hn:n<=60) (tb:G2 n β) {v v':Value} (h:sD v=true) (hv:ai β v v'):∃ u:UInt8,v'=uB u:=by
 unfold sD at h
 split at h
 ·rename_i x
  cases hv
  have hx:=(an _ _).1 h
  exact⟨UInt8.ofNat x,by show Value.int .u8 (Int.ofNat x)=.int .u8 (.ofNat (UInt8.ofNat x).toNat);rw[jJ,Nat.mod_eq_of_lt hx]⟩
 ·rename_i k
  simp only[Bool.and_eq_true,aE,an]at h
  have e:=tb k
  rw[afH h.1 h.2]at e
  rw[Nx e hv]
  exact⟨UInt8.ofNat (n-(k-200)),by show Value.int .u8 (Int.ofNat _)=.int .u8 (.ofNat (UInt8.ofNat _).toNat);rw[jJ,Nat.mod_eq_of_lt (by omega)]⟩
 ·cases h
theorem xW {n:Nat} {β:Mp} {W:World} (hn:n<=60) (tb:G2 n β) {B:dB} {t:T Value} (h:xY B=some t) {m:Bm} (hb:fM β W B m) :
 m.sh=0/\m.tot=65536/\∃ (cs:Array Value) (fr:Nat×Nat) (f:By),W.heap[m.rb]?=some (.cells cs 199 fr)/\cs.size=65536/\Ag m 0 0 fr/\∀ i,i<65536->cs[i]?=some (uB (f i))/\ai β (t.get i) (uB (f i)):=by
 obtain⟨rfl,hB⟩:=me h
 obtain⟨o,ho,cs,fr,rfl,h1,h2,h3,h4,h5,h6⟩:=hb
 obtain⟨hs,ht⟩:=h3 rfl
 have key:∀ i,∃ u:UInt8,i<65536->cs[i]?=some (uB u)/\ai β (t.get i) (uB u):=λi=>by
  by_cases hi:i<65536
  ·obtain⟨_,v',e,hv⟩:=h5 i hi
   rw[hs,Nat.zero_add]at e
   obtain⟨u,rfl⟩:=Pr hn tb (hB i) hv
   exact⟨u,λ_=>⟨e,hv⟩⟩
  ·exact⟨0,λh=>absurd h hi⟩
 exact⟨hs,ht,cs,fr,λi=>(key i).choose,ho,by omega,h6,λi hi=>(key i).choose_spec hi⟩
noncomputable def Hw (b:Nat) (f:By) (nx:Nat):Hp:=.fn (λc=>Bc (Nat.beq c b) (aG (qW f 65536) 199 0) .no) nx
theorem akv {b nx:Nat} (f:By) (h:b<nx):(Hw b f nx).blk b=aG (qW f 65536) 199 0:=by
 unfold Hw
 rw[jA,if_pos h,(beq_iff _ _).2 rfl,aj]
theorem aku {b c nx:Nat} (f:By) (h:c≠b):(Hw b f nx).blk c=.no:=by
 unfold Hw
 rw[jA]
 split
 ·cases e:Nat.beq c b with
  |true=>exact absurd ((beq_iff _ _).1 e) h
  |false=>rfl
 ·rfl
theorem DY {b nx:Nat} (f:By) (h:b<nx):od (Hw b f nx) b 199 f 65536:=by
 obtain⟨t,h1,h2⟩:=bW (qW f 65536) 199 0
 exact⟨t,by rw[akv f h,h1],h2⟩
theorem zo {b c nx:Nat} {f:By} (h:alive (Hw b f nx) c):c=b:=by
 by_cases e:c=b
 ·exact e
 ·exact absurd (aku f e) h.2
theorem BK {β:Mp} {W:World} {b nx:Nat} {m:Bm} {f:By} {cs:Array Value} {fr:Nat×Nat} (hlt:b<nx) (hs:m.sh=0) (ht:m.tot=65536) (ho:W.heap[m.rb]?=some (.cells cs 199 fr)) (hc:cs.size=65536) (hf:Ag m 0 0 fr)
 (hb:∀ i,i<65536->cs[i]?=some (uB (f i))):fM β W ((Hw b f nx).blk b) m:=by
 obtain⟨t,h1,h2⟩:=bW (qW f 65536) 199 0
 rw[akv f hlt,h1,cA]
 refine⟨_,ho,cs,fr,rfl,by omega,by omega,λ_=>⟨hs,ht⟩,(λk h=>by cases h),λi hi=>?_,hf⟩
 have e:=h2 i _ (gx hi)
 rw[e,hs,Nat.zero_add]
 exact⟨rfl,_,hb i hi,.int _ _⟩
theorem KV {β:Mp} {W:World} {b nx:Nat} {m:Bm} {f:By} {H':Hp} {r w:Nat} (qC:nx<=32768) (hlt:b<nx) (em:β b=some m) (hok:∀ β',fM β' W ((Hw b f nx).blk b) m) (hn:H'.nx<=nx+1) (hd:∀ b m,β b=some m->m.rb<W.heap.size):Pre (β.cut nx) (Hw b f nx) H' r w W:=by
 have hsy:=Hu
 refine⟨λc hc ha=>?_,λc d mc md _ _ ac ad _ _ _=>(zo ac).trans (zo ad).symm,λc h1 h2=>?_,λc mc e=>hd c mc (Mp.jy _ _ _ _ e)⟩
 ·have:=zo ha;subst this
  exact⟨m,by rw[Mp.eU hlt];exact em,hok _⟩
 ·have h1:nx<=c:=h1
  exact Mp.qL h1 (by omega)
end
theorem JT {hi lo:Value} {k:Nat} (h:JU hi lo=some k):hi=.int .u8 0/\lo=sy k/\200<=k/\k<262:=by
 unfold JU at h
 split at h
 ·obtain⟨h1,h2⟩:=aq h
  cases h2
  simp only[Bool.and_eq_true,dY,beq_iff_eq,aE,an]at h1
  obtain⟨rfl,h1,h2⟩:=h1
  exact⟨rfl,rfl,h1,h2⟩
 ·cases h
theorem RY {P:Nat->Prop} {args:List Value} {H H':Hp} {v:Value} {r w:Nat} (hw:H.wf) (h:RZ args H=some (v,H',r,w)):@aI (pR P) Tryz.prog NG (.call 308 args) H (.k (.ret v H' r w)):=by
 letI:=pR P
 unfold RZ at h
 split at h
 case h_2=>cases h
 rename_i b a n
 split at h
 case h_2=>cases h
 rename_i t hm
 have h2:=aq h
 clear h
 obtain⟨h1,h⟩:=h2
 simp only[Bool.and_eq_true,dY,beq_iff_eq,beq_iff,an,vt,aE]at h1
 obtain⟨rfl,ha,hlt,qC,mP⟩:=h1
 have ha:a % 8=0:=ha
 have hlt:a / 8<65535:=hlt
 split at h
 case h_2=>cases h
 rename_i k hk
 cases h
 obtain⟨e0,e1,k1,k2⟩:=JT hk
 refine⟨Can.refl hw,λβ W hg p args' hl=>?_⟩
 obtain⟨zB,n,hPn,hn,tb⟩:=hg
 obtain⟨hB,_⟩:=me hm
 have hal:alive H b:=(aH _ _).2 (by rw[hB];intro e;cases e)
 obtain⟨m,em,hbk⟩:=p.rel b (.inl ((aB b b).2 rfl)) hal
 obtain⟨hs,ht,cs,fr,f,ho,hc,hf,hcs⟩:=xW hn tb hm hbk
 have qh:b<H.nx:=hal.1
 have IX:=LL (sp:=λ_ _ _=>none) (e:=⟨H.nx,λc=>c=b,λ_=>False⟩) (λ_ _ _=>rfl) (H:=Hw b f H.nx) rfl (Nat.le_refl _) (p:=a / 8) (DY f qh) (by omega) (λ_=>rfl)
 obtain⟨N,v1,H1,r1,w1,ju,hok,A7,rfl,hkp,hub⟩:=IX
 have hT:=oW jS oF (mU Tryz.prog dm.ng) N (.call 308 [pA b 0,Go.Ev.iN (8*(a / 8)),.int .i64 16]) (Hw b f H.nx) trivial
 rw[ju]at hT
 have hpre:Pre (β.cut H.nx) (Hw b f H.nx) H1 r1 w1 W:=KV qC qh em (λβ'=>BK qh hs ht ho hc hf λi hi=>(hcs i hi).1) hub p.dom
 have Df:cX NG (β.cut H.nx):=cX.cut mP ⟨zB,n,hPn,hn,tb⟩
 have sL:ak (β.cut H.nx) [pA b 0,Go.Ev.iN (8*(a / 8)),.int .i64 16] args'.toList:=by
  obtain⟨x1,l1,e,hx1,hl⟩:=hl.cons_inv
  obtain⟨x2,l2,rfl,hx2,hl⟩:=hl.cons_inv
  rw[e]
  refine ak.cons ?_ (ak.cons ?_ ?_)
  ·cases hx1 with|ptr _ _ m' e'=>exact .ptr _ _ m' (by rw[Mp.eU qh];exact e')
  ·cases hx2
   have:a=8*(a / 8):=by omega
   show ai _ (.int .i64 ((8*(a / 8):Nat):Int)) _
   rw[<-this];exact .int _ _
  ·obtain⟨x3,l3,rfl,hx3,Xy⟩:=hl.cons_inv
   have:=Xy.aL;subst this
   cases hx3
   exact ak.cons (.int _ _) (ak.nil _)
 refine(hT.2 _ W Df hpre args' sL).mono λe W' hR=>?_
 obtain⟨β1,v',he,hv,q⟩:=hR
 have hv':v'=vS (bitsOf (f (a / 8))++bitsOf (f (a / 8+1))):=by cases hv;rfl
 have b0:=(hcs (a / 8) (by omega)).2
 have b1:=(hcs (a / 8+1) (by omega)).2
 have e0:t.get (a / 8)=.int .u8 0:=e0
 have e1:t.get (a / 8+1)=sy k:=e1
 rw[e0]at b0
 rw[e1]at b1
 have ek:=tb k
 rw[afH k1 k2]at ek
 have hb0:f (a / 8)=0:=by
  have:uB (f (a / 8))=.int .u8 0:=b8 10 _ _ rfl b0
  injection this with _ h2
  have h3:(f (a / 8)).toNat=0:=Int.ofNat.inj h2
  exact UInt8.toNat_inj.1 h3
 have jK:f (a / 8+1)=UInt8.ofNat (n-(k-200)):=by
  have:=Nx ek b1
  injection this with _ h2
  have h3:(f (a / 8+1)).toNat=n-(k-200):=Int.ofNat.inj h2
  apply UInt8.toNat_inj.1
  rw[h3,jJ,Nat.mod_eq_of_lt (by omega)]
 have ek2:=tb (k+300)
 rw[afG (by omega) (by omega),show k+300-500=k-200 from by omega]at ek2
 refine⟨β,v',he,?_,?_⟩
 ·rw[hv',hb0,jK,GK (by omega)]
  exact Tj ek2
 ·refine⟨Mp.le.refl _,λc mc e1 e2=>(by rw[e2]at e1;cases e1),λc hc' hac=>?_,λrb o ho' hno=>q.frame rb o ho' λc mc hc' u0 ec=>?_,q.size,λc mc e1=>Nat.lt_of_lt_of_le (p.dom c mc e1) q.size,λc mc _ e1 e2=>(by rw[e1]at e2;cases e2),λc d mc md hc' _ hac=>?_,q.env⟩
  ·rcases hc' with h|h
   ·have:=hac.1;omega
   ·simp at h
  ·exact(hok.wr c hc' u0).elim
  ·rcases hc' with h|h
   ·have:=hac.1;omega
   ·simp at h
theorem AB {P:Nat->Prop} {H H':Hp} {t:T Value} {b a:Nat} {s v v0:Value} {r w:Nat} (hw:H.wf) (hm:xY (H.blk b)=some t) (h:fj t b a v H=some (v0,H',r,w)) (Xw:bQ v=true)
 (hs:∀ (n:Nat) (β:Mp) (s':Value),P n->n<=60->G2 n β->ai β s s'->∃ x,x<61/\s'=.string (j_ x)/\ai β v (uB (UInt8.ofNat x))) :
 @aI (pR P) Tryz.prog NG (.call 137 [.pointer (some ⟨b,0,none⟩),.int .i64 (.ofNat a),s]) H (.k (.ret v0 H' r w)):=by
 letI:=pR P
 unfold fj at h
 have h2:=aq h
 clear h
 obtain⟨h1,h⟩:=h2
 simp only[Bool.and_eq_true,beq_iff,an,vt,aE]at h1
 obtain⟨ha,hlt,qC,mP⟩:=h1
 have ha:a % 8=0:=ha
 have hlt:a / 8<65535:=hlt
 obtain⟨p,hp⟩:∃ p,a / 8=p:=⟨_,rfl⟩
 have hap:a=8*p:=by omega
 have hpl:p<65535:=by omega
 cases h
 obtain⟨hB,_⟩:=me hm
 have hal:alive H b:=(aH _ _).2 (by rw[hB];intro e;cases e)
 have qh:b<H.nx:=hal.1
 have hcan:Go.Ev.Can H (H.put b (.cells (T.set 6 (T.set 6 t (Nat.div a 8) (.int .u8 0)) (Nat.succ (Nat.div a 8)) v) 65536 199 0 0 0)) (bit b):=eJ hw _ hal
 refine⟨hcan,λβ W hg pp args' hl=>?_⟩
 obtain⟨zB,n,hPn,hn,tb⟩:=hg
 obtain⟨m,em,hbk⟩:=pp.rel b (.inr ((aB b b).2 rfl)) hal
 obtain⟨UA,ht,cs,fr,f,ho,hc,hf,hcs⟩:=xW hn tb hm hbk
 obtain⟨x1,l1,eargs,hx1,hl⟩:=hl.cons_inv
 obtain⟨x2,l2,rfl,hx2,hl⟩:=hl.cons_inv
 obtain⟨x3,l3,rfl,hx3,Xy⟩:=hl.cons_inv
 have:=Xy.aL;subst this
 obtain⟨x,hx,rfl,hvx⟩:=hs n β x3 hPn hn tb hx3
 have IX:=Ly (sp:=λ_ _ _=>none) (e:=⟨H.nx,λc=>c=b,λc=>c=b⟩) (λ_ _ _=>rfl) (H:=Hw b f H.nx) rfl (Nat.le_refl _) (u:=0) (v:=UInt8.ofNat x) (p:=p) (DY f qh) (by omega) (λ_=>rfl) (λ_=>rfl)
 obtain⟨N,v1,H1,r1,w1,ju,hok,A7,rfl,zP⟩:=IX
 have hT:=oW jS oF (mU Tryz.prog dm.ng) N (.call 137 [pA b 0,Go.Ev.iN (8*p),vS (bitsOf 0++bitsOf (UInt8.ofNat x))]) (Hw b f H.nx) trivial
 rw[ju]at hT
 have ahh:H1.nx=H.nx:=zP.nx
 have hpre:Pre (β.cut H.nx) (Hw b f H.nx) H1 r1 w1 W:=KV qC qh em (λβ'=>BK qh UA ht ho hc hf λi hi=>(hcs i hi).1) (by omega) pp.dom
 have Df:cX NG (β.cut H.nx):=cX.cut mP ⟨zB,n,hPn,hn,tb⟩
 have sL:ak (β.cut H.nx) [pA b 0,Go.Ev.iN (8*p),vS (bitsOf 0++bitsOf (UInt8.ofNat x))] args'.toList:=by
  rw[eargs]
  refine ak.cons ?_ (ak.cons ?_ (ak.cons ?_ (ak.nil _)))
  ·cases hx1 with|ptr _ _ m' e'=>exact .ptr _ _ m' (by rw[Mp.eU qh];exact e')
  ·cases hx2
   show ai _ (.int .i64 ((8*p:Nat):Int)) _
   rw[<-hap];exact .int _ _
  ·rw[GK hx];exact .string _
 refine(hT.2 _ W Df hpre args' sL).mono λe W' hR=>?_
 obtain⟨β1,v',he,hv,q⟩:=hR
 have hv':v'=.tuple #[]:=by
  cases hv with|tuple xs xs' e1 e2 =>
  have:xs'=[]:=by cases xs' with|nil=>rfl|cons=>simp at e1
  subst this;rfl
 have hrow:=zP.row
 obtain⟨t1,jK,aem⟩:=hrow
 rw[cA]at jK
 have aer:∃ cs1 fr1,W'.heap[m.rb]?=some (.cells cs1 199 fr1)/\cs1.size=65536/\Ag m 0 0 fr1/\∀ i,i<65536->cs1[i]?=some (uB (over f p 2 (λk=>if k=0 then 0 else UInt8.ofNat x) i)):=by
  have IZ:alive H1 b:=(aH _ _).2 (by rw[jK];intro e;cases e)
  have Dg:β.cut H.nx b=some m:=by rw[Mp.eU qh];exact em
  have hB1:fM β1 W' (H1.blk b) m:=by
   by_cases zA:w1.testBit b=true
   ·obtain⟨m',em',hr'⟩:=q.rel b (.inr zA) IZ
    have:=q.le _ _ Dg
    rw[em']at this;cases this
    exact hr'
   ·have hwf:w1.testBit b=false:=by cases e:w1.testBit b with|false=>rfl|true=>exact absurd e zA
    have hk:=hT.1.keep b qh hwf
    rw[hk]
    obtain⟨o,FQ,QL⟩:=BK (β:=β1) qh UA ht ho hc hf λi hi=>(hcs i hi).1
    refine⟨o,?_,QL⟩
    refine q.frame m.rb o FQ λc mc uv u0 ec he=>?_
    have:=hok.wr c uv u0
    subst this
    exact zA u0
  rw[jK]at hB1
  obtain⟨o1,G0,cs1,fr1,rfl,g1,g2,g3,g4,g5,g6⟩:=hB1
  refine⟨cs1,fr1,G0,by rw[g1,ht],g6,λi hi=>?_⟩
  obtain⟨_,y,ey,hy⟩:=g5 i hi
  rw[UA,Nat.zero_add]at ey
  have e1:=aem i _ (gx hi)
  rw[e1]at hy
  have:y=_:=b8 10 _ _ rfl hy
  rw[ey,this]
 obtain⟨cs1,fr1,G0,hc1,My,aep⟩:=aer
 refine⟨β,v',he,by rw[hv'];exact ai.flat β 10 _ rfl,?_⟩
 refine⟨Mp.le.refl _,λc mc e1 e2=>(by rw[e2]at e1;cases e1),λc hc' hac=>?_,λrb o ho' hno=>?_,q.size,λc mc e1=>Nat.lt_of_lt_of_le (pp.dom c mc e1) q.size,λc mc _ e1 e2=>(by rw[e1]at e2;cases e2),λc d mc md hc' hd' hac had _ _ _=>?_,q.env⟩
 ·have hcb:c=b:=by
   rcases hc' with h|h
   ·have:=hac.1;rw[cW]at this;omega
   ·exact(aB b c).1 h
  subst hcb
  refine⟨m,em,?_⟩
  rw[jh _ hw qh,if_pos rfl]
  refine⟨_,G0,cs1,fr1,rfl,by omega,by omega,λ_=>⟨UA,ht⟩,(λk h=>by cases h),λi hi=>?_,My⟩
  have hp8:Nat.div a 8=p:=hp
  rw[hp8,T.ef 6 _ _ _ _ (by omega) (by omega),T.ef 6 _ _ _ _ (by omega) (by omega),UA,Nat.zero_add]
  have e2:=aep i hi
  by_cases i1:i=Nat.succ p
  ·rw[if_pos i1]
   refine⟨Xw,_,e2,?_⟩
   have:over f p 2 (λk=>if k=0 then 0 else UInt8.ofNat x) i=UInt8.ofNat x:=by
    unfold over;rw[if_pos (by omega)];show(if i-p=0 then (0:UInt8)else UInt8.ofNat x)=_;rw[if_neg (by omega)]
   rw[this];exact hvx
  ·rw[if_neg i1]
   by_cases i0:i=p
   ·rw[if_pos i0]
    refine⟨rfl,_,e2,?_⟩
    have:over f p 2 (λk=>if k=0 then 0 else UInt8.ofNat x) i=0:=by
     unfold over;rw[if_pos (by omega)];show(if i-p=0 then (0:UInt8)else UInt8.ofNat x)=_;rw[if_pos (by omega)]
    rw[this];exact .int _ _
   ·rw[if_neg i0]
    have Px:=hcs i hi
    have hb0:bQ (t.get i)=true:=by
     obtain⟨_,hby⟩:=me hm
     have:=hby i
     unfold sD at this
     split at this
     ·rename_i e;rw[e];rfl
     ·rename_i e;rw[e];rfl
     ·cases this
    refine⟨hb0,_,e2,?_⟩
    have:over f p 2 (λk=>if k=0 then 0 else UInt8.ofNat x) i=f i:=by
     unfold over;rw[if_neg (by omega)]
    rw[this];exact Px.2
 ·refine q.frame rb o ho' λc mc uv u0 ec=>?_
  have:=hok.wr c uv u0
  subst this
  exact hno c mc uv ((aB c c).2 rfl) (Mp.jy _ _ _ _ ec)
 ·have key:∀ {y},(H.nx<=y\/(bit b).testBit y=true)->alive (H.put b (.cells (T.set 6 (T.set 6 t (Nat.div a 8) (.int .u8 0)) (Nat.succ (Nat.div a 8)) v) 65536 199 0 0 0)) y->y=b:=λ{y} hy hay=>by
   rcases hy with h|h
   ·have:=hay.1;rw[cW]at this;omega
   ·exact(aB b y).1 h
  exact(key hc' hac).trans (key hd' had).symm
theorem RV {P:Nat->Prop} {args:List Value} {H H':Hp} {v:Value} {r w:Nat} (hw:H.wf) (h:RW args H=some (v,H',r,w)):@aI (pR P) Tryz.prog NG (.call 137 args) H (.k (.ret v H' r w)):=by
 unfold RW at h
 split at h
 case h_2=>cases h
 rename_i b a s
 split at h
 case h_2=>cases h
 rename_i t hm
 split at h
 ·rename_i k
  have h2:=aq h
  clear h
  obtain⟨h1,h⟩:=h2
  simp only[Bool.and_eq_true,aE,an]at h1
  refine AB hw hm h rfl λn β s' _ hn tb hs=>?_
  have ek:=tb k
  rw[afG h1.1 h1.2]at ek
  have ek2:=tb (k-300)
  rw[afH (by omega) (by omega),show k-300-200=k-500 from by omega]at ek2
  refine⟨n-(k-500),by omega,RO ek hs,?_⟩
  have:=Za ek2
  show ai β (sy (k-300)) (.int .u8 (.ofNat (UInt8.ofNat (n-(k-500))).toNat))
  rw[show(UInt8.ofNat (n-(k-500))).toNat=n-(k-500)from by simp;omega]
  exact this
 ·rename_i s
  have h2:=aq h
  clear h
  obtain⟨h1,h⟩:=h2
  simp only[Bool.and_eq_true,an,gv,beq_iff_eq]at h1
  refine AB hw hm h rfl λn β s' _ hn tb hs=>?_
  refine⟨uW s,h1.1,?_,?_⟩
  ·have e:s'=.string s:=b8 10 _ _ rfl hs
   rw[e]
   congr 1
   have:=h1.2
   obtain⟨⟨l⟩⟩:=s
   simp only at this
   show ByteArray.mk ⟨l⟩=j_ _
   conv=>lhs;rw[this]
  ·show ai β (.int .u8 (.ofNat (uW s))) (.int .u8 (.ofNat (UInt8.ofNat (uW s)).toNat))
   rw[show(UInt8.ofNat (uW s)).toNat=uW s from by have:=h1.1;simp;omega]
   exact .int _ _
 ·cases h
end Go.Proofs.MN
end
