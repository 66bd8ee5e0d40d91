/-
 A part of the proof that pliantlaw16.MeanAssigns returns true and leaves its arguments alone. Conditions: those of the card in the last text.
-/
import Derived.Test.YtdmcanlbncbemaaGreatDoorG13
set_option linter.unusedSimpArgs false
set_option linter.unusedVariables false
set_option linter.unusedSectionVars false
set_option maxRecDepth 100000
set_option maxHeartbeats 8000000
noncomputable section
namespace Go.Proofs.MN
open Go Go.Ev Go.Proofs
noncomputable def tK:Code:=(Tryz.f33.body).getD .skip
def KF:List CO:=[
 ⟨(some 2),none,.alloc (aG [.int .i64 (0),.int .i64 (0),.int .i64 (0),.int .i64 (0),.int .i64 (0),.int .u64 (0),.bool false] 68 0)⟩]
def KE:List CO:=[
 ⟨(some 8),none,.mv (.tmp 0)⟩,
 ⟨(some 9),none,.eq false (.one .p) (.tmp 8) (.const (.pointer none))⟩]
def Yw:List CO:=[
 ⟨(some 10),none,.build [.int .i64 (0),.int .i64 (0),.int .i64 (0),.int .i64 (0),.int .i64 (0),.int .u64 (0),.bool false] [(6,1,(.const (.bool true)))]⟩,
 ⟨none,none,.st 7 (.tmp 2) (.tmp 10)⟩]
def BY:List CO:=[
 ⟨(some 12),none,.mv (.tmp 0)⟩,
 ⟨(some 13),none,.dU (.tmp 12)⟩,
 ⟨(some 14),none,.fa 6 (.tmp 13)⟩,
 ⟨(some 15),none,.jd (.tmp 14)⟩,
 ⟨(some 16),none,.call (.func 51) [(.tmp 15),(.const (.int .i64 (0))),(.const (.int .i64 (65536)))]⟩,
 ⟨(some 11),none,.mv (.tmp 16)⟩,
 ⟨(some 17),none,.ext (.tmp 11) 0⟩,
 ⟨(some 18),none,.ext (.tmp 11) 1⟩,
 ⟨(some 3),none,.mv (.tmp 17)⟩,
 ⟨(some 4),none,.mv (.tmp 18)⟩]
def KD:List CO:=[
 ⟨(some 19),none,.mv (.tmp 0)⟩,
 ⟨(some 20),none,.dU (.tmp 19)⟩,
 ⟨(some 21),none,.fa 15 (.tmp 20)⟩,
 ⟨(some 22),none,.jd (.tmp 21)⟩,
 ⟨(some 23),none,.mv (.tmp 0)⟩,
 ⟨(some 24),none,.dU (.tmp 23)⟩,
 ⟨(some 25),none,.fa 19 (.tmp 24)⟩,
 ⟨(some 26),none,.jd (.tmp 25)⟩,
 ⟨(some 27),none,.build [.int .i64 (0),.int .i64 (0),.int .i64 (0),.int .i64 (0),.int .i64 (0),.int .u64 (0),.bool false] [(0,1,(.tmp 22)),(5,1,(.const (.int .u64 (14695981039346656037)))),(6,1,(.tmp 26))]⟩,
 ⟨(some 5),none,.alloc (aG [.int .i64 (0),.int .i64 (0),.int .i64 (0),.int .i64 (0),.int .i64 (0),.int .u64 (0),.bool false] 68 0)⟩,
 ⟨none,none,.st 7 (.tmp 5) (.tmp 27)⟩]
def KB:List CO:=[
 ⟨(some 28),none,.mv (.tmp 3)⟩,
 ⟨(some 29),none,.len 0 (.tmp 28)⟩,
 ⟨(some 30),none,.mv (.const (.int .i64 (0)))⟩]
def BX:List CO:=[
 ⟨(some 31),none,.bin .lss (.tmp 30) (.tmp 29)⟩]
def KA:List CO:=[
 ⟨(some 32),none,.mv (.tmp 30)⟩,
 ⟨(some 6),none,.mv (.tmp 32)⟩]
def Kz:List CO:=[
 ⟨(some 33),none,.fa 5 (.tmp 5)⟩,
 ⟨(some 34),none,.jd (.tmp 33)⟩,
 ⟨(some 35),none,.mv (.tmp 3)⟩,
 ⟨(some 36),none,.mv (.tmp 6)⟩,
 ⟨(some 37),none,.A5 (.tmp 35) (.tmp 36)⟩,
 ⟨(some 38),none,.jM .u64 (.tmp 37)⟩,
 ⟨(some 39),none,.bin .xor (.tmp 34) (.tmp 38)⟩,
 ⟨(some 40),none,.bin .mul (.tmp 39) (.const (.int .u64 (1099511628211)))⟩,
 ⟨(some 41),none,.fa 5 (.tmp 5)⟩,
 ⟨none,none,.st 1 (.tmp 41) (.tmp 40)⟩]
def Ky:List CO:=[
 ⟨(some 42),none,.bin .add (.tmp 30) (.const (.int .i64 (1)))⟩,
 ⟨(some 30),none,.mv (.tmp 42)⟩]
noncomputable def Ep:KC :=
 (.seq (.bp BX)
 (.seq (.cond (.tmp 31) .skip
  (.exit 0))
 (.seq (.block 1 (.seq (.bp KA)
  (.draw #[0,1,0,0,12,28,63,127,255,511] Kz)))
 (.bp Ky))))
def Eo:List CO:=[
 ⟨(some 43),none,.mv (.tmp 0)⟩,
 ⟨(some 44),none,.dU (.tmp 43)⟩,
 ⟨(some 45),none,.fa 19 (.tmp 44)⟩,
 ⟨(some 46),none,.jd (.tmp 45)⟩,
 ⟨(some 47),none,.un .not (.tmp 46)⟩]
def R9:List CO:=[
 ⟨(some 48),none,.mv (.tmp 0)⟩,
 ⟨(some 49),none,.call (.func 52) [(.tmp 48)]⟩,
 ⟨(some 7),none,.mv (.tmp 49)⟩]
def R8:List CO:=[
 ⟨(some 50),none,.mv (.tmp 0)⟩,
 ⟨(some 51),none,.dU (.tmp 50)⟩,
 ⟨(some 52),none,.fa 17 (.tmp 51)⟩,
 ⟨(some 53),none,.jd (.tmp 52)⟩,
 ⟨(some 54),none,.mv (.tmp 0)⟩,
 ⟨(some 55),none,.dU (.tmp 54)⟩,
 ⟨(some 56),none,.fa 7 (.tmp 55)⟩,
 ⟨(some 57),none,.jd (.tmp 56)⟩,
 ⟨(some 58),none,.len 1 (.tmp 57)⟩,
 ⟨(some 59),none,.mv (.tmp 7)⟩,
 ⟨(some 60),none,.dU (.tmp 59)⟩,
 ⟨(some 61),none,.fa 0 (.tmp 60)⟩,
 ⟨(some 62),none,.jd (.tmp 61)⟩,
 ⟨(some 63),none,.mv (.tmp 7)⟩,
 ⟨(some 64),none,.dU (.tmp 63)⟩,
 ⟨(some 65),none,.fa 2 (.tmp 64)⟩,
 ⟨(some 66),none,.jd (.tmp 65)⟩,
 ⟨(some 67),none,.bin .mul (.const (.int .i64 (8))) (.tmp 66)⟩,
 ⟨(some 68),none,.fa 1 (.tmp 5)⟩,
 ⟨none,none,.st 1 (.tmp 68) (.tmp 53)⟩,
 ⟨(some 69),none,.fa 2 (.tmp 5)⟩,
 ⟨none,none,.st 1 (.tmp 69) (.tmp 58)⟩,
 ⟨(some 70),none,.fa 3 (.tmp 5)⟩,
 ⟨none,none,.st 1 (.tmp 70) (.tmp 62)⟩,
 ⟨(some 71),none,.fa 4 (.tmp 5)⟩,
 ⟨none,none,.st 1 (.tmp 71) (.tmp 67)⟩]
def Em:List CO:=[
 ⟨(some 72),none,.uh 7 (.tmp 5)⟩,
 ⟨none,none,.st 7 (.tmp 2) (.tmp 72)⟩]
noncomputable def HH:KC :=
 (.seq (.bp KF)
 (.seq (.seq (.bp KE)
 (.cond (.tmp 9) (.seq (.bp Yw)
  .ret)
  .skip))
 (.seq (.bp BY)
 (.seq (.draw #[0,1,3,7,0,16,48,112,255,0,1023] KD)
 (.seq (.seq (.bp KB)
 (.block 0 (.loop tK.sr.sr.sr.sr.sl.sr.bl.lp Ep)))
 (.seq (.seq (.bp Eo)
 (.cond (.tmp 47) (.seq (.bp R9)
  (.draw #[0,1,3,7,0,16,48,112,240,0,512,1536,3584,0,8192,24576,57344,122880,15,262159,786943,1835519,3940351,8134655,16777215,33554431] R8))
  .skip))
 (.seq (.bp Em)
 .ret)))))))
theorem Ou:bC Ad Tryz.f33.ntmps tK=HH:=by kernel_rfl
theorem Ot:Tryz.f33.body=some tK:=rfl
noncomputable def uY:Code:=(Tryz.f51.body).getD .skip
def AS:List CO:=[
 ⟨(some 6),none,.mv (.const (.string ⟨#[]⟩))⟩,
 ⟨(some 7),none,.mv (.const (.int .i64 (0)))⟩]
def AR:List CO:=[
 ⟨(some 8),none,.mv (.tmp 0)⟩,
 ⟨(some 9),none,.eq false (.one .p) (.tmp 8) (.const (.pointer none))⟩]
def O9:List CO:=[
 ⟨(some 10),none,.call (.func 54) []⟩,
 ⟨(some 0),none,.mv (.tmp 10)⟩]
def ud:List CO:=[
 ⟨(some 11),none,.mv (.tmp 2)⟩,
 ⟨(some 12),none,.bin .lss (.tmp 11) (.const (.int .i64 (0)))⟩,
 ⟨(some 13),none,.mv (.tmp 12)⟩,
 ⟨(some 14),(some (13,false)),.mv (.tmp 2)⟩,
 ⟨(some 15),(some (13,false)),.bin .gtr (.tmp 14) (.const (.int .i64 (65536)))⟩,
 ⟨(some 16),none,.pick (.tmp 13) (.const (.bool true)) (.tmp 15)⟩,
 ⟨(some 17),none,.mv (.tmp 16)⟩,
 ⟨(some 18),(some (17,false)),.mv (.tmp 1)⟩,
 ⟨(some 19),(some (17,false)),.mv (.tmp 2)⟩,
 ⟨(some 20),(some (17,false)),.bin .mul (.const (.int .i64 (8))) (.tmp 19)⟩,
 ⟨(some 21),(some (17,false)),.call (.func 106) [(.tmp 18),(.tmp 20)]⟩,
 ⟨(some 22),(some (17,false)),.un .not (.tmp 21)⟩,
 ⟨(some 23),none,.pick (.tmp 17) (.const (.bool true)) (.tmp 22)⟩]
def O8:List CO:=[
 ⟨(some 6),none,.mv (.const (.string ⟨#[]⟩))⟩,
 ⟨(some 7),none,.mv (.const (.int .i64 (8091)))⟩]
def AQ:List CO:=[
 ⟨(some 24),none,.mv (.tmp 1)⟩,
 ⟨(some 25),none,.bin .rem (.tmp 24) (.const (.int .i64 (8)))⟩,
 ⟨(some 26),none,.eq true (.one .i) (.tmp 25) (.const (.int .i64 (0)))⟩]
def O7:List CO:=[
 ⟨(some 6),none,.mv (.const (.string ⟨#[]⟩))⟩,
 ⟨(some 7),none,.mv (.const (.int .i64 (8095)))⟩]
def AP:List CO:=[
 ⟨(some 27),none,.mv (.tmp 0)⟩,
 ⟨(some 28),none,.dU (.tmp 27)⟩,
 ⟨(some 29),none,.fa 0 (.tmp 28)⟩,
 ⟨(some 30),none,.mv (.tmp 1)⟩,
 ⟨(some 31),none,.bin .quo (.tmp 30) (.const (.int .i64 (8)))⟩,
 ⟨(some 32),none,.mv (.tmp 1)⟩,
 ⟨(some 33),none,.bin .quo (.tmp 32) (.const (.int .i64 (8)))⟩,
 ⟨(some 34),none,.mv (.tmp 2)⟩,
 ⟨(some 35),none,.bin .add (.tmp 33) (.tmp 34)⟩,
 ⟨(some 36),none,.Ov 65536 1 (.tmp 29) (some (.tmp 31)) (some (.tmp 35)) none⟩,
 ⟨(some 37),none,.Qn (.tmp 36)⟩,
 ⟨(some 6),none,.mv (.tmp 37)⟩,
 ⟨(some 7),none,.mv (.const (.int .i64 (0)))⟩]
noncomputable def yd:KC :=
 (.seq (.bp AS)
 (.seq (.seq (.bp AR)
 (.cond (.tmp 9) (.bp O9)
  .skip))
 (.seq (.seq (.bp ud)
 (.cond (.tmp 23) (.seq (.bp O8)
  .ret)
  .skip))
 (.seq (.seq (.bp AQ)
 (.cond (.tmp 26) (.seq (.bp O7)
  .ret)
  .skip))
 (.seq (.bp AP)
 .ret)))))
theorem Fw:bC Ad Tryz.f51.ntmps uY=yd:=by kernel_rfl
theorem Fv:Tryz.f51.body=some uY:=rfl
noncomputable def Bn:Code:=(Tryz.f106.body).getD .skip
def MY:List CO:=[
 ⟨(some 4),none,.mv (.const (.bool false))⟩]
def MX:List CO:=[
 ⟨(some 5),none,.mv (.tmp 0)⟩,
 ⟨(some 6),none,.bin .geq (.tmp 5) (.const (.int .i64 (0)))⟩,
 ⟨(some 7),none,.mv (.tmp 6)⟩,
 ⟨(some 8),(some (7,true)),.mv (.tmp 1)⟩,
 ⟨(some 9),(some (7,true)),.bin .geq (.tmp 8) (.const (.int .i64 (0)))⟩,
 ⟨(some 10),none,.pick (.tmp 7) (.tmp 9) (.const (.bool false))⟩,
 ⟨(some 11),none,.mv (.tmp 10)⟩,
 ⟨(some 12),(some (11,true)),.mv (.tmp 0)⟩,
 ⟨(some 13),(some (11,true)),.bin .leq (.tmp 12) (.const (.int .i64 (524288)))⟩,
 ⟨(some 14),none,.pick (.tmp 11) (.tmp 13) (.const (.bool false))⟩,
 ⟨(some 15),none,.mv (.tmp 14)⟩,
 ⟨(some 16),(some (15,true)),.mv (.tmp 1)⟩,
 ⟨(some 17),(some (15,true)),.mv (.tmp 0)⟩,
 ⟨(some 18),(some (15,true)),.bin .sub (.const (.int .i64 (524288))) (.tmp 17)⟩,
 ⟨(some 19),(some (15,true)),.bin .leq (.tmp 16) (.tmp 18)⟩,
 ⟨(some 20),none,.pick (.tmp 15) (.tmp 19) (.const (.bool false))⟩,
 ⟨(some 4),none,.mv (.tmp 20)⟩]
noncomputable def Jt:KC :=
 (.seq (.bp MY)
 (.seq (.bp MX)
 .ret))
theorem PY:bC Ad Tryz.f106.ntmps Bn=Jt:=by kernel_rfl
theorem PU:Tryz.f106.body=some Bn:=rfl
end Go.Proofs.MN
end
noncomputable section
namespace Go.Proofs.MN
open Go Go.Ev Go.Proofs Go.Ar
variable [dj]
theorem aj6:Ad.fn 106=some Tryz.f106:=by kernel_rfl
theorem aoc:Ad.fn 51=some Tryz.f51:=by kernel_rfl
theorem aod:Ad.fn 33=some Tryz.f33:=by kernel_rfl
theorem BE (a b:Int):dK .mul (.int .i64 a) (.int .i64 b)=some (.int .i64 (aN .i64 (a*b))):=rfl
section
attribute [local go_sem] au aj GT dF gF aR fe Yj Yk Yl Ym Yn Yo Yp Yq Yr and_self and_true cV cU cQ cP cN cM BE bx ig ic de dR aP bw af cJ cI bP cG cF cE if_false if_true dM dD bM run true_and ck bL bK bJ bI bf bu
variable {sp:Nat->List Value->Hp->Option (Value×Hp×Nat×Nat)} {e:Env}
theorem Ds (S:∀ f args H,sp f args H=none) {H:Hp} (hf:H.bG=true) (he:e.n0<=H.nx) {at_ k:Nat} (h:at_+k<=524288):EC Ad sp e 106 [iN at_,iN k] H λv H'=>v=.bool true/\H'=H:=by
 refine EC.i2 aj6 PU PY (S _ _ _) (by show 2<=21;decide) λt0 g0 g1=>?_
 show WK Ad sp e ⟨2,21,none,false⟩ Jt t0 [] H _
 unfold Jt
 refine WK.seq ?_
 refine WK.av ?_
 refine aR.all (λt' H'=>H=H'/\GT t' [(0,iN at_),(1,iN k),(4,.bool false)]) ?_ ?_
 ·simp +decide only[MY,g0,g1,Xo 2,go_sem]
 rintro Xq _ ⟨rfl,dQ,iJ,zV, -⟩
 refine WK.seq ?_
 refine WK.av ?_
 have XC:decide (((at_:Nat):Int)<(0:Int))=false:=decide_eq_false (by omega)
 have d4_:decide (((k:Nat):Int)<(0:Int))=false:=decide_eq_false (by omega)
 have d5_:decide ((524288:Int)<((at_:Nat):Int))=false:=decide_eq_false (by omega)
 have w6_:Value.int .i64 (aN .i64 ((524288:Int)-((at_:Nat):Int)))=.int .i64 (((524288-at_):Nat):Int):=wF (by omega)
 have d7_:decide ((((524288-at_):Nat):Int)<((k:Nat):Int))=false:=decide_eq_false (by omega)
 refine aR.all (λt' H'=>H=H'/\t'.get 4=.bool true) ?_ ?_
 ·simp +decide only[MX,dQ,iJ,zV,XC,d4_,d5_,w6_,d7_,Xo 2,go_sem]
 rintro t8_ _ ⟨rfl,I_⟩
 refine WK.ret ⟨.inr rfl,rfl,[.bool true],0,?_,.zero _ _,rfl,rfl⟩
 show eg Ad 21 t8_ _ [.tmp 4]=_
 simp only[eg,I_];rfl
theorem O_ (S:∀ f args H,sp f args H=none) {H:Hp} (hf:H.bG=true) (he:e.n0<=H.nx) {bm p n:Nat} {fm:By} (hr:od H bm 199 fm 65536) (hn:p+n<=65536) (hp:p<65536) (hpm:bm<e.n0->e.Rd bm):EC Ad sp e 51 [pA bm 0,iN (8*p),iN n] H λv H'=>v=.tuple #[vS (gJ (λi=>fm (p+i)) n),vN 0]/\H'=H:=by
 refine EC.i3 aoc Fv Fw (S _ _ _) (by show 3<=38;decide) λt0 g0 g1 g2=>?_
 show WK Ad sp e ⟨2,38,none,false⟩ yd t0 [] H _
 unfold yd
 have agY:=hr.lt
 refine WK.seq ?_
 refine WK.av ?_
 refine aR.all (λt' H'=>H=H'/\GT t' [(0,pA bm 0),(1,iN (8*p)),(2,iN n),(6,.string ⟨#[]⟩),(7,.int .i64 (0))]) ?_ ?_
 ·simp +decide only[AS,g0,g1,g2,Xo 2,go_sem]
 rintro Xp _ ⟨rfl,dV,jL,oS,lC,oP, -⟩
 refine WK.seq ?_
 refine WK.seq ?_
 refine WK.av ?_
 have wA:∀ Hq,jo false (.one .p) (pA bm 0) (.pointer none) Hq=.val (.bool false) Hq 0 0:=λHq=>rfl
 refine aR.all (λt' H'=>H=H'/\GT t' [(0,pA bm 0),(1,iN (8*p)),(2,iN n),(6,.string ⟨#[]⟩),(7,.int .i64 (0)),(9,.bool false)]) ?_ ?_
 ·simp +decide only[AR,dV,jL,oS,lC,oP,wA,Xo 2,go_sem]
 rintro t5_ _ ⟨rfl,kz,yI,zX,sO,yw,PG, -⟩
 refine WK.cond (v:=false) (by rw[af,PG];rfl) ?_
 refine WK.skip ?_
 refine WK.seq ?_
 refine WK.seq ?_
 refine WK.av ?_
 refine aR.iX λK0 qD=>?_
 have d7_:decide (((n:Nat):Int)<(0:Int))=false:=decide_eq_false (by omega)
 have d8_:decide ((65536:Int)<((n:Nat):Int))=false:=decide_eq_false (by omega)
 have w9_:Value.int .i64 (aN .i64 ((8:Int)*((n:Nat):Int)))=.int .i64 (((8*n):Nat):Int):=wF (by omega)
 simp +decide only[ud,yI,zX,d7_,d8_,w9_,Xo 2,go_sem]
 refine EC.mono (Ds S hf (by omega) (at_:=8*p) (k:=(8*n)) (by omega)) λv H10_ _ Uv=>?_
 obtain⟨rfl,FT⟩:=Uv
 rw[FT];clear FT
 rw[fC]
 refine aR.all (λt' H'=>H=H'/\GT t' [(0,pA bm 0),(1,iN (8*p)),(2,iN n),(6,.string ⟨#[]⟩),(7,.int .i64 (0)),(23,.bool false)]) ?_ ?_
 ·simp +decide only[ud,kz,yI,zX,sO,yw,PG,Xo 2,go_sem]
 rintro aoV _ ⟨rfl,ajR,ajm,ai6,aiw,aio,Vj, -⟩
 refine qD _ _ ?_
 refine WK.cond (v:=false) (by rw[af,Vj];rfl) ?_
 refine WK.skip ?_
 refine WK.seq ?_
 refine WK.seq ?_
 refine WK.av ?_
 have TX:∀ Hq,R.o (dK .rem (iN (8*p)) (.int .i64 8)) Hq=.val (.int .i64 (0)) Hq 0 0:=λHq=>Sq (n:=8*p) (q:=0) (by omega) Hq
 have aoq:decide ((0:Int)=(0:Int))=true:=decide_eq_true (by omega)
 refine aR.all (λt' H'=>H=H'/\GT t' [(0,pA bm 0),(1,iN (8*p)),(2,iN n),(6,.string ⟨#[]⟩),(7,.int .i64 (0)),(26,.bool false)]) ?_ ?_
 ·simp +decide only[AQ,ajR,ajm,ai6,aiw,aio,Vj,TX,aoq,Xo 2,go_sem]
 rintro aoU _ ⟨rfl,ajQ,ajl,ai5,aiv,ain,Vg, -⟩
 refine WK.cond (v:=false) (by rw[af,Vg];rfl) ?_
 refine WK.skip ?_
 refine WK.seq ?_
 refine WK.av ?_
 have TW:∀ Hq,mF (pA bm 0) Hq=.val (pA bm 0) Hq 0 0:=λ_=>rfl
 have am2:∀ Hq,R.o (dK .quo (iN (8*p)) (.int .i64 8)) Hq=.val (iN p) Hq 0 0:=λHq=>SC (by omega) (by omega) _
 have adM:∀ Hq,R.o (dK .quo (iN (8*p)) (.int .i64 8)) Hq=.val (iN p) Hq 0 0:=λHq=>SC (by omega) (by omega) _
 have akE:Value.int .i64 (aN .i64 (((p:Nat):Int)+((n:Nat):Int)))=.int .i64 (((p+n):Nat):Int):=wF (by omega)
 have Ix:∀ Hq,yS 65536 1 (pA bm 0) (some (iN p)) (some (iN ((p+n)))) none Hq=.val (sC bm p (n) (2*(65536-p))) Hq 0 0:=λHq=>agj Hq (by omega) (by omega)
 have Iw:vf (sC bm p (n) (2*(65536-p))) H=.val (vS (gJ (λi=>fm (p+i)) (n))) H (bit (bm)) 0:=od.toS hr (by omega)
 have amD:e.ok (bit (bm)) 0 H:=.read hr.lt hpm
 refine aR.all (λt' H'=>H=H'/\GT t' [(6,vS (gJ (λi=>fm (p+i)) (n))),(7,.int .i64 (0))]) ?_ ?_
 ·simp +decide only[AP,ajQ,ajl,ai5,aiv,ain,Vg,TW,am2,adM,akE,Ix,Iw,amD,Xo 2,go_sem]
 rintro agc _ ⟨rfl,ait,UZ, -⟩
 refine WK.ret ⟨.inr rfl,rfl,[vS (gJ (λi=>fm (p+i)) (n)),.int .i64 (0)],0,?_,.zero _ _,rfl,rfl⟩
 show eg Ad 38 agc _ [.tmp 6,.tmp 7]=_
 simp only[eg,ait,UZ];rfl
end
end Go.Proofs.MN
end
noncomputable section
namespace Go.Proofs.MN
open Go Go.Ev Go.Proofs Go.Ar
variable [dj]
theorem JA {f:By} {n i:Nat} (h:i<n) (H:Hp):kS (vS (gJ f n)) (iN i) H=.val (uB (f i)) H 0 0:=by
 have:idx (vN ((i:Nat):Int)) (gJ f n).length=some i:=by
  show Bc (Nat.blt i (gJ f n).length) (some i) none=_
  rw[(an _ _).2 (by rw[xj];exact h)];rfl
 show(match idx (vN ((i:Nat):Int)) (gJ f n).length with|some m=>(match (gJ f n)[m]? with|some c=>R.v (.int .u8 (.ofNat c.toNat)) H|none=>.fail)|none=>.fail)=_
 rw[this];simp only[Ei h];rfl
theorem T6 (f:By) (n:Nat) (H:Hp):fY 0 (vS (gJ f n)) H=.val (vN (n:Nat)) H 0 0:=by
 rw[bP,xj]
theorem afW (a b:Int):∃ c,dK .xor (.int .u64 a) (.int .u64 b)=some (.int .u64 c):=by
 show ∃ c,some (qk .xor .u64 a b)=some (.int .u64 c)
 unfold qk
 repeat' split
 all_goals exact⟨_,rfl⟩
theorem agQ (a b:Int):∃ c,dK .mul (.int .u64 a) (.int .u64 b)=some (.int .u64 c):=⟨_,rfl⟩
theorem OD {tb:Tb} {nt a ty b n:Nat} {t:T Value} {H:Hp} {l:List Value} (hb:Bc (Nat.blt a nt) (Bc (match dN tb ty with|some b=>b|none=>false) (match eY tb ty with|some k=>Nat.beq k n|none=>false) false) false=true) (hg:t.get a=.pointer (some ⟨b,0,none⟩)) (hr:qU H b 0 n=some l) :
 eg tb nt t H [.cell a ty]=some ([.agg ⟨l⟩],bit b):=by
 cases h1:Nat.blt a nt with
 |false=>rw[h1,au]at hb;cases hb
 |true =>
  rw[h1,aj]at hb
  cases h2:dN tb ty with
  |none=>rw[h2]at hb;simp[au]at hb
  |some x =>
   rw[h2]at hb
   cases x with
   |false=>simp[au]at hb
   |true =>
    simp only[aj]at hb
    cases h3:eY tb ty with
    |none=>rw[h3]at hb;cases hb
    |some k =>
     rw[h3]at hb
     obtain rfl:=(beq_iff _ _).1 hb
     simp only[eg,h1,aj,hg,eZ,h2,h3,hr]
     rw[aF]
open Go.Ar (By)
section
attribute [local go_sem] au aj GT dF gF aR fe Yj Yk Yl Ym Yn Yo Yp Yq Yr and_self and_true cV cU cQ cP cN BE cM bx ig ic de dR aP bw af cJ cI bS bP cG cF cE if_false if_true dM dD bM run true_and ck bL bK bJ bI bf bu
variable {sp:Nat->List Value->Hp->Option (Value×Hp×Nat×Nat)} {e:Env}
def HI (m:Nat) (k:Int):List Value:=[iN m,.int .i64 (0),.int .i64 (0),.int .i64 (0),.int .i64 (0),.int .u64 k,.bool true]
theorem Yx (S:∀ f args H,sp f args H=none) {H:Hp} (hf:H.bG=true) (he:e.n0<=H.nx) {sb ty bm m:Nat} {fm:By} {L:List Value} (hs:Row H sb ty 0 L) (hL6:L[6]?=some (pA bm 0)) (anI:L[15]?=some (iN m)) (aad:L[19]?=some (.bool true)) (hr:od H bm 199 fm 65536) (hpm:bm<e.n0->e.Rd bm) (hps:sb<e.n0->e.Rd sb):EC Ad sp e 33 [pA sb 0] H λv H'=>(∃ k,v=.agg ⟨HI m k⟩)/\Kept H H'/\H'.nx=H.nx+2:=by
 refine EC.i1 aod Ot Ou (S _ _ _) (by show 1<=73;decide) λt0 g0=>?_
 show WK Ad sp e ⟨3,73,none,false⟩ HH t0 [] H _
 unfold HH
 have ltb:=hr.lt
 have lts:=hs.lt
 refine WK.seq ?_
 refine WK.av ?_
 obtain⟨H1_,Tx⟩:=nW hf [.int .i64 (0),.int .i64 (0),.int .i64 (0),.int .i64 (0),.int .i64 (0),.int .u64 (0),.bool false] 68
 have lQ:aS (aG [.int .i64 (0),.int .i64 (0),.int .i64 (0),.int .i64 (0),.int .i64 (0),.int .u64 (0),.bool false] 68 0) H ptrTo 0 0=.val (.pointer (some ⟨H.nx,0,none⟩)) H1_ 0 0:=Tx.al
 have ahx:=Tx.kept.fn
 have ao3:H1_.nx=H.nx+1:=Tx.nx
 have nX:H.nx<=H1_.nx:=by omega
 have k1_:=Tx.kept
 refine aR.all (λt' H'=>H1_=H'/\GT t' [(0,pA sb 0),(2,pA H.nx 0)]) ?_ ?_
 ·simp +decide only[KF,g0,lQ,nX,Xo 3,go_sem]
 rintro Xq _ ⟨rfl,dQ,zY, -⟩
 have hs1:=hs.mv k1_
 have hr1:od H1_ bm 199 fm 65536:=Row.mv hr k1_
 refine WK.seq ?_
 refine WK.seq ?_
 refine WK.av ?_
 have wA:∀ Hq,jo false (.one .p) (pA sb 0) (.pointer none) Hq=.val (.bool false) Hq 0 0:=λHq=>rfl
 refine aR.all (λt' H'=>H1_=H'/\GT t' [(0,pA sb 0),(2,pA H.nx 0),(9,.bool false)]) ?_ ?_
 ·simp +decide only[KE,dQ,zY,wA,Xo 3,go_sem]
 rintro Xp _ ⟨rfl,dV,oS,UQ, -⟩
 refine WK.cond (v:=false) (by rw[af,UQ];rfl) ?_
 refine WK.skip ?_
 refine WK.seq ?_
 refine WK.av ?_
 refine aR.iX λK0 qD=>?_
 have wv:∀ Hq,mF (pA sb 0) Hq=.val (pA sb 0) Hq 0 0:=λ_=>rfl
 have r_:dA (pA sb 6) H1_=.val (pA bm 0) H1_ (bit sb) 0:=aV hs1 hL6
 have Xv:e.ok (bit sb) 0 H1_:=.read hs1.lt hps
 simp +decide only[BY,dV,wv,r_,Xv,Xo 3,go_sem]
 refine EC.mono (O_ S ahx (by omega) (p:=0) (n:=65536) hr1 (by omega) (by omega) hpm) λv H10_ _ Uv=>?_
 obtain⟨rfl,FT⟩:=Uv
 rw[FT,show(λi=>fm (0+i))=fm from funext λi=>by rw[Nat.zero_add]];clear FT
 have x0_:∀ (a b:Value) Hq,qi (.tuple #[a,b]) 0 Hq=.val a Hq 0 0:=λ_ _ _=>rfl
 have x1_:∀ (a b:Value) Hq,qi (.tuple #[a,b]) 1 Hq=.val b Hq 0 0:=λ_ _ _=>rfl
 rw[fC]
 refine aR.all (λt' H'=>H1_=H'/\GT t' [(0,pA sb 0),(2,pA H.nx 0),(3,vS (gJ fm 65536))]) ?_ ?_
 ·simp +decide only[BY,dV,oS,x0_,x1_,Xo 3,go_sem]
 rintro t3_ _ ⟨rfl,iq,vJ,PI, -⟩
 refine qD _ _ ?_
 refine WK.seq ?_
 refine WK.gw (λ_=>False) [.p,.p,.p,.q,.p,.p,.p,.q,.p,.q,.x] (by omega) rfl ?_
 have adM:dA (pA sb 15) H1_=.val (iN m) H1_ (bit sb) 0:=aV hs1 anI
 have TV:dA (pA sb 19) H1_=.val (.bool true) H1_ (bit sb) 0:=aV hs1 aad
 have aoB:∀ cq,(bit sb).testBit cq=true->cq<H1_.nx:=dH (P:=λcq=>cq<H1_.nx) (by omega)
 have Iw:∀ t:T Value,t.get 22=iN m->t.get 26=.bool true->bH t [.int .i64 (0),.int .i64 (0),.int .i64 (0),.int .i64 (0),.int .i64 (0),.int .u64 (0),.bool false] [(0,1,(.tmp 22)),(5,1,(.const (.int .u64 (14695981039346656037)))),(6,1,(.tmp 26))]=some (HI m 14695981039346656037):=λt h0 h1=>by simp only[bH,af,aP,h0,h1];rfl
 obtain⟨H2_,Tw⟩:=nW ahx [.int .i64 (0),.int .i64 (0),.int .i64 (0),.int .i64 (0),.int .i64 (0),.int .u64 (0),.bool false] 68
 have TU:aS (aG [.int .i64 (0),.int .i64 (0),.int .i64 (0),.int .i64 (0),.int .i64 (0),.int .u64 (0),.bool false] 68 0) H1_ ptrTo 0 0=.val (.pointer (some ⟨H1_.nx,0,none⟩)) H2_ 0 0:=Tw.al
 have anu:=Tw.kept.fn
 have ao2:H2_.nx=H1_.nx+1:=Tw.nx
 have am1:H1_.nx<=H2_.nx:=by omega
 obtain⟨H3_,e3_,Q7⟩:=j4 (o:=0) (vs:=HI m 14695981039346656037) anu Tw.row (by show 0+7<=7;decide)
 have am0:i_ 7 (pA H1_.nx 0) (.agg ⟨HI m 14695981039346656037⟩) H2_=.val U H3_ 0 (bit (H1_.nx)):=e3_
 have apd:=Q7.fn
 have ao1:H3_.nx=H2_.nx:=Q7.nx
 have Iv:H2_.nx<=H3_.nx:=by omega
 have r3_:Row H3_ (H1_.nx) 68 0 (HI m 14695981039346656037):=Q7.row
 have amC:e.ok 0 (bit (H1_.nx)) H3_:=.write r3_.lt (λh=>absurd h (by omega))
 have k3_:Kept H1_ H3_:=⟨Q7.fn,by omega,λc hc=>(Q7.dS c (by omega)).trans (Tw.kept.old c hc)⟩
 refine fe.all (λt' H'=>H3_=H'/\GT t' [(0,pA sb 0),(2,pA H.nx 0),(3,vS (gJ fm 65536)),(5,pA H1_.nx 0)]) ?_ ?_
 ·simp +decide only[KD,iq,vJ,PI,wv,adM,TV,aoB,Iw,bS,TU,am1,am0,Iv,Xv,amC,Xo 3,go_sem]
  all_goals ((repeat' apply And.intro)<;>assumption)
 rintro t4_ _ ⟨rfl,gV,Dn,zW,nC, -⟩
 refine WK.seq ?_
 refine WK.seq ?_
 refine WK.av ?_
 have adL:∀ Hq,fY 0 (vS (gJ fm 65536)) Hq=.val (vN ((65536:Nat))) Hq 0 0:=λ_=>T6 _ _ _
 refine aR.all (λt' H'=>H3_=H'/\GT t' [(0,pA sb 0),(2,pA H.nx 0),(3,vS (gJ fm 65536)),(5,pA H1_.nx 0),(29,iN 65536),(30,.int .i64 (0))]) ?_ ?_
 ·simp +decide only[KB,gV,Dn,zW,nC,adL,Xo 3,go_sem]
 rintro t5_ _ ⟨rfl,kz,zX,FZ,uy,Vf,U_, -⟩
 refine WK.block (WK.eR (λmm t' ds' H'=>ds'=[]/\∃ (i:Nat) (k:Int),mm=65536-i/\i<=65536/\Kept H1_ H'/\H'.nx=H1_.nx+1/\Row H' (H1_.nx) 68 0 (HI m k)/\t'.get 0=pA sb 0/\t'.get 2=pA H.nx 0/\t'.get 3=vS (gJ fm 65536)/\t'.get 5=pA H1_.nx 0/\t'.get 29=iN 65536/\t'.get 30=iN i) ?_ _ t5_ [] H3_ ⟨rfl,0,_,rfl,by omega,k3_,by omega,r3_,kz,zX,FZ,uy,Vf,U_⟩)
 rintro m_l t_l ds_ H_l ⟨rfl,i,k,rfl,hi,kl,nxl,rl,ku,F1,FY,zT,abD,aby⟩
 have hfl:=kl.fn
 unfold Ep
 refine WK.seq ?_
 by_cases hlt:i<65536
 case pos =>
  refine WK.av ?_
  have Qd:decide (((i:Nat):Int)<((65536:Nat):Int))=true:=decide_eq_true (by omega)
  refine aR.all (λt' H'=>H_l=H'/\GT t' [(0,pA sb 0),(2,pA H.nx 0),(3,vS (gJ fm 65536)),(5,pA H1_.nx 0),(29,iN 65536),(30,iN i),(31,.bool true)]) ?_ ?_
  ·simp +decide only[BX,ku,F1,FY,zT,abD,aby,Qd,Xo 3,go_sem]
  rintro t7_ _ ⟨rfl,iA,sP,Jd,vG,yE,yC,F0, -⟩
  refine WK.seq ?_
  refine WK.cond (v:=true) (by rw[af,F0];rfl) ?_
  refine WK.skip ?_
  refine WK.seq ?_
  refine WK.block ?_
  refine WK.seq ?_
  refine WK.av ?_
  refine aR.all (λt' H'=>H_l=H'/\GT t' [(0,pA sb 0),(2,pA H.nx 0),(3,vS (gJ fm 65536)),(5,pA H1_.nx 0),(6,iN i),(29,iN 65536),(30,iN i)]) ?_ ?_
  ·simp +decide only[KA,iA,sP,Jd,vG,yE,yC,F0,Xo 3,go_sem]
  rintro t8_ _ ⟨rfl,uA,Dm,Jc,I8,yx,Ve,U', -⟩
  refine WK.gw (λ_=>False) [.p,.q,.p,.p,.p,.p,.p,.p,.p,.x] (by omega) rfl ?_
  have amV:dA (pA H1_.nx 5) H_l=.val (.int .u64 k) H_l (bit H1_.nx) 0:=aV rl rfl
  have amA:e.ok (bit H1_.nx) 0 H_l:=.read rl.lt (λh=>absurd h (by omega))
  have aoA:∀ cq,(bit H1_.nx).testBit cq=true->cq<H_l.nx:=dH (P:=λcq=>cq<H_l.nx) (by omega)
  have amT:∀ Hq,kS (vS (gJ fm 65536)) (iN i) Hq=.val (uB (fm i)) Hq 0 0:=λHq=>JA hlt Hq
  have TP:∃ c,∀ Hq,uF .u64 (uB (fm i)) Hq=.val (.int .u64 c) Hq 0 0:=⟨_,λ_=>rfl⟩
  obtain⟨c1,TP⟩:=TP
  obtain⟨c2,amS⟩:=afW k c1
  obtain⟨c3,amR⟩:=agQ c2 1099511628211
  obtain⟨H4_,e4_,XN⟩:=fA (o:=5) (v:=.int .u64 c3) rfl hfl rl (by show 5+1<=7;decide)
  have amQ:i_ 1 (pA H1_.nx 5) (.int .u64 c3) H_l=.val U H4_ 0 (bit (H1_.nx)):=e4_
  have ao0:H4_.nx=H_l.nx:=XN.nx
  have amP:H_l.nx<=H4_.nx:=by omega
  have r4_:Row H4_ (H1_.nx) 68 0 (HI m c3):=XN.row
  have amy:e.ok 0 (bit (H1_.nx)) H4_:=.write r4_.lt (λh=>absurd h (by omega))
  have k4_:Kept H1_ H4_:=⟨XN.fn,by omega,λc hc=>(XN.dS c (by omega)).trans (kl.old c hc)⟩
  refine fe.all (λt' H'=>H4_=H'/\GT t' [(0,pA sb 0),(2,pA H.nx 0),(3,vS (gJ fm 65536)),(5,pA H1_.nx 0),(29,iN 65536),(30,iN i)]) ?_ ?_
  ·simp +decide only[Kz,uA,Dm,Jc,I8,yx,Ve,U',amV,amA,aoA,amT,TP,amS,amR,amQ,amP,amy,Xo 3,go_sem]
   all_goals ((repeat' apply And.intro)<;>assumption)
  rintro t9_ _ ⟨rfl,uz,yD,Jb,U6,ai9,ai2, -⟩
  refine WK.av ?_
  have akz:Value.int .i64 (aN .i64 (((i:Nat):Int)+(1:Int)))=.int .i64 (((i+1):Nat):Int):=wF (by omega)
  refine aR.all (λt' H'=>H4_=H'/\GT t' [(0,pA sb 0),(2,pA H.nx 0),(3,vS (gJ fm 65536)),(5,pA H1_.nx 0),(29,iN 65536),(30,iN ((i+1)))]) ?_ ?_
  ·simp +decide only[Ky,uz,yD,Jb,U6,ai9,ai2,akz,Xo 3,go_sem]
  rintro akU _ ⟨rfl,ajS,ai8,ai1,U7,aeM,aeK, -⟩
  exact⟨_,by omega,rfl,i+1,c3,rfl,by omega,k4_,by omega,r4_,ajS,ai8,ai1,U7,aeM,aeK⟩
 case neg =>
  refine WK.av ?_
  have Qd:decide (((i:Nat):Int)<((65536:Nat):Int))=false:=decide_eq_false (by omega)
  refine aR.all (λt' H'=>H_l=H'/\GT t' [(0,pA sb 0),(2,pA H.nx 0),(5,pA H1_.nx 0),(31,.bool false)]) ?_ ?_
  ·simp +decide only[BX,ku,F1,FY,zT,abD,aby,Qd,Xo 3,go_sem]
  rintro t7_ _ ⟨rfl,iA,sP,vG,F0, -⟩
  refine WK.seq ?_
  refine WK.cond (v:=false) (by rw[af,F0];rfl) ?_
  refine WK.exit ?_
  show WK Ad sp e ⟨3,73,none,false⟩ _ t7_ [] H_l _
  refine WK.seq ?_
  refine WK.seq ?_
  refine WK.av ?_
  have nY:=hs1.mv kl
  have amO:dA (pA sb 19) H_l=.val (.bool true) H_l (bit sb) 0:=aV nY aad
  have amx:e.ok (bit sb) 0 H_l:=.read nY.lt hps
  refine aR.all (λt' H'=>H_l=H'/\GT t' [(2,pA H.nx 0),(5,pA H1_.nx 0),(47,.bool false)]) ?_ ?_
  ·simp +decide only[Eo,iA,sP,vG,F0,wv,amO,amx,Xo 3,go_sem]
  rintro aoW _ ⟨rfl,ai7,aiN,aeG, -⟩
  refine WK.cond (v:=false) (by rw[af,aeG];rfl) ?_
  refine WK.skip ?_
  refine WK.seq ?_
  refine WK.av ?_
  have amN:ia 7 (pA H1_.nx 0) H_l=.val (.agg ⟨HI m k⟩) H_l (bit H1_.nx) 0:=eS (o:=0) (k:=7) rl (by show 0+7<=7;decide)
  have amw:e.ok (bit H1_.nx) 0 H_l:=.read rl.lt (λh=>absurd h (by omega))
  have rn_:=Tx.row.mv kl
  obtain⟨H5_,e5_,XM⟩:=j4 (o:=0) (vs:=HI m k) hfl rn_ (by show 0+7<=7;decide)
  have amM:i_ 7 (pA H.nx 0) (.agg ⟨HI m k⟩) H_l=.val U H5_ 0 (bit (H.nx)):=e5_
  have aoZ:H5_.nx=H_l.nx:=XM.nx
  have amL:H_l.nx<=H5_.nx:=by omega
  have r5_:Row H5_ (H.nx) 68 0 (HI m k):=XM.row
  have amv:e.ok 0 (bit (H.nx)) H5_:=.write r5_.lt (λh=>absurd h (by omega))
  have k5_:Kept H H5_:=⟨XM.fn,by omega,λc hc=>(XM.dS c (by omega)).trans ((kl.old c (by omega)).trans (k1_.old c hc))⟩
  refine aR.all (λt' H'=>H5_=H'/\t'.get 2=pA H.nx 0) ?_ ?_
  ·simp +decide only[Em,ai7,aiN,amN,amw,amM,amL,amv,Xo 3,go_sem]
  rintro X7 _ ⟨rfl,Vd⟩
  show WK Ad sp e ⟨3,73,none,false⟩ _ X7 [] H5_ _
  have hld:qU H5_ (H.nx) 0 7=some (HI m k):=rM (o:=0) (k:=7) r5_ (by show 0+7<=7;decide)
  refine WK.ret ⟨.inr rfl,rfl,[.agg ⟨HI m k⟩],bit (H.nx),?_,.read r5_.lt (λh=>absurd h (by omega)),⟨k,rfl⟩,k5_,by omega⟩
  show eg Ad 73 X7 _ [.cell 2 68]=_
  exact OD rfl Vd hld
end
end Go.Proofs.MN
end
noncomputable section
namespace Go.Proofs.MN
open Go Go.Ev Go.Proofs Go.Ev.SM
variable [tf]
def sM:List (Nat×dB):=[(2,zH),(3,Ox),(6,OM)]
def fH:ff:=⟨7,[],sM,NG,.bool true,[],NG,76,0⟩
end Go.Proofs.MN
end
noncomputable section
namespace Go.Proofs.MN
open Go Go.Ev Go.Proofs Go.Ev.SM
variable [tf]
def ot (args:List Value) (H:Hp):kE:=match args with
 | [.pointer (some ⟨b,0,none⟩)]=>(match H.blk b with
  |.cells t n ty op lo hi=>Bc (Nat.beq n 22&&(Nat.beq op 0&&Nat.beq lo 0&&Nat.beq hi 0)&&(isI 2 (t.get 15)&&(match t.get 19 with|.bool x=>x|_=>false))) (match t.get 6 with
   |.pointer (some ⟨m,0,none⟩)=>(match xY (H.blk m)with
    |some _=>Bc (vt H) (some (.agg ⟨[nV 2,nV 0,nV 0,nV 0,nV 0,sy 0,.bool true]⟩,H,Nat.lor (bit b) (bit m),0)) none
    |none=>none)
   |_=>none) none
  |_=>none)
 |_=>none
noncomputable def abc:Bool:=vL (spX 0 false 33 ot) fR fH []
end Go.Proofs.MN
end
noncomputable section
namespace Go.Proofs.MN
open Go Go.Ev Go.Proofs Go.Ev.SM
open Go.Ar (By)
def cz (v:Option Value):Value:=match v with|some (.bool x)=>.bool x|_=>sy 0
theorem ON {v:Value} (h:bQ v=true):v.cells = #[v]:=by
 cases v with
 |agg _=>cases h
 |tuple _=>cases h
 |_=>rfl
theorem afs (v:Option Value):bQ (cz v)=true:=by
 unfold cz;split<;>rfl
theorem afr {n:Nat} {β:Mp} (tb:G2 n β) {v:Value} (h:bQ v=true):ai β (cz (some v)) v:=by
 have key:(∀ b,v≠.bool b)->ai β (sy 0) v:=λhb=>.sym 0 _ _ (tb 0) (.inr (.inr (.inr (.inr (.inl ⟨rfl,hb,h,ON h⟩)))))
 by_cases e:∃ b,v=.bool b
 ·obtain⟨b,rfl⟩:=e;exact .bool b
 ·have hb:∀ b,v≠.bool b:=λb hh=>e ⟨b,hh⟩
  have:cz (some v)=sy 0:=by
   unfold cz;split
   ·rename_i x hx;cases hx;exact absurd rfl (hb _)
   ·rfl
  rw[this];exact key hb
section
variable [dj]
def Kv (cs:Array Value) (bm:Nat):List Value:=(List.range 22).map λi=>if i=6 then .pointer (some ⟨bm,0,none⟩)else if i=15 then nV 2 else cz cs[i]?
theorem Ya (cs:Array Value) (bm:Nat):(Kv cs bm).length=22:=by simp[Kv]
theorem vY {cs:Array Value} {bm i:Nat} (h:i<22):(Kv cs bm)[i]?=some (if i=6 then .pointer (some ⟨bm,0,none⟩)else if i=15 then nV 2 else cz cs[i]?):=by simp[Kv,h]
noncomputable def Hs (sb ty:Nat) (L:List Value) (b:Nat) (f:By) (nx:Nat):Hp:=.fn (λc=>Bc (Nat.beq c sb) (aG L ty 0) (Bc (Nat.beq c b) (aG (qW f 65536) 199 0) .no)) nx
theorem akw {sb ty b nx:Nat} {L:List Value} (f:By) (h:sb<nx):(Hs sb ty L b f nx).blk sb=aG L ty 0:=by
 unfold Hs
 rw[jA,if_pos h,(beq_iff _ _).2 rfl,aj]
theorem aky {sb ty b nx:Nat} {L:List Value} (f:By) (h:b<nx) (hn:b≠sb):(Hs sb ty L b f nx).blk b=aG (qW f 65536) 199 0:=by
 unfold Hs
 have:Nat.beq b sb=false:=by cases e:Nat.beq b sb with|true=>exact absurd ((beq_iff _ _).1 e) hn|false=>rfl
 rw[jA,if_pos h,this,au,(beq_iff _ _).2 rfl,aj]
theorem akx {sb ty b c nx:Nat} {L:List Value} (f:By) (h:c≠b) (h2:c≠sb):(Hs sb ty L b f nx).blk c=.no:=by
 unfold Hs
 have e1:Nat.beq c sb=false:=by cases e:Nat.beq c sb with|true=>exact absurd ((beq_iff _ _).1 e) h2|false=>rfl
 have e2:Nat.beq c b=false:=by cases e:Nat.beq c b with|true=>exact absurd ((beq_iff _ _).1 e) h|false=>rfl
 rw[jA]
 split
 ·rw[e1,e2];rfl
 ·rfl
theorem Xi {sb ty b c nx:Nat} {L:List Value} {f:By} (h:alive (Hs sb ty L b f nx) c):c=b\/c=sb:=by
 by_cases e:c=b
 ·exact .inl e
 by_cases e2:c=sb
 ·exact .inr e2
 ·exact absurd (akx f e e2) h.2
end
theorem adj {β:Mp} {b:Nat} {m:Bm} {v':Value} (e:β b=some m) (h:ai β (.pointer (some ⟨b,0,none⟩)) v'):v'=.pointer (some ⟨m.rb,0+m.sh,none⟩):=by
 cases h with|ptr _ _ m' e'=>rw[e]at e';cases e';rfl
theorem Ok {P:Nat->Prop} {args:List Value} {H H':Hp} {v:Value} {r w:Nat} (hw:H.wf) (h:ot args H=some (v,H',r,w)):@aI (pR P) Tryz.prog NG (.call 33 args) H (.k (.ret v H' r w)):=by
 letI:=pR P
 unfold ot at h
 split at h
 case h_2=>cases h
 rename_i sb
 split at h
 case h_2=>cases h
 rename_i t n ty op lo hi hB
 have h2:=aq h
 clear h
 obtain⟨h1,h⟩:=h2
 simp only[Bool.and_eq_true,beq_iff]at h1
 obtain⟨⟨rfl,⟨rfl,rfl⟩,rfl⟩,vE,h19⟩:=h1
 split at h
 case h_2=>cases h
 rename_i bm h6
 split at h
 case h_2=>cases h
 rename_i tm hm
 have h2:=aq h
 clear h
 obtain⟨h1,h⟩:=h2
 simp only[Bool.and_eq_true,vt,aE]at h1
 obtain⟨qC,mP⟩:=h1
 cases h
 have hsy:40000<SY:=by unfold SY;decide
 refine⟨Can.refl hw,λβ W hg p args' hl=>?_⟩
 obtain⟨zB,n',hPn,hn,tb⟩:=hg
 obtain⟨hM,_⟩:=me hm
 have hal:alive H bm:=(aH _ _).2 (by rw[hM];intro e;cases e)
 have ahG:alive H sb:=(aH _ _).2 (by rw[hB];intro e;cases e)
 have qh:bm<H.nx:=hal.1
 have hsx:sb<H.nx:=ahG.1
 have hne:bm≠sb:=λe=>by rw[e,hB]at hM;cases hM
 obtain⟨m,em,hbk⟩:=p.rel bm (.inl (by show(Nat.lor _ _).testBit _=true;rw[show Nat.lor (bit sb) (bit bm)=bit sb ||| bit bm from rfl,Nat.testBit_or,(aB bm bm).2 rfl,Bool.or_true])) hal
 obtain⟨ms,ems,hsk⟩:=p.rel sb (.inl (by show(Nat.lor _ _).testBit _=true;rw[show Nat.lor (bit sb) (bit bm)=bit sb ||| bit bm from rfl,Nat.testBit_or,(aB sb sb).2 rfl,Bool.true_or])) ahG
 obtain⟨hs,ht,cs,fr,f,ho,hc,hf,hcs⟩:=xW hn tb hm hbk
 rw[hB]at hsk
 obtain⟨o,Pv,ss,sfr,rfl,s1,s2,s3,s4,s5,s6⟩:=hsk
 obtain⟨hss,hst⟩:=s3 rfl
 have vE:t.get 15=nV 2:=by
  revert vE;generalize t.get 15=x
  intro vE
  unfold isI at vE
  split at vE
  ·rw[dY,beq_iff_eq]at vE;subst vE;rfl
  ·cases vE
 have h19:t.get 19=.bool true:=by
  revert h19;generalize t.get 19=x
  intro h19
  split at h19
  ·rw[h19]
  ·cases h19
 have hcell:∀ i,i<22->∃ v',ss[i]?=some v'/\ai β (t.get i) v'/\bQ v'=true:=λi hi=>by
  obtain⟨q1,v',q2,q3⟩:=s5 i hi
  rw[hss,Nat.zero_add]at q2
  exact⟨v',q2,q3,Le q3 q1⟩
 have hrow:Row (Hs sb ty (Kv ss bm) bm f H.nx) sb ty 0 (Kv ss bm):=by
  obtain⟨t1,e1,e2⟩:=bW (Kv ss bm) ty 0
  exact⟨t1,by rw[akw f hsx,e1],e2⟩
 have ahb:od (Hs sb ty (Kv ss bm) bm f H.nx) bm 199 f 65536:=by
  obtain⟨t1,e1,e2⟩:=bW (qW f 65536) 199 0
  exact⟨t1,by rw[aky f qh hne,e1],e2⟩
 have aad:(Kv ss bm)[19]?=some (.bool true):=by
  obtain⟨v',q1,q2,_⟩:=hcell 19 (by omega)
  rw[h19]at q2;cases q2
  rw[vY (by omega),if_neg (by omega),if_neg (by omega),q1];rfl
 have IX:=Yx (sp:=λ_ _ _=>none) (e:=⟨H.nx,λc=>c=bm\/c=sb,λ_=>False⟩) (λ_ _ _=>rfl) (H:=Hs sb ty (Kv ss bm) bm f H.nx) rfl (Nat.le_refl _) (m:=2) hrow (by rw[vY (by omega),if_pos rfl]) (by rw[vY (by omega),if_neg (by omega),if_pos rfl];try rfl) aad ahb (λ_=>.inl rfl) (λ_=>.inr rfl)
 obtain⟨N,v1,H1,r1,w1,ju,hok,A7,⟨k,rfl⟩,hkp,hub⟩:=IX
 have hub:H1.nx=H.nx+2:=hub
 have hT:=oW ry (vP.none λ_ _=>rfl) (mU Tryz.prog Ad.ng) N (.call 33 [.pointer (some ⟨sb,0,none⟩)]) (Hs sb ty (Kv ss bm) bm f H.nx) trivial
 rw[show ev Ad (λ_ _ _=>none) N (.call 33 [.pointer (some ⟨sb,0,none⟩)]) (Hs sb ty (Kv ss bm) bm f H.nx)=_ from ju]at hT
 have hpre:Pre (β.cut H.nx) (Hs sb ty (Kv ss bm) bm f H.nx) H1 r1 w1 W:=by
  refine⟨λc hc ha=>?_,λc d mc md u0 _ ac ad _ _ _=>?_,λc h1 h2=>?_,λc mc e=>p.dom c mc (Mp.jy _ _ _ _ e)⟩
  ·rcases Xi ha with rfl|rfl
   ·refine⟨m,by rw[Mp.eU qh];exact em,?_⟩
    obtain⟨t1,e1,e2⟩:=bW (qW f 65536) 199 0
    rw[aky f qh hne,e1,cA]
    refine⟨_,ho,cs,fr,rfl,by omega,by omega,λ_=>⟨hs,ht⟩,(λk h=>by cases h),λi hi=>?_,hf⟩
    have e:=e2 i _ (gx hi)
    rw[e,hs,Nat.zero_add]
    exact⟨rfl,_,(hcs i hi).1,.int _ _⟩
   ·refine⟨ms,by rw[Mp.eU hsx];exact ems,?_⟩
    obtain⟨t1,e1,e2⟩:=bW (Kv ss bm) ty 0
    rw[akw f hsx,e1,Ya]
    refine⟨_,Pv,ss,sfr,rfl,by omega,by omega,λ_=>⟨hss,hst⟩,(λk h=>by cases h),λi hi=>?_,s6⟩
    have e:=e2 i _ (vY hi)
    rw[e,hss,Nat.zero_add]
    obtain⟨v',q1,q2,q3⟩:=hcell i hi
    have tb2:G2 n' (β.cut H.nx):=λk=>by rw[Mp.DC (by omega)];exact tb k
    by_cases i6:i=6
    ·subst i6
     rw[if_pos rfl]
     rw[h6]at q2
     rw[adj em q2]at q1
     exact⟨rfl,_,q1,.ptr _ _ m (by rw[Mp.eU qh];exact em)⟩
    by_cases i15:i=15
    ·subst i15
     rw[if_neg (by omega),if_pos rfl]
     rw[vE]at q2;cases q2
     exact⟨rfl,_,q1,.int _ _⟩
    ·rw[if_neg i6,if_neg i15,q1]
     exact⟨afs _,_,rfl,afr tb2 q3⟩
  ·exact(hok.wr c ac.1 u0).elim
  ·have h1:H.nx<=c:=h1
   exact Mp.qL h1 (by omega)
 have Df:cX NG (β.cut H.nx):=cX.cut mP ⟨zB,n',hPn,hn,tb⟩
 have sL:ak (β.cut H.nx) [.pointer (some ⟨sb,0,none⟩)] args'.toList:=by
  obtain⟨x1,l1,e,hx1,hl⟩:=hl.cons_inv
  have:=hl.aL;subst this
  rw[e]
  refine ak.cons ?_ (ak.nil _)
  cases hx1 with|ptr _ _ m' e'=>exact .ptr _ _ m' (by rw[Mp.eU hsx];exact e')
 refine(hT.2 _ W Df hpre args' sL).mono λe W' hR=>?_
 obtain⟨β1,v',he,hv,q⟩:=hR
 have hv':v'=.agg ⟨HI 2 k⟩:=b8 10 _ _ rfl hv
 refine⟨β,v',he,?_,?_⟩
 ·rw[hv']
  have l:ak β [nV 2,nV 0,nV 0,nV 0,nV 0,sy 0,.bool true] (HI 2 k) :=
   ak.cons (.int _ _) (ak.cons (.int _ _) (ak.cons (.int _ _) (ak.cons (.int _ _) (ak.cons (.int _ _) (ak.cons (.sym 0 _ _ (tb 0) (.inr (.inr (.inr (.inr (.inl ⟨rfl,(λb h=>by cases h),rfl,rfl⟩)))))) (ak.cons (.bool _) (ak.nil β)))))))
  exact .agg _ _ rfl l.1 l.2
 ·refine⟨Mp.le.refl _,λc mc e1 e2=>(by rw[e2]at e1;cases e1),λc hc' hac=>?_,λrb o ho' hno=>q.frame rb o ho' λc mc hc' u0 ec=>?_,q.size,λc mc e1=>Nat.lt_of_lt_of_le (p.dom c mc e1) q.size,λc mc _ e1 e2=>(by rw[e1]at e2;cases e2),λc d mc md hc' _ hac=>?_,q.env⟩
  ·rcases hc' with h|h
   ·have:=hac.1;omega
   ·simp at h
  ·exact(hok.wr c hc' u0).elim
  ·rcases hc' with h|h
   ·have:=hac.1;omega
   ·simp at h
end Go.Proofs.MN
end
